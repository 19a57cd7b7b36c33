/- Notes1: The walks of layer 5: notes: which are as defined; the place that a speed comes to.
Notes2: The walks of layer 5: areNotes.
Agree: The walks of layer 5: agreeing.
Speeds: The walks of layer 5: Speeds. -/
import Derived.Deep.LoopGhost
import Derived.Laws.Rows
import Derived.IntWalk
import Derived.Test.YtlcddcnmoajpjaaGreatDoorV09
import Derived.Test.YtlcddcnmoajpjaaGreatDoorV06
import Derived.Test.YtlcddcnmoajpjaaGreatDoorV13
namespace Go.Proofs.YtlcddcnmoajpjaaGreatDoor
open Go.RowKit
open Sp (rd)

def noNote : Sp.Note := ⟨0, 0, 0⟩
def nt (l : List Sp.Note) (k : Nat) : Sp.Note := l.getD k noNote
/-- A slice value that holds notes. -/
def Notes (w : World) (A : Option Addr) (l : List Sp.Note) : Prop :=
  0 < l.length → ∃ b o, A = some ⟨b, o, none⟩ ∧ ∀ k, k < l.length → w.cell? ⟨b, o + k * 3, none⟩ = some (.int .i64 (nt l k).day) ∧ w.cell? ⟨b, o + k * 3 + 1, none⟩ = some (.int .i64 (nt l k).seen) ∧ w.cell? ⟨b, o + k * 3 + 2, none⟩ = some (.int .i64 (nt l k).off)
theorem Notes.ext {w w' : World} {A : Option Addr} {l : List Sp.Note} (h : Notes w A l) (he : Ext w w') : Notes w' A l := fun h0 =>
  let ⟨b, o, e, hc⟩ := h h0
  ⟨b, o, e, fun k hk => ⟨he.cell (hc k hk).1, he.cell (hc k hk).2.1, he.cell (hc k hk).2.2⟩⟩

theorem badNote_any (n : Sp.Note) (w : World) :
    Calls Tryz.prog 153 #[.agg #[.int .i64 n.day, .int .i64 n.seen, .int .i64 n.off]] w fun e w' => e = .returned (.bool (!Sp.noteOk n)) ∧ Ext w w' := by
  have hE := (Ext.refl w).alloc (.cells #[.int .i64 n.day, .int .i64 n.seen, .int .i64 n.off] 76)
  cases h1 : Sp.isDay n.day
  · go_enter Tryz.func153, Tryz.ntmps153
    go_wp2_with fail
    refine (isDay_any _ _).mono ?_
    rintro e w1 ⟨rfl, rfl⟩
    go_wp2_with fail
    go_ret
    exact ⟨ret_bool (by simp [Sp.noteOk, h1]), hE⟩
  cases h2 : Sp.spot n.seen
  · go_enter Tryz.func153, Tryz.ntmps153
    go_wp2_with fail
    refine (isDay_any _ _).mono ?_
    rintro e w1 ⟨rfl, rfl⟩
    go_wp2_with fail
    refine (isPlace_any _ _).mono ?_
    rintro e w1 ⟨rfl, rfl⟩
    go_wp2_with fail
    go_ret
    exact ⟨ret_bool (by simp [Sp.noteOk, h2]), hE⟩
  · go_enter Tryz.func153, Tryz.ntmps153
    go_wp2_with fail
    refine (isDay_any _ _).mono ?_
    rintro e w1 ⟨rfl, rfl⟩
    go_wp2_with fail
    refine (isPlace_any _ _).mono ?_
    rintro e w1 ⟨rfl, rfl⟩
    go_wp2_with fail
    refine (isOff_any _ _).mono ?_
    rintro e w1 ⟨rfl, rfl⟩
    go_wp2_with fail
    go_ret
    exact ⟨ret_bool (by simp [Sp.noteOk, h1, h2]), hE⟩

theorem index_note (A : Option Addr) (c : Nat) (l : List Sp.Note) (w : World) (hm : Notes w A l) (hl : l.length ≤ 100000) :
    Calls Tryz.prog 168 #[.slice A l.length c, .func (.func 153) #[] #[]] w (FoundInt (l.any fun b => !Sp.noteOk b) w) := by
  have HM := Lib.hid hm
  clear hm
  go_enter Tryz.func168, Tryz.ntmps168
  go_wp2_with fail
  go_loopw [5, 8] (fun _ i wr => ∃ k : Nat, k ≤ l.length ∧ i = .int .i64 k ∧ (l.take k).any (fun b => !Sp.noteOk b) = false ∧ Ext w wr) (fun _ i _ => l.length - (intOf i).toNat)
  case atStart => exact ⟨0, Nat.zero_le _, rfl, rfl, Ext.refl _⟩
  case round =>
    obtain ⟨k, hk, rfl, hq, hE⟩ := hrel
    have HQ := Lib.hid hq
    clear hq
    by_cases hlt : k < l.length
    · obtain ⟨b, o, rfl, hc⟩ := (HM.out.ext hE) (by omega)
      obtain ⟨c0, c1, c2⟩ := hc k hlt
      have HS := Lib.hid (any_take_succ l noNote (fun b => !Sp.noteOk b) k hlt)
      have HT := Lib.hid (any_of_take l noNote (fun b => !Sp.noteOk b) k hlt)
      clear hc
      cases hv : (!Sp.noteOk (nt l k))
      · go_wp2_with fail
        refine (badNote_any (nt l k) _).mono ?_
        rintro e w' ⟨rfl, hE'⟩
        replace hE := hE.trans hE'
        clear c0 c1 c2
        go_wp2_with fail
        go_roundw
        case rel => exact ⟨k + 1, by omega, by go_num, by rw [HS.out, HQ.out]; exact hv, hE⟩
        case measure => simp [intOf]; omega
      · go_wp2_with fail
        refine (badNote_any (nt l k) _).mono ?_
        rintro e w' ⟨rfl, hE'⟩
        replace hE := hE.trans hE'
        clear c0 c1 c2
        go_wp2_with fail
        go_ret
        exact ⟨_, rfl, by rw [HT.out hv]; simp, hE⟩
    · go_wp2_with fail
      go_ret
      have e : l.take k = l := List.take_of_length_le (by omega)
      have := HQ.out
      rw [e] at this
      exact ⟨_, rfl, by rw [this]; rfl, hE⟩

theorem contains_note (A : Option Addr) (c : Nat) (l : List Sp.Note) (w : World) (hm : Notes w A l) (hl : l.length ≤ 100000) :
    Calls Tryz.prog 152 #[.slice A l.length c, .func (.func 153) #[] #[]] w fun e w' => e = .returned (.bool (l.any fun b => !Sp.noteOk b)) ∧ Ext w w' := by
  go_enter Tryz.func152, Tryz.ntmps152
  go_wp2_with fail
  refine (index_note A c l w hm hl).mono ?_
  rintro e w1 ⟨r, rfl, hr, hE⟩
  have HR := Lib.hid hr
  clear hr
  go_wp2_with fail
  go_ret
  exact ⟨ret_bool HR.out, hE⟩
theorem notes_any (l : List Sp.Note) : (!l.any fun b => !Sp.noteOk b) = l.all Sp.noteOk := by
  induction l with
  | nil => rfl
  | cons x l ih => simp only [List.any_cons, List.all_cons, Bool.not_or, Bool.not_not, ih]

theorem reached_any (start speed day : Int) (w : World) (h1 : 0 ≤ start) (h2 : start ≤ 21599) (h3 : 0 ≤ speed) (h4 : speed ≤ 1000000) (h5 : 0 ≤ day) (h6 : day ≤ 20000) :
    Calls Tryz.prog 155 #[.int .i64 start, .int .i64 speed, .int .i64 day] w fun e w' => e = .returned (.int .i64 (Sp.at_ start speed day)) ∧ Ext w w' := by
  have t0 : 0 ≤ speed * day := Int.mul_nonneg h3 h5
  have t1 := mul_bounds (a := speed) (b := day) (A := 1000000) (B := 20000) (by omega) (by omega) (by omega) (by omega)
  have t2 : (speed * day).tdiv 1000 = speed * day / 1000 := Int.tdiv_eq_ediv_of_nonneg t0
  have t3 : 0 ≤ speed * day / 1000 := by omega
  have t4 : speed * day / 1000 ≤ 20000000 := by omega
  go_enter Tryz.func155, Tryz.ntmps155
  go_wp2_with fail
  refine (around_any _ _ (by omega) (by omega)).mono ?_
  rintro e w1 ⟨rfl, hE⟩
  go_wp2_with fail
  go_ret
  exact ⟨ret_int (by simp [Sp.at_]), hE⟩
end Go.Proofs.YtlcddcnmoajpjaaGreatDoor

namespace Go.Proofs.YtlcddcnmoajpjaaGreatDoor
open Go.RowKit
open Sp (rd)
def notesArg (start : Int) (l : List Sp.Note) (low high : Int) : Bool := Sp.spot start && (Sp.inR low 0 1000000 && (Sp.inR high low 1000000 && (decide (high - low ≤ 5000) && (decide (l.length ≤ 6) && l.all Sp.noteOk))))
theorem areNotes_any (start low high : Int) (A : Option Addr) (c : Nat) (l : List Sp.Note) (w : World) (hm : Notes w A l) (hl : l.length ≤ 100000) :
    Calls Tryz.prog 99 #[.int .i64 start, .slice A l.length c, .int .i64 low, .int .i64 high] w fun e w' => e = .returned (.bool (notesArg start l low high)) ∧ Ext w w' := by
  have HM := Lib.hid hm
  clear hm
  cases h1 : Sp.spot start
  · go_enter Tryz.func99, Tryz.ntmps99
    go_wp2_with fail
    refine (isPlace_any _ _).mono ?_
    rintro e w1 ⟨rfl, rfl⟩
    rw [h1]
    go_wp2_with fail
    go_ret
    exact ⟨ret_bool (by simp [notesArg, h1]), Ext.refl _⟩
  cases h2 : Sp.inR low 0 1000000
  · go_enter Tryz.func99, Tryz.ntmps99
    go_wp2_with fail
    refine (isPlace_any _ _).mono ?_
    rintro e w1 ⟨rfl, rfl⟩
    rw [h1]
    go_wp2_with fail
    refine (in_any _ _ _ _).mono ?_
    rintro e w1 ⟨rfl, rfl⟩
    rw [h2]
    go_wp2_with fail
    go_ret
    exact ⟨ret_bool (by simp [notesArg, h2]), Ext.refl _⟩
  obtain ⟨k1, k2⟩ := inR_iff.1 h2
  cases h3 : Sp.inR high low 1000000
  · go_enter Tryz.func99, Tryz.ntmps99
    go_wp2_with fail
    refine (isPlace_any _ _).mono ?_
    rintro e w1 ⟨rfl, rfl⟩
    rw [h1]
    go_wp2_with fail
    refine (in_any _ _ _ _).mono ?_
    rintro e w1 ⟨rfl, rfl⟩
    rw [h2]
    go_wp2_with fail
    refine (in_any _ _ _ _).mono ?_
    rintro e w1 ⟨rfl, rfl⟩
    rw [h3]
    go_wp2_with fail
    go_ret
    exact ⟨ret_bool (by simp [notesArg, h3]), Ext.refl _⟩
  obtain ⟨k3, k4⟩ := inR_iff.1 h3
  by_cases h4 : high - low ≤ 5000
  · by_cases h5 : l.length ≤ 6
    · go_enter Tryz.func99, Tryz.ntmps99
      go_wp2_with fail
      refine (isPlace_any _ _).mono ?_
      rintro e w1 ⟨rfl, rfl⟩
      rw [h1]
      go_wp2_with fail
      refine (in_any _ _ _ _).mono ?_
      rintro e w1 ⟨rfl, rfl⟩
      rw [h2]
      go_wp2_with fail
      refine (in_any _ _ _ _).mono ?_
      rintro e w1 ⟨rfl, rfl⟩
      rw [h3]
      go_wp2_with fail
      refine (contains_note A c l _ HM.out hl).mono ?_
      rintro e w1 ⟨rfl, hE⟩
      go_wp2_with fail
      go_ret
      exact ⟨ret_bool (by rw [notes_any]; simp [notesArg, h1, h2, h3, h4, h5]), hE⟩
    · go_enter Tryz.func99, Tryz.ntmps99
      go_wp2_with fail
      refine (isPlace_any _ _).mono ?_
      rintro e w1 ⟨rfl, rfl⟩
      rw [h1]
      go_wp2_with fail
      refine (in_any _ _ _ _).mono ?_
      rintro e w1 ⟨rfl, rfl⟩
      rw [h2]
      go_wp2_with fail
      refine (in_any _ _ _ _).mono ?_
      rintro e w1 ⟨rfl, rfl⟩
      rw [h3]
      go_wp2_with fail
      go_ret
      exact ⟨ret_bool (by simp [notesArg, show ¬ l.length ≤ 6 by omega]), Ext.refl _⟩
  · go_enter Tryz.func99, Tryz.ntmps99
    go_wp2_with fail
    refine (isPlace_any _ _).mono ?_
    rintro e w1 ⟨rfl, rfl⟩
    rw [h1]
    go_wp2_with fail
    refine (in_any _ _ _ _).mono ?_
    rintro e w1 ⟨rfl, rfl⟩
    rw [h2]
    go_wp2_with fail
    refine (in_any _ _ _ _).mono ?_
    rintro e w1 ⟨rfl, rfl⟩
    rw [h3]
    go_wp2_with fail
    go_ret
    exact ⟨ret_bool (by simp [notesArg, show ¬ high - low ≤ 5000 by omega]), Ext.refl _⟩
end Go.Proofs.YtlcddcnmoajpjaaGreatDoor

namespace Go.Proofs.YtlcddcnmoajpjaaGreatDoor
open Go.RowKit
open Sp (rd)
def fits (start speed : Int) (n : Sp.Note) : Bool := decide (Sp.apart (Sp.at_ start speed n.day) n.seen ≤ n.off)
theorem agrees_eq (start speed : Int) (l : List Sp.Note) : Sp.agrees start l speed = l.all (fits start speed) := rfl
/-- Between two rounds: g of N speeds are still to come. -/
def AgRel (w : World) (start low : Int) (N : Nat) (l : List Sp.Note) (g : Nat) (v d : Value) (wr : World) : Prop :=
  ∃ k : Nat, k + g = N ∧ d = .int .i64 (low + k) ∧ wr.ownsRow w.heap.size 3 1 v (Sp.speedsN start l low k).length (intCells (Sp.speedsN start l low k)) ∧ Ext w wr
def AgIn (wr : World) (start speed : Int) (l : List Sp.Note) (g : Nat) (d : Value) (wr' : World) : Prop :=
  ∃ k : Nat, k + g = l.length ∧ d = .int .i64 k ∧ (l.take k).all (fits start speed) = true ∧ Ext wr wr'
theorem speedsN_le (start : Int) (l : List Sp.Note) (low : Int) (k : Nat) : (Sp.speedsN start l low k).length ≤ k := by
  induction k with
  | zero => simp [Sp.speedsN]
  | succ k ih =>
    simp only [Sp.speedsN, List.length_append]
    have : (if Sp.agrees start l (low + (k : Nat)) = true then [low + (k : Int)] else []).length ≤ 1 := by split <;> simp
    omega
def AgPost (w : World) (start low high : Int) (l : List Sp.Note) (e : Ending) (w' : World) : Prop := Ext w w' ∧
  ((Sp.speedsL start l low high ≠ [] ∧ ∃ v, e = .returned v ∧ w'.ownsRow w.heap.size 3 1 v (Sp.speedsL start l low high).length (intCells (Sp.speedsL start l low high))) ∨
   (Sp.speedsL start l low high = [] ∧ e = .panicked [{ v := .iface 152 (.agg #[.int .i64 5]), recovered := false }]))
set_option maxRecDepth 100000 in
set_option maxHeartbeats 1000000 in
theorem agreeing_any (start low high : Int) (A : Option Addr) (c : Nat) (l : List Sp.Note) (w : World) (hm : Notes w A l) (h : notesArg start l low high = true) :
    Calls Tryz.prog 102 #[.int .i64 start, .slice A l.length c, .int .i64 low, .int .i64 high] w (AgPost w start low high l) := by
  simp only [notesArg, Bool.and_eq_true, decide_eq_true_eq, Sp.spot] at h
  obtain ⟨a1, a2, a3, a4, a5, a6⟩ := h
  obtain ⟨x1, x2⟩ := inR_iff.1 a1
  obtain ⟨x3, x4⟩ := inR_iff.1 a2
  obtain ⟨x5, x6⟩ := inR_iff.1 a3
  obtain ⟨N, hN⟩ : ∃ N, (high + 1 - low).toNat = N := ⟨_, rfl⟩
  obtain ⟨i0, hi0, hi1, hi2, hi3⟩ := info_parts info_int
  have HA := Lib.hid a6
  have HM := Lib.hid hm
  clear hm a1 a2 a3 a6
  go_enter Tryz.func102, Tryz.ntmps102
  go_wp2
  go_step3
  go_wp2
  go_step3
  go_wp2
  go_loopg [9, 10] N (fun g v d wr => AgRel w start low N l g v d wr)
  case atStart => exact ⟨0, by omega, by simp, by simp [Sp.speedsN, intCells, World.ownsRow], Ext.refl _⟩
  case round =>
    obtain ⟨k, hk, rfl, hown, hE⟩ := hrel
    cases gk with
    | zero =>
      obtain rfl : k = N := by omega
      have hLen := hown.1
      have hkk : ¬ (low + (k : Int) ≤ high) := by omega
      have hLl : Sp.speedsL start l low high = Sp.speedsN start l low k := by unfold Sp.speedsL; rw [hN]
      have HLL := Lib.hid hLl
      have HO := Lib.hid hown
      have HE := Lib.hid hE
      have hform := hown.2
      clear hLl hown hE
      rcases hform with ⟨rfl, h0⟩ | ⟨g', cap, cur, rfl, _⟩
      · have h1 : Sp.speedsN start l low k = [] := List.eq_nil_of_length_eq_zero h0
        go_wp2
        exact ⟨rfl, HE.out, .inr ⟨by rw [HLL.out, h1], rfl⟩⟩
      · obtain ⟨L, hL⟩ : ∃ L, Sp.speedsN start l low k = L := ⟨_, rfl⟩
        rw [hL] at HO HLL ⊢
        cases L with
        | nil =>
          simp only [List.length_nil]
          go_wp2
          exact ⟨rfl, HE.out, .inr ⟨HLL.out, rfl⟩⟩
        | cons y L =>
          simp only [List.length_cons] at HO ⊢
          have hlen1 : ((L.length : Int) + 1) ≠ 0 := by omega
          go_wp2
          go_ret
          refine ⟨HE.out, .inl ⟨by rw [HLL.out]; simp, _, rfl, by rw [HLL.out]; exact HO.out⟩⟩
    | succ g =>
      have hkk : low + (k : Int) ≤ high := by omega
      have hagr : ∀ b, Sp.agrees start l (low + (k : Int)) = b → Sp.speedsN start l low (k + 1) = Sp.speedsN start l low k ++ (if b then [low + (k : Int)] else []) := by
        intro b hb
        rw [← hb]
        rfl
      have HG := Lib.hid hagr
      have HO := Lib.hid hown
      have HE := Lib.hid hE
      have hle := speedsN_le start l low k
      have hz := hE.size
      obtain ⟨wo, hwo⟩ : ∃ wo, wo = wr := ⟨_, rfl⟩
      subst hwo
      have hown' := hown
      clear hagr hown hE
      go_wp2
      go_loopg [21] l.length (fun g2 d wr' => AgIn wo start (low + (k : Int)) l g2 d wr')
      case atStart => exact ⟨0, by omega, by simp, by simp, Ext.refl _⟩
      case round =>
        obtain ⟨j, hj, rfl, hq, hE2⟩ := hrel
        cases gk with
        | zero =>
          obtain rfl : j = l.length := by omega
          rw [List.take_length] at hq
          have hstep := HG.out true hq
          rw [if_pos rfl] at hstep
          have hown2 := ownsRow_of_block hown' (fun q hq' => hE2.block q (hown'.lt q hq').2)
          have hz2 := hE2.size
          have HE2 := Lib.hid hE2
          have HS := Lib.hid hstep
          obtain ⟨L, hL⟩ : ∃ L, Sp.speedsN start l low k = L := ⟨_, rfl⟩
          rw [hL] at hown2 hle HS
          clear hE2 hq hown' hstep hL HO HG
          go_wp2_with (at_builtin; refine wpList_append_own_at _ rfl _ _ 64 rfl w.heap.size 3 i0 _ 1 8 Tryz.underlying64 hi0 hi1 hi2 hi3 rfl (by decide) _ L.length (intCells L) rfl (hown2.alloc (.cells #[.int .i64 (low + (k : Int))] 3)) ⟨wr.heap.size, 0, none⟩ 1 1 [.int .i64 (low + (k : Int))] rfl rfl (World.news_of_block (cs := #[.int .i64 (low + (k : Int))]) (t := 3) (fr := (0, 0)) (heap_alloc_new _ _)) (by simp [Value.oneCell']) (by simp only [maxLen]; omega) (by omega) (by simp; omega) ?_; intro v' w4 hown5 hgrow _ _; have HO5 := Lib.hid hown5; have HG5 := Lib.hid hgrow; clear hown5 hgrow)
          go_roundg g
          case measure => omega
          case rel =>
            refine ⟨k + 1, by omega, by go_num, ?_, ((HE.out.trans HE2.out).alloc _).grown HG5.out (fun q hq' => (hown2.lt q hq').1)⟩
            rw [HS.out]
            simpa [intCells] using HO5.out
        | succ g2 =>
          have hlt2 : (j : Int) < (l.length : Int) := by omega
          have hj2 : j < l.length := by omega
          obtain ⟨b, o, rfl, hc⟩ := (HM.out.ext (HE.out.trans hE2)) (by omega)
          obtain ⟨c0, c1, c2⟩ := hc j hj2
          have hok : Sp.noteOk (nt l j) = true := by
            have := HA.out
            rw [List.all_eq_true] at this
            have hm := this (l[j]) (List.getElem_mem hj2)
            unfold nt
            rw [List.getD_eq_getElem?_getD, List.getElem?_eq_getElem hj2]
            exact hm
          have htake : (l.take (j + 1)).all (fits start (low + (k : Int))) = (fits start (low + (k : Int)) (nt l j)) := by
            rw [List.take_succ_eq_append_getElem hj2, List.all_append, hq]
            unfold nt
            rw [List.getD_eq_getElem?_getD, List.getElem?_eq_getElem hj2]
            simp
          have hno : fits start (low + (k : Int)) (nt l j) = false → Sp.agrees start l (low + (k : Int)) = false := by
            intro hf
            rw [agrees_eq]
            refine Bool.eq_false_iff.2 fun ht => ?_
            rw [List.all_eq_true] at ht
            have hm := ht (l[j]) (List.getElem_mem hj2)
            unfold nt at hf
            rw [List.getD_eq_getElem?_getD, List.getElem?_eq_getElem hj2] at hf
            simp only [Option.getD_some] at hf
            rw [hf] at hm
            cases hm
          simp only [Sp.noteOk, Bool.and_eq_true] at hok
          obtain ⟨m1, m2, m3⟩ := hok
          obtain ⟨m4, m5⟩ := inR_iff.1 m1
          obtain ⟨m6, m7⟩ := inR_iff.1 m2
          obtain ⟨m8, m9⟩ := inR_iff.1 m3
          have HT := Lib.hid htake
          have HNO := Lib.hid hno
          have hat := emod_bounds (start + (low + (k : Int)) * (nt l j).day / 1000) 21600 (by omega)
          have hat' : 0 ≤ Sp.at_ start (low + (k : Int)) (nt l j).day ∧ Sp.at_ start (low + (k : Int)) (nt l j).day < 21600 := hat
          have hfd : fits start (low + (k : Int)) (nt l j) = decide (Sp.round (Sp.at_ start (low + (k : Int)) (nt l j).day - (nt l j).seen) ≤ (nt l j).off) := rfl
          have HF := Lib.hid hfd
          obtain ⟨nd, hnd⟩ : ∃ nd, (nt l j).day = nd := ⟨_, rfl⟩
          obtain ⟨ns, hns⟩ : ∃ ns, (nt l j).seen = ns := ⟨_, rfl⟩
          obtain ⟨no, hno'⟩ : ∃ no, (nt l j).off = no := ⟨_, rfl⟩
          rw [hnd] at m4 m5 hat' HF c0
          rw [hns] at m6 m7 HF c1
          rw [hno'] at m8 m9 HF c2
          obtain ⟨p, hp⟩ : ∃ p, Sp.at_ start (low + (k : Int)) nd = p := ⟨_, rfl⟩
          have HP := Lib.hid hp
          rw [hp] at hat' HF
          clear hc hq htake hno hat hfd m1 m2 m3 hnd hns hno' hp
          have hR : ∀ W : World, Calls Tryz.prog 155 #[.int .i64 start, .int .i64 (low + (k : Int)), .int .i64 nd] W fun e w' => e = .returned (.int .i64 p) ∧ Ext W w' := fun W => by
            rw [← HP.out]
            exact reached_any start (low + (k : Int)) nd W (by omega) (by omega) (by omega) (by omega) (by omega) (by omega)
          by_cases hf : Sp.round (p - ns) ≤ no
          · have HFF := Lib.hid hf
            go_wp2
            refine wp_region_later (by kernel_rfl) (by kernel_rfl) (fun WW hW => ?_)
            have q1 := Later.block (w := WW) (by rw [hW]; exact heap_alloc_new wr _)
            repeat (go_big_quiet_step ((first | (go_at_call 155; exact Later.call (hR _)) | (go_at_call 126; exact Later.call (round_any _ _ (by omega) (by omega))))))
            refine wpQuiet_nil ?_
            rintro ⟨W2, hE4⟩
            subst hW
            have hE5 := (hE2.alloc (.cells #[.int .i64 nd, .int .i64 ns, .int .i64 no] 76)).trans hE4
            clear q1 hR
            go_wp2
            go_roundg g2
            case measure => omega
            case rel => exact ⟨j + 1, by omega, by go_num, by rw [HT.out, HF.out]; exact decide_eq_true HFF.out, hE5⟩
          · have HFF := Lib.hid hf
            go_wp2
            refine wp_region_later (by kernel_rfl) (by kernel_rfl) (fun WW hW => ?_)
            have q1 := Later.block (w := WW) (by rw [hW]; exact heap_alloc_new wr _)
            repeat (go_big_quiet_step ((first | (go_at_call 155; exact Later.call (hR _)) | (go_at_call 126; exact Later.call (round_any _ _ (by omega) (by omega))))))
            refine wpQuiet_nil ?_
            rintro ⟨W2, hE4⟩
            subst hW
            have hE5 := (hE2.alloc (.cells #[.int .i64 nd, .int .i64 ns, .int .i64 no] 76)).trans hE4
            clear q1 hR
            go_wp2
            go_roundg g
            case measure => omega
            case rel =>
              have hstep := HG.out false (HNO.out (by rw [HF.out]; first | exact decide_eq_false HFF.out | exact decide_eq_false (Int.not_le.2 HFF.out)))
              refine ⟨k + 1, by omega, by go_num, ?_, HE.out.trans hE5⟩
              rw [hstep]
              simp only [Bool.false_eq_true, if_false, List.append_nil]
              exact ownsRow_of_block hown' (fun q hq' => hE5.block q (hown'.lt q hq').2)
end Go.Proofs.YtlcddcnmoajpjaaGreatDoor

namespace Go.Proofs.YtlcddcnmoajpjaaGreatDoor
open Go.RowKit
open Sp (rd)

theorem results_cell_tmps2 {P : Program} {fn : Func} {p a b : Tmp} {ty : TypeId} (h : fn.results = #[.cell p ty, .tmp a, .tmp b]) (tmps : Array Value) (w : World) (g : Nat) (t : TypeId) (cs : Array Value) (fr : Nat × Nat) (d : TypeDesc)
    (hp : tmps.getD p undef = .pointer (some ⟨g, 0, none⟩)) (hg : w.heap[g]? = some (.cells cs t fr))
    (hu : P.underlying ty = some d) (hd : (match d with | .struct _ | .array _ _ => true | _ => false) = true) (hi : (P.info? ty).map (·.size) = some cs.size) :
    (results fn tmps).run P w = .ok (.tuple #[.agg cs, tmps.getD a undef, tmps.getD b undef]) w := by
  have hp' : tmps[p]?.getD undef = .pointer (some ⟨g, 0, none⟩) := by simpa using hp
  simp [results, h, hp', asAddr, run_loadVar_row w g t ty cs fr d hg hu hd hi]

theorem keep2 {W : World} {p q : Addr} {g o : Nat} {v x y : Value} (h : W.cell? ⟨g, o, none⟩ = some v) (h1 : p.block ≠ g) (h2 : q.block ≠ g) : ((W.setCell p x).setCell q y).drew.cell? ⟨g, o, none⟩ = some v := by
  show ((W.setCell p x).setCell q y).cell? ⟨g, o, none⟩ = some v
  exact (World.cell?_setCell_other _ _ _ _ (fun e => h2 (by rw [e]))).trans ((World.cell?_setCell_other _ _ _ _ (fun e => h1 (by rw [e]))).trans h)
theorem speeds1_any (start low high : Int) (A : Option Addr) (c : Nat) (l : List Sp.Note) (bS bN bL bH bO : Nat) (old : Value) (W : World) (hm : Notes W A l) (h : notesArg start l low high = true)
    (rS : Row W bS 3 #[.int .i64 start]) (rN : Row W bN 58 #[.slice A l.length c]) (rL : Row W bL 3 #[.int .i64 low]) (rH : Row W bH 3 #[.int .i64 high]) (rO : Row W bO 64 #[old]) :
    Calls Tryz.prog 101 #[.pointer (some ⟨bS, 0, none⟩), .pointer (some ⟨bN, 0, none⟩), .pointer (some ⟨bL, 0, none⟩), .pointer (some ⟨bH, 0, none⟩), .pointer (some ⟨bO, 0, none⟩)] W fun e w' =>
      (Sp.speedsL start l low high ≠ [] ∧ e = .returned (.tuple #[]) ∧ ∃ v W1, Ext W W1 ∧ W1.ownsRow W.heap.size 3 1 v (Sp.speedsL start l low high).length (intCells (Sp.speedsL start l low high)) ∧ w' = W1.setCell ⟨bO, 0, none⟩ v) ∨
      (Sp.speedsL start l low high = [] ∧ e = .panicked [{ v := .iface 152 (.agg #[.int .i64 5]), recovered := false }] ∧ Ext W w') := by
  have cS := rS.cell
  have cN := rN.cell
  have cL := rL.cell
  have cH := rH.cell
  go_enter Tryz.func101, Tryz.ntmps101
  go_wp2_with fail
  refine (agreeing_any start low high A c l W hm h).mono ?_
  rintro e W1 ⟨hE, ⟨hne, v, rfl, hown⟩ | ⟨he, rfl⟩⟩
  · have cO := (rO.ext hE).cell
    have fO := (rO.ext hE).free
    have HN := Lib.hid hne
    have HO := Lib.hid hown
    have HE := Lib.hid hE
    have hform := hown.2
    clear cS cN cL cH hne hown hE
    rcases hform with ⟨rfl, h0⟩ | ⟨g', cap, cur, rfl, _⟩
    · exact absurd (List.eq_nil_of_length_eq_zero h0) HN.out
    · obtain ⟨L, hL⟩ : ∃ L, Sp.speedsL start l low high = L := ⟨_, rfl⟩
      rw [hL] at HO HN ⊢
      have HLQ := Lib.hid hL
      clear hL
      go_wp2_with fail
      go_end0
      exact .inl ⟨by rw [HLQ.out]; exact HN.out, rfl, _, W1, HE.out, by rw [HLQ.out]; exact HO.out, rfl⟩
  · exact ⟨rfl, .inr ⟨he, rfl, hE⟩⟩

theorem blocks5 (w : World) (o1 o2 o3 o4 o5 : Obj) : (((((w.alloc o1).alloc o2).alloc o3).alloc o4).alloc o5).heap[w.heap.size]? = some o1 ∧ (((((w.alloc o1).alloc o2).alloc o3).alloc o4).alloc o5).heap[w.heap.size + 1]? = some o2 ∧ (((((w.alloc o1).alloc o2).alloc o3).alloc o4).alloc o5).heap[w.heap.size + 2]? = some o3 ∧ (((((w.alloc o1).alloc o2).alloc o3).alloc o4).alloc o5).heap[w.heap.size + 3]? = some o4 ∧ (((((w.alloc o1).alloc o2).alloc o3).alloc o4).alloc o5).heap[w.heap.size + 4]? = some o5 := by
  obtain ⟨a, b, c, d⟩ := blocks4 w o1 o2 o3 o4
  have lt : ∀ k, k < 4 → w.heap.size + k < ((((w.alloc o1).alloc o2).alloc o3).alloc o4).heap.size := fun k hk => by simp; omega
  refine ⟨(Below.heap_alloc _ o5 _ (lt 0 (by omega))).trans a, (Below.heap_alloc _ o5 _ (lt 1 (by omega))).trans b, (Below.heap_alloc _ o5 _ (lt 2 (by omega))).trans c, (Below.heap_alloc _ o5 _ (lt 3 (by omega))).trans d, ?_⟩
  have := heap_alloc_new ((((w.alloc o1).alloc o2).alloc o3).alloc o4) o5
  simpa using this

theorem Speeds_err (start low high : Int) (A : Option Addr) (c : Nat) (l : List Sp.Note) (w : World) (hm : Notes w A l) (hl : l.length ≤ 100000) (h : notesArg start l low high = false) :
    Calls Tryz.prog 43 #[.int .i64 start, .slice A l.length c, .int .i64 low, .int .i64 high] w fun e w' => e = .returned (.tuple #[.agg #[.int .i64 0, .int .i64 0], .int .i64 0, .int .i64 2]) ∧ Ext w w' := by
  have HM := Lib.hid hm
  clear hm
  go_enter Tryz.func43, Tryz.ntmps43
  go_wp2_with fail
  refine (areNotes_any start low high A c l _ (HM.out.ext (((((Ext.refl w).alloc _).alloc _).alloc _).alloc _ |>.alloc _)) hl).mono ?_
  rintro e w1 ⟨rfl, hE1⟩
  rw [h]
  have rR : Row w1 (w.heap.size + 4) 61 #[.int .i64 0, .int .i64 0] := Row.ext (by simpa using Row.new ((((w.alloc (.cells #[.int .i64 start] 3)).alloc (.cells #[.slice A l.length c] 58)).alloc (.cells #[.int .i64 low] 3)).alloc (.cells #[.int .i64 high] 3)) 61 #[.int .i64 0, .int .i64 0]) hE1
  have hE := (((((Ext.refl w).alloc _).alloc _).alloc _).alloc _ |>.alloc _).trans hE1
  clear hE1
  have b0 := rR.cell
  have f0 := rR.free
  go_wp2_with fail
  refine bodyPost_ret (results_cell_tmps2 rfl _ _ (w.heap.size + 4) 61 _ (0, 0) _ rfl ((rR.set_ 0 (.int .i64 0)).set_ 1 (.int .i64 0)) Tryz.underlying61 rfl (by kernel_rfl)) rfl ?_
  exact ⟨rfl, (hE.setCell (by simp; omega) _).setCell (by simp; omega) _⟩
theorem Speeds_none (start low high : Int) (A : Option Addr) (c : Nat) (l : List Sp.Note) (w : World) (hm : Notes w A l) (hl : l.length ≤ 100000) (h : notesArg start l low high = true) (hn : Sp.speedsL start l low high = []) :
    Calls Tryz.prog 43 #[.int .i64 start, .slice A l.length c, .int .i64 low, .int .i64 high] w fun e w' => e = .returned (.tuple #[.agg #[.int .i64 0, .int .i64 0], .int .i64 0, .int .i64 5]) ∧ Ext w w' := by
  have HM := Lib.hid hm
  have HH := Lib.hid h
  have HNN := Lib.hid hn
  clear hm hn
  go_enter Tryz.func43, Tryz.ntmps43
  go_wp2_with fail
  refine (areNotes_any start low high A c l _ (HM.out.ext (((((Ext.refl w).alloc _).alloc _).alloc _).alloc _ |>.alloc _)) hl).mono ?_
  rintro e w1 ⟨rfl, hE1⟩
  rw [h]
  obtain ⟨b1, b2, b3, b4, b5⟩ := blocks5 w (.cells #[.int .i64 start] 3) (.cells #[.slice A l.length c] 58) (.cells #[.int .i64 low] 3) (.cells #[.int .i64 high] 3) (.cells #[.int .i64 0, .int .i64 0] 61)
  have rS : Row w1 w.heap.size 3 _ := Row.ext b1 hE1
  have rN : Row w1 (w.heap.size + 1) 58 _ := Row.ext b2 hE1
  have rL : Row w1 (w.heap.size + 2) 3 _ := Row.ext b3 hE1
  have rH : Row w1 (w.heap.size + 3) 3 _ := Row.ext b4 hE1
  have rR : Row w1 (w.heap.size + 4) 61 _ := Row.ext b5 hE1
  have hE := (((((Ext.refl w).alloc _).alloc _).alloc _).alloc _ |>.alloc _).trans hE1
  clear hE1 b1 b2 b3 b4 b5 h
  have hmf : ∀ (fn : Fn) (first cap : Array Value) (w : World), (Instr.makeFunc fn first cap).run Tryz.prog w = .ok (.func fn first cap) w := fun _ _ _ _ => rfl
  have hE3 : Ext w1 ((w1.alloc (.cells #[.slice none 0 0] 64)).alloc (.cells #[.int .i64 0] 32)) := ((Ext.refl w1).alloc _).alloc _
  have rO : Row ((w1.alloc (.cells #[.slice none 0 0] 64)).alloc (.cells #[.int .i64 0] 32)) w1.heap.size 64 #[.slice none 0 0] := (blocks2 w1 _ _).1
  have rX : Row ((w1.alloc (.cells #[.slice none 0 0] 64)).alloc (.cells #[.int .i64 0] 32)) (w1.heap.size + 1) 32 #[.int .i64 0] := (blocks2 w1 _ _).2
  have hz := rR.lt
  have b0 := rR.cell
  have f0 := rR.free
  go_wp2_with fail
  refine (try_any 101 _ 5 _ (fun _ => False) (fun w' => Ext ((w1.alloc (.cells #[.slice none 0 0] 64)).alloc (.cells #[.int .i64 0] 32)) w') (enters_of Tryz.func101 (by kernel_rfl) rfl)
    ((speeds1_any start low high A c l w.heap.size (w.heap.size + 1) (w.heap.size + 2) (w.heap.size + 3) w1.heap.size _ _ (HM.out.ext (hE.trans hE3)) HH.out (rS.ext hE3) (rN.ext hE3) (rL.ext hE3) (rH.ext hE3) rO).mono ?_)).mono ?_
  · rintro e w' (⟨h0, _⟩ | ⟨_, rfl, hEE⟩)
    · exact absurd HNN.out h0
    · exact ⟨by simpa using rX.ext hEE, .inr ⟨rfl, hEE⟩⟩
  · rintro e w' ⟨W2, ⟨h0, _⟩ | ⟨hEE, rfl, rfl⟩⟩
    · exact h0.elim
    · simp only [World.size_alloc]
      have hEW := hE3.trans hEE
      have rR2 := ((rR.ext hEW).far (p := ⟨w1.heap.size + 1, 0, none⟩) (by simp; omega) (.int .i64 5)).alloc (.cells #[.int .i64 5] 152)
      have hE4 : Ext w1 ((W2.setCell ⟨w1.heap.size + 1, 0, none⟩ (.int .i64 5)).alloc (.cells #[.int .i64 5] 152)) := (hEW.setCell (by simp) _).alloc _
      have b0 := rR2.cell
      have f0 := rR2.free
      have HE := Lib.hid (hE.trans hE4)
      clear hE3 rO rX hEE hE hE4 hEW
      go_wp2_with fail
      refine bodyPost_ret (results_cell_tmps2 rfl _ _ (w.heap.size + 4) 61 _ (0, 0) _ rfl ((rR2.set_ 0 (.int .i64 0)).set_ 1 (.int .i64 0)) Tryz.underlying61 rfl (by kernel_rfl)) rfl ?_
      exact ⟨rfl, (HE.out.setCell (by simp; omega) _).setCell (by simp; omega) _⟩
theorem Speeds_ok (start low high : Int) (A : Option Addr) (c : Nat) (l : List Sp.Note) (w : World) (hm : Notes w A l) (hl : l.length ≤ 100000) (h : notesArg start l low high = true) (hn : Sp.speedsL start l low high ≠ []) :
    Calls Tryz.prog 43 #[.int .i64 start, .slice A l.length c, .int .i64 low, .int .i64 high] w fun e w' => e = .returned (.tuple #[.agg #[.int .i64 ((Sp.speedsL start l low high).headD 0), .int .i64 ((Sp.speedsL start l low high).getLastD 0)], .int .i64 (Sp.speedsL start l low high).length, .int .i64 0]) ∧ Ext w w' := by
  have HM := Lib.hid hm
  have HH := Lib.hid h
  have HNN := Lib.hid hn
  clear hm hn
  go_enter Tryz.func43, Tryz.ntmps43
  go_wp2_with fail
  refine (areNotes_any start low high A c l _ (HM.out.ext (((((Ext.refl w).alloc _).alloc _).alloc _).alloc _ |>.alloc _)) hl).mono ?_
  rintro e w1 ⟨rfl, hE1⟩
  rw [h]
  obtain ⟨b1, b2, b3, b4, b5⟩ := blocks5 w (.cells #[.int .i64 start] 3) (.cells #[.slice A l.length c] 58) (.cells #[.int .i64 low] 3) (.cells #[.int .i64 high] 3) (.cells #[.int .i64 0, .int .i64 0] 61)
  have rS : Row w1 w.heap.size 3 _ := Row.ext b1 hE1
  have rN : Row w1 (w.heap.size + 1) 58 _ := Row.ext b2 hE1
  have rL : Row w1 (w.heap.size + 2) 3 _ := Row.ext b3 hE1
  have rH : Row w1 (w.heap.size + 3) 3 _ := Row.ext b4 hE1
  have rR : Row w1 (w.heap.size + 4) 61 _ := Row.ext b5 hE1
  have hE := (((((Ext.refl w).alloc _).alloc _).alloc _).alloc _ |>.alloc _).trans hE1
  clear hE1 b1 b2 b3 b4 b5 h
  have hmf : ∀ (fn : Fn) (first cap : Array Value) (w : World), (Instr.makeFunc fn first cap).run Tryz.prog w = .ok (.func fn first cap) w := fun _ _ _ _ => rfl
  have hE3 : Ext w1 ((w1.alloc (.cells #[.slice none 0 0] 64)).alloc (.cells #[.int .i64 0] 32)) := ((Ext.refl w1).alloc _).alloc _
  have rO : Row ((w1.alloc (.cells #[.slice none 0 0] 64)).alloc (.cells #[.int .i64 0] 32)) w1.heap.size 64 #[.slice none 0 0] := (blocks2 w1 _ _).1
  have rX : Row ((w1.alloc (.cells #[.slice none 0 0] 64)).alloc (.cells #[.int .i64 0] 32)) (w1.heap.size + 1) 32 #[.int .i64 0] := (blocks2 w1 _ _).2
  have hz := rR.lt
  have b0 := rR.cell
  have f0 := rR.free
  go_wp2_with fail
  refine (try_any 101 _ 5 _ (fun w' => ∃ v W1, Ext ((w1.alloc (.cells #[.slice none 0 0] 64)).alloc (.cells #[.int .i64 0] 32)) W1 ∧ W1.ownsRow (w1.heap.size + 2) 3 1 v (Sp.speedsL start l low high).length (intCells (Sp.speedsL start l low high)) ∧ w' = W1.setCell ⟨w1.heap.size, 0, none⟩ v) (fun _ => False) (enters_of Tryz.func101 (by kernel_rfl) rfl)
    ((speeds1_any start low high A c l w.heap.size (w.heap.size + 1) (w.heap.size + 2) (w.heap.size + 3) w1.heap.size _ _ (HM.out.ext (hE.trans hE3)) HH.out (rS.ext hE3) (rN.ext hE3) (rL.ext hE3) (rH.ext hE3) rO).mono ?_)).mono ?_
  · rintro e w' (⟨_, rfl, v, W1, hEE, hown, rfl⟩ | ⟨h0, _⟩)
    · refine ⟨?_, .inl ⟨rfl, v, W1, hEE, by simpa using hown, rfl⟩⟩
      simpa using (rX.ext hEE).far (p := ⟨w1.heap.size, 0, none⟩) (by simp) _
    · exact absurd h0 HNN.out
  · rintro e w' ⟨W2, ⟨⟨v, W1, hEE, hown, rfl⟩, rfl, rfl⟩ | ⟨h0, _⟩⟩
    · simp only [World.size_alloc]
      have hEW := hE3.trans hEE
      have hown2 := ownsRow_setCell_below (ownsRow_setCell_below hown (a := ⟨w1.heap.size, 0, none⟩) (by simp) v) (a := ⟨w1.heap.size + 1, 0, none⟩) (by simp) (.int .i64 0)
      have rR2 := ((rR.ext hEW).far (p := ⟨w1.heap.size, 0, none⟩) (by simp; omega) v).far (p := ⟨w1.heap.size + 1, 0, none⟩) (by simp; omega) (.int .i64 0)
      have rO2 : Row ((W1.setCell ⟨w1.heap.size, 0, none⟩ v).setCell ⟨w1.heap.size + 1, 0, none⟩ (.int .i64 0)) w1.heap.size 64 #[v] := by
        simpa using ((rO.ext hEE).set_ 0 v).far (p := ⟨w1.heap.size + 1, 0, none⟩) (by simp) (.int .i64 0)
      have hE4 : Ext w1 ((W1.setCell ⟨w1.heap.size, 0, none⟩ v).setCell ⟨w1.heap.size + 1, 0, none⟩ (.int .i64 0)) := (hEW.setCell (by simp) _).setCell (by simp) _
      have hlen := speedsL_length start l low high
      have hhi : (high + 1 - low).toNat ≤ 5001 := by
        have := HH.out
        simp only [notesArg, Bool.and_eq_true, decide_eq_true_eq] at this
        omega
      obtain ⟨k, hk⟩ : ∃ k, (Sp.speedsL start l low high).length = k + 1 := ⟨(Sp.speedsL start l low high).length - 1, by have := List.length_pos_iff.2 HNN.out; omega⟩
      obtain ⟨A2, c2, hA, hI⟩ := IntsVal.of_own hown2
      rcases hown2.2 with ⟨rfl, h0⟩ | ⟨g, cap, cur, rfl, _⟩
      · omega
      injection hA with hA1 hA2 hA3
      subst hA1 hA3
      obtain ⟨b, o, hb, hc⟩ := hI (by omega)
      obtain ⟨rfl, rfl⟩ : b = g ∧ o = 0 := by
        injection hb with hb
        injection hb with h1 h2
        exact ⟨h1.symm, h2.symm⟩
      have hbase : w1.heap.size + 2 ≤ b := (hown2.lt b rfl).1
      have q0 := hc 0 (by omega)
      have q1 := hc k (by omega)
      have e0 : rd (Sp.speedsL start l low high) 0 = (Sp.speedsL start l low high).headD 0 := by
        cases Sp.speedsL start l low high <;> rfl
      have e1 : rd (Sp.speedsL start l low high) k = (Sp.speedsL start l low high).getLastD 0 := by
        unfold rd
        rw [List.getLastD_eq_getLast?, List.getLast?_eq_getElem?, List.getD_eq_getElem?_getD]
        rw [hk]
        rfl
      rw [e0] at q0
      rw [e1] at q1
      rw [hk] at rO2 rR2 hE4 q0 q1 hlen ⊢
      obtain ⟨x, hx⟩ : ∃ x, (Sp.speedsL start l low high).headD 0 = x := ⟨_, rfl⟩
      obtain ⟨y, hy⟩ : ∃ y, (Sp.speedsL start l low high).getLastD 0 = y := ⟨_, rfl⟩
      rw [hx] at q0
      rw [hy] at q1
      have HX := Lib.hid hx
      have HY := Lib.hid hy
      have HKn := Lib.hid hk
      generalize (W1.setCell ⟨w1.heap.size, 0, none⟩ (.slice (some ⟨b, 0, none⟩) (k + 1) cap)).setCell ⟨w1.heap.size + 1, 0, none⟩ (.int .i64 0) = W at *
      have HE := Lib.hid (hE.trans hE4)
      have p0 := rO2.cell 0
      simp only [List.getElem?_toArray, List.getElem?_cons_zero] at p0
      have z1 := lts (lt_of_cell q0)
      have z2 := rR2.lt
      have z3 := rO2.lt
      simp only [Nat.zero_add] at q0 q1
      simp only at z1
      have HS := Lib.hid (And.intro p0 (And.intro q0 q1))
      have HR := Lib.hid rR2
      have cR0 : W.cell? ⟨w.heap.size + 4, 0, none⟩ = some (.int .i64 0) := rR2.cell 0
      have cR1 : W.cell? ⟨w.heap.size + 4, 1, none⟩ = some (.int .i64 0) := rR2.cell 1
      have fR0 := rR2.free 0
      have fR1 := rR2.free 1
      have hk1 : IntKind.i64.wrap ((k : Int) + 1 - 1) = (k : Int) := by
        rw [Int.add_sub_cancel]; exact IntWalk.i64_in _ (by omega)
      have hk2 : IntKind.i64.wrap (((k + 1 : Nat) : Int) - 1) = (k : Int) := by
        rw [show ((k + 1 : Nat) : Int) - 1 = (k : Int) by omega]; exact IntWalk.i64_in _ (by omega)
      have hk3 : IntKind.i64.wrap (k : Int) = (k : Int) := IntWalk.i64_in _ (by omega)
      clear hE3 rO rX hEE hE hE4 hEW hown hown2 b0 f0 rS rN rL rH rR hI hc hk e0 e1 rR2 rO2 hb hA2 hx hy
      go_wp2_with fail
      have i1 : (0 : Int) ≤ (k : Int) := by omega
      have i2 : (k : Int) < (k : Int) + 1 := by omega
      have i3 : (k : Int) < ((k + 1 : Nat) : Int) := by omega
      have i4 : k < k + 1 := by omega
      have i5 : (0 : Int) < (k : Int) + 1 := by omega
      refine Code.wp_mono (Q := fun e a' w' => e = .normal ∧ a'.defers = [] ∧ a'.tmps.getD 8 undef = .pointer (some ⟨w.heap.size + 4, 0, none⟩) ∧ a'.tmps.getD 9 undef = .int .i64 ((k + 1 : Nat) : Int) ∧ a'.tmps.getD 10 undef = .int .i64 0 ∧ Ext w w' ∧ Row w' (w.heap.size + 4) 61 #[.int .i64 x, .int .i64 y]) ?hq ?hr
      case hr =>
        go_region_held3 (fun w' => w'.cell? ⟨w1.heap.size, 0, none⟩ = some (.slice (some ⟨b, 0, none⟩) (k + 1) cap) ∧ w'.cell? ⟨b, 0, none⟩ = some (.int .i64 x) ∧ w'.cell? ⟨b, k, none⟩ = some (.int .i64 y)) (first | (go_keep; done) | (obtain ⟨r0, r1, r2⟩ := HS.out; exact ⟨keep2 r0 (by simp; omega) (by simp; omega), keep2 r1 (by simp; omega) (by simp; omega), keep2 r2 (by simp; omega) (by simp; omega)⟩)) (fail)
        all_goals exact ⟨rfl, rfl, rfl, rfl, rfl, ((HE.out.setCell (by simp; omega) _).setCell (by simp; omega) _).drew, (HR.out.set_ 0 (.int .i64 x)).set_ 1 (.int .i64 y)⟩
      case hq =>
        rintro e a' w' ⟨rfl, hd, h8, h9, h10, hE, hr⟩
        have HE9 := Lib.hid h9
        have HE10 := Lib.hid h10
        have H8 := Lib.hid h8
        have HD := Lib.hid hd
        clear h8 h9 h10 hd
        go_wp2_with fail
        refine bodyPost_ret (results_cell_tmps2 rfl _ _ (w.heap.size + 4) 61 _ (0, 0) _ H8.out hr Tryz.underlying61 rfl (by kernel_rfl)) HD.out ?_
        rw [HE9.out, HE10.out, HX.out, HY.out, HKn.out]
        exact ⟨rfl, hE⟩
    · exact h0.elim
end Go.Proofs.YtlcddcnmoajpjaaGreatDoor
