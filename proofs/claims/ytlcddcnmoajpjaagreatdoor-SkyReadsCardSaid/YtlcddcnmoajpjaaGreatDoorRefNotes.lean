/- The walks of the reference's Notes, at, Agrees, Speeds, Days. -/
import Derived.Test.YtlcddcnmoajpjaaGreatDoorV19
import Derived.Test.YtlcddcnmoajpjaaGreatDoorV10
import Derived.Test.YtlcddcnmoajpjaaGreatDoorRefMeet
namespace Go.Proofs.YtlcddcnmoajpjaaGreatDoor
open Go.RowKit
open Sp (rd)
set_option linter.unusedSimpArgs false
set_option linter.unusedVariables false

theorem nt_get {l : List Sp.Note} {k : Nat} (hk : k < l.length) : l[k] = nt l k := by
  unfold nt
  rw [List.getD_eq_getElem?_getD, List.getElem?_eq_getElem hk]
  rfl
theorem allp_take_succ {α : Type} {l : List α} {k : Nat} {p : α → Bool} (hk : k < l.length) (h : (l.take k).all p = true) (hb : p l[k] = true) : (l.take (k + 1)).all p = true := by
  rw [List.take_succ_eq_append_getElem hk, List.all_append, h]
  simp [hb]
theorem allp_no {α : Type} {l : List α} {k : Nat} {p : α → Bool} (hk : k < l.length) (hb : p l[k] = false) : l.all p = false := by
  rw [List.all_eq_false]
  exact ⟨_, List.getElem_mem hk, by rw [hb]; simp⟩
theorem notesArg_eq (start : Int) (l : List Sp.Note) (low high : Int) : notesArg start l low high = (Sp.spot start && (Sp.notesOk l && Sp.rangeOk low high)) := by
  unfold notesArg Sp.notesOk Sp.rangeOk
  cases Sp.spot start <;> cases Sp.inR low 0 1000000 <;> cases Sp.inR high low 1000000 <;> cases decide (high - low ≤ 5000) <;> cases decide (l.length ≤ 6) <;> cases l.all Sp.noteOk <;> rfl

set_option maxRecDepth 100000 in
set_option maxHeartbeats 1000000 in
theorem r_Notes_any (l : List Sp.Note) (A : Option Addr) (c : Nat) (w : World) (hm : Notes w A l) (hl : l.length ≤ 100000) :
    Calls Tryz.prog 44 #[.slice A l.length c] w fun e w' => e = .returned (.bool (Sp.notesOk l)) ∧ Ext w w' := by
  have HM := Lib.hid hm
  clear hm
  go_enter Tryz.func44, Tryz.ntmps44
  go_wp2_with fail
  go_loopw [3] (fun i wr => ∃ k : Nat, k ≤ l.length ∧ i = .int .i64 k ∧ (l.take k).all Sp.noteOk = true ∧ Ext w wr) (fun i _ => l.length - (intOf i).toNat)
  case atStart => exact ⟨0, Nat.zero_le _, rfl, rfl, Ext.refl _⟩
  case round =>
    obtain ⟨k, hk, rfl, hall, hE⟩ := hrel
    by_cases hlt : k < l.length
    · obtain ⟨b, o, rfl, hc⟩ := (HM.out.ext hE) (by omega)
      obtain ⟨c0, c1, c2⟩ := hc k hlt
      have HNX := Lib.hid (fun h => allp_take_succ hlt hall h)
      have HNO := Lib.hid (fun h => allp_no (p := Sp.noteOk) hlt h)
      have HE := Lib.hid hE
      rw [nt_get hlt] at HNX HNO
      clear hc hall hE
      generalize nt l k = n at *
      cases p1 : Sp.isDay n.day
      · have HX := Lib.hid (HNO.out (by simp [Sp.noteOk, p1]))
        go_wp2_with (go_at_call 55; refine (r_Day_any _ _).mono ?_; rintro e w' ⟨rfl, rfl⟩; rw [p1])
        go_ret
        exact ⟨ret_bool (by simp [Sp.notesOk, HX.out]), HE.out⟩
      · cases p2 : Sp.spot n.seen
        · have HX := Lib.hid (HNO.out (by simp [Sp.noteOk, p2]))
          go_wp2_with (first | (go_at_call 55; refine (r_Day_any _ _).mono ?_; rintro e w' ⟨rfl, rfl⟩; rw [p1]) | (go_at_call 39; refine (r_Spot_any _ _).mono ?_; rintro e w' ⟨rfl, rfl⟩; rw [p2]))
          go_ret
          exact ⟨ret_bool (by simp [Sp.notesOk, HX.out]), HE.out⟩
        · cases p3 : Sp.isOff n.off
          · have HX := Lib.hid (HNO.out (by simp [Sp.noteOk, p3]))
            go_wp2_with (first | (go_at_call 55; refine (r_Day_any _ _).mono ?_; rintro e w' ⟨rfl, rfl⟩; rw [p1]) | (go_at_call 39; refine (r_Spot_any _ _).mono ?_; rintro e w' ⟨rfl, rfl⟩; rw [p2]) | (go_at_call 50; refine (r_Off_any _ _).mono ?_; rintro e w' ⟨rfl, rfl⟩; rw [p3]))
            go_ret
            exact ⟨ret_bool (by simp [Sp.notesOk, HX.out]), HE.out⟩
          · have HX := Lib.hid (HNX.out (by simp [Sp.noteOk, p1, p2, p3]))
            go_wp2_with (first | (go_at_call 55; refine (r_Day_any _ _).mono ?_; rintro e w' ⟨rfl, rfl⟩; rw [p1]) | (go_at_call 39; refine (r_Spot_any _ _).mono ?_; rintro e w' ⟨rfl, rfl⟩; rw [p2]) | (go_at_call 50; refine (r_Off_any _ _).mono ?_; rintro e w' ⟨rfl, rfl⟩; rw [p3]))
            refine ⟨⟨k + 1, by omega, by go_num, HX.out, HE.out⟩, by simp [intOf]; omega⟩
    · obtain rfl : k = l.length := by omega
      rw [List.take_length] at hall
      have HX : Hid (Sp.notesOk l = decide ((l.length : Int) ≤ 6)) := Lib.hid (by
        unfold Sp.notesOk
        rw [hall, Bool.and_true, decide_eq_decide]
        omega)
      have HE := Lib.hid hE
      clear hall hE
      go_wp2_with fail
      go_ret
      exact ⟨ret_bool HX.out.symm, HE.out⟩

set_option maxRecDepth 100000 in
set_option maxHeartbeats 1000000 in
theorem r_Days_any (l : List Int) (A : Option Addr) (c : Nat) (w : World) (hm : Ints w A l) (hl : l.length ≤ 100000) :
    Calls Tryz.prog 49 #[.slice A l.length c] w fun e w' => e = .returned (.bool (Sp.daysOk l)) ∧ Ext w w' := by
  have HM := Lib.hid hm
  clear hm
  go_enter Tryz.func49, Tryz.ntmps49
  go_wp2_with fail
  go_loopw [3] (fun i wr => ∃ k : Nat, k ≤ l.length ∧ i = .int .i64 k ∧ (l.take k).all Sp.isDay = true ∧ Ext w wr) (fun i _ => l.length - (intOf i).toNat)
  case atStart => exact ⟨0, Nat.zero_le _, rfl, rfl, Ext.refl _⟩
  case round =>
    obtain ⟨k, hk, rfl, hall, hE⟩ := hrel
    by_cases hlt : k < l.length
    · obtain ⟨b, o, rfl, hc⟩ := (HM.out.ext hE) (by omega)
      have c0 := hc k hlt
      have HNX := Lib.hid (fun h => allp_take_succ hlt hall h)
      have HNO := Lib.hid (fun h => allp_no (p := Sp.isDay) hlt h)
      have HE := Lib.hid hE
      rw [getrd hlt] at HNX HNO
      clear hc hall hE
      generalize rd l k = n at *
      cases p1 : Sp.isDay n
      · have HX := Lib.hid (HNO.out p1)
        go_wp2_with (go_at_call 55; refine (r_Day_any _ _).mono ?_; rintro e w' ⟨rfl, rfl⟩; rw [p1])
        go_ret
        exact ⟨ret_bool (by simp [Sp.daysOk, HX.out]), HE.out⟩
      · have HX := Lib.hid (HNX.out p1)
        go_wp2_with (go_at_call 55; refine (r_Day_any _ _).mono ?_; rintro e w' ⟨rfl, rfl⟩; rw [p1])
        refine ⟨⟨k + 1, by omega, by go_num, HX.out, HE.out⟩, by simp [intOf]; omega⟩
    · obtain rfl : k = l.length := by omega
      rw [List.take_length] at hall
      have HX : Hid (Sp.daysOk l = Sp.inR l.length 1 6) := Lib.hid (by
        unfold Sp.daysOk
        rw [hall, Bool.and_true])
      have HE := Lib.hid hE
      clear hall hE
      go_wp2_with (go_at_call 89; refine (r_in_any _ _ _ _).mono ?_; rintro e w' ⟨rfl, rfl⟩)
      go_ret
      exact ⟨ret_bool HX.out.symm, HE.out⟩

theorem r_at_any (start speed day : Int) (w : World) (h1 : 0 ≤ start) (h2 : start ≤ 21599) (h3 : 0 ≤ speed) (h4 : speed ≤ 1000000) (h5 : 0 ≤ day) (h6 : day ≤ 20000) :
    Calls Tryz.prog 103 #[.int .i64 start, .int .i64 speed, .int .i64 day] w fun e w' => e = .returned (.int .i64 (Sp.at_ start speed day)) ∧ w = w' := by
  have k0 : 0 ≤ speed * day := Int.mul_nonneg h3 h5
  have k1 : speed * day ≤ 1000000 * 20000 := Int.mul_le_mul h4 h6 h5 (by omega)
  have hq : (speed * day).tdiv 1000 = speed * day / 1000 := Int.tdiv_eq_ediv_of_nonneg k0
  have hu : Sp.at_ start speed day = (start + speed * day / 1000) % 21600 := rfl
  have k2 : 0 ≤ speed * day / 1000 ∧ speed * day / 1000 ≤ 20000000 := by omega
  rw [hu]
  go_enter Tryz.func103, Tryz.ntmps103
  go_wp2_with fail
  refine (r_Less_any _ _ (by omega) (by omega)).mono ?_
  rintro e w' ⟨rfl, rfl⟩
  go_wp2_with fail
  go_ret
  exact ⟨rfl, rfl⟩
theorem noteOk_parts {n : Sp.Note} (h : Sp.noteOk n = true) : (0 ≤ n.day ∧ n.day ≤ 20000) ∧ (0 ≤ n.seen ∧ n.seen ≤ 21599) ∧ (0 ≤ n.off ∧ n.off ≤ 10800) := by
  simp only [Sp.noteOk, Bool.and_eq_true] at h
  exact ⟨inR_iff.1 h.1, inR_iff.1 h.2.1, inR_iff.1 h.2.2⟩

set_option maxRecDepth 100000 in
set_option maxHeartbeats 1000000 in
theorem r_Agrees_any (start speed : Int) (l : List Sp.Note) (A : Option Addr) (c : Nat) (w : World) (hm : Notes w A l) (hl : l.length ≤ 100000) (hn : l.all Sp.noteOk = true) (h1 : 0 ≤ start) (h2 : start ≤ 21599) (h3 : 0 ≤ speed) (h4 : speed ≤ 1000000) :
    Calls Tryz.prog 47 #[.int .i64 start, .slice A l.length c, .int .i64 speed] w fun e w' => e = .returned (.bool (Sp.agrees start l speed)) ∧ Ext w w' := by
  have HM := Lib.hid hm
  have HN := Lib.hid (List.all_eq_true.1 hn)
  rw [agrees_eq]
  clear hm hn
  go_enter Tryz.func47, Tryz.ntmps47
  go_wp2_with fail
  go_loopw [7] (fun i wr => ∃ k : Nat, k ≤ l.length ∧ i = .int .i64 k ∧ (l.take k).all (fits start speed) = true ∧ Ext w wr) (fun i _ => l.length - (intOf i).toNat)
  case atStart => exact ⟨0, Nat.zero_le _, rfl, rfl, Ext.refl _⟩
  case round =>
    obtain ⟨k, hk, rfl, hall, hE⟩ := hrel
    by_cases hlt : k < l.length
    · obtain ⟨b, o, rfl, hc⟩ := (HM.out.ext hE) (by omega)
      obtain ⟨c0, c1, c2⟩ := hc k hlt
      have HNX := Lib.hid (fun h => allp_take_succ hlt hall h)
      have HNO := Lib.hid (fun h => allp_no (p := fits start speed) hlt h)
      obtain ⟨g1, g2, g3⟩ := noteOk_parts (HN.out l[k] (List.getElem_mem hlt))
      have HE := Lib.hid hE
      rw [nt_get hlt] at HNX HNO g1 g2 g3
      clear hc hall hE
      generalize nt l k = n at *
      have hat : 0 ≤ Sp.at_ start speed n.day ∧ Sp.at_ start speed n.day < 21600 := emod_bounds _ 21600 (by omega)
      have hbo : (0 : Int) ≤ (k : Int) ∧ (k : Int) < (l.length : Int) := by omega
      go_wp2_with fail
      refine wp_region_later (by kernel_rfl) (by kernel_rfl) (fun W hW => ?_)
      subst hW
      have a0 := fun X : Later W => X.ext.cell c0
      have a1 := fun X : Later W => X.ext.cell c1
      have a2 := fun X : Later W => X.ext.cell c2
      repeat (go_big_quiet_step (fail))
      go_big_quiet_step ((go_at_call 103; exact Later.call ((r_at_any _ _ _ _ (by omega) (by omega) (by omega) (by omega) (by omega) (by omega)).mono fun _ _ h => ⟨h.1, Ext.rfl_of h.2⟩)))
      repeat (go_big_quiet_step (fail))
      go_big_quiet_step ((go_at_call 40; exact Later.call ((r_Apart_any _ _ _ (by omega) (by omega) (by omega) (by omega)).mono fun _ _ h => ⟨h.1, Ext.rfl_of h.2⟩)))
      repeat (go_big_quiet_step (fail))
      refine wpQuiet_nil ?_
      rintro ⟨w3, hE3⟩
      dsimp only
      have HE3 := Lib.hid (HE.out.trans hE3)
      clear hE3 a0 a1 a2 c0 c1 c2
      by_cases hf : Sp.apart (Sp.at_ start speed n.day) n.seen ≤ n.off
      · have HX := Lib.hid (HNX.out (decide_eq_true hf))
        go_wp2_with fail
        refine ⟨⟨k + 1, by omega, by go_num, HX.out, HE3.out⟩, by simp [intOf]; omega⟩
      · have HX := Lib.hid (HNO.out (decide_eq_false hf))
        go_wp2_with fail
        go_ret
        exact ⟨ret_bool HX.out.symm, HE3.out⟩
    · obtain rfl : k = l.length := by omega
      rw [List.take_length] at hall
      have HX := Lib.hid hall
      have HE := Lib.hid hE
      clear hall hE
      go_wp2_with fail
      go_ret
      exact ⟨ret_bool HX.out.symm, HE.out⟩

def RSpeedsRel (w : World) (start : Int) (l : List Sp.Note) (low : Int) (N : Nat) (v d : Value) (wr : World) : Prop :=
  ∃ k : Nat, k ≤ N ∧ d = .int .i64 (low + (k : Int)) ∧ wr.ownsRow w.heap.size 3 1 v (Sp.speedsN start l low k).length (intCells (Sp.speedsN start l low k)) ∧ Ext w wr
set_option maxRecDepth 100000 in
set_option maxHeartbeats 1000000 in
theorem r_Speeds_any (start low high : Int) (l : List Sp.Note) (A : Option Addr) (c : Nat) (w : World) (hm : Notes w A l) (h : notesArg start l low high = true) :
    Calls Tryz.prog 46 #[.int .i64 start, .slice A l.length c, .int .i64 low, .int .i64 high] w fun e w' => ∃ v, e = .returned v ∧ IntsVal w' v (Sp.speedsL start l low high) ∧ Ext w w' := by
  simp only [notesArg, Bool.and_eq_true, decide_eq_true_eq, Sp.spot] at h
  obtain ⟨a1, a2, a3, a4, a5, a6⟩ := h
  obtain ⟨x1, x2⟩ := inR_iff.1 a1
  obtain ⟨x3, x4⟩ := inR_iff.1 a2
  obtain ⟨x5, x6⟩ := inR_iff.1 a3
  have HM := Lib.hid hm
  have HA := Lib.hid a6
  clear hm a1 a2 a3 a6
  obtain ⟨i0, hi0, hi1, hi2, hi3⟩ := info_parts info_int
  obtain ⟨N, hN⟩ : ∃ N : Nat, high + 1 - low = (N : Int) := ⟨(high + 1 - low).toNat, by omega⟩
  have hML : Sp.speedsL start l low high = Sp.speedsN start l low N := by unfold Sp.speedsL; rw [hN]; rfl
  rw [hML]
  clear hML
  go_enter Tryz.func46, Tryz.ntmps46
  go_wp2_with fail
  go_loopw [9, 10] (fun v d wr => RSpeedsRel w start l low N v d wr) (fun _ d _ => (high + 1 - intOf d).toNat)
  case atStart => exact ⟨0, Nat.zero_le _, by go_num, World.ownsRow_nil _ _ _ _, Ext.refl _⟩
  case round =>
    obtain ⟨k, hk, rfl, hown, hE⟩ := hrel
    have hle := speedsN_le start l low k
    have hz := hE.size
    by_cases hlt : k < N
    · have HE := Lib.hid hE
      have HO := Lib.hid hown
      have HN : Hid (Sp.speedsN start l low (k + 1) = Sp.speedsN start l low k ++ (if Sp.agrees start l (low + (k : Int)) then [low + (k : Int)] else [])) := Lib.hid rfl
      obtain ⟨L, hL⟩ : ∃ L, Sp.speedsN start l low k = L := ⟨_, rfl⟩
      rw [hL] at HO hle HN
      clear hown hE hL
      go_wp2_with fail
      refine (r_Agrees_any start (low + (k : Int)) l A c _ (HM.out.ext HE.out) (by omega) HA.out x1 x2 (by omega) (by omega)).mono ?_
      rintro e w3 ⟨rfl, hE3⟩
      have HE3 := Lib.hid (HE.out.trans hE3)
      have HO3 := Lib.hid (ownsRow_of_block HO.out (fun g hg => hE3.block g (HO.out.lt g hg).2))
      have hz3 := hE3.size
      clear hE3
      cases hb : Sp.agrees start l (low + (k : Int))
      · have HN2 : Hid (Sp.speedsN start l low (k + 1) = L) := Lib.hid (HN.out.trans (by rw [hb]; simp))
        go_wp2_with fail
        refine ⟨⟨k + 1, by omega, by go_num, by rw [HN2.out]; exact HO3.out, HE3.out⟩, by simp [intOf]; omega⟩
      · have HN2 : Hid (Sp.speedsN start l low (k + 1) = L ++ [low + (k : Int)]) := Lib.hid (HN.out.trans (by rw [hb]; rfl))
        go_wp2_with (at_builtin; refine wpList_append_own_at _ rfl _ _ 64 rfl w.heap.size 3 i0 _ 1 8 Tryz.underlying64 hi0 hi1 hi2 hi3 rfl (by decide) _ L.length (intCells L) rfl (HO3.out.alloc (.cells #[.int .i64 (low + (k : Int))] 3)) ⟨w3.heap.size, 0, none⟩ 1 1 [.int .i64 (low + (k : Int))] rfl rfl (World.news_of_block (cs := #[.int .i64 (low + (k : Int))]) (t := 3) (fr := (0, 0)) (heap_alloc_new _ _)) (by simp [Value.oneCell']) (by simp only [maxLen]; omega) (by omega) (by simp; omega) ?_; intro v' w5 hown5 hgrow _ _; have HO5 := Lib.hid hown5; have HG5 := Lib.hid hgrow; clear hown5 hgrow)
        refine ⟨⟨k + 1, by omega, by go_num, ?_, (HE3.out.alloc _).grown HG5.out (fun q hq => (HO3.out.lt q hq).1)⟩, by simp [intOf]; omega⟩
        rw [HN2.out, List.length_append, intCells_snoc]
        exact HO5.out
    · obtain rfl : k = N := by omega
      have HO := Lib.hid hown
      have HE := Lib.hid hE
      clear hown hE
      go_wp2_with fail
      go_ret
      exact ⟨_, rfl, IntsVal.of_own HO.out, HE.out⟩
end Go.Proofs.YtlcddcnmoajpjaaGreatDoor
