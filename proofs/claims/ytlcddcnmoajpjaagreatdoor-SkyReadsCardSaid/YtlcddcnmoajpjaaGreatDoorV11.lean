/- Left1: The walks of layer 5: left: how many speeds come to each place (a map), sums of them (a slice), the most in a window.
Left2: The walks of layer 5: left.
Watch: The walks of layer 5: Watch. (Printed by wip/mkwatch.py.) -/
import Derived.Maps.OwnOps
import Derived.Maps.Views
import Derived.Test.YtlcddcnmoajpjaaGreatDoorV10
namespace Go.Proofs.YtlcddcnmoajpjaaGreatDoor
open Go.RowKit Go.Maps
open Sp (rd)

/-- Block B is a map of at most n entries that holds f p at each place p (0 where it holds nothing). -/
def Counts (w : World) (B n : Nat) (f : Int → Nat) : Prop :=
  ∃ D : DataW Unit, w.ownsMap Tryz.prog 3 (plainElem Tryz.prog 3) B n D ∧ IsMap D ∧ ∀ p : Int, D.atKey (.int .i64 p) (.lit (.int .i64 0)) = .lit (.int .i64 (f p))
theorem keyI : Keyed Tryz.prog 3 := int_keyed Tryz.underlying3
theorem zeroI (w : World) : (zeroValue 3).run Tryz.prog w = .ok (.int .i64 0) w := by kernel_rfl
theorem wfI {n : Int} (h : -9223372036854775808 ≤ n ∧ n ≤ 9223372036854775807) : (Lit.int .i64 n).wf = true := WalkArith.wf_i64 h
theorem Counts.look {w : World} {B n : Nat} {f : Int → Nat} (h : Counts w B n f) {p : Int} (hp : 0 ≤ p ∧ p < 21600) :
    (Instr.lookup 168 (.map (some B)) (.int .i64 p) false).run Tryz.prog w = .ok (.int .i64 (f p)) w := by
  obtain ⟨D, hown, _, hat⟩ := h
  obtain ⟨c, hrun, hc, _⟩ := hown.lookup_int keyI Tryz.underlying168 Tryz.underlying3 (zeroI w) (keyOf_int_mk Tryz.underlying3 (wfI (n := p) (by omega)))
  have e := (hat p).symm.trans hc
  have e2 : ((f p : Nat) : Int) = c := by
    simp only [DataW.lit.injEq, Lit.int.injEq, true_and] at e
    exact e
  rw [hrun, e2]
theorem put_counts {D : DataW Unit} (hD : IsMap D) {f : Int → Nat} (hat : ∀ p : Int, D.atKey (.int .i64 p) (.lit (.int .i64 0)) = .lit (.int .i64 (f p))) (p v : Int) (g : Int → Nat) (hp : (g p : Int) = v) (ho : ∀ q, q ≠ p → g q = f q) :
    IsMap (D.put (.int .i64 p) (.lit (.int .i64 v))) ∧ ∀ q : Int, (D.put (.int .i64 p) (.lit (.int .i64 v))).atKey (.int .i64 q) (.lit (.int .i64 0)) = .lit (.int .i64 (g q)) := by
  refine ⟨hD.put _ _, fun q => ?_⟩
  by_cases h : q = p
  · subst h
    rw [atKey_put_same hD (by first | exact .int _ _ | trivial | simp [WideAt.IsKeyLit]), hp]
  · rw [atKey_put_other (by intro e; injection e with _ e; exact h e), hat q, ho q h]

/-- Behind k speeds. -/
def LeftRel1 (w : World) (start day : Int) (l : List Int) (i : Value) (wr : World) : Prop :=
  ∃ k : Nat, k ≤ l.length ∧ i = .int .i64 k ∧ Counts wr w.heap.size k (cntP start (l.take k) day) ∧ Ext w wr
theorem take_snoc_rd (l : List Int) (k : Nat) (h : k < l.length) : l.take (k + 1) = l.take k ++ [rd l k] := by
  rw [List.take_succ_eq_append_getElem h]
  unfold rd
  rw [List.getD_eq_getElem?_getD, List.getElem?_eq_getElem h]
  rfl

/-- The sums that are laid so far. -/
def zeroCells : Array Value := madeCells (Value.cells (.int .i64 0)) 43201
def Sums (w : World) (B n : Nat) (f : Nat → Nat) : Prop :=
  ∃ cs : Array Value, Row w B 3 cs ∧ cs.size = 43201 ∧ (∀ j, j ≤ n → cs[j]? = some (.int .i64 (f j))) ∧ ∀ j, j < 43201 → ∃ v : Int, cs[j]? = some (.int .i64 v)
end Go.Proofs.YtlcddcnmoajpjaaGreatDoor

namespace Go.Proofs.YtlcddcnmoajpjaaGreatDoor
open Go.RowKit Go.Maps
open Sp (rd)

def LeftRel2 (w : World) (B : Nat) (start day : Int) (l : List Int) (i : Value) (wr : World) : Prop :=
  ∃ n : Nat, n ≤ 43200 ∧ i = .int .i64 n ∧ Counts wr w.heap.size l.length (cntP start l day) ∧ Sums wr B n (befN start l day) ∧ Ext w wr
def LeftRel3 (w : World) (B : Nat) (start day : Int) (l : List Int) (wide : Nat) (m i : Value) (wr : World) : Prop :=
  ∃ n : Nat, n ≤ 21600 ∧ i = .int .i64 n ∧ m = .int .i64 (mostN start l day wide n) ∧ Sums wr B 43200 (befN start l day) ∧ Ext w wr

theorem Counts.ext {w w1 : World} {B n : Nat} {f : Int → Nat} (h : Counts w B n f) (he : Ext w w1) : Counts w1 B n f := by
  obtain ⟨D, ⟨es, clock, hb, F, h1, h2⟩, hD, hat⟩ := h
  exact ⟨D, ⟨es, clock, (he.block _ (Array.getElem?_eq_some_iff.1 hb).1).trans hb, F, h1, h2⟩, hD, hat⟩
theorem Sums.ext {w w1 : World} {B n : Nat} {f : Nat → Nat} (h : Sums w B n f) (he : Ext w w1) : Sums w1 B n f := by
  obtain ⟨cs, hR, h1, h2, h3⟩ := h
  exact ⟨cs, hR.ext he, h1, h2, h3⟩
theorem Counts.far {w : World} {B n : Nat} {f : Int → Nat} (h : Counts w B n f) {p : Addr} (hp : B ≠ p.block) (u : Value) : Counts (w.setCell p u) B n f := by
  obtain ⟨D, ⟨es, clock, hb, F, h1, h2⟩, hD, hat⟩ := h
  exact ⟨D, ⟨es, clock, (Below.heap_setCell w p u B hp).trans hb, F, h1, h2⟩, hD, hat⟩
theorem zeroCells_at (j : Nat) (h : j < 43201) : zeroCells[j]? = some (.int .i64 0) := by
  unfold zeroCells madeCells
  simp [Value.cells, h, Nat.mod_one]
theorem zeroCells_size : zeroCells.size = 43201 := size_madeCells _ _
/-- How many sums there are. -/
def theN : Nat := 43201
theorem theN_eq : theN = 43201 := rfl
theorem make_zero (W : World) : (Instr.makeSlice 64 (.int .i64 43201) (.int .i64 43201)).run Tryz.prog W = .ok (.slice (some ⟨W.heap.size, 0, none⟩) theN theN) (W.alloc (.cells zeroCells 3)) := by
  obtain ⟨i0, hi0, hi1, hi2, hi3⟩ := info_parts info_int
  have := run_make (P := Tryz.prog) W 64 3 i0 (.int .i64 0) Tryz.underlying64 hi0 hi1 .i64 .i64 43201 43201 (by omega) (by omega) (by rw [hi3]; omega) (by omega)
  rw [hi2] at this
  exact this
set_option maxRecDepth 100000 in
set_option maxHeartbeats 1000000 in
theorem left_any (start day off : Int) (A : Option Addr) (c : Nat) (l : List Int) (w : World) (hm : Ints w A l) (hl : l.length ≤ 5001) (hv : ∀ v ∈ l, 0 ≤ v ∧ v ≤ 1000000)
    (s1 : 0 ≤ start) (s2 : start ≤ 21599) (d1 : 0 ≤ day) (d2 : day ≤ 20000) (o1 : 0 ≤ off) (o2 : off ≤ 10800) :
    Calls Tryz.prog 109 #[.int .i64 start, .slice A l.length c, .int .i64 day, .int .i64 off] w fun e w' => e = .returned (.int .i64 (Sp.left start l day off)) ∧ Ext w w' := by
  have hmm := @run_makeMap Tryz.prog
  have HM := Lib.hid hm
  have HV := Lib.hid hv
  clear hm hv
  go_enter Tryz.func109, Tryz.ntmps109
  go_wp2_with fail
  go_loopw [20] (fun i wr => LeftRel1 w start day l i wr) (fun i _ => l.length - (intOf i).toNat)
  case atStart => exact ⟨0, Nat.zero_le _, rfl, ⟨.map [], World.ownsMap_made _ _ _ _, isMap_empty, fun p => rfl⟩, (Ext.refl w).alloc _⟩
  case round =>
    obtain ⟨k, hk, rfl, hC, hE⟩ := hrel
    by_cases hlt : k < l.length
    · obtain ⟨b, o, rfl, hc⟩ := (HM.out.ext hE) (by omega)
      have c0 := hc k hlt
      obtain ⟨v1, v2⟩ := HV.out (rd l k) (by unfold rd; rw [List.getD_eq_getElem?_getD, List.getElem?_eq_getElem hlt]; exact List.getElem_mem hlt)
      have HT := Lib.hid (take_snoc_rd l k hlt)
      obtain ⟨v, hv⟩ : ∃ v, rd l k = v := ⟨_, rfl⟩
      rw [hv] at c0 v1 v2 HT
      have HC := Lib.hid hC
      have HE := Lib.hid hE
      clear hc hv hC hE
      go_wp2_with fail
      refine (reached_any start v day wr s1 s2 v1 v2 d1 d2).mono ?_
      rintro e w1 ⟨rfl, hE1⟩
      obtain ⟨D, hown, hD, hat⟩ := HC.out
      have hown1 : w1.ownsMap Tryz.prog 3 (plainElem Tryz.prog 3) w.heap.size k D := by
        obtain ⟨es, clock, hb, F, h1, h2⟩ := hown
        exact ⟨es, clock, (hE1.block _ (Array.getElem?_eq_some_iff.1 hb).1).trans hb, F, h1, h2⟩
      have hlook := Counts.look (p := Sp.at_ start v day) ⟨D, hown1, hD, hat⟩ (at_bounds start v day)
      have hcl := cntP_le start (l.take k) day (Sp.at_ start v day)
      have htl : (l.take k).length ≤ 5001 := by rw [List.length_take]; omega
      have hab := at_bounds start v day
      have HAT := Lib.hid hat
      have HD := Lib.hid hD
      have HE1 := Lib.hid (HE.out.trans hE1)
      obtain ⟨p, hp⟩ : ∃ p, Sp.at_ start v day = p := ⟨_, rfl⟩
      have HP := Lib.hid hp
      rw [hp] at hlook hcl hab ⊢
      obtain ⟨q, hq⟩ : ∃ q, cntP start (l.take k) day p = q := ⟨_, rfl⟩
      rw [hq] at hlook hcl
      have HQ := Lib.hid hq
      clear hown hat hD c0 hE1 hp hq
      go_wp2_with (at_mapUpdate; refine wpList_mapUpdate_own _ rfl _ _ _ 168 rfl 3 3 keyI Tryz.underlying168 _ w.heap.size k _ rfl hown1 (by unfold maxLen; omega) _ _ _ rfl rfl (keyOf_int_mk Tryz.underlying3 (wfI (n := p) (by omega))) _ [] (plainElem_int Tryz.underlying3 (wfI (by omega))) ?_; intro w2 hown2 hgrow2)
      go_roundw
      case rel =>
        refine ⟨k + 1, by omega, by go_num, ?_, HE1.out.grown hgrow2 (fun j hj => by cases hj; exact Nat.le_refl _)⟩
        obtain ⟨hD', hat'⟩ := put_counts HD.out HAT.out p ((q : Int) + 1) (cntP start (l.take (k + 1)) day) (by
          rw [HT.out, cntP_snoc, HP.out, if_pos rfl, HQ.out]; omega) (by
          intro r hr
          rw [HT.out, cntP_snoc, HP.out, if_neg (fun e => hr e.symm)]; omega)
        exact ⟨_, hown2, hD', hat'⟩
      case measure => simp [intOf]; omega
    · obtain rfl : k = l.length := by omega
      obtain ⟨wo, rfl⟩ : ∃ wo : World, wo = wr := ⟨_, rfl⟩
      rw [List.take_length] at hC
      have HC := Lib.hid hC
      have HE := Lib.hid hE
      have hz := hE.size
      have hBlt : w.heap.size < wo.heap.size := by obtain ⟨D, hown, _⟩ := hC; exact hown.lt
      have hmk : ∀ W : World, (Instr.makeSlice 64 (.int .i64 43201) (.int .i64 43201)).run Tryz.prog W = .ok (.slice (some ⟨W.heap.size, 0, none⟩) theN theN) (W.alloc (.cells zeroCells 3)) := make_zero
      have rZ := Row.new wo 3 zeroCells
      clear hC hE hlt
      go_wp2_with fail
      go_loopw [33] (fun i wr => LeftRel2 w wo.heap.size start day l i wr) (fun i _ => 43200 - (intOf i).toNat)
      case atStart =>
        refine ⟨0, Nat.zero_le _, rfl, HC.out.ext ((Ext.refl wo).alloc _), ⟨zeroCells, rZ, zeroCells_size, fun j hj => ?_, fun j hj => ⟨0, zeroCells_at j hj⟩⟩, HE.out.alloc _⟩
        obtain rfl : j = 0 := by omega
        exact zeroCells_at 0 (by omega)
      case round =>
        obtain ⟨n, hn, rfl, hC, ⟨cs, hR, hsz, hcs, hall⟩, hE⟩ := hrel
        by_cases hlt : n < 43200
        · have hR1 := hcs n (Nat.le_refl _)
          obtain ⟨old, hR2⟩ := hall (n + 1) (by omega)
          have hbl := befN_le start l day n
          have hb2 : n * l.length ≤ 43200 * 5001 := Nat.mul_le_mul (by omega) (by omega)
          have hcl := cntP_le start l day ((n % 21600 : Nat) : Int)
          obtain ⟨p, hp⟩ : ∃ p : Int, ((n % 21600 : Nat) : Int) = p := ⟨_, rfl⟩
          have hp1 : ((n : Int)).tmod 21600 = p := by rw [← hp, Int.tmod_eq_emod_of_nonneg (by omega)]; omega
          have hp2 : ((n : Int)) % 21600 = p := by rw [← hp]; omega
          have hp3 : 0 ≤ p ∧ p < 21600 := by omega
          have HSTEP : Hid (befN start l day (n + 1) = befN start l day n + cntP start l day p) := by rw [← hp]; exact rfl
          rw [hp] at hcl
          obtain ⟨x, hx⟩ : ∃ x, befN start l day n = x := ⟨_, rfl⟩
          obtain ⟨y, hy⟩ : ∃ y, cntP start l day p = y := ⟨_, rfl⟩
          rw [hx] at hR1 hbl HSTEP
          rw [hy] at hcl HSTEP
          have hlook : ∀ X : Later wr, (Instr.lookup 168 (.map (some w.heap.size)) (.int .i64 p) false).run Tryz.prog X.world = .ok (.int .i64 y) X.world := fun X => by
            rw [← hy]; exact (hC.ext X.ext).look hp3
          have HC2 := Lib.hid hC
          have HE2 := Lib.hid hE
          have HR := Lib.hid hR
          have HCS := Lib.hid hcs
          have HALL := Lib.hid hall
          have HX := Lib.hid hx
          have HR1 := Lib.hid hR1
          have HR2 := Lib.hid hR2
          have hsum : IntKind.i64.wrap ((x : Int) + (y : Int)) = (x : Int) + (y : Int) := IntWalk.i64_in _ (by omega)
          have hsum2 : IntKind.i64.wrap ((n : Int) + 1) = (n : Int) + 1 := IntWalk.i64_in _ (by omega)
          have i0 : (0 : Int) ≤ (n : Int) := by omega
          have i1 : (n : Int) < (theN : Int) := by have := theN_eq; omega
          have i2 : (n : Int) + 1 < (theN : Int) := by have := theN_eq; omega
          have i3 : (0 : Int) ≤ (n : Int) + 1 := by omega
          have i4 : ((n : Int) + 1).toNat = n + 1 := by omega
          have HSZ := Lib.hid hsz
          clear hcs hall hC hE hp hx hy hsz hb2 hbl hmk hR2 hR1 rZ
          have hlt' : (n : Int) < 43200 := by omega
          clear hlt hn
          go_wp2_with fail
          refine wp_region_later_tail 13 (by kernel_rfl) (by kernel_rfl) (fun WW hW => ?_)
          subst hW
          have q1 : ∀ X : Later WW, X.world.cell? ⟨wo.heap.size, n, none⟩ = some (.int .i64 x) := fun X => ((Row.ext HR.out X.ext).cell n).trans HR1.out
          simp only [List.take_succ_cons, List.take_zero, List.drop_succ_cons, List.drop_zero]
          repeat (go_big_quiet_step (fail))
          refine wpQuiet_nil ?_
          rintro ⟨W1, hE1⟩
          have rW := HR.out.ext hE1
          have cW : W1.cell? ⟨wo.heap.size, n + 1, none⟩ = some (.int .i64 old) := (rW.cell (n + 1)).trans HR2.out
          have fW := rW.free (n + 1)
          clear q1 hlook
          go_wp2_with fail
          have rW2 := rW.set_ (n + 1) (.int .i64 ((x : Int) + (y : Int)))
          refine ⟨⟨n + 1, by omega, rfl, (HC2.out.ext hE1).far (by simp; omega) _, ⟨_, rW2, by simp [HSZ.out], fun j hj => ?_, fun j hj => ?_⟩, (HE2.out.trans hE1).setCell (by simp; omega) _⟩, by simp [intOf]; omega⟩
          · rw [Array.getElem?_setIfInBounds]
            by_cases e : n + 1 = j
            · subst e
              rw [if_pos rfl, if_pos (by rw [HSZ.out]; omega), HSTEP.out]
              simp
            · rw [if_neg e]; exact HCS.out j (by omega)
          · rw [Array.getElem?_setIfInBounds]
            by_cases e : n + 1 = j
            · subst e
              rw [if_pos rfl, if_pos (by rw [HSZ.out]; omega)]; exact ⟨_, rfl⟩
            · rw [if_neg e]; exact HALL.out j hj
        · obtain rfl : n = 43200 := by omega
          have HS : Hid (Sums wr wo.heap.size 43200 (befN start l day)) := Lib.hid ⟨cs, hR, hsz, hcs, hall⟩
          have HE2 := Lib.hid hE
          clear hR hsz hcs hall hC hE hn hlt hmk rZ
          have hww : Hid (mostN start l day (wideOf off) 21600 = Sp.left start l day off) := mostN_left start l day off (by omega)
          rcases Int.lt_or_le (2 * off + 1) 21600 with hof | hof
          · obtain ⟨W, hW⟩ : ∃ W : Nat, (W : Int) = (2 * off + 1) := ⟨((2 * off + 1) : Int).toNat, by omega⟩
            have hW2 : W ≤ 21600 := by omega
            have hW3 : wideOf off = W := by unfold wideOf; omega
            have HW := Lib.hid (And.intro hW (And.intro hW2 hW3))
            clear hW hW2 hW3
            go_wp2_with fail
            go_loopw [15, 54] (fun m i wr => LeftRel3 w wo.heap.size start day l W m i wr) (fun _ i _ => 21600 - (intOf i).toNat)
            case atStart => exact ⟨0, Nat.zero_le _, rfl, rfl, HS.out, HE2.out⟩
            case round =>
              obtain ⟨n, hn, rfl, rfl, ⟨cs, hR, hsz, hcs, hall⟩, hE⟩ := hrel
              obtain ⟨hW, hW2, hW3⟩ := HW.out
              by_cases hlt : n < 21600
              · obtain ⟨q, hq⟩ : ∃ q, n + W = q := ⟨_, rfl⟩
                have hR1 := hcs n (by omega)
                have hR2 := hcs q (by omega)
                have hmono := befN_mono start l day n W
                rw [hq] at hmono
                have hbl := befN_le start l day q
                have hb2 : q * l.length ≤ 43200 * 5001 := Nat.mul_le_mul (by omega) (by omega)
                have HSTEP : Hid (mostN start l day W (n + 1) = max (mostN start l day W n) (befN start l day q - befN start l day n)) := by rw [← hq]; exact rfl
                have hml : mostN start l day W n ≤ 43200 * 5001 := maxN_le _ _ _ fun k hk => by
                  have := befN_le start l day (k + W)
                  have : (k + W) * l.length ≤ 43200 * 5001 := Nat.mul_le_mul (by omega) (by omega)
                  omega
                obtain ⟨m, hm⟩ : ∃ m, mostN start l day W n = m := ⟨_, rfl⟩
                obtain ⟨x, hx⟩ : ∃ x, befN start l day n = x := ⟨_, rfl⟩
                obtain ⟨y, hy⟩ : ∃ y, befN start l day q = y := ⟨_, rfl⟩
                rw [hx] at hR1 hmono HSTEP
                rw [hy] at hR2 hmono hbl HSTEP
                rw [hm] at HSTEP hml ⊢
                have HR1 := Lib.hid hR1
                have HR2 := Lib.hid hR2
                have HR := Lib.hid hR
                have HE3 := Lib.hid hE
                have HN : Hid (n < 21600 ∧ x ≤ y) := Lib.hid ⟨hlt, hmono⟩
                have HS3 : Hid (Sums wr wo.heap.size 43200 (befN start l day)) := Lib.hid ⟨cs, hR, hsz, hcs, hall⟩
                have hx9 : (0 : Int) ≤ (x : Int) := by omega
                have hy9 : (y : Int) ≤ 216043200 := by omega
                have hm9 : (m : Int) ≤ 216043200 := by omega
                have hsum : IntKind.i64.wrap ((y : Int) - (x : Int)) = (y : Int) - (x : Int) := IntWalk.i64_in _ (by omega)
                have hsum2 : IntKind.i64.wrap ((n : Int) + (2 * off + 1)) = (n : Int) + (2 * off + 1) := IntWalk.i64_in _ (by omega)
                have i0 : (0 : Int) ≤ (n : Int) := by omega
                have i1 : (n : Int) < (theN : Int) := by have := theN_eq; omega
                have i2 : (n : Int) + (2 * off + 1) < (theN : Int) := by have := theN_eq; omega
                have i3 : (0 : Int) ≤ (n : Int) + (2 * off + 1) := by omega
                have i4 : ((n : Int) + (2 * off + 1)).toNat = q := by omega
                have hlt' : (n : Int) < 21600 := by omega
                have hmx : (y : Int) - (x : Int) ≤ 216043200 ∧ 0 ≤ (y : Int) - (x : Int) := by omega
                clear hcs hall hE hx hy hm hsz hbl hb2 hml hR1 hR2 hR hlt hn hmono hW hW2 hW3 hq
                go_wp2_with fail
                refine wp_region_later (by kernel_rfl) (by kernel_rfl) (fun WW hW => ?_)
                subst hW
                have q1 : ∀ X : Later WW, X.world.cell? ⟨wo.heap.size, n, none⟩ = some (.int .i64 x) := fun X => ((Row.ext HR.out X.ext).cell n).trans HR1.out
                have q2 : ∀ X : Later WW, X.world.cell? ⟨wo.heap.size, q, none⟩ = some (.int .i64 y) := fun X => ((Row.ext HR.out X.ext).cell q).trans HR2.out
                repeat (go_big_quiet_step (fail))
                refine wpQuiet_nil ?_
                rintro ⟨W1, hE1⟩
                clear q1 q2 hsum hsum2
                have HE1 := Lib.hid hE1
                go_wp2_with fail
                go_roundw
                case rel =>
                  refine ⟨n + 1, by have := HN.out; omega, by go_num, ?_, HS3.out.ext HE1.out, HE3.out.trans HE1.out⟩
                  rw [HSTEP.out]
                  have := HN.out.2
                  refine congrArg (Value.int .i64) ?_
                  split <;> omega
                case measure => have := HN.out; simp [intOf]; omega
              · obtain rfl : n = 21600 := by omega
                have HE3 := Lib.hid hE
                clear hcs hall hE hR hsz hW hW2 hn hlt
                rw [← hW3, hww.out]
                clear hW3
                go_wp2_with fail
                go_ret
                exact ⟨rfl, HE3.out⟩
          · obtain ⟨W, hW⟩ : ∃ W : Nat, (W : Int) = 21600 := ⟨(21600 : Int).toNat, by omega⟩
            have hW2 : W ≤ 21600 := by omega
            have hW3 : wideOf off = W := by unfold wideOf; omega
            have HW := Lib.hid (And.intro hW (And.intro hW2 hW3))
            clear hW hW2 hW3
            have hof2 : ¬ (2 * off + 1 < 21600) := by omega
            have hof3 : (min (2 * off + 1) 21600) = 21600 := by omega
            clear hof
            go_wp2_with fail
            go_loopw [15, 54] (fun m i wr => LeftRel3 w wo.heap.size start day l W m i wr) (fun _ i _ => 21600 - (intOf i).toNat)
            case atStart => exact ⟨0, Nat.zero_le _, rfl, rfl, HS.out, HE2.out⟩
            case round =>
              obtain ⟨n, hn, rfl, rfl, ⟨cs, hR, hsz, hcs, hall⟩, hE⟩ := hrel
              obtain ⟨hW, hW2, hW3⟩ := HW.out
              by_cases hlt : n < 21600
              · obtain ⟨q, hq⟩ : ∃ q, n + W = q := ⟨_, rfl⟩
                have hR1 := hcs n (by omega)
                have hR2 := hcs q (by omega)
                have hmono := befN_mono start l day n W
                rw [hq] at hmono
                have hbl := befN_le start l day q
                have hb2 : q * l.length ≤ 43200 * 5001 := Nat.mul_le_mul (by omega) (by omega)
                have HSTEP : Hid (mostN start l day W (n + 1) = max (mostN start l day W n) (befN start l day q - befN start l day n)) := by rw [← hq]; exact rfl
                have hml : mostN start l day W n ≤ 43200 * 5001 := maxN_le _ _ _ fun k hk => by
                  have := befN_le start l day (k + W)
                  have : (k + W) * l.length ≤ 43200 * 5001 := Nat.mul_le_mul (by omega) (by omega)
                  omega
                obtain ⟨m, hm⟩ : ∃ m, mostN start l day W n = m := ⟨_, rfl⟩
                obtain ⟨x, hx⟩ : ∃ x, befN start l day n = x := ⟨_, rfl⟩
                obtain ⟨y, hy⟩ : ∃ y, befN start l day q = y := ⟨_, rfl⟩
                rw [hx] at hR1 hmono HSTEP
                rw [hy] at hR2 hmono hbl HSTEP
                rw [hm] at HSTEP hml ⊢
                have HR1 := Lib.hid hR1
                have HR2 := Lib.hid hR2
                have HR := Lib.hid hR
                have HE3 := Lib.hid hE
                have HN : Hid (n < 21600 ∧ x ≤ y) := Lib.hid ⟨hlt, hmono⟩
                have HS3 : Hid (Sums wr wo.heap.size 43200 (befN start l day)) := Lib.hid ⟨cs, hR, hsz, hcs, hall⟩
                have hx9 : (0 : Int) ≤ (x : Int) := by omega
                have hy9 : (y : Int) ≤ 216043200 := by omega
                have hm9 : (m : Int) ≤ 216043200 := by omega
                have hsum : IntKind.i64.wrap ((y : Int) - (x : Int)) = (y : Int) - (x : Int) := IntWalk.i64_in _ (by omega)
                have hsum2 : IntKind.i64.wrap ((n : Int) + 21600) = (n : Int) + 21600 := IntWalk.i64_in _ (by omega)
                have i0 : (0 : Int) ≤ (n : Int) := by omega
                have i1 : (n : Int) < (theN : Int) := by have := theN_eq; omega
                have i2 : (n : Int) + 21600 < (theN : Int) := by have := theN_eq; omega
                have i3 : (0 : Int) ≤ (n : Int) + 21600 := by omega
                have i4 : ((n : Int) + 21600).toNat = q := by omega
                have hlt' : (n : Int) < 21600 := by omega
                have hmx : (y : Int) - (x : Int) ≤ 216043200 ∧ 0 ≤ (y : Int) - (x : Int) := by omega
                clear hcs hall hE hx hy hm hsz hbl hb2 hml hR1 hR2 hR hlt hn hmono hW hW2 hW3 hq
                go_wp2_with fail
                refine wp_region_later (by kernel_rfl) (by kernel_rfl) (fun WW hW => ?_)
                subst hW
                have q1 : ∀ X : Later WW, X.world.cell? ⟨wo.heap.size, n, none⟩ = some (.int .i64 x) := fun X => ((Row.ext HR.out X.ext).cell n).trans HR1.out
                have q2 : ∀ X : Later WW, X.world.cell? ⟨wo.heap.size, q, none⟩ = some (.int .i64 y) := fun X => ((Row.ext HR.out X.ext).cell q).trans HR2.out
                repeat (go_big_quiet_step (fail))
                refine wpQuiet_nil ?_
                rintro ⟨W1, hE1⟩
                clear q1 q2 hsum hsum2
                have HE1 := Lib.hid hE1
                go_wp2_with fail
                go_roundw
                case rel =>
                  refine ⟨n + 1, by have := HN.out; omega, by go_num, ?_, HS3.out.ext HE1.out, HE3.out.trans HE1.out⟩
                  rw [HSTEP.out]
                  have := HN.out.2
                  refine congrArg (Value.int .i64) ?_
                  split <;> omega
                case measure => have := HN.out; simp [intOf]; omega
              · obtain rfl : n = 21600 := by omega
                have HE3 := Lib.hid hE
                clear hcs hall hE hR hsz hW hW2 hn hlt
                rw [← hW3, hww.out]
                clear hW3
                go_wp2_with fail
                go_ret
                exact ⟨rfl, HE3.out⟩
end Go.Proofs.YtlcddcnmoajpjaaGreatDoor

namespace Go.Proofs.YtlcddcnmoajpjaaGreatDoor
open Go.RowKit
open Sp (rd)

def watchArg (start : Int) (l : List Sp.Note) (low high : Int) (days : List Int) (off : Int) : Bool := notesArg start l low high && (Sp.daysOk days && Sp.isOff off)
theorem days_any' (l : List Int) : (l.any fun n => !Sp.isDay n) = !l.all Sp.isDay := by
  induction l with
  | nil => rfl
  | cons x l ih => simp [ih, Bool.not_and]

theorem watch2_any (start low high : Int) (A : Option Addr) (c : Nat) (l : List Sp.Note) (bS bN bL bH bO : Nat) (old : Value) (W : World) (hm : Notes W A l) (h : notesArg start l low high = true)
    (rS : Row W bS 3 #[.int .i64 start]) (rN : Row W bN 58 #[.slice A l.length c]) (rL : Row W bL 3 #[.int .i64 low]) (rH : Row W bH 3 #[.int .i64 high]) (rO : Row W bO 64 #[old]) :
    Calls Tryz.prog 108 #[.pointer (some ⟨bS, 0, none⟩), .pointer (some ⟨bN, 0, none⟩), .pointer (some ⟨bL, 0, none⟩), .pointer (some ⟨bH, 0, none⟩), .pointer (some ⟨bO, 0, none⟩)] W fun e w' =>
      (Sp.speedsL start l low high ≠ [] ∧ e = .returned (.tuple #[]) ∧ ∃ v W1, Ext W W1 ∧ W1.ownsRow W.heap.size 3 1 v (Sp.speedsL start l low high).length (intCells (Sp.speedsL start l low high)) ∧ w' = W1.setCell ⟨bO, 0, none⟩ v) ∨
      (Sp.speedsL start l low high = [] ∧ e = .panicked [{ v := .iface 152 (.agg #[.int .i64 5]), recovered := false }] ∧ Ext W w') := by
  have cS := rS.cell
  have cN := rN.cell
  have cL := rL.cell
  have cH := rH.cell
  go_enter Tryz.func108, Tryz.ntmps108
  go_wp2_with fail
  refine (agreeing_any start low high A c l W hm h).mono ?_
  rintro e W1 ⟨hE, ⟨hne, v, rfl, hown⟩ | ⟨he, rfl⟩⟩
  · have cO := (rO.ext hE).cell
    have fO := (rO.ext hE).free
    have HN := Lib.hid hne
    have HO := Lib.hid hown
    have HE := Lib.hid hE
    have hform := hown.2
    clear cS cN cL cH hne hown hE
    rcases hform with ⟨rfl, h0⟩ | ⟨g', cap, cur, rfl, _⟩
    · exact absurd (List.eq_nil_of_length_eq_zero h0) HN.out
    · obtain ⟨L, hL⟩ : ∃ L, Sp.speedsL start l low high = L := ⟨_, rfl⟩
      rw [hL] at HO HN ⊢
      have HLQ := Lib.hid hL
      clear hL
      go_wp2_with fail
      go_end0
      exact .inl ⟨by rw [HLQ.out]; exact HN.out, rfl, _, W1, HE.out, by rw [HLQ.out]; exact HO.out, rfl⟩
  · exact ⟨rfl, .inr ⟨he, rfl, hE⟩⟩

theorem Watch_err (start low high off : Int) (A B : Option Addr) (c c2 : Nat) (l : List Sp.Note) (days : List Int) (w : World) (hm : Notes w A l) (hd : Ints w B days) (hl : l.length ≤ 100000) (hl2 : days.length ≤ 100000) (h : watchArg start l low high days off = false) :
    Calls Tryz.prog 48 #[.int .i64 start, .slice A l.length c, .int .i64 low, .int .i64 high, .slice B days.length c2, .int .i64 off] w fun e w' => e = .returned (.tuple #[.int .i64 0, .int .i64 0, .int .i64 2]) ∧ Ext w w' := by
  have HM := Lib.hid hm
  have HD := Lib.hid hd
  clear hm hd
  cases h1 : notesArg start l low high
  · clear h
    go_enter Tryz.func48, Tryz.ntmps48
    go_wp2_with fail
    refine (areNotes_any start low high A c l _ (HM.out.ext ((((Ext.refl w).alloc _).alloc _).alloc _ |>.alloc _)) hl).mono ?_
    rintro e w1 ⟨rfl, hE1⟩
    rw [h1]
    obtain ⟨b1, b2, b3, b4⟩ := blocks4 w (.cells #[.int .i64 start] 3) (.cells #[.slice A l.length c] 58) (.cells #[.int .i64 low] 3) (.cells #[.int .i64 high] 3)
    have rS : Row w1 w.heap.size 3 _ := Row.ext b1 hE1
    have rN : Row w1 (w.heap.size + 1) 58 _ := Row.ext b2 hE1
    have rL : Row w1 (w.heap.size + 2) 3 _ := Row.ext b3 hE1
    have rH : Row w1 (w.heap.size + 3) 3 _ := Row.ext b4 hE1
    have hE := ((((Ext.refl w).alloc _).alloc _).alloc _ |>.alloc _).trans hE1
    clear hE1 b1 b2 b3 b4
    have HRS := Lib.hid rS
    have HRN := Lib.hid rN
    have HRL := Lib.hid rL
    have HRH := Lib.hid rH
    clear rS rN rL rH
    go_wp2_with fail
    go_ret3
    exact ⟨rfl, hE⟩
  cases h2 : Sp.inR days.length 1 6
  · clear h
    go_enter Tryz.func48, Tryz.ntmps48
    go_wp2_with fail
    refine (areNotes_any start low high A c l _ (HM.out.ext ((((Ext.refl w).alloc _).alloc _).alloc _ |>.alloc _)) hl).mono ?_
    rintro e w1 ⟨rfl, hE1⟩
    rw [h1]
    obtain ⟨b1, b2, b3, b4⟩ := blocks4 w (.cells #[.int .i64 start] 3) (.cells #[.slice A l.length c] 58) (.cells #[.int .i64 low] 3) (.cells #[.int .i64 high] 3)
    have rS : Row w1 w.heap.size 3 _ := Row.ext b1 hE1
    have rN : Row w1 (w.heap.size + 1) 58 _ := Row.ext b2 hE1
    have rL : Row w1 (w.heap.size + 2) 3 _ := Row.ext b3 hE1
    have rH : Row w1 (w.heap.size + 3) 3 _ := Row.ext b4 hE1
    have hE := ((((Ext.refl w).alloc _).alloc _).alloc _ |>.alloc _).trans hE1
    clear hE1 b1 b2 b3 b4
    have HRS := Lib.hid rS
    have HRN := Lib.hid rN
    have HRL := Lib.hid rL
    have HRH := Lib.hid rH
    clear rS rN rL rH
    go_wp2_with fail
    refine (in_any _ _ _ _).mono ?_
    rintro e w2 ⟨rfl, rfl⟩
    rw [h2]
    go_wp2_with fail
    go_ret3
    exact ⟨rfl, hE⟩
  cases h3 : days.all Sp.isDay
  · clear h
    go_enter Tryz.func48, Tryz.ntmps48
    go_wp2_with fail
    refine (areNotes_any start low high A c l _ (HM.out.ext ((((Ext.refl w).alloc _).alloc _).alloc _ |>.alloc _)) hl).mono ?_
    rintro e w1 ⟨rfl, hE1⟩
    rw [h1]
    obtain ⟨b1, b2, b3, b4⟩ := blocks4 w (.cells #[.int .i64 start] 3) (.cells #[.slice A l.length c] 58) (.cells #[.int .i64 low] 3) (.cells #[.int .i64 high] 3)
    have rS : Row w1 w.heap.size 3 _ := Row.ext b1 hE1
    have rN : Row w1 (w.heap.size + 1) 58 _ := Row.ext b2 hE1
    have rL : Row w1 (w.heap.size + 2) 3 _ := Row.ext b3 hE1
    have rH : Row w1 (w.heap.size + 3) 3 _ := Row.ext b4 hE1
    have hE := ((((Ext.refl w).alloc _).alloc _).alloc _ |>.alloc _).trans hE1
    clear hE1 b1 b2 b3 b4
    have HRS := Lib.hid rS
    have HRN := Lib.hid rN
    have HRL := Lib.hid rL
    have HRH := Lib.hid rH
    clear rS rN rL rH
    go_wp2_with fail
    refine (in_any _ _ _ _).mono ?_
    rintro e w2 ⟨rfl, rfl⟩
    rw [h2]
    go_wp2_with fail
    refine (contains_day B c2 days _ (HD.out.ext hE) hl2).mono ?_
    rintro e w2 ⟨rfl, hE2⟩
    rw [days_any', h3]
    replace hE := hE.trans hE2
    replace HRS := Lib.hid (HRS.out.ext hE2)
    replace HRN := Lib.hid (HRN.out.ext hE2)
    replace HRL := Lib.hid (HRL.out.ext hE2)
    replace HRH := Lib.hid (HRH.out.ext hE2)
    clear hE2
    go_wp2_with fail
    go_ret3
    exact ⟨rfl, hE⟩
  cases h4 : Sp.isOff off
  · clear h
    go_enter Tryz.func48, Tryz.ntmps48
    go_wp2_with fail
    refine (areNotes_any start low high A c l _ (HM.out.ext ((((Ext.refl w).alloc _).alloc _).alloc _ |>.alloc _)) hl).mono ?_
    rintro e w1 ⟨rfl, hE1⟩
    rw [h1]
    obtain ⟨b1, b2, b3, b4⟩ := blocks4 w (.cells #[.int .i64 start] 3) (.cells #[.slice A l.length c] 58) (.cells #[.int .i64 low] 3) (.cells #[.int .i64 high] 3)
    have rS : Row w1 w.heap.size 3 _ := Row.ext b1 hE1
    have rN : Row w1 (w.heap.size + 1) 58 _ := Row.ext b2 hE1
    have rL : Row w1 (w.heap.size + 2) 3 _ := Row.ext b3 hE1
    have rH : Row w1 (w.heap.size + 3) 3 _ := Row.ext b4 hE1
    have hE := ((((Ext.refl w).alloc _).alloc _).alloc _ |>.alloc _).trans hE1
    clear hE1 b1 b2 b3 b4
    have HRS := Lib.hid rS
    have HRN := Lib.hid rN
    have HRL := Lib.hid rL
    have HRH := Lib.hid rH
    clear rS rN rL rH
    go_wp2_with fail
    refine (in_any _ _ _ _).mono ?_
    rintro e w2 ⟨rfl, rfl⟩
    rw [h2]
    go_wp2_with fail
    refine (contains_day B c2 days _ (HD.out.ext hE) hl2).mono ?_
    rintro e w2 ⟨rfl, hE2⟩
    rw [days_any', h3]
    replace hE := hE.trans hE2
    replace HRS := Lib.hid (HRS.out.ext hE2)
    replace HRN := Lib.hid (HRN.out.ext hE2)
    replace HRL := Lib.hid (HRL.out.ext hE2)
    replace HRH := Lib.hid (HRH.out.ext hE2)
    clear hE2
    go_wp2_with fail
    refine (isOff_any _ _).mono ?_
    rintro e w3 ⟨rfl, rfl⟩
    rw [h4]
    go_wp2_with fail
    go_ret3
    exact ⟨rfl, hE⟩
  · simp [watchArg, Sp.daysOk, h1, h2, h3, h4] at h

theorem Watch_none (start low high off : Int) (A B : Option Addr) (c c2 : Nat) (l : List Sp.Note) (days : List Int) (w : World) (hm : Notes w A l) (hd : Ints w B days) (hl : l.length ≤ 100000) (hl2 : days.length ≤ 100000) (h : watchArg start l low high days off = true) (hn : Sp.speedsL start l low high = []) :
    Calls Tryz.prog 48 #[.int .i64 start, .slice A l.length c, .int .i64 low, .int .i64 high, .slice B days.length c2, .int .i64 off] w fun e w' => e = .returned (.tuple #[.int .i64 0, .int .i64 0, .int .i64 5]) ∧ Ext w w' := by
  simp only [watchArg, Sp.daysOk, Bool.and_eq_true] at h
  obtain ⟨h1, ⟨h2, h3⟩, h4⟩ := h
  have HM := Lib.hid hm
  have HD := Lib.hid hd
  have HH := Lib.hid h1
  have HNN := Lib.hid hn
  clear hm hd hn
  go_enter Tryz.func48, Tryz.ntmps48
  go_wp2_with fail
  refine (areNotes_any start low high A c l _ (HM.out.ext ((((Ext.refl w).alloc _).alloc _).alloc _ |>.alloc _)) hl).mono ?_
  rintro e w1 ⟨rfl, hE1⟩
  rw [h1]
  obtain ⟨b1, b2, b3, b4⟩ := blocks4 w (.cells #[.int .i64 start] 3) (.cells #[.slice A l.length c] 58) (.cells #[.int .i64 low] 3) (.cells #[.int .i64 high] 3)
  have rS : Row w1 w.heap.size 3 _ := Row.ext b1 hE1
  have rN : Row w1 (w.heap.size + 1) 58 _ := Row.ext b2 hE1
  have rL : Row w1 (w.heap.size + 2) 3 _ := Row.ext b3 hE1
  have rH : Row w1 (w.heap.size + 3) 3 _ := Row.ext b4 hE1
  have hE := ((((Ext.refl w).alloc _).alloc _).alloc _ |>.alloc _).trans hE1
  clear hE1 b1 b2 b3 b4
  have HRS := Lib.hid rS
  have HRN := Lib.hid rN
  have HRL := Lib.hid rL
  have HRH := Lib.hid rH
  clear rS rN rL rH
  go_wp2_with fail
  refine (in_any _ _ _ _).mono ?_
  rintro e w2 ⟨rfl, rfl⟩
  rw [h2]
  go_wp2_with fail
  refine (contains_day B c2 days _ (HD.out.ext hE) hl2).mono ?_
  rintro e w2 ⟨rfl, hE2⟩
  rw [days_any', h3]
  replace hE := hE.trans hE2
  replace HRS := Lib.hid (HRS.out.ext hE2)
  replace HRN := Lib.hid (HRN.out.ext hE2)
  replace HRL := Lib.hid (HRL.out.ext hE2)
  replace HRH := Lib.hid (HRH.out.ext hE2)
  clear hE2
  go_wp2_with fail
  refine (isOff_any _ _).mono ?_
  rintro e w3 ⟨rfl, rfl⟩
  rw [h4]
  have hmf : ∀ (fn : Fn) (first cap : Array Value) (w : World), (Instr.makeFunc fn first cap).run Tryz.prog w = .ok (.func fn first cap) w := fun _ _ _ _ => rfl
  have hE3 : Ext w2 ((w2.alloc (.cells #[.slice none 0 0] 64)).alloc (.cells #[.int .i64 0] 32)) := ((Ext.refl w2).alloc _).alloc _
  have rO : Row ((w2.alloc (.cells #[.slice none 0 0] 64)).alloc (.cells #[.int .i64 0] 32)) w2.heap.size 64 #[.slice none 0 0] := (blocks2 w2 _ _).1
  have rX : Row ((w2.alloc (.cells #[.slice none 0 0] 64)).alloc (.cells #[.int .i64 0] 32)) (w2.heap.size + 1) 32 #[.int .i64 0] := (blocks2 w2 _ _).2
  have hz := HRH.out.lt
  go_wp2_with fail
  refine (try_any 108 _ 5 _ (fun _ => False) (fun w' => Ext ((w2.alloc (.cells #[.slice none 0 0] 64)).alloc (.cells #[.int .i64 0] 32)) w') (enters_of Tryz.func108 (by kernel_rfl) rfl)
    ((watch2_any start low high A c l w.heap.size (w.heap.size + 1) (w.heap.size + 2) (w.heap.size + 3) w2.heap.size _ _ (HM.out.ext (hE.trans hE3)) HH.out (HRS.out.ext hE3) (HRN.out.ext hE3) (HRL.out.ext hE3) (HRH.out.ext hE3) rO).mono ?_)).mono ?_
  · rintro e w' (⟨h0, _⟩ | ⟨_, rfl, hEE⟩)
    · exact absurd HNN.out h0
    · exact ⟨by simpa using rX.ext hEE, .inr ⟨rfl, hEE⟩⟩
  · rintro e w' ⟨W2, ⟨h0, _⟩ | ⟨hEE, rfl, rfl⟩⟩
    · exact h0.elim
    · simp only [World.size_alloc]
      have hE4 : Ext w2 ((W2.setCell ⟨w2.heap.size + 1, 0, none⟩ (.int .i64 5)).alloc (.cells #[.int .i64 5] 152)) := ((hE3.trans hEE).setCell (by simp) _).alloc _
      have HE := Lib.hid (hE.trans hE4)
      clear hE3 rO rX hEE hE hE4
      go_wp2_with fail
      go_ret3
      exact ⟨rfl, HE.out⟩

def watchP (start : Int) (L days : List Int) (off : Int) (k : Nat) : Int × Int := ((k : Int), (Sp.left start L (rd days k) off : Int))
def watchC (start : Int) (L days : List Int) (off : Int) (n : Nat) : List Value := (List.range n).flatMap fun (k : Nat) => [.int .i64 (k : Int), .int .i64 (Sp.left start L (rd days k) off : Int)]
theorem watchC_succ (start : Int) (L days : List Int) (off : Int) (n : Nat) : watchC start L days off (n + 1) = watchC start L days off n ++ [.int .i64 (n : Int), .int .i64 (Sp.left start L (rd days n) off : Int)] := by
  simp [watchC, List.range_succ]
theorem watchC_length (start : Int) (L days : List Int) (off : Int) (n : Nat) : (watchC start L days off n).length = n * 2 := by
  induction n with
  | zero => rfl
  | succ n ih => rw [watchC_succ, List.length_append, ih]; simp; omega
theorem watchC_get (start : Int) (L days : List Int) (off : Int) (n k : Nat) (hk : k < n) : (watchC start L days off n)[k * 2]? = some (.int .i64 (k : Int)) ∧ (watchC start L days off n)[k * 2 + 1]? = some (.int .i64 (Sp.left start L (rd days k) off : Int)) := by
  induction n with
  | zero => omega
  | succ n ih =>
    rw [watchC_succ]
    have hlen := watchC_length start L days off n
    by_cases e : k = n
    · subst e
      constructor
      · rw [List.getElem?_append_right (by omega), hlen]; simp
      · rw [List.getElem?_append_right (by omega), hlen, show k * 2 + 1 - k * 2 = 1 by omega]; rfl
    · rw [List.getElem?_append_left (by omega), List.getElem?_append_left (by omega)]
      exact ih (by omega)
theorem watch_pairs {w : World} {base : Nat} {v : Value} {start : Int} {L days : List Int} {off : Int} {n : Nat} (h : w.ownsRow base 128 2 v n (watchC start L days off n)) :
    ∃ A c, v = .slice A n c ∧ Pairs w A n (watchP start L days off) := by
  rcases h.2 with ⟨rfl, h0⟩ | ⟨g, cap, cur, hv, _⟩
  · exact ⟨none, 0, by rw [h0], fun hh => by omega⟩
  · refine ⟨some ⟨g, 0, none⟩, cap, by rw [hv], fun _ => ⟨g, 0, rfl, fun k hk => ?_⟩⟩
    have hc := h.cells (g := g) (by rw [hv]; rfl)
    have h1 := hc _ _ (watchC_get start L days off n k hk).1
    have h2 := hc _ _ (watchC_get start L days off n k hk).2
    rw [add0] at h1 h2
    exact ⟨by simpa [watchP] using h1, by simpa [watchP] using h2⟩
theorem bestK_watch (start : Int) (L days : List Int) (off : Int) (k : Nat) : bestK (watchP start L days off) k = watchP start L days off (Sp.watchN start L days off k) := by
  induction k with
  | zero => rfl
  | succ k ih =>
    simp only [bestK, Sp.watchN, ih, watchP]
    by_cases h : Sp.left start L (rd days (k + 1)) off < Sp.left start L (rd days (Sp.watchN start L days off k)) off
    · rw [if_pos (by omega), if_pos h]
    · rw [if_neg (by omega), if_neg h]
theorem info_watch : (Tryz.prog.info? 128).map (fun i => (i.zero, i.size, i.bytes)) = some (some (.agg #[.int .i64 0, .int .i64 0]), 2, 16) := by kernel_rfl
/-- Between two rounds. -/
def WatchRel (W : World) (base : Nat) (start : Int) (L days : List Int) (off : Int) (v i : Value) (wr : World) : Prop :=
  ∃ k : Nat, k ≤ days.length ∧ i = .int .i64 k ∧ wr.ownsRow base 128 2 v k (watchC start L days off k) ∧ Ext W wr

set_option maxRecDepth 100000 in
set_option maxHeartbeats 1000000 in
theorem Watch_ok (start low high off : Int) (A B : Option Addr) (c c2 : Nat) (l : List Sp.Note) (days : List Int) (w : World) (hm : Notes w A l) (hd : Ints w B days) (hl : l.length ≤ 100000) (hl2 : days.length ≤ 100000) (h : watchArg start l low high days off = true) (hn : Sp.speedsL start l low high ≠ []) :
    Calls Tryz.prog 48 #[.int .i64 start, .slice A l.length c, .int .i64 low, .int .i64 high, .slice B days.length c2, .int .i64 off] w fun e w' => e = .returned (.tuple #[.int .i64 (Sp.watchI start (Sp.speedsL start l low high) days off : Int), .int .i64 (Sp.left start (Sp.speedsL start l low high) (rd days (Sp.watchI start (Sp.speedsL start l low high) days off)) off : Int), .int .i64 0]) ∧ Ext w w' := by
  simp only [watchArg, Sp.daysOk, Bool.and_eq_true] at h
  obtain ⟨h1, ⟨h2, h3⟩, h4⟩ := h
  have HM := Lib.hid hm
  have HD := Lib.hid hd
  have HH := Lib.hid h1
  have HNN := Lib.hid hn
  have HDY := Lib.hid h3
  clear hm hd hn
  go_enter Tryz.func48, Tryz.ntmps48
  go_wp2_with fail
  refine (areNotes_any start low high A c l _ (HM.out.ext ((((Ext.refl w).alloc _).alloc _).alloc _ |>.alloc _)) hl).mono ?_
  rintro e w1 ⟨rfl, hE1⟩
  rw [h1]
  obtain ⟨b1, b2, b3, b4⟩ := blocks4 w (.cells #[.int .i64 start] 3) (.cells #[.slice A l.length c] 58) (.cells #[.int .i64 low] 3) (.cells #[.int .i64 high] 3)
  have rS : Row w1 w.heap.size 3 _ := Row.ext b1 hE1
  have rN : Row w1 (w.heap.size + 1) 58 _ := Row.ext b2 hE1
  have rL : Row w1 (w.heap.size + 2) 3 _ := Row.ext b3 hE1
  have rH : Row w1 (w.heap.size + 3) 3 _ := Row.ext b4 hE1
  have hE := ((((Ext.refl w).alloc _).alloc _).alloc _ |>.alloc _).trans hE1
  clear hE1 b1 b2 b3 b4
  have HRS := Lib.hid rS
  have HRN := Lib.hid rN
  have HRL := Lib.hid rL
  have HRH := Lib.hid rH
  clear rS rN rL rH
  go_wp2_with fail
  refine (in_any _ _ _ _).mono ?_
  rintro e w2 ⟨rfl, rfl⟩
  rw [h2]
  go_wp2_with fail
  refine (contains_day B c2 days _ (HD.out.ext hE) hl2).mono ?_
  rintro e w2 ⟨rfl, hE2⟩
  rw [days_any', h3]
  replace hE := hE.trans hE2
  replace HRS := Lib.hid (HRS.out.ext hE2)
  replace HRN := Lib.hid (HRN.out.ext hE2)
  replace HRL := Lib.hid (HRL.out.ext hE2)
  replace HRH := Lib.hid (HRH.out.ext hE2)
  clear hE2
  go_wp2_with fail
  refine (isOff_any _ _).mono ?_
  rintro e w3 ⟨rfl, rfl⟩
  rw [h4]
  have hmf : ∀ (fn : Fn) (first cap : Array Value) (w : World), (Instr.makeFunc fn first cap).run Tryz.prog w = .ok (.func fn first cap) w := fun _ _ _ _ => rfl
  have hE3 : Ext w2 ((w2.alloc (.cells #[.slice none 0 0] 64)).alloc (.cells #[.int .i64 0] 32)) := ((Ext.refl w2).alloc _).alloc _
  have rO : Row ((w2.alloc (.cells #[.slice none 0 0] 64)).alloc (.cells #[.int .i64 0] 32)) w2.heap.size 64 #[.slice none 0 0] := (blocks2 w2 _ _).1
  have rX : Row ((w2.alloc (.cells #[.slice none 0 0] 64)).alloc (.cells #[.int .i64 0] 32)) (w2.heap.size + 1) 32 #[.int .i64 0] := (blocks2 w2 _ _).2
  have hz := HRH.out.lt
  go_wp2_with fail
  refine (try_any 108 _ 5 _ (fun w' => ∃ v W1, Ext ((w2.alloc (.cells #[.slice none 0 0] 64)).alloc (.cells #[.int .i64 0] 32)) W1 ∧ W1.ownsRow (w2.heap.size + 2) 3 1 v (Sp.speedsL start l low high).length (intCells (Sp.speedsL start l low high)) ∧ w' = W1.setCell ⟨w2.heap.size, 0, none⟩ v) (fun _ => False) (enters_of Tryz.func108 (by kernel_rfl) rfl)
    ((watch2_any start low high A c l w.heap.size (w.heap.size + 1) (w.heap.size + 2) (w.heap.size + 3) w2.heap.size _ _ (HM.out.ext (hE.trans hE3)) HH.out (HRS.out.ext hE3) (HRN.out.ext hE3) (HRL.out.ext hE3) (HRH.out.ext hE3) rO).mono ?_)).mono ?_
  · rintro e w' (⟨_, rfl, v, W1, hEE, hown, rfl⟩ | ⟨h0, _⟩)
    · refine ⟨?_, .inl ⟨rfl, v, W1, hEE, by simpa using hown, rfl⟩⟩
      simpa using (rX.ext hEE).far (p := ⟨w2.heap.size, 0, none⟩) (by simp) _
    · exact absurd h0 HNN.out
  · rintro e w' ⟨W2, ⟨⟨v, W1, hEE, hown, rfl⟩, rfl, rfl⟩ | ⟨h0, _⟩⟩
    · simp only [World.size_alloc]
      have hEW := hE3.trans hEE
      have hown2 := ownsRow_setCell_below (ownsRow_setCell_below hown (a := ⟨w2.heap.size, 0, none⟩) (by simp) v) (a := ⟨w2.heap.size + 1, 0, none⟩) (by simp) (.int .i64 0)
      have rO2 : Row ((W1.setCell ⟨w2.heap.size, 0, none⟩ v).setCell ⟨w2.heap.size + 1, 0, none⟩ (.int .i64 0)) w2.heap.size 64 #[v] := by
        simpa using ((rO.ext hEE).set_ 0 v).far (p := ⟨w2.heap.size + 1, 0, none⟩) (by simp) (.int .i64 0)
      have hE4 : Ext w2 ((W1.setCell ⟨w2.heap.size, 0, none⟩ v).setCell ⟨w2.heap.size + 1, 0, none⟩ (.int .i64 0)) := (hEW.setCell (by simp) _).setCell (by simp) _
      have rS2 : Row _ w.heap.size 3 #[.int .i64 start] := HRS.out.ext hE4
      have hlen := speedsL_length start l low high
      have hnv := HH.out
      simp only [notesArg, Sp.spot, Bool.and_eq_true, decide_eq_true_eq] at hnv
      obtain ⟨n1, n2, n3, n4, _⟩ := hnv
      obtain ⟨x1, x2⟩ := inR_iff.1 n1
      obtain ⟨x3, x4⟩ := inR_iff.1 n2
      obtain ⟨x5, x6⟩ := inR_iff.1 n3
      obtain ⟨y1, y2⟩ := inR_iff.1 h2
      obtain ⟨z1, z2⟩ := inR_iff.1 (show Sp.inR off 0 10800 = true from h4)
      obtain ⟨A2, cc, rfl, hI⟩ := IntsVal.of_own hown2
      have hmem : ∀ v ∈ Sp.speedsL start l low high, 0 ≤ v ∧ v ≤ 1000000 := fun v hv => by
        have := (speedsL_mem start l low high v).1 hv; omega
      obtain ⟨L, hL⟩ : ∃ L, Sp.speedsL start l low high = L := ⟨_, rfl⟩
      rw [hL] at hI rO2 rS2 hE4 hlen hmem ⊢
      have HLQ := Lib.hid hL
      have hL5 : L.length ≤ 5001 := by omega
      generalize (W1.setCell ⟨w2.heap.size, 0, none⟩ (.slice A2 L.length cc)).setCell ⟨w2.heap.size + 1, 0, none⟩ (.int .i64 0) = W at *
      have HE := Lib.hid (hE.trans hE4)
      have HI := Lib.hid hI
      have HO := Lib.hid rO2
      have HS := Lib.hid rS2
      have HMEM := Lib.hid hmem
      have z3 := HO.out.lt
      clear hE3 rO rX hEE hE hE4 hEW hown hown2 rO2 rS2 hI n1 n2 n3 n4 hlen hL hmem h1 h2 h3 h4
      obtain ⟨i0, hi0, hz0, hz1, hz2⟩ := info_parts info_watch
      go_wp2_with fail
      go_loopw [17, 49] (fun v i wr => WatchRel W W.heap.size start L days off v i wr) (fun _ i _ => days.length - (intOf i).toNat)
      case atStart => exact ⟨0, Nat.zero_le _, rfl, World.ownsRow_nil _ _ _ _, Ext.refl _⟩
      case round =>
        obtain ⟨k, hk, rfl, hown, hX⟩ := hrel
        have hsz := hX.size
        by_cases hlt : k < days.length
        · obtain ⟨b, o, rfl, hc⟩ := (HD.out.ext (HE.out.trans hX)) (by omega)
          have c0 := hc k hlt
          have hday : Sp.isDay (rd days k) = true := by
            have := HDY.out
            rw [List.all_eq_true] at this
            have hm := this (days[k]) (List.getElem_mem hlt)
            unfold rd
            rw [List.getD_eq_getElem?_getD, List.getElem?_eq_getElem hlt]
            exact hm
          obtain ⟨d1, d2⟩ := inR_iff.1 (show Sp.inR (rd days k) 0 20000 = true from hday)
          have HSUCC := Lib.hid (watchC_succ start L days off k)
          have hll := left_le start L (rd days k) off
          obtain ⟨d, hd⟩ : ∃ d, rd days k = d := ⟨_, rfl⟩
          rw [hd] at c0 d1 d2 HSUCC hll
          have sC := (HS.out.ext hX).cell 0
          have oC := (HO.out.ext hX).cell 0
          simp only [List.getElem?_toArray, List.getElem?_cons_zero] at sC oC
          have HX := Lib.hid hX
          have HOW := Lib.hid hown
          have hlt' : (k : Int) < (days.length : Int) := by omega
          clear hc hday hd hX hown
          go_wp2_with fail
          refine (left_any start d off A2 cc L _ (HI.out.ext HX.out) hL5 HMEM.out x1 x2 d1 d2 z1 z2).mono ?_
          rintro e w3 ⟨rfl, hE3⟩
          have hown3 := ownsRow_of_block HOW.out (fun q hq' => hE3.block q (HOW.out.lt q hq').2)
          have HX3 := Lib.hid (HX.out.trans hE3)
          have hsz3 := hE3.size
          obtain ⟨q, hq⟩ : ∃ q, Sp.left start L d off = q := ⟨_, rfl⟩
          rw [hq] at HSUCC hll ⊢
          clear c0 sC oC hE3 hq
          go_wp2_with (at_builtin; refine wpList_append_own_at _ rfl _ _ 125 rfl W.heap.size 128 i0 _ 2 16 Tryz.underlying125 hi0 hz0 hz1 hz2 rfl (by decide) _ k (watchC start L days off k) rfl (hown3.alloc (.cells #[.int .i64 (k : Int), .int .i64 (q : Int)] 128)) ⟨w3.heap.size, 0, none⟩ 1 1 [.int .i64 (k : Int), .int .i64 (q : Int)] rfl rfl (World.news_of_block (cs := #[.int .i64 (k : Int), .int .i64 (q : Int)]) (t := 128) (fr := (0, 0)) (heap_alloc_new _ _)) (by simp [Value.oneCell']) (by simp only [maxLen]; omega) (by omega) (by simp; omega) ?_; intro v' w4 hown5 hgrow _ _; have HO5 := Lib.hid hown5; have HG5 := Lib.hid hgrow; clear hown5 hgrow)
          go_roundw
          case measure => simp [intOf]; omega
          case rel =>
            refine ⟨k + 1, by omega, by go_num, ?_, (HX3.out.alloc _).grown HG5.out (fun q hq' => (hown3.lt q hq').1)⟩
            rw [HSUCC.out]
            simpa using HO5.out
        · obtain rfl : k = days.length := by omega
          obtain ⟨A3, c3, rfl, hp⟩ := watch_pairs hown
          have HX := Lib.hid hX
          have HP := Lib.hid hp
          clear hX hp hown
          go_wp2_with fail
          refine (best_watch A3 c3 _ _ _ (by omega) (by omega) HP.out).mono ?_
          rintro e w3 ⟨rfl, hE3⟩
          rw [bestK_watch]
          simp only [pairC, watchP]
          have HI2 : Hid (Sp.watchI start L days off = Sp.watchN start L days off (days.length - 1)) := rfl
          have HX3 := Lib.hid (HX.out.trans hE3)
          obtain ⟨n, hn⟩ : ∃ n, Sp.watchN start L days off (days.length - 1) = n := ⟨_, rfl⟩
          rw [hn] at HI2 ⊢
          have HN := Lib.hid hn
          clear hn hE3
          go_wp2_with fail
          have cN := (Row.new w3 128 #[.int .i64 (n : Int), .int .i64 (Sp.left start L (rd days n) off : Int)]).cell
          go_quiet (fail)
          go_wp2_with fail
          go_ret3
          refine ⟨?_, HE.out.trans ((HX3.out.alloc _).drewN _)⟩
          rw [HLQ.out, HI2.out]
          rfl
    · exact h0.elim
end Go.Proofs.YtlcddcnmoajpjaaGreatDoor
