/- RefA: The walks of the document's answer (reference of layer 5), part 1: ranges, quotients, what is as defined.
RefB: The walks of the document's answer, part 2: means, ways, places, the node, what one body is ahead of another, moons.
RefC: The walks of the document's answer, part 3: what one body is ahead of another one, moons, how far the moon is from the node.
RefMoons: The walk of the reference's Moons. (Printed by wip/mkrmoons.py.) -/
import Derived.Test.YtlcddcnmoajpjaaGreatDoorV02
import Derived.Test.YtlcddcnmoajpjaaGreatDoorV07
namespace Go.Proofs.YtlcddcnmoajpjaaGreatDoor
open Go.RowKit
open Sp (rd)

theorem r_in_any (x lo hi : Int) (w : World) : Calls Tryz.prog 89 #[.int .i64 x, .int .i64 lo, .int .i64 hi] w fun e w' => e = .returned (.bool (Sp.inR x lo hi)) ∧ w = w' := by
  go_enter Tryz.func89, Tryz.ntmps89
  go_wp2
  all_goals
    go_ret
    exact ⟨ret_bool (by simp [Sp.inR, *] <;> omega), rfl⟩
theorem r_Spot_any (n : Int) (w : World) : Calls Tryz.prog 39 #[.int .i64 n] w fun e w' => e = .returned (.bool (Sp.spot n)) ∧ w = w' := by
  go_enter Tryz.func39, Tryz.ntmps39
  go_wp2_with (go_at_call 89; refine (r_in_any _ _ _ _).mono ?_; rintro e w' ⟨rfl, rfl⟩)
  go_ret
  exact ⟨rfl, rfl⟩
theorem r_Day_any (n : Int) (w : World) : Calls Tryz.prog 55 #[.int .i64 n] w fun e w' => e = .returned (.bool (Sp.isDay n)) ∧ w = w' := by
  go_enter Tryz.func55, Tryz.ntmps55
  go_wp2_with (go_at_call 89; refine (r_in_any _ _ _ _).mono ?_; rintro e w' ⟨rfl, rfl⟩)
  go_ret
  exact ⟨rfl, rfl⟩
theorem r_Limit_any (n : Int) (w : World) : Calls Tryz.prog 34 #[.int .i64 n] w fun e w' => e = .returned (.bool (Sp.isLimit n)) ∧ w = w' := by
  go_enter Tryz.func34, Tryz.ntmps34
  go_wp2_with (go_at_call 89; refine (r_in_any _ _ _ _).mono ?_; rintro e w' ⟨rfl, rfl⟩)
  go_ret
  exact ⟨rfl, rfl⟩
theorem r_Off_any (n : Int) (w : World) : Calls Tryz.prog 50 #[.int .i64 n] w fun e w' => e = .returned (.bool (Sp.isOff n)) ∧ w = w' := by
  go_enter Tryz.func50, Tryz.ntmps50
  go_wp2_with (go_at_call 89; refine (r_in_any _ _ _ _).mono ?_; rintro e w' ⟨rfl, rfl⟩)
  go_ret
  exact ⟨rfl, rfl⟩
theorem r_Months_any (n : Int) (w : World) : Calls Tryz.prog 72 #[.int .i64 n] w fun e w' => e = .returned (.bool (Sp.areMonths n)) ∧ w = w' := by
  go_enter Tryz.func72, Tryz.ntmps72
  go_wp2_with (go_at_call 89; refine (r_in_any _ _ _ _).mono ?_; rintro e w' ⟨rfl, rfl⟩)
  go_ret
  exact ⟨rfl, rfl⟩
theorem r_Body_any (s : Sp.Sky) (A : Option Addr) (c : Nat) (x y z i : Int) (w : World) (hl : s.bodies.length ≤ 1000000) :
    Calls Tryz.prog 54 #[.agg #[.slice A s.bodies.length c, .int .i64 x, .int .i64 y, .int .i64 z], .int .i64 i] w fun e w' => e = .returned (.bool (Sp.isBody s i)) ∧ Ext w w' := by
  go_enter Tryz.func54, Tryz.ntmps54
  go_wp2_with (go_at_call 89; refine (r_in_any _ _ _ _).mono ?_; rintro e w' ⟨rfl, rfl⟩)
  go_ret
  exact ⟨rfl, (Ext.refl _).alloc _⟩
theorem r_period_any (num den : Int) (w : World) : Calls Tryz.prog 88 #[.agg #[.int .i64 num, .int .i64 den]] w fun e w' => e = .returned (.bool (Sp.period num den)) ∧ Ext w w' := by
  by_cases hn : 1 ≤ num ∧ num ≤ 10000
  · obtain ⟨n1, n2⟩ := hn
    have hn' : Sp.inR num 1 10000 = true := inR_iff.2 ⟨n1, n2⟩
    by_cases hd : 1 ≤ den ∧ den ≤ 10000
    · obtain ⟨d1, d2⟩ := hd
      have hd' : Sp.inR den 1 10000 = true := inR_iff.2 ⟨d1, d2⟩
      go_enter Tryz.func88, Tryz.ntmps88
      go_wp2_with (go_at_call 89; refine (r_in_any _ _ _ _).mono ?_; rintro e w' ⟨rfl, rfl⟩)
      all_goals
        go_ret
        exact ⟨ret_bool (by simp_all [Sp.period]), (Ext.refl _).alloc _⟩
    · have hd' : Sp.inR den 1 10000 = false := inR_no.2 hd
      clear hd
      go_enter Tryz.func88, Tryz.ntmps88
      go_wp2_with (go_at_call 89; refine (r_in_any _ _ _ _).mono ?_; rintro e w' ⟨rfl, rfl⟩)
      all_goals
        go_ret
        exact ⟨ret_bool (by simp_all [Sp.period]), (Ext.refl _).alloc _⟩
  · have hn' : Sp.inR num 1 10000 = false := inR_no.2 hn
    clear hn
    go_enter Tryz.func88, Tryz.ntmps88
    go_wp2_with (go_at_call 89; refine (r_in_any _ _ _ _).mono ?_; rintro e w' ⟨rfl, rfl⟩)
    all_goals
      go_ret
      exact ⟨ret_bool (by simp_all [Sp.period]), (Ext.refl _).alloc _⟩
theorem r_Span_any (lo hi : Int) (w : World) : Calls Tryz.prog 28 #[.int .i64 lo, .int .i64 hi] w fun e w' => e = .returned (.bool (Sp.isSpan lo hi)) ∧ w = w' := by
  by_cases h1 : 1 ≤ lo ∧ lo ≤ 20000
  · obtain ⟨d1, d2⟩ := h1
    have h1' : Sp.inR lo 1 20000 = true := inR_iff.2 ⟨d1, d2⟩
    by_cases h2 : lo ≤ hi ∧ hi ≤ 20000
    · obtain ⟨d3, d4⟩ := h2
      have h2' : Sp.inR hi lo 20000 = true := inR_iff.2 ⟨d3, d4⟩
      go_enter Tryz.func28, Tryz.ntmps28
      go_wp2_with (go_at_call 89; refine (r_in_any _ _ _ _).mono ?_; rintro e w' ⟨rfl, rfl⟩)
      all_goals
        go_ret
        exact ⟨ret_bool (by simp_all [Sp.isSpan]), rfl⟩
    · have h2' : Sp.inR hi lo 20000 = false := inR_no.2 h2
      clear h2
      go_enter Tryz.func28, Tryz.ntmps28
      go_wp2_with (go_at_call 89; refine (r_in_any _ _ _ _).mono ?_; rintro e w' ⟨rfl, rfl⟩)
      all_goals
        go_ret
        exact ⟨ret_bool (by simp_all [Sp.isSpan]), rfl⟩
  · have h1' : Sp.inR lo 1 20000 = false := inR_no.2 h1
    clear h1
    go_enter Tryz.func28, Tryz.ntmps28
    go_wp2_with (go_at_call 89; refine (r_in_any _ _ _ _).mono ?_; rintro e w' ⟨rfl, rfl⟩)
    all_goals
      go_ret
      exact ⟨ret_bool (by simp_all [Sp.isSpan]), rfl⟩
theorem r_Range_any (lo hi : Int) (w : World) : Calls Tryz.prog 45 #[.int .i64 lo, .int .i64 hi] w fun e w' => e = .returned (.bool (Sp.rangeOk lo hi)) ∧ w = w' := by
  by_cases h1 : 0 ≤ lo ∧ lo ≤ 1000000
  · obtain ⟨d1, d2⟩ := h1
    have h1' : Sp.inR lo 0 1000000 = true := inR_iff.2 ⟨d1, d2⟩
    by_cases h2 : lo ≤ hi ∧ hi ≤ 1000000
    · obtain ⟨d3, d4⟩ := h2
      have h2' : Sp.inR hi lo 1000000 = true := inR_iff.2 ⟨d3, d4⟩
      go_enter Tryz.func45, Tryz.ntmps45
      go_wp2_with (go_at_call 89; refine (r_in_any _ _ _ _).mono ?_; rintro e w' ⟨rfl, rfl⟩)
      all_goals
        go_ret
        exact ⟨ret_bool (by simp_all [Sp.rangeOk]), rfl⟩
    · have h2' : Sp.inR hi lo 1000000 = false := inR_no.2 h2
      clear h2
      go_enter Tryz.func45, Tryz.ntmps45
      go_wp2_with (go_at_call 89; refine (r_in_any _ _ _ _).mono ?_; rintro e w' ⟨rfl, rfl⟩)
      all_goals
        go_ret
        exact ⟨ret_bool (by simp_all [Sp.rangeOk]), rfl⟩
  · have h1' : Sp.inR lo 0 1000000 = false := inR_no.2 h1
    clear h1
    go_enter Tryz.func45, Tryz.ntmps45
    go_wp2_with (go_at_call 89; refine (r_in_any _ _ _ _).mono ?_; rintro e w' ⟨rfl, rfl⟩)
    all_goals
      go_ret
      exact ⟨ret_bool (by simp_all [Sp.rangeOk]), rfl⟩

/-- The quotient is rounded down. -/
theorem r_down_any (a b : Int) (w : World) (hb : 1 ≤ b) (h1 : -4000000000000000000 ≤ a) (h2 : a ≤ 4000000000000000000) (h3 : b ≤ 4000000000000000000) :
    Calls Tryz.prog 118 #[.int .i64 a, .int .i64 b] w fun e w' => e = .returned (.int .i64 (a / b)) ∧ w = w' := by
  have hm := emod_bounds a b hb
  have hd := Int.mul_ediv_add_emod a b
  by_cases h0 : 0 ≤ a
  · have hq : a.tdiv b = a / b := Int.tdiv_eq_ediv_of_nonneg h0
    have q0 : 0 ≤ a / b := Int.ediv_nonneg h0 (by omega)
    have q1 : a / b ≤ a := Int.ediv_le_self b h0
    rw [Int.mul_comm] at hd
    go_enter Tryz.func118, Tryz.ntmps118
    go_wp2
    go_ret
    exact ⟨rfl, rfl⟩
  · have hm2 := tmod_bounds a b hb (by omega)
    have hq := tdiv_bounds a b hb (by omega)
    have h5 := Int.mul_tdiv_add_tmod a b
    rw [Int.mul_comm] at h5
    by_cases hr : a.tmod b < 0
    · have F := Lib.hid (tdiv_neg a b hb (by omega) hr)
      go_enter Tryz.func118, Tryz.ntmps118
      go_wp2
      go_ret
      exact ⟨ret_int F.out.1, rfl⟩
    · have F := Lib.hid (tdiv_zero a b hb (by omega) (by omega))
      go_enter Tryz.func118, Tryz.ntmps118
      go_wp2
      go_ret
      exact ⟨ret_int F.out.1, rfl⟩
theorem r_Less_any (a : Int) (w : World) (h1 : -4000000000000000000 ≤ a) (h2 : a ≤ 4000000000000000000) : Calls Tryz.prog 58 #[.int .i64 a] w fun e w' => e = .returned (.int .i64 (a % 21600)) ∧ w = w' := by
  go_enter Tryz.func58, Tryz.ntmps58
  go_wp2_with (go_at_call 118; refine (r_down_any _ _ _ (by omega) (by omega) (by omega) (by omega)).mono ?_; rintro e w' ⟨rfl, rfl⟩)
  go_ret
  exact ⟨ret_int (by omega), rfl⟩
theorem r_passed_any (a b : Int) (w : World) (h1 : -4000000000000000000 ≤ a) (h2 : a ≤ 4000000000000000000) (h3 : -4000000000000000000 ≤ b) (h4 : b ≤ 4000000000000000000) : Calls Tryz.prog 130 #[.int .i64 a, .int .i64 b] w fun e w' => e = .returned (.bool (Sp.passes a b)) ∧ w = w' := by
  go_enter Tryz.func130, Tryz.ntmps130
  go_wp2_with (go_at_call 118; refine (r_down_any _ _ _ (by omega) (by omega) (by omega) (by omega)).mono ?_; rintro e w' ⟨rfl, rfl⟩)
  go_ret
  exact ⟨ret_bool (by simp [Sp.passes]), rfl⟩
theorem r_Apart_any (a b : Int) (w : World) (h1 : -1000000000000000000 ≤ a) (h2 : a ≤ 1000000000000000000) (h3 : -1000000000000000000 ≤ b) (h4 : b ≤ 1000000000000000000) : Calls Tryz.prog 40 #[.int .i64 a, .int .i64 b] w fun e w' => e = .returned (.int .i64 (Sp.apart a b)) ∧ w = w' := by
  have hm := emod_bounds (a - b) 21600 (by omega)
  go_enter Tryz.func40, Tryz.ntmps40
  go_wp2_with (go_at_call 58; refine (r_Less_any _ _ (by omega) (by omega)).mono ?_; rintro e w' ⟨rfl, rfl⟩)
  all_goals
    go_ret
    exact ⟨ret_int (by unfold Sp.apart Sp.round; omega), rfl⟩
end Go.Proofs.YtlcddcnmoajpjaaGreatDoor

namespace Go.Proofs.YtlcddcnmoajpjaaGreatDoor
open Go.RowKit
open Sp (rd)

theorem r_mean_any (B : Sp.Body) (A : Option Addr) (n c : Nat) (day : Int) (w : World) (h1 : 0 ≤ day) (h2 : day ≤ 20000) (hk : BodyOk B) :
    Calls Tryz.prog 139 #[.agg #[.int .i64 B.num, .int .i64 B.den, .int .i64 B.start, .slice A n c], .int .i64 day] w fun e w' => e = .returned (.int .i64 (Sp.mean B day)) ∧ Ext w w' := by
  have hg := gone_bounds h1 h2 hk.num1 hk.den1 hk.four
  obtain ⟨k1, k2, k3, k4, k5, k6, k7, _, _, _⟩ := hk
  have k0 : 0 ≤ day * 21600 * B.den := Int.mul_nonneg (by omega) (by omega)
  have k9 : day * 21600 * B.den ≤ 432000000 * 10000 := Int.mul_le_mul (by omega) (by omega) (by omega) (by omega)
  have hq : (day * 21600 * B.den).tdiv B.num = Sp.gone B.num B.den day := Int.tdiv_eq_ediv_of_nonneg k0
  go_enter Tryz.func139, Tryz.ntmps139
  go_wp2_with fail
  go_quiet (fail)
  go_wp2_with fail
  go_ret
  exact ⟨rfl, ((Ext.refl _).alloc _).drewN _⟩
theorem r_Mean_any (B : Sp.Body) (A : Option Addr) (n c : Nat) (day : Int) (w : World) (h1 : 0 ≤ day) (h2 : day ≤ 20000) (hk : BodyOk B) :
    Calls Tryz.prog 77 #[.agg #[.int .i64 B.num, .int .i64 B.den, .int .i64 B.start, .slice A n c], .int .i64 day] w fun e w' => e = .returned (.int .i64 (Sp.mean B day % 21600)) ∧ Ext w w' := by
  have hm := mean_bounds hk h1 h2
  go_enter Tryz.func77, Tryz.ntmps77
  go_wp2_with fail
  refine (r_mean_any B A n c day _ h1 h2 hk).mono ?_
  rintro e w1 ⟨rfl, hE⟩
  go_wp2_with fail
  refine (r_Less_any _ _ (by omega) (by omega)).mono ?_
  rintro e w2 ⟨rfl, rfl⟩
  go_wp2_with fail
  go_ret
  exact ⟨rfl, ((Ext.refl _).alloc _).trans hE⟩

set_option maxRecDepth 100000 in
theorem r_way_any (B : Sp.Body) (A : Option Addr) (c : Nat) (day : Int) (w : World) (h1 : 0 ≤ day) (h2 : day ≤ 20000) (hk : BodyOk B) (hI : Ints w A B.road) :
    Calls Tryz.prog 140 #[.agg #[.int .i64 B.num, .int .i64 B.den, .int .i64 B.start, .slice A B.road.length c], .int .i64 day] w fun e w' => e = .returned (.int .i64 (Sp.way B day)) ∧ Ext w w' := by
  have HK := Lib.hid hk
  have hm := mean_bounds hk h1 h2
  obtain ⟨_, _, _, _, _, _, _, l1, l2, hro⟩ := hk
  obtain ⟨rb, ro, rfl, hcell⟩ := hI (by omega)
  obtain ⟨st, rs, nx, e1, hrs, hst, hnx, e2, e3, e4, e5⟩ := step_of (m := Sp.mean B day) l1
  have c1 := hcell st hst
  have c2 := hcell nx hnx
  have b1 := rd_bounds hro st
  have b2 := rd_bounds hro nx
  have kk := mul_bounds (a := rd B.road nx - rd B.road st) (b := rs) (A := 1200) (B := 21600) (by omega) (by omega) (by omega) (by omega)
  have fin : Sp.way B day = Sp.mean B day + rd B.road st + (rd B.road nx - rd B.road st) * (rs : Int) / 21600 := by
    unfold Sp.way Sp.errOf
    dsimp only
    rw [e4, e5, ← e3]
    omega
  rw [fin]
  have E1 := Lib.hid e1
  have hm2 := emod_bounds (Sp.mean B day) 21600 (by omega)
  have hl : 0 ≤ Sp.mean B day % 21600 * (B.road.length : Int) ∧ Sp.mean B day % 21600 * (B.road.length : Int) ≤ 172800 := by
    have := E1.out
    omega
  have f1 : (Sp.mean B day % 21600 * (B.road.length : Int)).tdiv 21600 = (st : Int) := by rw [e1, Int.tdiv_eq_ediv_of_nonneg (by omega)]; omega
  have f2 : (Sp.mean B day % 21600 * (B.road.length : Int)).tmod 21600 = (rs : Int) := by rw [e1, Int.tmod_eq_emod_of_nonneg (by omega)]; omega
  have f3 : ((st : Int) + 1).tmod (B.road.length : Int) = (nx : Int) := by rw [Int.tmod_eq_emod_of_nonneg (by omega)]; exact e2
  clear e1 e3 e4 e5 fin hcell
  generalize rd B.road st = p at *
  generalize rd B.road nx = q at *
  have hb' := lts (lt_of_cell c1)
  simp only at hb'
  go_enter Tryz.func140, Tryz.ntmps140
  go_wp2_with fail
  refine wp_region_later (by kernel_rfl) (by kernel_rfl) (fun W hW => ?_)
  have hR : Row W w.heap.size 80 #[.int .i64 B.num, .int .i64 B.den, .int .i64 B.start, .slice (some ⟨rb, ro, none⟩) B.road.length c] := by rw [hW]; exact blocks1 _ _
  have q1 := Later.block (w := W) hR
  have hE0 : Ext w W := by rw [hW]; exact (Ext.refl _).alloc _
  clear hW hb'
  repeat (go_big_quiet_step ((go_at_call 77; exact Later.call (r_Mean_any B _ _ _ _ _ (by omega) (by omega) HK.out))))
  refine wpQuiet_nil ?_
  rintro ⟨W1, hE⟩
  have hE1 := hE0.trans hE
  replace hR := hR.ext hE
  go_wp2_with fail
  clear hE hE0 q1
  refine wp_region_later (by kernel_rfl) (by kernel_rfl) (fun W hW => ?_)
  subst hW
  have q1 := Later.block (w := W) hR
  have x1 := fun X : Later W => (hE1.trans X.ext).cell c1
  have x2 := fun X : Later W => (hE1.trans X.ext).cell c2
  repeat (go_big_quiet_step (fail))
  refine wpQuiet_nil ?_
  rintro ⟨W2, hE⟩
  replace hE1 := hE1.trans hE
  replace hR := hR.ext hE
  go_wp2_with fail
  clear hE q1 x1 x2
  refine wp_region_later (by kernel_rfl) (by kernel_rfl) (fun W hW => ?_)
  subst hW
  have q1 := Later.block (w := W) hR
  have x1 := fun X : Later W => (hE1.trans X.ext).cell c1
  have x2 := fun X : Later W => (hE1.trans X.ext).cell c2
  clear c1 c2
  repeat (go_big_quiet_step ((first | (go_at_call 139; exact Later.call (r_mean_any B _ _ _ _ _ (by omega) (by omega) HK.out)) | (go_at_call 118; exact Later.call ((r_down_any _ _ _ (by omega) (by omega) (by omega) (by omega)).mono fun _ _ h => ⟨h.1, Ext.rfl_of h.2⟩)))))
  refine wpQuiet_nil ?_
  rintro ⟨W3, hE⟩
  replace hE1 := hE1.trans hE
  go_wp2_with fail
  go_ret
  exact ⟨rfl, hE1⟩

theorem way_lim {B : Sp.Body} (hk : BodyOk B) {day : Int} (h1 : 0 ≤ day) (h2 : day ≤ 20000) : -2000 ≤ Sp.way B day ∧ Sp.way B day ≤ 109000000 := by
  have := way_bounds hk h1 h2
  omega
theorem r_Place_any (B : Sp.Body) (A : Option Addr) (c : Nat) (day : Int) (w : World) (h1 : 0 ≤ day) (h2 : day ≤ 20000) (hk : BodyOk B) (hI : Ints w A B.road) :
    Calls Tryz.prog 78 #[.agg #[.int .i64 B.num, .int .i64 B.den, .int .i64 B.start, .slice A B.road.length c], .int .i64 day] w fun e w' => e = .returned (.int .i64 (Sp.place B day)) ∧ Ext w w' := by
  have hm := way_lim hk h1 h2
  have HI := Lib.hid hI
  clear hI
  go_enter Tryz.func78, Tryz.ntmps78
  go_wp2_with fail
  refine (r_way_any B A c day _ h1 h2 hk (by exact HI.out.ext ((Ext.refl _).alloc _))).mono ?_
  rintro e w1 ⟨rfl, hE⟩
  go_wp2_with fail
  refine (r_Less_any _ _ (by omega) (by omega)).mono ?_
  rintro e w2 ⟨rfl, rfl⟩
  go_wp2_with fail
  go_ret
  exact ⟨rfl, ((Ext.refl _).alloc _).trans hE⟩
theorem r_Node_any (s : Sp.Sky) (day : Int) (w : World) (hs : SkyOk s) (h2 : 0 ≤ day) (h3 : day ≤ 20000) :
    Calls Tryz.prog 76 #[.agg #[.int .i64 s.nnum, .int .i64 s.nden, .int .i64 s.nstart], .int .i64 day] w fun e w' => e = .returned (.int .i64 (Sp.node s day)) ∧ Ext w w' := by
  have hg := node_bounds hs h2 h3
  obtain ⟨_, _, k1, k2, k3, k4, k5, k6, k7, _⟩ := hs
  have k0 : 0 ≤ day * 21600 * s.nden := Int.mul_nonneg (by omega) (by omega)
  have k9 : day * 21600 * s.nden ≤ 432000000 * 10000 := Int.mul_le_mul (by omega) (by omega) (by omega) (by omega)
  have hq : (day * 21600 * s.nden).tdiv s.nnum = Sp.gone s.nnum s.nden day := Int.tdiv_eq_ediv_of_nonneg k0
  go_enter Tryz.func76, Tryz.ntmps76
  go_wp2_with fail
  refine wp_region_later (by kernel_rfl) (by kernel_rfl) (fun W hW => ?_)
  have q1 := Later.block (w := W) (by rw [hW]; exact blocks1 _ _)
  have hE0 : Ext w W := by rw [hW]; exact (Ext.refl _).alloc _
  clear hW
  repeat (go_big_quiet_step ((go_at_call 58; exact Later.call ((r_Less_any _ _ (by omega) (by omega)).mono fun _ _ h => ⟨h.1, Ext.rfl_of h.2⟩))))
  refine wpQuiet_nil ?_
  rintro ⟨W3, hE⟩
  go_wp2_with fail
  go_ret
  exact ⟨rfl, hE0.trans hE⟩
end Go.Proofs.YtlcddcnmoajpjaaGreatDoor

namespace Go.Proofs.YtlcddcnmoajpjaaGreatDoor
open Go.RowKit
open Sp (rd)

set_option maxRecDepth 100000 in
theorem r_ahead_nat (s : Sp.Sky) (A : Option Addr) (c i j : Nat) (x y z day : Int) (w : World) (hs : SkyOk s) (hm : Bodies w A s.bodies) (hi : i < s.bodies.length) (hj : j < s.bodies.length) (h2 : 0 ≤ day) (h3 : day ≤ 20000) :
    Calls Tryz.prog 129 #[.agg #[.slice A s.bodies.length c, .int .i64 x, .int .i64 y, .int .i64 z], .int .i64 (i : Int), .int .i64 (j : Int), .int .i64 day] w fun e w' => e = .returned (.int .i64 (Sp.ahead s (i : Int) (j : Int) day)) ∧ Ext w w' := by
  have hn := hs.n4
  obtain ⟨b, o, rfl, hB⟩ := hm (by omega)
  have B1 := hB i hi
  have B2 := hB j hj
  have K1 := Lib.hid (hs.all i hi)
  have K2 := Lib.hid (hs.all j hj)
  have l1 := way_lim K1.out h2 h3
  have l2 := way_lim K2.out h2 h3
  show Calls Tryz.prog 129 #[.agg #[.slice (some ⟨b, o, none⟩) s.bodies.length c, .int .i64 x, .int .i64 y, .int .i64 z], .int .i64 (i : Int), .int .i64 (j : Int), .int .i64 day] w fun e w' => e = .returned (.int .i64 (Sp.way (bd s.bodies i) day - Sp.way (bd s.bodies j) day)) ∧ Ext w w'
  clear hB hm hs
  generalize bd s.bodies i = P at *
  generalize bd s.bodies j = Q at *
  obtain ⟨A1, r1, hr1, I1⟩ := B1.road
  obtain ⟨A2, r2, hr2, I2⟩ := B2.road
  have HI1 := Lib.hid I1
  have HI2 := Lib.hid I2
  have n1 := B1.num
  have d1 := B1.den
  have s1 := B1.start
  have n2 := B2.num
  have d2 := B2.den
  have s2 := B2.start
  clear I1 I2 B1 B2
  have hi' : (0 : Int) ≤ (i : Int) ∧ (i : Int) < (s.bodies.length : Int) := by omega
  have hj' : (0 : Int) ≤ (j : Int) ∧ (j : Int) < (s.bodies.length : Int) := by omega
  go_enter Tryz.func129, Tryz.ntmps129
  go_wp2_with fail
  refine wp_region_later (by kernel_rfl) (by kernel_rfl) (fun W hW => ?_)
  have q1 := Later.block (w := W) (by rw [hW]; exact blocks1 _ _)
  have hE0 : Ext w W := by rw [hW]; exact (Ext.refl _).alloc _
  clear hW
  have a1 := fun X : Later W => (hE0.trans X.ext).cell n1
  have a2 := fun X : Later W => (hE0.trans X.ext).cell d1
  have a3 := fun X : Later W => (hE0.trans X.ext).cell s1
  have a4 := fun X : Later W => (hE0.trans X.ext).cell hr1
  have b1 := fun X : Later W => (hE0.trans X.ext).cell n2
  have b2 := fun X : Later W => (hE0.trans X.ext).cell d2
  have b3 := fun X : Later W => (hE0.trans X.ext).cell s2
  have b4 := fun X : Later W => (hE0.trans X.ext).cell hr2
  have J1 := Lib.hid (fun X : Later W => HI1.out.ext (hE0.trans X.ext))
  have J2 := Lib.hid (fun X : Later W => HI2.out.ext (hE0.trans X.ext))
  clear n1 d1 s1 hr1 n2 d2 s2 hr2
  repeat (go_big_quiet_step (fail))
  go_big_quiet_step ((go_at_call 140; exact Later.call (r_way_any P _ _ _ _ (by omega) (by omega) K1.out (by exact J1.out _))))
  repeat (go_big_quiet_step (fail))
  go_big_quiet_step ((go_at_call 140; exact Later.call (r_way_any Q _ _ _ _ (by omega) (by omega) K2.out (by exact J2.out _))))
  repeat (go_big_quiet_step (fail))
  refine wpQuiet_nil ?_
  rintro ⟨W3, hE⟩
  go_wp2_with fail
  go_ret
  exact ⟨rfl, hE0.trans hE⟩
theorem r_ahead_any (s : Sp.Sky) (A : Option Addr) (c : Nat) (x y z day i j : Int) (w : World) (hs : SkyOk s) (hm : Bodies w A s.bodies) (h0 : 0 ≤ i) (h1 : i < s.bodies.length) (h4 : 0 ≤ j) (h5 : j < s.bodies.length) (h2 : 0 ≤ day) (h3 : day ≤ 20000) :
    Calls Tryz.prog 129 #[.agg #[.slice A s.bodies.length c, .int .i64 x, .int .i64 y, .int .i64 z], .int .i64 i, .int .i64 j, .int .i64 day] w fun e w' => e = .returned (.int .i64 (Sp.ahead s i j day)) ∧ Ext w w' := by
  obtain ⟨a, rfl⟩ := Int.eq_ofNat_of_zero_le h0
  obtain ⟨b, rfl⟩ := Int.eq_ofNat_of_zero_le h4
  exact r_ahead_nat s A c a b x y z day w hs hm (by omega) (by omega) h2 h3
theorem ahead_lim {s : Sp.Sky} (hs : SkyOk s) {i j day : Int} (h0 : 0 ≤ i) (h1 : i < s.bodies.length) (h4 : 0 ≤ j) (h5 : j < s.bodies.length) (h2 : 0 ≤ day) (h3 : day ≤ 20000) :
    -200000000 ≤ Sp.ahead s i j day ∧ Sp.ahead s i j day ≤ 200000000 := by
  have a := way_sky_bounds hs h0 h1 h2 h3
  have b := way_sky_bounds hs h4 h5 h2 h3
  unfold Sp.ahead
  omega
theorem r_Between_any (s : Sp.Sky) (A : Option Addr) (c : Nat) (x y z day i j : Int) (w : World) (hs : SkyOk s) (hm : Bodies w A s.bodies) (h0 : 0 ≤ i) (h1 : i < s.bodies.length) (h4 : 0 ≤ j) (h5 : j < s.bodies.length) (h2 : 0 ≤ day) (h3 : day ≤ 20000) :
    Calls Tryz.prog 79 #[.agg #[.slice A s.bodies.length c, .int .i64 x, .int .i64 y, .int .i64 z], .int .i64 i, .int .i64 j, .int .i64 day] w fun e w' => e = .returned (.int .i64 (Sp.between s i j day)) ∧ Ext w w' := by
  have hl := ahead_lim hs h0 h1 h4 h5 h2 h3
  have HM := Lib.hid hm
  clear hm
  go_enter Tryz.func79, Tryz.ntmps79
  go_wp2_with fail
  refine (r_ahead_any s A c x y z day i j _ hs (by exact HM.out.ext ((Ext.refl _).alloc _)) h0 h1 h4 h5 h2 h3).mono ?_
  rintro e w1 ⟨rfl, hE⟩
  go_wp2_with fail
  refine (r_Less_any _ _ (by omega) (by omega)).mono ?_
  rintro e w2 ⟨rfl, rfl⟩
  go_wp2_with fail
  go_ret
  exact ⟨rfl, ((Ext.refl _).alloc _).trans hE⟩
theorem r_Moon_any (s : Sp.Sky) (A : Option Addr) (c : Nat) (x y z day : Int) (full : Bool) (w : World) (hs : SkyOk s) (hm : Bodies w A s.bodies) (h2 : 1 ≤ day) (h3 : day ≤ 20000) :
    Calls Tryz.prog 90 #[.agg #[.slice A s.bodies.length c, .int .i64 x, .int .i64 y, .int .i64 z], .int .i64 day, .bool full] w fun e w' => e = .returned (.bool (Sp.moonB s day full)) ∧ Ext w w' := by
  have n2 := hs.n2
  have l1 := ahead_lim hs (i := 1) (j := 0) (day := day) (by omega) (by omega) (by omega) (by omega) (by omega) h3
  have l2 := ahead_lim hs (i := 1) (j := 0) (day := day - 1) (by omega) (by omega) (by omega) (by omega) (by omega) (by omega)
  have HM := Lib.hid hm
  have HS := Lib.hid hs
  clear hm hs
  cases full
  all_goals
    go_enter Tryz.func90, Tryz.ntmps90
    go_wp2_with fail
    refine wp_region_later (by kernel_rfl) (by kernel_rfl) (fun W hW => ?_)
    have q1 := Later.block (w := W) (by rw [hW]; exact blocks1 _ _)
    have hE0 : Ext w W := by rw [hW]; exact (Ext.refl _).alloc _
    clear hW
    have HB := Lib.hid (fun X : Later W => HM.out.ext (hE0.trans X.ext))
    repeat (go_big_quiet_step (fail))
    go_big_quiet_step ((go_at_call 129; exact Later.call (r_ahead_any s A c _ _ _ _ _ _ _ HS.out (by exact HB.out _) (by omega) (by omega) (by omega) (by omega) (by omega) (by omega))))
    repeat (go_big_quiet_step (fail))
    go_big_quiet_step ((go_at_call 129; exact Later.call (r_ahead_any s A c _ _ _ _ _ _ _ HS.out (by exact HB.out _) (by omega) (by omega) (by omega) (by omega) (by omega) (by omega))))
    repeat (go_big_quiet_step (fail))
    go_big_quiet_step ((go_at_call 130; exact Later.call ((r_passed_any _ _ _ (by omega) (by omega) (by omega) (by omega)).mono fun _ _ h => ⟨h.1, Ext.rfl_of h.2⟩)))
    repeat (go_big_quiet_step (fail))
    refine wpQuiet_nil ?_
    rintro ⟨W3, hE⟩
    go_wp2_with fail
    go_ret
    exact ⟨ret_bool (by simp [Sp.moonB, Sp.halfOf]), hE0.trans hE⟩
theorem r_Far_any (s : Sp.Sky) (A : Option Addr) (c : Nat) (day : Int) (w : World) (hs : SkyOk s) (hm : Bodies w A s.bodies) (h2 : 0 ≤ day) (h3 : day ≤ 20000) :
    Calls Tryz.prog 93 #[.agg #[.slice A s.bodies.length c, .int .i64 s.nnum, .int .i64 s.nden, .int .i64 s.nstart], .int .i64 day] w fun e w' => e = .returned (.int .i64 (Sp.far s day)) ∧ Ext w w' := by
  have n2 := hs.n2
  have hnode : 0 ≤ Sp.node s day ∧ Sp.node s day < 21600 := emod_bounds (s.nstart - Sp.gone s.nnum s.nden day) 21600 (by omega)
  have HS := Lib.hid hs
  obtain ⟨b, o, rfl, hB⟩ := hm (by omega)
  have B1 := hB 1 (by omega)
  have K1 := Lib.hid (hs.all 1 (by omega))
  have l1 := way_lim K1.out h2 h3
  have hpl : 0 ≤ Sp.place (bd s.bodies 1) day ∧ Sp.place (bd s.bodies 1) day < 21600 := emod_bounds (Sp.way (bd s.bodies 1) day) 21600 (by omega)
  have hfar : Sp.far s day = min ((Sp.place (bd s.bodies 1) day - Sp.node s day) % 21600 % 10800) (10800 - (Sp.place (bd s.bodies 1) day - Sp.node s day) % 21600 % 10800) := by
    have e1 : (Sp.place (bd s.bodies 1) day - Sp.node s day) % 21600 % 10800 = (Sp.way (Sp.body s 1) day - Sp.node s day) % 10800 := by
      show (Sp.way (bd s.bodies 1) day % 21600 - Sp.node s day) % 21600 % 10800 = (Sp.way (bd s.bodies 1) day - Sp.node s day) % 10800
      omega
    rw [e1]
    rfl
  rw [hfar]
  have hr := emod_bounds ((Sp.place (bd s.bodies 1) day - Sp.node s day) % 21600) 10800 (by omega)
  have hr2 := emod_bounds (Sp.place (bd s.bodies 1) day - Sp.node s day) 21600 (by omega)
  have ht : ((Sp.place (bd s.bodies 1) day - Sp.node s day) % 21600).tmod 10800 = (Sp.place (bd s.bodies 1) day - Sp.node s day) % 21600 % 10800 := Int.tmod_eq_emod_of_nonneg hr2.1
  clear hB hm hs hfar
  generalize bd s.bodies 1 = P at *
  obtain ⟨A1, r1, hr1, I1⟩ := B1.road
  have HI1 := Lib.hid I1
  have n1 := B1.num
  have d1 := B1.den
  have s1 := B1.start
  clear I1 B1
  go_enter Tryz.func93, Tryz.ntmps93
  go_wp2_with fail
  refine wp_region_later (by kernel_rfl) (by kernel_rfl) (fun W hW => ?_)
  have q1 := Later.block (w := W) (by rw [hW]; exact blocks1 _ _)
  have hE0 : Ext w W := by rw [hW]; exact (Ext.refl _).alloc _
  clear hW
  have a1 := fun X : Later W => (hE0.trans X.ext).cell n1
  have a2 := fun X : Later W => (hE0.trans X.ext).cell d1
  have a3 := fun X : Later W => (hE0.trans X.ext).cell s1
  have a4 := fun X : Later W => (hE0.trans X.ext).cell hr1
  have J1 := Lib.hid (fun X : Later W => HI1.out.ext (hE0.trans X.ext))
  clear n1 d1 s1 hr1
  repeat (go_big_quiet_step (fail))
  go_big_quiet_step ((go_at_call 78; exact Later.call (r_Place_any P _ _ _ _ (by omega) (by omega) K1.out (by exact J1.out _))))
  repeat (go_big_quiet_step (fail))
  go_big_quiet_step ((go_at_call 76; exact Later.call (r_Node_any s _ _ HS.out (by omega) (by omega))))
  repeat (go_big_quiet_step (fail))
  go_big_quiet_step ((go_at_call 58; exact Later.call ((r_Less_any _ _ (by omega) (by omega)).mono fun _ _ h => ⟨h.1, Ext.rfl_of h.2⟩)))
  repeat (go_big_quiet_step (fail))
  refine wpQuiet_nil ?_
  rintro ⟨W3, hE⟩
  go_wp2_with fail
  all_goals
    go_ret
    exact ⟨ret_int (by omega), hE0.trans hE⟩
end Go.Proofs.YtlcddcnmoajpjaaGreatDoor

namespace Go.Proofs.YtlcddcnmoajpjaaGreatDoor
open Go.RowKit
open Sp (rd)

/-- Behind k days. -/
def RMoonsRel (w : World) (s : Sp.Sky) (lo : Int) (N : Nat) (v d : Value) (wr : World) : Prop :=
  ∃ k : Nat, k ≤ N ∧ d = .int .i64 (lo + (k : Int)) ∧ wr.ownsRow w.heap.size 40 2 v (Sp.moonsN s lo k).length (moonCells (Sp.moonsN s lo k)) ∧ Ext w wr

set_option maxRecDepth 100000 in
set_option maxHeartbeats 1000000 in
theorem r_Moons_any (s : Sp.Sky) (A : Option Addr) (c : Nat) (x y z lo hi : Int) (w : World) (hs : SkyOk s) (hm : Bodies w A s.bodies) (h1 : 1 ≤ lo) (h2 : lo ≤ hi) (h3 : hi ≤ 20000) :
    Calls Tryz.prog 30 #[.agg #[.slice A s.bodies.length c, .int .i64 x, .int .i64 y, .int .i64 z], .int .i64 lo, .int .i64 hi] w fun e w' => ∃ v, e = .returned v ∧ MoonsVal w' v (Sp.moonsL s lo hi) ∧ Ext w w' := by
  have HM := Lib.hid hm
  have HS := Lib.hid hs
  clear hm hs
  obtain ⟨i0, hi0, hi1, hi2, hi3⟩ := info_parts info_moon
  obtain ⟨N, hN⟩ : ∃ N : Nat, hi + 1 - lo = (N : Int) := ⟨(hi + 1 - lo).toNat, by omega⟩
  have hML : Sp.moonsL s lo hi = Sp.moonsN s lo N := by unfold Sp.moonsL; rw [hN]; rfl
  rw [hML]
  clear hML
  go_enter Tryz.func30, Tryz.ntmps30
  go_wp2_with fail
  have hr0 := Row.new w 28 #[.slice A s.bodies.length c, .int .i64 x, .int .i64 y, .int .i64 z]
  have hE0 : Ext w (w.alloc (.cells #[.slice A s.bodies.length c, .int .i64 x, .int .i64 y, .int .i64 z] 28)) := (Ext.refl w).alloc _
  generalize w.alloc (.cells #[.slice A s.bodies.length c, .int .i64 x, .int .i64 y, .int .i64 z] 28) = w1 at *
  go_loopw [7, 8] (fun v d wr => RMoonsRel w1 s lo N v d wr) (fun _ d _ => (hi + 1 - intOf d).toNat)
  case atStart => exact ⟨0, Nat.zero_le _, by go_num, World.ownsRow_nil _ _ _ _, Ext.refl _⟩
  case round =>
    obtain ⟨k, hk, rfl, hown, hE⟩ := hrel
    have b0 := (hr0.ext hE).cell
    have HE := Lib.hid hE
    have hz := hE.size
    have hle := moonsN_le s lo k
    by_cases hlt : k < N
    · have HO := Lib.hid hown
      obtain ⟨L, hL⟩ : ∃ L, Sp.moonsN s lo k = L := ⟨_, rfl⟩
      have HN : Hid (Sp.moonsN s lo (k + 1) = L ++ Sp.dayMoons s (lo + k)) := Lib.hid (by rw [← hL]; rfl)
      rw [hL] at HO hle
      clear hown hE hL
      go_wp2_with fail
      refine (r_Moon_any s A c x y z (lo + (k : Int)) false _ HS.out (HM.out.ext (hE0.trans HE.out)) (by omega) (by omega)).mono ?_
      rintro e w2 ⟨rfl, hE2⟩
      have hown2 := ownsRow_of_block HO.out (fun g hg => hE2.block g (HO.out.lt g hg).2)
      have b2 := (hr0.ext (HE.out.trans hE2)).cell
      have HE2 := Lib.hid (HE.out.trans hE2)
      have hz2 := hE2.size
      clear hE2 b0
      cases hb1 : Sp.moonB s (lo + (k : Int)) false <;> have HB1 := Lib.hid hb1 <;> clear hb1
      · go_wp2_with fail
        refine (r_Moon_any s A c x y z (lo + (k : Int)) true _ HS.out (HM.out.ext (hE0.trans HE2.out)) (by omega) (by omega)).mono ?_
        rintro e w4 ⟨rfl, hE4⟩
        have hown4 := ownsRow_of_block hown2 (fun g hg => hE4.block g ((hown2).lt g hg).2)
        have HE4 := Lib.hid (HE2.out.trans hE4)
        have HO4 := Lib.hid hown4
        have hz4 := hE4.size
        clear hE4
        cases hb2 : Sp.moonB s (lo + (k : Int)) true <;> have HB2 := Lib.hid hb2 <;> clear hb2
        · go_wp2_with fail
          refine ⟨⟨k + 1, by omega, by go_num, ?_, HE4.out⟩, by simp [intOf]; omega⟩
          rw [HN.out]
          simpa [Sp.dayMoons, HB1.out, HB2.out, moonCells_append, moonCells] using HO4.out
        · go_wp2_with (at_builtin; refine wpList_append_own_at _ rfl _ _ 31 rfl w1.heap.size 40 i0 _ 2 16 Tryz.underlying31 hi0 hi1 hi2 hi3 rfl (by decide) _ L.length (moonCells L) rfl (hown4.alloc (.cells #[.int .i64 (lo + (k : Int)), .bool true] 40)) ⟨w4.heap.size, 0, none⟩ 1 1 [.int .i64 (lo + (k : Int)), .bool true] rfl rfl (World.news_of_block (cs := #[.int .i64 (lo + (k : Int)), .bool true]) (t := 40) (fr := (0, 0)) (heap_alloc_new _ _)) (by simp [Value.oneCell']) (by simp only [maxLen]; omega) (by omega) (by simp; omega) ?_; intro v' w5 hown5 hgrow _ _; have HO5 := Lib.hid hown5; have HG5 := Lib.hid hgrow; clear hown5 hgrow)
          refine ⟨⟨k + 1, by omega, by go_num, ?_, (HE4.out.alloc _).grown HG5.out (fun q hq => (hown4.lt q hq).1)⟩, by simp [intOf]; omega⟩
          rw [HN.out]
          simpa [Sp.dayMoons, HB1.out, HB2.out, moonCells_append, moonCells] using HO5.out
      · go_wp2_with (at_builtin; refine wpList_append_own_at _ rfl _ _ 31 rfl w1.heap.size 40 i0 _ 2 16 Tryz.underlying31 hi0 hi1 hi2 hi3 rfl (by decide) _ L.length (moonCells L) rfl (hown2.alloc (.cells #[.int .i64 (lo + (k : Int)), .bool false] 40)) ⟨w2.heap.size, 0, none⟩ 1 1 [.int .i64 (lo + (k : Int)), .bool false] rfl rfl (World.news_of_block (cs := #[.int .i64 (lo + (k : Int)), .bool false]) (t := 40) (fr := (0, 0)) (heap_alloc_new _ _)) (by simp [Value.oneCell']) (by simp only [maxLen]; omega) (by omega) (by simp; omega) ?_; intro v' w3 hown3 hgrow _ _; have HO3 := Lib.hid hown3; have HE3 := Lib.hid ((HE2.out.alloc (.cells #[.int .i64 (lo + (k : Int)), .bool false] 40)).grown hgrow (fun q hq => (hown2.lt q hq).1)); have hz3 := HE3.out.size; have b3 := (hr0.ext HE3.out).cell; clear b2 hown3 hgrow)
        refine (r_Moon_any s A c x y z (lo + (k : Int)) true _ HS.out (HM.out.ext (hE0.trans HE3.out)) (by omega) (by omega)).mono ?_
        rintro e w4 ⟨rfl, hE4⟩
        have hown4 := ownsRow_of_block HO3.out (fun g hg => hE4.block g ((HO3.out).lt g hg).2)
        have HE4 := Lib.hid (HE3.out.trans hE4)
        have HO4 := Lib.hid hown4
        have hz4 := hE4.size
        clear hE4
        cases hb2 : Sp.moonB s (lo + (k : Int)) true <;> have HB2 := Lib.hid hb2 <;> clear hb2
        · go_wp2_with fail
          refine ⟨⟨k + 1, by omega, by go_num, ?_, HE4.out⟩, by simp [intOf]; omega⟩
          rw [HN.out]
          simpa [Sp.dayMoons, HB1.out, HB2.out, moonCells_append, moonCells] using HO4.out
        · go_wp2_with (at_builtin; refine wpList_append_own_at _ rfl _ _ 31 rfl w1.heap.size 40 i0 _ 2 16 Tryz.underlying31 hi0 hi1 hi2 hi3 rfl (by decide) _ (L.length + 1) (moonCells L ++ [Value.int .i64 (lo + (k : Int)), Value.bool false]) rfl (hown4.alloc (.cells #[.int .i64 (lo + (k : Int)), .bool true] 40)) ⟨w4.heap.size, 0, none⟩ 1 1 [.int .i64 (lo + (k : Int)), .bool true] rfl rfl (World.news_of_block (cs := #[.int .i64 (lo + (k : Int)), .bool true]) (t := 40) (fr := (0, 0)) (heap_alloc_new _ _)) (by simp [Value.oneCell']) (by simp only [maxLen]; omega) (by omega) (by simp; omega) ?_; intro v' w5 hown5 hgrow _ _; have HO5 := Lib.hid hown5; have HG5 := Lib.hid hgrow; clear hown5 hgrow)
          refine ⟨⟨k + 1, by omega, by go_num, ?_, (HE4.out.alloc _).grown HG5.out (fun q hq => (hown4.lt q hq).1)⟩, by simp [intOf]; omega⟩
          rw [HN.out]
          simpa [Sp.dayMoons, HB1.out, HB2.out, moonCells_append, moonCells] using HO5.out
    · obtain rfl : k = N := by omega
      have HO := Lib.hid hown
      clear hown hE b0
      go_wp2_with fail
      go_ret
      exact ⟨_, rfl, MoonsVal.of_own HO.out, hE0.trans HE.out⟩
end Go.Proofs.YtlcddcnmoajpjaaGreatDoor
