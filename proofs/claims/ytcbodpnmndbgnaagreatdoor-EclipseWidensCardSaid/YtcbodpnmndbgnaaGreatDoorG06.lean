/- Volume 6 of the texts that the laws of this seat use: EcRefA EcKept EcMore EcSets EcSets2 EcCmp EcFore EcFore1 EcSeq: walks of the program's functions, and plain laws. -/
import Derived.Carry
import Derived.Maps.OwnIn
import Derived.Test.YtcbodpnmndbgnaaGreatDoorG01
import Derived.Test.YtcbodpnmndbgnaaGreatDoorG02
import Derived.Test.YtcbodpnmndbgnaaGreatDoorG04
namespace Go.Proofs.YtcbodpnmndbgnaaGreatDoor
open Go.RowKit
open Sp (rd)
theorem r_in_any (x lo hi : Int) (w : World) : Calls Tryz.prog 101 #[.int .i64 x, .int .i64 lo, .int .i64 hi] w fun e w' => e = .returned (.bool (Sp.inR x lo hi)) ∧ w = w' := by
 go_enter Tryz.func101, Tryz.ntmps101
 go_wp2
 all_goals
  go_ret
  exact ⟨ret_bool (by simp [Sp.inR, *] <;> omega), rfl⟩
theorem r_Spot_any (n : Int) (w : World) : Calls Tryz.prog 79 #[.int .i64 n] w fun e w' => e = .returned (.bool (Sp.spot n)) ∧ w = w' := by
 go_enter Tryz.func79, Tryz.ntmps79
 go_wp2_with (go_at_call 101; refine (r_in_any _ _ _ _).mono ?_; rintro e w' ⟨rfl, rfl⟩)
 go_ret
 exact ⟨rfl, rfl⟩
theorem r_Limit_any (n : Int) (w : World) : Calls Tryz.prog 45 #[.int .i64 n] w fun e w' => e = .returned (.bool (Sp.isLimit n)) ∧ w = w' := by
 go_enter Tryz.func45, Tryz.ntmps45
 go_wp2_with (go_at_call 101; refine (r_in_any _ _ _ _).mono ?_; rintro e w' ⟨rfl, rfl⟩)
 go_ret
 exact ⟨rfl, rfl⟩
theorem r_period_any (num den : Int) (w : World) : Calls Tryz.prog 112 #[.agg #[.int .i64 num, .int .i64 den]] w fun e w' => e = .returned (.bool (Sp.period num den)) ∧ Ext w w' := by
 by_cases hn : 1 ≤ num ∧ num ≤ 10000
 ·obtain ⟨n1, n2⟩ := hn
  have hn' : Sp.inR num 1 10000 = true := inR_iff.2 ⟨n1, n2⟩
  by_cases hd : 1 ≤ den ∧ den ≤ 10000
  ·obtain ⟨d1, d2⟩ := hd
   have hd' : Sp.inR den 1 10000 = true := inR_iff.2 ⟨d1, d2⟩
   go_enter Tryz.func112, Tryz.ntmps112
   go_wp2_with (go_at_call 101; refine (r_in_any _ _ _ _).mono ?_; rintro e w' ⟨rfl, rfl⟩)
   all_goals
    go_ret
    exact ⟨ret_bool (by simp_all [Sp.period]), (Ext.refl _).alloc _⟩
  ·have hd' : Sp.inR den 1 10000 = false := inR_no.2 hd
   clear hd
   go_enter Tryz.func112, Tryz.ntmps112
   go_wp2_with (go_at_call 101; refine (r_in_any _ _ _ _).mono ?_; rintro e w' ⟨rfl, rfl⟩)
   all_goals
    go_ret
    exact ⟨ret_bool (by simp_all [Sp.period]), (Ext.refl _).alloc _⟩
 ·have hn' : Sp.inR num 1 10000 = false := inR_no.2 hn
  clear hn
  go_enter Tryz.func112, Tryz.ntmps112
  go_wp2_with (go_at_call 101; refine (r_in_any _ _ _ _).mono ?_; rintro e w' ⟨rfl, rfl⟩)
  all_goals
   go_ret
   exact ⟨ret_bool (by simp_all [Sp.period]), (Ext.refl _).alloc _⟩
theorem r_down_any (a b : Int) (w : World) (hb : 1 ≤ b) (h1 : -4000000000000000000 ≤ a) (h2 : a ≤ 4000000000000000000) (h3 : b ≤ 4000000000000000000) :
  Calls Tryz.prog 134 #[.int .i64 a, .int .i64 b] w fun e w' => e = .returned (.int .i64 (a / b)) ∧ w = w' := by
 have hm := emod_bounds a b hb
 have hd := Int.mul_ediv_add_emod a b
 by_cases h0 : 0 ≤ a
 ·have hq : a.tdiv b = a / b := Int.tdiv_eq_ediv_of_nonneg h0
  have q0 : 0 ≤ a / b := Int.ediv_nonneg h0 (by omega)
  have q1 : a / b ≤ a := Int.ediv_le_self b h0
  rw [Int.mul_comm] at hd
  go_enter Tryz.func134, Tryz.ntmps134
  go_wp2
  go_ret
  exact ⟨rfl, rfl⟩
 ·have hm2 := tmod_bounds a b hb (by omega)
  have hq := tdiv_bounds a b hb (by omega)
  have h5 := Int.mul_tdiv_add_tmod a b
  rw [Int.mul_comm] at h5
  by_cases hr : a.tmod b < 0
  ·have F := Lib.hid (tdiv_neg a b hb (by omega) hr)
   go_enter Tryz.func134, Tryz.ntmps134
   go_wp2
   go_ret
   exact ⟨ret_int F.out.1, rfl⟩
  ·have F := Lib.hid (tdiv_zero a b hb (by omega) (by omega))
   go_enter Tryz.func134, Tryz.ntmps134
   go_wp2
   go_ret
   exact ⟨ret_int F.out.1, rfl⟩
theorem r_Less_any (a : Int) (w : World) (h1 : -4000000000000000000 ≤ a) (h2 : a ≤ 4000000000000000000) : Calls Tryz.prog 80 #[.int .i64 a] w fun e w' => e = .returned (.int .i64 (a % 21600)) ∧ w = w' := by
 go_enter Tryz.func80, Tryz.ntmps80
 go_wp2_with (go_at_call 134; refine (r_down_any _ _ _ (by omega) (by omega) (by omega) (by omega)).mono ?_; rintro e w' ⟨rfl, rfl⟩)
 go_ret
 exact ⟨ret_int (by omega), rfl⟩
theorem r_passed_any (a b : Int) (w : World) (h1 : -4000000000000000000 ≤ a) (h2 : a ≤ 4000000000000000000) (h3 : -4000000000000000000 ≤ b) (h4 : b ≤ 4000000000000000000) : Calls Tryz.prog 210 #[.int .i64 a, .int .i64 b] w fun e w' => e = .returned (.bool (Sp.passes a b)) ∧ w = w' := by
 go_enter Tryz.func210, Tryz.ntmps210
 go_wp2_with (go_at_call 134; refine (r_down_any _ _ _ (by omega) (by omega) (by omega) (by omega)).mono ?_; rintro e w' ⟨rfl, rfl⟩)
 go_ret
 exact ⟨ret_bool (by simp [Sp.passes]), rfl⟩
end Go.Proofs.YtcbodpnmndbgnaaGreatDoor
namespace Go.Proofs.YtcbodpnmndbgnaaGreatDoor
open Go.RowKit
open Sp (rd)
theorem r_mean_any (B : Sp.Body) (A : Option Addr) (n c : Nat) (day : Int) (w : World) (h1 : 0 ≤ day) (h2 : day ≤ 20000) (hk : BodyOk B) :
  Calls Tryz.prog 142 #[.agg #[.int .i64 B.num, .int .i64 B.den, .int .i64 B.start, .slice A n c], .int .i64 day] w fun e w' => e = .returned (.int .i64 (Sp.mean B day)) ∧ Ext w w' := by
 have hg := gone_bounds h1 h2 hk.num1 hk.den1 hk.four
 obtain ⟨k1, k2, k3, k4, k5, k6, k7, _, _, _⟩ := hk
 have k0 : 0 ≤ day * 21600 * B.den := Int.mul_nonneg (by omega) (by omega)
 have k9 : day * 21600 * B.den ≤ 432000000 * 10000 := Int.mul_le_mul (by omega) (by omega) (by omega) (by omega)
 have hq : (day * 21600 * B.den).tdiv B.num = Sp.gone B.num B.den day := Int.tdiv_eq_ediv_of_nonneg k0
 go_enter Tryz.func142, Tryz.ntmps142
 go_wp2_with fail
 go_quiet (fail)
 go_wp2_with fail
 go_ret
 exact ⟨rfl, ((Ext.refl _).alloc _).drewN _⟩
theorem r_Mean_any (B : Sp.Body) (A : Option Addr) (n c : Nat) (day : Int) (w : World) (h1 : 0 ≤ day) (h2 : day ≤ 20000) (hk : BodyOk B) :
  Calls Tryz.prog 104 #[.agg #[.int .i64 B.num, .int .i64 B.den, .int .i64 B.start, .slice A n c], .int .i64 day] w fun e w' => e = .returned (.int .i64 (Sp.mean B day % 21600)) ∧ Ext w w' := by
 have hm := mean_bounds hk h1 h2
 go_enter Tryz.func104, Tryz.ntmps104
 go_wp2_with fail
 refine (r_mean_any B A n c day _ h1 h2 hk).mono ?_
 rintro e w1 ⟨rfl, hE⟩
 go_wp2_with fail
 refine (r_Less_any _ _ (by omega) (by omega)).mono ?_
 rintro e w2 ⟨rfl, rfl⟩
 go_wp2_with fail
 go_ret
 exact ⟨rfl, ((Ext.refl _).alloc _).trans hE⟩
set_option maxRecDepth 100000 in
theorem r_way_any (B : Sp.Body) (A : Option Addr) (c : Nat) (day : Int) (w : World) (h1 : 0 ≤ day) (h2 : day ≤ 20000) (hk : BodyOk B) (hI : Ints w A B.road) :
  Calls Tryz.prog 212 #[.agg #[.int .i64 B.num, .int .i64 B.den, .int .i64 B.start, .slice A B.road.length c], .int .i64 day] w fun e w' => e = .returned (.int .i64 (Sp.way B day)) ∧ Ext w w' := by
 have HK := Lib.hid hk
 have hm := mean_bounds hk h1 h2
 obtain ⟨_, _, _, _, _, _, _, l1, l2, hro⟩ := hk
 obtain ⟨rb, ro, rfl, hcell⟩ := hI (by omega)
 obtain ⟨st, rs, nx, e1, hrs, hst, hnx, e2, e3, e4, e5⟩ := step_of (m := Sp.mean B day) l1
 have c1 := hcell st hst
 have c2 := hcell nx hnx
 have b1 := rd_bounds hro st
 have b2 := rd_bounds hro nx
 have kk := mul_bounds (a := rd B.road nx - rd B.road st) (b := rs) (A := 1200) (B := 21600) (by omega) (by omega) (by omega) (by omega)
 have fin : Sp.way B day = Sp.mean B day + rd B.road st + (rd B.road nx - rd B.road st) * (rs : Int) / 21600 := by
  unfold Sp.way Sp.errOf
  dsimp only
  rw [e4, e5, ← e3]
  omega
 rw [fin]
 have E1 := Lib.hid e1
 have hm2 := emod_bounds (Sp.mean B day) 21600 (by omega)
 have hl : 0 ≤ Sp.mean B day % 21600 * (B.road.length : Int) ∧ Sp.mean B day % 21600 * (B.road.length : Int) ≤ 172800 := by
  have := E1.out
  omega
 have f1 : (Sp.mean B day % 21600 * (B.road.length : Int)).tdiv 21600 = (st : Int) := by rw [e1, Int.tdiv_eq_ediv_of_nonneg (by omega)]; omega
 have f2 : (Sp.mean B day % 21600 * (B.road.length : Int)).tmod 21600 = (rs : Int) := by rw [e1, Int.tmod_eq_emod_of_nonneg (by omega)]; omega
 have f3 : ((st : Int) + 1).tmod (B.road.length : Int) = (nx : Int) := by rw [Int.tmod_eq_emod_of_nonneg (by omega)]; exact e2
 clear e1 e3 e4 e5 fin hcell
 generalize rd B.road st = p at *
 generalize rd B.road nx = q at *
 have hb' := lts (lt_of_cell c1)
 simp only at hb'
 go_enter Tryz.func212, Tryz.ntmps212
 go_wp2_with fail
 refine wp_region_later (by kernel_rfl) (by kernel_rfl) (fun W hW => ?_)
 have hR : Row W w.heap.size 46 #[.int .i64 B.num, .int .i64 B.den, .int .i64 B.start, .slice (some ⟨rb, ro, none⟩) B.road.length c] := by rw [hW]; exact blocks1 _ _
 have q1 := Later.block (w := W) hR
 have hE0 : Ext w W := by rw [hW]; exact (Ext.refl _).alloc _
 clear hW hb'
 repeat (go_big_quiet_step ((go_at_call 104; exact Later.call (r_Mean_any B _ _ _ _ _ (by omega) (by omega) HK.out))))
 refine wpQuiet_nil ?_
 rintro ⟨W1, hE⟩
 have hE1 := hE0.trans hE
 replace hR := hR.ext hE
 go_wp2_with fail
 clear hE hE0 q1
 refine wp_region_later (by kernel_rfl) (by kernel_rfl) (fun W hW => ?_)
 subst hW
 have q1 := Later.block (w := W) hR
 have x1 := fun X : Later W => (hE1.trans X.ext).cell c1
 have x2 := fun X : Later W => (hE1.trans X.ext).cell c2
 repeat (go_big_quiet_step (fail))
 refine wpQuiet_nil ?_
 rintro ⟨W2, hE⟩
 replace hE1 := hE1.trans hE
 replace hR := hR.ext hE
 go_wp2_with fail
 clear hE q1 x1 x2
 refine wp_region_later (by kernel_rfl) (by kernel_rfl) (fun W hW => ?_)
 subst hW
 have q1 := Later.block (w := W) hR
 have x1 := fun X : Later W => (hE1.trans X.ext).cell c1
 have x2 := fun X : Later W => (hE1.trans X.ext).cell c2
 clear c1 c2
 repeat (go_big_quiet_step ((first | (go_at_call 142; exact Later.call (r_mean_any B _ _ _ _ _ (by omega) (by omega) HK.out)) | (go_at_call 134; exact Later.call ((r_down_any _ _ _ (by omega) (by omega) (by omega) (by omega)).mono fun _ _ h => ⟨h.1, Ext.rfl_of h.2⟩)))))
 refine wpQuiet_nil ?_
 rintro ⟨W3, hE⟩
 replace hE1 := hE1.trans hE
 go_wp2_with fail
 go_ret
 exact ⟨rfl, hE1⟩
theorem way_lim {B : Sp.Body} (hk : BodyOk B) {day : Int} (h1 : 0 ≤ day) (h2 : day ≤ 20000) : -2000 ≤ Sp.way B day ∧ Sp.way B day ≤ 109000000 := by
 have := way_bounds hk h1 h2
 omega
theorem r_Place_any (B : Sp.Body) (A : Option Addr) (c : Nat) (day : Int) (w : World) (h1 : 0 ≤ day) (h2 : day ≤ 20000) (hk : BodyOk B) (hI : Ints w A B.road) :
  Calls Tryz.prog 189 #[.agg #[.int .i64 B.num, .int .i64 B.den, .int .i64 B.start, .slice A B.road.length c], .int .i64 day] w fun e w' => e = .returned (.int .i64 (Sp.place B day)) ∧ Ext w w' := by
 have hm := way_lim hk h1 h2
 have HI := Lib.hid hI
 clear hI
 go_enter Tryz.func189, Tryz.ntmps189
 go_wp2_with fail
 refine (r_way_any B A c day _ h1 h2 hk (by exact HI.out.ext ((Ext.refl _).alloc _))).mono ?_
 rintro e w1 ⟨rfl, hE⟩
 go_wp2_with fail
 refine (r_Less_any _ _ (by omega) (by omega)).mono ?_
 rintro e w2 ⟨rfl, rfl⟩
 go_wp2_with fail
 go_ret
 exact ⟨rfl, ((Ext.refl _).alloc _).trans hE⟩
theorem r_Node_any (s : Sp.Sky) (day : Int) (w : World) (hs : SkyOk s) (h2 : 0 ≤ day) (h3 : day ≤ 20000) :
  Calls Tryz.prog 105 #[.agg #[.int .i64 s.nnum, .int .i64 s.nden, .int .i64 s.nstart], .int .i64 day] w fun e w' => e = .returned (.int .i64 (Sp.node s day)) ∧ Ext w w' := by
 have hg := node_bounds hs h2 h3
 obtain ⟨_, _, k1, k2, k3, k4, k5, k6, k7, _⟩ := hs
 have k0 : 0 ≤ day * 21600 * s.nden := Int.mul_nonneg (by omega) (by omega)
 have k9 : day * 21600 * s.nden ≤ 432000000 * 10000 := Int.mul_le_mul (by omega) (by omega) (by omega) (by omega)
 have hq : (day * 21600 * s.nden).tdiv s.nnum = Sp.gone s.nnum s.nden day := Int.tdiv_eq_ediv_of_nonneg k0
 go_enter Tryz.func105, Tryz.ntmps105
 go_wp2_with fail
 refine wp_region_later (by kernel_rfl) (by kernel_rfl) (fun W hW => ?_)
 have q1 := Later.block (w := W) (by rw [hW]; exact blocks1 _ _)
 have hE0 : Ext w W := by rw [hW]; exact (Ext.refl _).alloc _
 clear hW
 repeat (go_big_quiet_step ((go_at_call 80; exact Later.call ((r_Less_any _ _ (by omega) (by omega)).mono fun _ _ h => ⟨h.1, Ext.rfl_of h.2⟩))))
 refine wpQuiet_nil ?_
 rintro ⟨W3, hE⟩
 go_wp2_with fail
 go_ret
 exact ⟨rfl, hE0.trans hE⟩
end Go.Proofs.YtcbodpnmndbgnaaGreatDoor
namespace Go.Proofs.YtcbodpnmndbgnaaGreatDoor
open Go.RowKit
open Sp (rd)
set_option maxRecDepth 100000 in
theorem r_ahead_nat (s : Sp.Sky) (A : Option Addr) (c i j : Nat) (x y z day : Int) (w : World) (hs : SkyOk s) (hm : Bodies w A s.bodies) (hi : i < s.bodies.length) (hj : j < s.bodies.length) (h2 : 0 ≤ day) (h3 : day ≤ 20000) :
  Calls Tryz.prog 211 #[.agg #[.slice A s.bodies.length c, .int .i64 x, .int .i64 y, .int .i64 z], .int .i64 (i : Int), .int .i64 (j : Int), .int .i64 day] w fun e w' => e = .returned (.int .i64 (Sp.ahead s (i : Int) (j : Int) day)) ∧ Ext w w' := by
 have hn := hs.n4
 obtain ⟨b, o, rfl, hB⟩ := hm (by omega)
 have B1 := hB i hi
 have B2 := hB j hj
 have K1 := Lib.hid (hs.all i hi)
 have K2 := Lib.hid (hs.all j hj)
 have l1 := way_lim K1.out h2 h3
 have l2 := way_lim K2.out h2 h3
 show Calls Tryz.prog 211 #[.agg #[.slice (some ⟨b, o, none⟩) s.bodies.length c, .int .i64 x, .int .i64 y, .int .i64 z], .int .i64 (i : Int), .int .i64 (j : Int), .int .i64 day] w fun e w' => e = .returned (.int .i64 (Sp.way (bd s.bodies i) day - Sp.way (bd s.bodies j) day)) ∧ Ext w w'
 clear hB hm hs
 generalize bd s.bodies i = P at *
 generalize bd s.bodies j = Q at *
 obtain ⟨A1, r1, hr1, I1⟩ := B1.road
 obtain ⟨A2, r2, hr2, I2⟩ := B2.road
 have HI1 := Lib.hid I1
 have HI2 := Lib.hid I2
 have n1 := B1.num
 have d1 := B1.den
 have s1 := B1.start
 have n2 := B2.num
 have d2 := B2.den
 have s2 := B2.start
 clear I1 I2 B1 B2
 have hi' : (0 : Int) ≤ (i : Int) ∧ (i : Int) < (s.bodies.length : Int) := by omega
 have hj' : (0 : Int) ≤ (j : Int) ∧ (j : Int) < (s.bodies.length : Int) := by omega
 go_enter Tryz.func211, Tryz.ntmps211
 go_wp2_with fail
 refine wp_region_later (by kernel_rfl) (by kernel_rfl) (fun W hW => ?_)
 have q1 := Later.block (w := W) (by rw [hW]; exact blocks1 _ _)
 have hE0 : Ext w W := by rw [hW]; exact (Ext.refl _).alloc _
 clear hW
 have a1 := fun X : Later W => (hE0.trans X.ext).cell n1
 have a2 := fun X : Later W => (hE0.trans X.ext).cell d1
 have a3 := fun X : Later W => (hE0.trans X.ext).cell s1
 have a4 := fun X : Later W => (hE0.trans X.ext).cell hr1
 have b1 := fun X : Later W => (hE0.trans X.ext).cell n2
 have b2 := fun X : Later W => (hE0.trans X.ext).cell d2
 have b3 := fun X : Later W => (hE0.trans X.ext).cell s2
 have b4 := fun X : Later W => (hE0.trans X.ext).cell hr2
 have J1 := Lib.hid (fun X : Later W => HI1.out.ext (hE0.trans X.ext))
 have J2 := Lib.hid (fun X : Later W => HI2.out.ext (hE0.trans X.ext))
 clear n1 d1 s1 hr1 n2 d2 s2 hr2
 repeat (go_big_quiet_step (fail))
 go_big_quiet_step ((go_at_call 212; exact Later.call (r_way_any P _ _ _ _ (by omega) (by omega) K1.out (by exact J1.out _))))
 repeat (go_big_quiet_step (fail))
 go_big_quiet_step ((go_at_call 212; exact Later.call (r_way_any Q _ _ _ _ (by omega) (by omega) K2.out (by exact J2.out _))))
 repeat (go_big_quiet_step (fail))
 refine wpQuiet_nil ?_
 rintro ⟨W3, hE⟩
 go_wp2_with fail
 go_ret
 exact ⟨rfl, hE0.trans hE⟩
theorem r_ahead_any (s : Sp.Sky) (A : Option Addr) (c : Nat) (x y z day i j : Int) (w : World) (hs : SkyOk s) (hm : Bodies w A s.bodies) (h0 : 0 ≤ i) (h1 : i < s.bodies.length) (h4 : 0 ≤ j) (h5 : j < s.bodies.length) (h2 : 0 ≤ day) (h3 : day ≤ 20000) :
  Calls Tryz.prog 211 #[.agg #[.slice A s.bodies.length c, .int .i64 x, .int .i64 y, .int .i64 z], .int .i64 i, .int .i64 j, .int .i64 day] w fun e w' => e = .returned (.int .i64 (Sp.ahead s i j day)) ∧ Ext w w' := by
 obtain ⟨a, rfl⟩ := Int.eq_ofNat_of_zero_le h0
 obtain ⟨b, rfl⟩ := Int.eq_ofNat_of_zero_le h4
 exact r_ahead_nat s A c a b x y z day w hs hm (by omega) (by omega) h2 h3
theorem ahead_lim {s : Sp.Sky} (hs : SkyOk s) {i j day : Int} (h0 : 0 ≤ i) (h1 : i < s.bodies.length) (h4 : 0 ≤ j) (h5 : j < s.bodies.length) (h2 : 0 ≤ day) (h3 : day ≤ 20000) :
  -200000000 ≤ Sp.ahead s i j day ∧ Sp.ahead s i j day ≤ 200000000 := by
 have a := way_sky_bounds hs h0 h1 h2 h3
 have b := way_sky_bounds hs h4 h5 h2 h3
 unfold Sp.ahead
 omega
theorem r_Moon_any (s : Sp.Sky) (A : Option Addr) (c : Nat) (x y z day : Int) (full : Bool) (w : World) (hs : SkyOk s) (hm : Bodies w A s.bodies) (h2 : 1 ≤ day) (h3 : day ≤ 20000) :
  Calls Tryz.prog 188 #[.agg #[.slice A s.bodies.length c, .int .i64 x, .int .i64 y, .int .i64 z], .int .i64 day, .bool full] w fun e w' => e = .returned (.bool (Sp.moonB s day full)) ∧ Ext w w' := by
 have n2 := hs.n2
 have l1 := ahead_lim hs (i := 1) (j := 0) (day := day) (by omega) (by omega) (by omega) (by omega) (by omega) h3
 have l2 := ahead_lim hs (i := 1) (j := 0) (day := day - 1) (by omega) (by omega) (by omega) (by omega) (by omega) (by omega)
 have HM := Lib.hid hm
 have HS := Lib.hid hs
 clear hm hs
 cases full
 all_goals
  go_enter Tryz.func188, Tryz.ntmps188
  go_wp2_with fail
  refine wp_region_later (by kernel_rfl) (by kernel_rfl) (fun W hW => ?_)
  have q1 := Later.block (w := W) (by rw [hW]; exact blocks1 _ _)
  have hE0 : Ext w W := by rw [hW]; exact (Ext.refl _).alloc _
  clear hW
  have HB := Lib.hid (fun X : Later W => HM.out.ext (hE0.trans X.ext))
  repeat (go_big_quiet_step (fail))
  go_big_quiet_step ((go_at_call 211; exact Later.call (r_ahead_any s A c _ _ _ _ _ _ _ HS.out (by exact HB.out _) (by omega) (by omega) (by omega) (by omega) (by omega) (by omega))))
  repeat (go_big_quiet_step (fail))
  go_big_quiet_step ((go_at_call 211; exact Later.call (r_ahead_any s A c _ _ _ _ _ _ _ HS.out (by exact HB.out _) (by omega) (by omega) (by omega) (by omega) (by omega) (by omega))))
  repeat (go_big_quiet_step (fail))
  go_big_quiet_step ((go_at_call 210; exact Later.call ((r_passed_any _ _ _ (by omega) (by omega) (by omega) (by omega)).mono fun _ _ h => ⟨h.1, Ext.rfl_of h.2⟩)))
  repeat (go_big_quiet_step (fail))
  refine wpQuiet_nil ?_
  rintro ⟨W3, hE⟩
  go_wp2_with fail
  go_ret
  exact ⟨ret_bool (by simp [Sp.moonB, Sp.halfOf]), hE0.trans hE⟩
theorem r_Far_any (s : Sp.Sky) (A : Option Addr) (c : Nat) (day : Int) (w : World) (hs : SkyOk s) (hm : Bodies w A s.bodies) (h2 : 0 ≤ day) (h3 : day ≤ 20000) :
  Calls Tryz.prog 167 #[.agg #[.slice A s.bodies.length c, .int .i64 s.nnum, .int .i64 s.nden, .int .i64 s.nstart], .int .i64 day] w fun e w' => e = .returned (.int .i64 (Sp.far s day)) ∧ Ext w w' := by
 have n2 := hs.n2
 have hnode : 0 ≤ Sp.node s day ∧ Sp.node s day < 21600 := emod_bounds (s.nstart - Sp.gone s.nnum s.nden day) 21600 (by omega)
 have HS := Lib.hid hs
 obtain ⟨b, o, rfl, hB⟩ := hm (by omega)
 have B1 := hB 1 (by omega)
 have K1 := Lib.hid (hs.all 1 (by omega))
 have l1 := way_lim K1.out h2 h3
 have hpl : 0 ≤ Sp.place (bd s.bodies 1) day ∧ Sp.place (bd s.bodies 1) day < 21600 := emod_bounds (Sp.way (bd s.bodies 1) day) 21600 (by omega)
 have hfar : Sp.far s day = min ((Sp.place (bd s.bodies 1) day - Sp.node s day) % 21600 % 10800) (10800 - (Sp.place (bd s.bodies 1) day - Sp.node s day) % 21600 % 10800) := by
  have e1 : (Sp.place (bd s.bodies 1) day - Sp.node s day) % 21600 % 10800 = (Sp.way (Sp.body s 1) day - Sp.node s day) % 10800 := by
   show (Sp.way (bd s.bodies 1) day % 21600 - Sp.node s day) % 21600 % 10800 = (Sp.way (bd s.bodies 1) day - Sp.node s day) % 10800
   omega
  rw [e1]
  rfl
 rw [hfar]
 have hr := emod_bounds ((Sp.place (bd s.bodies 1) day - Sp.node s day) % 21600) 10800 (by omega)
 have hr2 := emod_bounds (Sp.place (bd s.bodies 1) day - Sp.node s day) 21600 (by omega)
 have ht : ((Sp.place (bd s.bodies 1) day - Sp.node s day) % 21600).tmod 10800 = (Sp.place (bd s.bodies 1) day - Sp.node s day) % 21600 % 10800 := Int.tmod_eq_emod_of_nonneg hr2.1
 clear hB hm hs hfar
 generalize bd s.bodies 1 = P at *
 obtain ⟨A1, r1, hr1, I1⟩ := B1.road
 have HI1 := Lib.hid I1
 have n1 := B1.num
 have d1 := B1.den
 have s1 := B1.start
 clear I1 B1
 go_enter Tryz.func167, Tryz.ntmps167
 go_wp2_with fail
 refine wp_region_later (by kernel_rfl) (by kernel_rfl) (fun W hW => ?_)
 have q1 := Later.block (w := W) (by rw [hW]; exact blocks1 _ _)
 have hE0 : Ext w W := by rw [hW]; exact (Ext.refl _).alloc _
 clear hW
 have a1 := fun X : Later W => (hE0.trans X.ext).cell n1
 have a2 := fun X : Later W => (hE0.trans X.ext).cell d1
 have a3 := fun X : Later W => (hE0.trans X.ext).cell s1
 have a4 := fun X : Later W => (hE0.trans X.ext).cell hr1
 have J1 := Lib.hid (fun X : Later W => HI1.out.ext (hE0.trans X.ext))
 clear n1 d1 s1 hr1
 repeat (go_big_quiet_step (fail))
 go_big_quiet_step ((go_at_call 189; exact Later.call (r_Place_any P _ _ _ _ (by omega) (by omega) K1.out (by exact J1.out _))))
 repeat (go_big_quiet_step (fail))
 go_big_quiet_step ((go_at_call 105; exact Later.call (r_Node_any s _ _ HS.out (by omega) (by omega))))
 repeat (go_big_quiet_step (fail))
 go_big_quiet_step ((go_at_call 80; exact Later.call ((r_Less_any _ _ (by omega) (by omega)).mono fun _ _ h => ⟨h.1, Ext.rfl_of h.2⟩)))
 repeat (go_big_quiet_step (fail))
 refine wpQuiet_nil ?_
 rintro ⟨W3, hE⟩
 go_wp2_with fail
 all_goals
  go_ret
  exact ⟨ret_int (by omega), hE0.trans hE⟩
end Go.Proofs.YtcbodpnmndbgnaaGreatDoor
namespace Go.Proofs.YtcbodpnmndbgnaaGreatDoor
open Go.RowKit
open Sp (rd)
def RMoonsRel (w : World) (s : Sp.Sky) (lo : Int) (N : Nat) (v d : Value) (wr : World) : Prop :=
 ∃ k : Nat, k ≤ N ∧ d = .int .i64 (lo + (k : Int)) ∧ wr.ownsRow w.heap.size 134 2 v (Sp.moonsN s lo k).length (moonCells (Sp.moonsN s lo k)) ∧ Ext w wr
set_option maxRecDepth 100000 in
set_option maxHeartbeats 1000000 in
theorem r_Moons_any (s : Sp.Sky) (A : Option Addr) (c : Nat) (x y z lo hi : Int) (w : World) (hs : SkyOk s) (hm : Bodies w A s.bodies) (h1 : 1 ≤ lo) (h2 : lo ≤ hi) (h3 : hi ≤ 20000) :
  Calls Tryz.prog 166 #[.agg #[.slice A s.bodies.length c, .int .i64 x, .int .i64 y, .int .i64 z], .int .i64 lo, .int .i64 hi] w fun e w' => ∃ v, e = .returned v ∧ MoonsVal w' v (Sp.moonsL s lo hi) ∧ Ext w w' := by
 have HM := Lib.hid hm
 have HS := Lib.hid hs
 clear hm hs
 obtain ⟨i0, hi0, hi1, hi2, hi3⟩ := info_parts info_moon
 obtain ⟨N, hN⟩ : ∃ N : Nat, hi + 1 - lo = (N : Int) := ⟨(hi + 1 - lo).toNat, by omega⟩
 have hML : Sp.moonsL s lo hi = Sp.moonsN s lo N := by unfold Sp.moonsL; rw [hN]; rfl
 rw [hML]
 clear hML
 go_enter Tryz.func166, Tryz.ntmps166
 go_wp2_with fail
 have hr0 := Row.new w 28 #[.slice A s.bodies.length c, .int .i64 x, .int .i64 y, .int .i64 z]
 have hE0 : Ext w (w.alloc (.cells #[.slice A s.bodies.length c, .int .i64 x, .int .i64 y, .int .i64 z] 28)) := (Ext.refl w).alloc _
 generalize w.alloc (.cells #[.slice A s.bodies.length c, .int .i64 x, .int .i64 y, .int .i64 z] 28) = w1 at *
 go_loopw [7, 8] (fun v d wr => RMoonsRel w1 s lo N v d wr) (fun _ d _ => (hi + 1 - intOf d).toNat)
 case atStart => exact ⟨0, Nat.zero_le _, by go_num, World.ownsRow_nil _ _ _ _, Ext.refl _⟩
 case round =>
  obtain ⟨k, hk, rfl, hown, hE⟩ := hrel
  have b0 := (hr0.ext hE).cell
  have HE := Lib.hid hE
  have hz := hE.size
  have hle := moonsN_le s lo k
  by_cases hlt : k < N
  ·have HO := Lib.hid hown
   obtain ⟨L, hL⟩ : ∃ L, Sp.moonsN s lo k = L := ⟨_, rfl⟩
   have HN : Hid (Sp.moonsN s lo (k + 1) = L ++ Sp.dayMoons s (lo + k)) := Lib.hid (by rw [← hL]; rfl)
   rw [hL] at HO hle
   clear hown hE hL
   go_wp2_with fail
   refine (r_Moon_any s A c x y z (lo + (k : Int)) false _ HS.out (HM.out.ext (hE0.trans HE.out)) (by omega) (by omega)).mono ?_
   rintro e w2 ⟨rfl, hE2⟩
   have hown2 := ownsRow_of_block HO.out (fun g hg => hE2.block g (HO.out.lt g hg).2)
   have b2 := (hr0.ext (HE.out.trans hE2)).cell
   have HE2 := Lib.hid (HE.out.trans hE2)
   have hz2 := hE2.size
   clear hE2 b0
   cases hb1 : Sp.moonB s (lo + (k : Int)) false <;> have HB1 := Lib.hid hb1 <;> clear hb1
   ·go_wp2_with fail
    refine (r_Moon_any s A c x y z (lo + (k : Int)) true _ HS.out (HM.out.ext (hE0.trans HE2.out)) (by omega) (by omega)).mono ?_
    rintro e w4 ⟨rfl, hE4⟩
    have hown4 := ownsRow_of_block hown2 (fun g hg => hE4.block g ((hown2).lt g hg).2)
    have HE4 := Lib.hid (HE2.out.trans hE4)
    have HO4 := Lib.hid hown4
    have hz4 := hE4.size
    clear hE4
    cases hb2 : Sp.moonB s (lo + (k : Int)) true <;> have HB2 := Lib.hid hb2 <;> clear hb2
    ·go_wp2_with fail
     refine ⟨⟨k + 1, by omega, by go_num, ?_, HE4.out⟩, by simp [intOf]; omega⟩
     rw [HN.out]
     simpa [Sp.dayMoons, HB1.out, HB2.out, moonCells_append, moonCells] using HO4.out
    ·go_wp2_with (at_builtin; refine wpList_append_own_at _ rfl _ _ 131 rfl w1.heap.size 134 i0 _ 2 16 Tryz.underlying131 hi0 hi1 hi2 hi3 rfl (by decide) _ L.length (moonCells L) rfl (hown4.alloc (.cells #[.int .i64 (lo + (k : Int)), .bool true] 134)) ⟨w4.heap.size, 0, none⟩ 1 1 [.int .i64 (lo + (k : Int)), .bool true] rfl rfl (World.news_of_block (cs := #[.int .i64 (lo + (k : Int)), .bool true]) (t := 134) (fr := (0, 0)) (heap_alloc_new _ _)) (by simp [Value.oneCell']) (by simp only [maxLen]; omega) (by omega) (by simp; omega) ?_; intro v' w5 hown5 hgrow _ _; have HO5 := Lib.hid hown5; have HG5 := Lib.hid hgrow; clear hown5 hgrow)
     refine ⟨⟨k + 1, by omega, by go_num, ?_, (HE4.out.alloc _).grown HG5.out (fun q hq => (hown4.lt q hq).1)⟩, by simp [intOf]; omega⟩
     rw [HN.out]
     simpa [Sp.dayMoons, HB1.out, HB2.out, moonCells_append, moonCells] using HO5.out
   ·go_wp2_with (at_builtin; refine wpList_append_own_at _ rfl _ _ 131 rfl w1.heap.size 134 i0 _ 2 16 Tryz.underlying131 hi0 hi1 hi2 hi3 rfl (by decide) _ L.length (moonCells L) rfl (hown2.alloc (.cells #[.int .i64 (lo + (k : Int)), .bool false] 134)) ⟨w2.heap.size, 0, none⟩ 1 1 [.int .i64 (lo + (k : Int)), .bool false] rfl rfl (World.news_of_block (cs := #[.int .i64 (lo + (k : Int)), .bool false]) (t := 134) (fr := (0, 0)) (heap_alloc_new _ _)) (by simp [Value.oneCell']) (by simp only [maxLen]; omega) (by omega) (by simp; omega) ?_; intro v' w3 hown3 hgrow _ _; have HO3 := Lib.hid hown3; have HE3 := Lib.hid ((HE2.out.alloc (.cells #[.int .i64 (lo + (k : Int)), .bool false] 134)).grown hgrow (fun q hq => (hown2.lt q hq).1)); have hz3 := HE3.out.size; have b3 := (hr0.ext HE3.out).cell; clear b2 hown3 hgrow)
    refine (r_Moon_any s A c x y z (lo + (k : Int)) true _ HS.out (HM.out.ext (hE0.trans HE3.out)) (by omega) (by omega)).mono ?_
    rintro e w4 ⟨rfl, hE4⟩
    have hown4 := ownsRow_of_block HO3.out (fun g hg => hE4.block g ((HO3.out).lt g hg).2)
    have HE4 := Lib.hid (HE3.out.trans hE4)
    have HO4 := Lib.hid hown4
    have hz4 := hE4.size
    clear hE4
    cases hb2 : Sp.moonB s (lo + (k : Int)) true <;> have HB2 := Lib.hid hb2 <;> clear hb2
    ·go_wp2_with fail
     refine ⟨⟨k + 1, by omega, by go_num, ?_, HE4.out⟩, by simp [intOf]; omega⟩
     rw [HN.out]
     simpa [Sp.dayMoons, HB1.out, HB2.out, moonCells_append, moonCells] using HO4.out
    ·go_wp2_with (at_builtin; refine wpList_append_own_at _ rfl _ _ 131 rfl w1.heap.size 134 i0 _ 2 16 Tryz.underlying131 hi0 hi1 hi2 hi3 rfl (by decide) _ (L.length + 1) (moonCells L ++ [Value.int .i64 (lo + (k : Int)), Value.bool false]) rfl (hown4.alloc (.cells #[.int .i64 (lo + (k : Int)), .bool true] 134)) ⟨w4.heap.size, 0, none⟩ 1 1 [.int .i64 (lo + (k : Int)), .bool true] rfl rfl (World.news_of_block (cs := #[.int .i64 (lo + (k : Int)), .bool true]) (t := 134) (fr := (0, 0)) (heap_alloc_new _ _)) (by simp [Value.oneCell']) (by simp only [maxLen]; omega) (by omega) (by simp; omega) ?_; intro v' w5 hown5 hgrow _ _; have HO5 := Lib.hid hown5; have HG5 := Lib.hid hgrow; clear hown5 hgrow)
     refine ⟨⟨k + 1, by omega, by go_num, ?_, (HE4.out.alloc _).grown HG5.out (fun q hq => (hown4.lt q hq).1)⟩, by simp [intOf]; omega⟩
     rw [HN.out]
     simpa [Sp.dayMoons, HB1.out, HB2.out, moonCells_append, moonCells] using HO5.out
  ·obtain rfl : k = N := by omega
   have HO := Lib.hid hown
   clear hown hE b0
   go_wp2_with fail
   go_ret
   exact ⟨_, rfl, MoonsVal.of_own HO.out, hE0.trans HE.out⟩
end Go.Proofs.YtcbodpnmndbgnaaGreatDoor
namespace Go.Proofs.YtcbodpnmndbgnaaGreatDoor
open Sp (rd)
set_option linter.unusedSimpArgs false
set_option linter.unusedVariables false
namespace Ec
def offN (l : List Pair) (num den turns : Int) : Int := (turnsN l * den - num * turnsD l) * turns * 21600
def within (l : List Pair) (num den limit turns : Int) : Bool := decide (max (offN l num den turns) (-offN l num den turns) ≤ limit * (turnsD l * den))
def prevF (feasts set : List Int) (k : Nat) : Int := if k = 0 then 0 else feastOf feasts set (k - 1)
def keepsGo (l : List Pair) (num den limit : Int) (feasts set : List Int) (until_ : Int) (k : Nat) : Nat → Bool
 | 0 => within l num den limit (until_ - prevF feasts set k)
 | n + 1 => if feastOf feasts set k < until_ then within l num den limit (feastOf feasts set k - prevF feasts set k) && keepsGo l num den limit feasts set until_ (k + 1) n else within l num den limit (until_ - prevF feasts set k)
def keeps (l : List Pair) (num den limit : Int) (feasts set : List Int) (until_ : Int) : Bool := keepsGo l num den limit feasts set until_ 0 set.length
theorem rising_lt {l : List Int} {lo hi : Int} {n : Nat} (h : risingN l lo hi n = true) {i j : Nat} (hij : i < j) (hj : j < n) : rd l i < rd l j := by
 induction j with
 | zero => omega
 | succ j ih =>
  have h1 := (rising_at h (j + 1) hj).2 (by omega)
  simp only [Nat.add_sub_cancel] at h1
  rcases Nat.lt_or_ge i j with h2 | h2
  ·have := ih h2 (by omega); omega
  ·obtain rfl : i = j := by omega
   exact h1
theorem set_at {feasts set : List Int} (h : setOk feasts set = true) {k : Nat} (hk : k < set.length) : 0 ≤ rd set k ∧ (rd set k).toNat < feasts.length := by
 have := (rising_at h k hk).1
 omega
theorem feastOf_lt {feasts set : List Int} (hf : feastsOk feasts = true) (hs : setOk feasts set = true) {i j : Nat} (hij : i < j) (hj : j < set.length) : feastOf feasts set i < feastOf feasts set j := by
 simp only [feastsOk, Bool.and_eq_true] at hf
 have a := set_at hs (show i < set.length by omega)
 have b := set_at hs hj
 have c := rising_lt hs hij hj
 exact rising_lt hf.1 (show (rd set i).toNat < (rd set j).toNat by omega) b.2
theorem lastN_stop {feasts set : List Int} {turn : Int} {j n : Nat} (hjn : j ≤ n) (h : ∀ i, j ≤ i → i < n → turn < feastOf feasts set i) : lastN feasts set turn n = lastN feasts set turn j := by
  induction n with
  | zero => obtain rfl : j = 0 := by omega
            rfl
  | succ n ih =>
    rcases Nat.lt_or_ge n j with h1 | h1
    · obtain rfl : j = n + 1 := by omega
      rfl
    · rw [lastN, if_neg (by have := h n h1 (by omega); omega)]
      exact ih h1 (fun i a b => h i a (by omega))
theorem last_prev {feasts set : List Int} {turn : Int} {k : Nat} (h : ∀ i, i < k → feastOf feasts set i ≤ turn) : lastN feasts set turn k = prevF feasts set k := by
 cases k with
 | zero => rfl
 | succ k => rw [lastN, if_pos (h k (by omega))]; rfl
def sunOff (e : Engine) (set : List Int) (day : Int) : Int := near (sunAt e set day - Sp.mean (Sp.body e.sky 0) day % 21600)
def moonOff (e : Engine) (set : List Int) (day : Int) : Int := near (moonAt e set day - Sp.mean (Sp.body e.sky 1) day % 21600)
def nodeOff (e : Engine) (set : List Int) (day : Int) : Int := near (nodeAt e set day - Sp.node e.sky day)
end Ec
end Go.Proofs.YtcbodpnmndbgnaaGreatDoor
namespace Go.Proofs.YtcbodpnmndbgnaaGreatDoor
open Sp (rd)
set_option linter.unusedSimpArgs false
set_option linter.unusedVariables false
namespace Ec
def withinN (e : Engine) (set : List Int) (lo hi : Int) (n : Int) : Nat → Option Int
 | 0 => none
 | k + 1 => if (missedL e set lo hi n).length = 0 then some n else withinN e set lo hi (n + 1) k
def withinO (e : Engine) (set : List Int) (lo hi : Int) : Option Int := withinN e set lo hi 0 31
def noEcl : Sp.Ecl := ⟨0, false, 0⟩
def untilI (e : Engine) (set : List Int) (lo hi late : Int) : Int :=
 if (missedL e set lo hi late).length = 0 then hi else ((missedL e set lo hi late).headD noEcl).day - 1
def Later (a b : Sp.Ecl) : Prop := a.day ≤ b.day
theorem missed_is (e : Engine) (set : List Int) (lo hi late : Int) (x : Sp.Ecl) : x ∈ missedL e set lo hi late ↔ (lo ≤ x.day ∧ x.day ≤ hi) ∧ (Sp.moonB e.sky x.day x.full = true ∧ x.far = Sp.far e.sky x.day ∧ Sp.far e.sky x.day ≤ (if x.full then e.fl else e.nw)) ∧ toldB e set x late = false := by
 rw [missed_mem]
 unfold realL
 rw [ecls_mem]
 constructor
 ·rintro ⟨⟨a, b, c⟩, d⟩; exact ⟨⟨a, b⟩, c, d⟩
 ·rintro ⟨⟨a, b⟩, c, d⟩; exact ⟨⟨a, b, c⟩, d⟩
def leastN (e : Engine) (set : List Int) (full : Bool) (lo : Int) : Nat → Int
 | 0 => 10800
 | k + 1 => if hasB e set (lo + k) full then min (leastN e set full lo k) (max 0 (farAt e set (lo + k) - limitOf e full)) else leastN e set full lo k
def leastOf (e : Engine) (set : List Int) (late : Int) (x : Sp.Ecl) : Int := leastN e set x.full (max 1 (x.day - late)) (x.day + late + 1 - max 1 (x.day - late)).toNat
def wideN (e : Engine) (set : List Int) (late : Int) : List Sp.Ecl → Int
 | [] => 0
 | x :: l => max (leastOf e set late x) (wideN e set late l)
def widens (e : Engine) (set : List Int) (lo hi late : Int) : Int := wideN e set late (realL e lo hi)
theorem leastN_le (e : Engine) (set : List Int) (full : Bool) (lo : Int) (k : Nat) (w : Int) (h0 : 0 ≤ w) (h1 : w < 10800) : leastN e set full lo k ≤ w ↔ ∃ d, lo ≤ d ∧ d < lo + k ∧ hasB e set d full = true ∧ farAt e set d ≤ limitOf e full + w := by
  induction k with
  | zero => simp only [leastN]; constructor
            · intro h; omega
            · rintro ⟨d, a, b, _⟩; omega
  | succ k ih =>
    unfold leastN
    constructor
    · intro h
      split at h
      · rename_i hh
        rcases Int.le_total (leastN e set full lo k) (max 0 (farAt e set (lo + k) - limitOf e full)) with h2 | h2
        · obtain ⟨d, a, b, c⟩ := ih.1 (by omega)
          exact ⟨d, a, by omega, c⟩
        · exact ⟨lo + k, by omega, by omega, hh, by omega⟩
      · obtain ⟨d, a, b, c⟩ := ih.1 h
        exact ⟨d, a, by omega, c⟩
    · rintro ⟨d, a, b, c, c2⟩
      rcases Int.lt_or_le d (lo + k) with h2 | h2
      · have := ih.2 ⟨d, a, h2, c, c2⟩
        split <;> omega
      · obtain rfl : d = lo + k := by omega
        rw [if_pos c]
        omega
theorem widens_lim (e : Engine) (set : List Int) (lo hi late : Int) : 0 ≤ widens e set lo hi late := by
 unfold widens
 generalize realL e lo hi = l
 induction l with
 | nil => simp [wideN]
 | cons x l ih => unfold wideN; omega
end Ec
end Go.Proofs.YtcbodpnmndbgnaaGreatDoor
namespace Go.Proofs.YtcbodpnmndbgnaaGreatDoor
open Sp (rd)
set_option linter.unusedSimpArgs false
set_option linter.unusedVariables false
namespace Ec
def cmpL : List Int → List Int → Int
 | [], [] => 0
 | [], _ :: _ => -1
 | _ :: _, [] => 1
 | a :: l, b :: m => if a < b then -1 else if b < a then 1 else cmpL l m
def setCmp (a b : List Int) : Int := if a.length < b.length then -1 else if b.length < a.length then 1 else cmpL a b
theorem cmpL_swap (a b : List Int) : cmpL b a = -cmpL a b := by
 induction a generalizing b with
 | nil => cases b <;> simp [cmpL]
 | cons x l ih =>
  cases b with
  | nil => simp [cmpL]
  | cons y m =>
   simp only [cmpL]
   by_cases h1 : x < y
   ·rw [if_pos h1, if_neg (by omega), if_pos h1]; rfl
   ·by_cases h2 : y < x
    ·rw [if_pos h2, if_neg h1, if_pos h2]
    ·rw [if_neg h1, if_neg h2, if_neg h2, if_neg h1]; exact ih m
theorem cmpL_eq {a b : List Int} (h : cmpL a b = 0) : a = b := by
 induction a generalizing b with
 | nil => cases b with
  | nil => rfl
  | cons y m => simp [cmpL] at h
 | cons x l ih =>
  cases b with
  | nil => simp [cmpL] at h
  | cons y m =>
   unfold cmpL at h
   split at h
   ·omega
   ·split at h
    ·omega
    ·have : x = y := by omega
     rw [this, ih h]
theorem cmpL_trans {a b c : List Int} (h : cmpL a b ≤ 0) (k : cmpL b c ≤ 0) : cmpL a c ≤ 0 := by
 induction a generalizing b c with
 | nil => cases c <;> simp [cmpL]
 | cons x l ih =>
  cases b with
  | nil => simp [cmpL] at h
  | cons y m =>
   cases c with
   | nil => simp [cmpL] at k
   | cons z n =>
    unfold cmpL at h k ⊢
    by_cases h1 : x < z
    ·rw [if_pos h1]; omega
    ·split at h
     ·split at k
      ·omega
      ·split at k
       ·omega
       ·omega
     ·split at h
      ·omega
      ·split at k
       ·omega
       ·split at k
        ·omega
        ·rw [if_neg h1, if_neg (by omega)]
         exact ih h k
theorem setCmp_swap (a b : List Int) : setCmp b a = -setCmp a b := by
 unfold setCmp
 by_cases h1 : a.length < b.length
 ·rw [if_pos h1, if_neg (by omega), if_pos h1]; rfl
 ·by_cases h2 : b.length < a.length
  ·rw [if_pos h2, if_neg h1, if_pos h2]
  ·rw [if_neg h1, if_neg h2, if_neg h2, if_neg h1]; exact cmpL_swap a b
theorem setCmp_eq {a b : List Int} (h : setCmp a b = 0) : a = b := by
 unfold setCmp at h
 split at h
 ·omega
 ·split at h
  ·omega
  ·exact cmpL_eq h
theorem setCmp_trans {a b c : List Int} (h : setCmp a b ≤ 0) (k : setCmp b c ≤ 0) : setCmp a c ≤ 0 := by
 unfold setCmp at h k ⊢
 by_cases h1 : a.length < c.length
 ·rw [if_pos h1]; omega
 ·split at h
  ·split at k
   ·omega
   ·split at k
    ·omega
    ·omega
  ·split at h
   ·omega
   ·split at k
    ·omega
    ·split at k
     ·omega
     ·rw [if_neg h1, if_neg (by omega)]
      exact cmpL_trans h k
def bestL (out : List Int) : List (List Int) → List Int
 | [] => out
 | x :: l => bestL (if setCmp x out < 0 then x else out) l
theorem bestL_is (out : List Int) (l : List (List Int)) : (bestL out l = out ∨ bestL out l ∈ l) ∧ setCmp (bestL out l) out ≤ 0 ∧ ∀ x ∈ l, setCmp (bestL out l) x ≤ 0 := by
 induction l generalizing out with
 | nil => exact ⟨.inl rfl, by unfold bestL; have := setCmp_swap out out; omega, fun x hx => by cases hx⟩
 | cons x l ih =>
  unfold bestL
  obtain ⟨h1, h2, h3⟩ := ih (if setCmp x out < 0 then x else out)
  have hx : setCmp (if setCmp x out < 0 then x else out) x ≤ 0 ∧ setCmp (if setCmp x out < 0 then x else out) out ≤ 0 := by
   have s1 := setCmp_swap x x
   have s2 := setCmp_swap out out
   have s3 := setCmp_swap x out
   split <;> exact ⟨by omega, by omega⟩
  refine ⟨?_, setCmp_trans h2 hx.2, fun y hy => ?_⟩
  ·rcases h1 with h1 | h1
   ·rw [h1]
    split
    ·exact .inr (by simp)
    ·exact .inl rfl
   ·exact .inr (List.mem_cons_of_mem _ h1)
  ·rcases List.mem_cons.1 hy with rfl | hy
   ·exact setCmp_trans h2 hx.1
   ·exact h3 y hy
def subs (n : Nat) (k : Nat) : List (List Int) := if k < n then (subs n (k + 1)).map (fun l => (k : Int) :: l) ++ subs n (k + 1) else [[]]
termination_by n - k
def Incr (n : Int) : Int → List Int → Prop
 | _, [] => True
 | k, x :: l => k ≤ x ∧ x < n ∧ Incr n (x + 1) l
theorem Incr.mono {n k k' : Int} {l : List Int} (h : k' ≤ k) (hi : Incr n k l) : Incr n k' l := by
 cases l with
 | nil => trivial
 | cons x l => exact ⟨by have := hi.1; omega, hi.2⟩
theorem subs_mem (n k : Nat) (l : List Int) : l ∈ subs n k ↔ Incr n k l := by
  induction hm : n - k generalizing k l with
  | zero =>
    unfold subs
    rw [if_neg (by omega)]
    cases l with
    | nil => simp [Incr]
    | cons x l => simp only [List.mem_singleton, Incr]; constructor
                  · intro h; cases h
                  · rintro ⟨h1, h2, _⟩; omega
  | succ m ih =>
    unfold subs
    rw [if_pos (by omega), List.mem_append, List.mem_map]
    have hi := fun l => ih (k + 1) l (by omega)
    constructor
    · rintro (⟨l', hl, rfl⟩ | hl)
      · exact ⟨Int.le_refl _, by omega, (hi l').1 hl⟩
      · exact Incr.mono (by omega) ((hi l).1 hl)
    · intro h
      cases l with
      | nil => exact .inr ((hi []).2 trivial)
      | cons x l =>
        obtain ⟨h1, h2, h3⟩ := h
        rcases Int.lt_or_le k x with h4 | h4
        · exact .inr ((hi (x :: l)).2 ⟨by omega, h2, h3⟩)
        · obtain rfl : x = (k : Int) := by omega
          exact .inl ⟨l, (hi l).2 h3, rfl⟩
def listsN (below : Int) : Nat → Int → List (List Int)
 | 0, _ => [[]]
 | m + 1, k => ((List.range (below - k).toNat).map fun i => (listsN below m (k + (i : Nat) + 1)).map fun l => (k + (i : Nat)) :: l).flatten
theorem listsN_mem (n : Int) (m : Nat) (k : Int) (l : List Int) : l ∈ listsN n m k ↔ l.length = m ∧ Incr n k l := by
 induction m generalizing k l with
 | zero =>
  simp only [listsN, List.mem_singleton]
  constructor
  ·rintro rfl; exact ⟨rfl, trivial⟩
  ·rintro ⟨h, _⟩; exact List.eq_nil_of_length_eq_zero h
 | succ m ih =>
  simp only [listsN, List.mem_flatten, List.mem_map, List.mem_range]
  constructor
  ·rintro ⟨_, ⟨i, hi, rfl⟩, hl⟩
   obtain ⟨l', hl', rfl⟩ := List.mem_map.1 hl
   obtain ⟨a, b⟩ := (ih _ _).1 hl'
   exact ⟨by simp [a], by omega, by omega, b⟩
  ·rintro ⟨h, hi⟩
   cases l with
   | nil => simp at h
   | cons x l =>
    obtain ⟨h1, h2, h3⟩ := hi
    refine ⟨_, ⟨(x - k).toNat, by omega, rfl⟩, List.mem_map.2 ⟨l, (ih _ _).2 ⟨by simpa using h, ?_⟩, ?_⟩⟩
    ·have : k + ((x - k).toNat : Nat) + 1 = x + 1 := by omega
     rw [this]; exact h3
    ·have : k + ((x - k).toNat : Nat) = x := by omega
     rw [this]
theorem listsN_sorted (n : Int) (m : Nat) (k : Int) : List.Pairwise (fun a b => cmpL a b < 0) (listsN n m k) := by
 induction m generalizing k with
 | zero => simp [listsN]
 | succ m ih =>
  simp only [listsN]
  rw [List.pairwise_flatten]
  refine ⟨fun L hL => ?_, ?_⟩
  ·obtain ⟨i, _, rfl⟩ := List.mem_map.1 hL
   rw [List.pairwise_map]
   exact (ih _).imp fun {a b} h => by
    show cmpL _ _ < 0
    rw [cmpL, if_neg (by omega), if_neg (by omega)]
    exact h
  ·rw [List.pairwise_map]
   refine List.pairwise_lt_range.imp fun {i j} hij a ha b hb => ?_
   obtain ⟨a', _, rfl⟩ := List.mem_map.1 ha
   obtain ⟨b', _, rfl⟩ := List.mem_map.1 hb
   show cmpL _ _ < 0
   rw [cmpL, if_pos (by omega)]
   omega
end Ec
end Go.Proofs.YtcbodpnmndbgnaaGreatDoor
namespace Go.Proofs.YtcbodpnmndbgnaaGreatDoor
open Sp (rd)
set_option linter.unusedSimpArgs false
set_option linter.unusedVariables false
namespace Ec
theorem Incr.len {n : Int} : ∀ {l : List Int} {k : Int}, Incr n k l → l.length ≤ (n - k).toNat
 | [], _, _ => Nat.zero_le _
 | x :: l, k, ⟨h1, h2, h3⟩ => by
  have := Incr.len h3
  simp only [List.length_cons]
  omega
def allN (n : Nat) : List (List Int) := ((List.range (n + 1)).map fun m => listsN n m 0).flatten
theorem allN_mem (n : Nat) (l : List Int) : l ∈ allN n ↔ Incr n 0 l := by
 unfold allN
 simp only [List.mem_flatten, List.mem_map, List.mem_range]
 constructor
 ·rintro ⟨_, ⟨m, _, rfl⟩, h⟩; exact ((listsN_mem ..).1 h).2
 ·intro h
  have := h.len
  exact ⟨_, ⟨l.length, by omega, rfl⟩, (listsN_mem ..).2 ⟨rfl, h⟩⟩
theorem allN_sorted (n : Nat) : List.Pairwise (fun a b => setCmp a b < 0) (allN n) := by
 unfold allN
 rw [List.pairwise_flatten]
 refine ⟨fun L hL => ?_, ?_⟩
 ·obtain ⟨m, _, rfl⟩ := List.mem_map.1 hL
  refine (List.Pairwise.and_mem.1 (listsN_sorted n m 0)).imp fun {a b} h => ?_
  obtain ⟨ha, hb, h⟩ := h
  have h1 := ((listsN_mem ..).1 ha).1
  have h2 := ((listsN_mem ..).1 hb).1
  show setCmp a b < 0
  unfold setCmp
  rw [if_neg (by omega), if_neg (by omega)]
  exact h
 ·rw [List.pairwise_map]
  refine List.pairwise_lt_range.imp fun {i j} hij a ha b hb => ?_
  have h1 := ((listsN_mem ..).1 ha).1
  have h2 := ((listsN_mem ..).1 hb).1
  show setCmp a b < 0
  unfold setCmp
  rw [if_pos (by omega)]
  omega
def docSet (good : List Int → Bool) (n : Nat) : Option (List Int) := (allN n).find? good
def progSet (good : List Int → Bool) (n : Nat) : Option (List Int) :=
 match (subs n 0).filter good with
 | [] => none
 | x :: l => some (bestL x l)
theorem find_least {good : List Int → Bool} : ∀ {L : List (List Int)} {y : List Int}, List.Pairwise (fun a b => setCmp a b < 0) L → L.find? good = some y →
  good y = true ∧ y ∈ L ∧ ∀ z ∈ L, good z = true → setCmp y z ≤ 0
 | [], _, _, h => by cases h
 | x :: L, y, hs, h => by
  obtain ⟨h1, h2⟩ := List.pairwise_cons.1 hs
  rw [List.find?_cons] at h
  split at h
  ·rename_i hg
   obtain rfl : x = y := by simpa using h
   refine ⟨hg, by simp, fun z hz _ => ?_⟩
   rcases List.mem_cons.1 hz with rfl | hz
   ·have := setCmp_swap z z; omega
   ·have := h1 z hz; omega
  ·rename_i hg
   obtain ⟨a, b, c⟩ := find_least h2 h
   refine ⟨a, List.mem_cons_of_mem _ b, fun z hz hgz => ?_⟩
   rcases List.mem_cons.1 hz with rfl | hz
   ·rw [hgz] at hg; cases hg
   ·exact c z hz hgz
theorem prog_doc (good : List Int → Bool) (n : Nat) : progSet good n = docSet good n := by
 have hm : ∀ l, l ∈ (subs n 0).filter good ↔ l ∈ allN n ∧ good l = true := fun l => by
  rw [List.mem_filter, subs_mem, allN_mem]; rfl
 unfold progSet docSet
 cases hG : (subs n 0).filter good with
 | nil =>
  dsimp only
  rw [eq_comm, List.find?_eq_none]
  intro x hx hg
  have := (hm x).2 ⟨hx, hg⟩
  rw [hG] at this
  cases this
 | cons x l =>
  dsimp only
  rw [hG] at hm
  obtain ⟨b1, b2, b3⟩ := bestL_is x l
  have hb : bestL x l ∈ x :: l := by
   rcases b1 with b1 | b1
   ·rw [b1]; simp
   ·exact List.mem_cons_of_mem _ b1
  cases hf : (allN n).find? good with
  | none =>
   rw [List.find?_eq_none] at hf
   have := (hm _).1 hb
   exact absurd this.2 (hf _ this.1)
  | some y =>
   obtain ⟨c1, c2, c3⟩ := find_least (allN_sorted n) hf
   have hb' := (hm _).1 hb
   have h1 := c3 _ hb'.1 hb'.2
   have hy := (hm y).2 ⟨c2, c1⟩
   have h2 : setCmp (bestL x l) y ≤ 0 := by
    rcases List.mem_cons.1 hy with rfl | hy
    ·exact b2
    ·exact b3 y hy
   have h3 := setCmp_swap (bestL x l) y
   rw [setCmp_eq (show setCmp (bestL x l) y = 0 by omega)]
theorem doc_is {good : List Int → Bool} {n : Nat} {y : List Int} (h : docSet good n = some y) : good y = true ∧ Incr n 0 y ∧ ∀ z, Incr n 0 z → good z = true → y.length ≤ z.length := by
 obtain ⟨a, b, c⟩ := find_least (allN_sorted n) h
 refine ⟨a, (allN_mem ..).1 b, fun z hz hg => ?_⟩
 have := c z ((allN_mem ..).2 hz) hg
 unfold setCmp at this
 split at this
 ·omega
 ·split at this
  ·omega
  ·omega
end Ec
end Go.Proofs.YtcbodpnmndbgnaaGreatDoor
namespace Go.Proofs.YtcbodpnmndbgnaaGreatDoor
open Go.RowKit
open Sp (rd)
set_option maxRecDepth 100000
set_option maxHeartbeats 1000000
def cmpI (a b : Int) : Int := if a < b then -1 else if b < a then 1 else 0
theorem c_isNaN_any (x : Int) (w : World) : Calls Tryz.prog 138 #[.int .i64 x] w fun e w' => e = .returned (.bool false) ∧ w = w' := by
 go_enter Tryz.func138, Tryz.ntmps138
 go_wp2_with fail
 go_ret
 exact ⟨by simp, rfl⟩
theorem c_Compare_any (a b : Int) (w : World) : Calls Tryz.prog 97 #[.int .i64 a, .int .i64 b] w fun e w' => e = .returned (.int .i64 (cmpI a b)) ∧ w = w' := by
 rcases (show a < b ∨ a = b ∨ b < a by omega) with h | rfl | h
 ·have hc : cmpI a b = -1 := by unfold cmpI; rw [if_pos h]
  rw [hc]
  clear hc
  go_enter Tryz.func97, Tryz.ntmps97
  go_wp2_with fail
  refine (c_isNaN_any _ _).mono ?_
  rintro e w1 ⟨rfl, rfl⟩
  go_wp2_with fail
  refine (c_isNaN_any _ _).mono ?_
  rintro e w1 ⟨rfl, rfl⟩
  go_wp2_with fail
  go_ret
  exact ⟨rfl, rfl⟩
 ·have hc : cmpI a a = 0 := by unfold cmpI; simp
  rw [hc]
  clear hc
  go_enter Tryz.func97, Tryz.ntmps97
  go_wp2_with fail
  refine (c_isNaN_any _ _).mono ?_
  rintro e w1 ⟨rfl, rfl⟩
  go_wp2_with fail
  refine (c_isNaN_any _ _).mono ?_
  rintro e w1 ⟨rfl, rfl⟩
  go_wp2_with fail
  go_ret
  exact ⟨rfl, rfl⟩
 ·have hc : cmpI a b = 1 := by unfold cmpI; rw [if_neg (by omega), if_pos h]
  rw [hc]
  clear hc
  go_enter Tryz.func97, Tryz.ntmps97
  go_wp2_with fail
  refine (c_isNaN_any _ _).mono ?_
  rintro e w1 ⟨rfl, rfl⟩
  go_wp2_with fail
  refine (c_isNaN_any _ _).mono ?_
  rintro e w1 ⟨rfl, rfl⟩
  go_wp2_with fail
  go_ret
  exact ⟨rfl, rfl⟩
theorem rd_at {l : List Int} {k : Nat} (h : k < l.length) : rd l k = l[k] := by simp [rd, List.getElem?_eq_getElem h]
theorem cmpL_at (l m : List Int) (k : Nat) (h1 : k < l.length) (h2 : k < m.length) :
  Ec.cmpL (l.drop k) (m.drop k) = if cmpI (rd l k) (rd m k) = 0 then Ec.cmpL (l.drop (k + 1)) (m.drop (k + 1)) else cmpI (rd l k) (rd m k) := by
 rw [List.drop_eq_getElem_cons h1, List.drop_eq_getElem_cons h2, rd_at h1, rd_at h2]
 unfold cmpI
 rw [Ec.cmpL]
 by_cases a : l[k] < m[k]
 ·simp [a]
 ·by_cases b : m[k] < l[k]
  ·simp [a, b]
  ·simp [a, b]
theorem cmpL_end1 (l m : List Int) (h : l.length ≤ m.length) : Ec.cmpL (l.drop l.length) (m.drop l.length) = if l.length < m.length then -1 else 0 := by
 rw [List.drop_length]
 by_cases h1 : l.length < m.length
 ·rw [if_pos h1, List.drop_eq_getElem_cons h1]; rfl
 ·rw [if_neg h1, List.drop_eq_nil_of_le (by omega)]; rfl
theorem cmpL_end2 (l m : List Int) (h : m.length < l.length) : Ec.cmpL (l.drop m.length) (m.drop m.length) = 1 := by
 rw [List.drop_length, List.drop_eq_getElem_cons h]; rfl
theorem sl_Compare_any (A B : Option Addr) (c d : Nat) (l m : List Int) (w : World) (hA : Ints w A l) (hB : Ints w B m) (h1 : l.length ≤ 100000) (h2 : m.length ≤ 100000) :
  Calls Tryz.prog 98 #[.slice A l.length c, .slice B m.length d] w fun e w' => e = .returned (.int .i64 (Ec.cmpL l m)) ∧ w = w' := by
 have HA := Lib.hid hA
 have HB := Lib.hid hB
 clear hA hB
 go_enter Tryz.func98, Tryz.ntmps98
 go_wp2_with fail
 go_loopw [11] (fun i wr => ∃ k : Nat, k ≤ l.length ∧ i = .int .i64 k ∧ k ≤ m.length ∧ Hid (Ec.cmpL l m = Ec.cmpL (l.drop k) (m.drop k)) ∧ w = wr) (fun i _ => l.length - (intOf i).toNat)
 case atStart => exact ⟨0, Nat.zero_le _, rfl, Nat.zero_le _, Lib.hid rfl, rfl⟩
 case round =>
  obtain ⟨k, hk, rfl, hkm, HQ, rfl⟩ := hrel
  by_cases hlt : k < l.length
  ·obtain ⟨b, o, rfl, hc⟩ := HA.out (by omega)
   have q := hc k hlt
   clear hc
   by_cases hlm : k < m.length
   ·obtain ⟨b', o', rfl, hc'⟩ := HB.out (by omega)
    have q' := hc' k hlm
    have HS := Lib.hid (cmpL_at l m k hlt hlm)
    clear hc'
    obtain ⟨x, hx⟩ : ∃ x, rd l k = x := ⟨_, rfl⟩
    obtain ⟨y, hy⟩ : ∃ y, rd m k = y := ⟨_, rfl⟩
    rw [hx] at q HS
    rw [hy] at q' HS
    clear hx hy
    go_wp2_with fail
    refine (c_Compare_any x y _).mono ?_
    rintro e w1 ⟨rfl, rfl⟩
    obtain ⟨z, hz⟩ : ∃ z, cmpI x y = z := ⟨_, rfl⟩
    rw [hz] at HS ⊢
    clear hz
    by_cases hz0 : z = 0
    ·subst hz0
     go_wp2_with fail
     go_roundw
     case rel => exact ⟨k + 1, by omega, by go_num, by omega, Lib.hid (by rw [HQ.out, HS.out]; simp), by simp⟩
     case measure => simp [intOf]; omega
    ·have e1 : (z == 0) = false := by simpa using hz0
     have e2 : (z != 0) = true := by simpa using hz0
     go_wp2_with fail
     go_ret
     exact ⟨by rw [HQ.out, HS.out, if_neg hz0] <;> rfl, rfl⟩
   ·obtain rfl : k = m.length := by omega
    have HS := Lib.hid (cmpL_end2 l m hlt)
    go_wp2_with fail
    go_ret
    exact ⟨by rw [HQ.out, HS.out] <;> rfl, rfl⟩
  ·obtain rfl : k = l.length := by omega
   have HS := Lib.hid (cmpL_end1 l m hkm)
   by_cases hlm : l.length < m.length
   ·go_wp2_with fail
    go_ret
    exact ⟨by rw [HQ.out, HS.out, if_pos (by omega)] <;> rfl, rfl⟩
   ·go_wp2_with fail
    go_ret
    exact ⟨by rw [HQ.out, HS.out, if_neg (by omega)] <;> rfl, rfl⟩
theorem c_Or_any (g : Nat) (a b : Int) (w : World) (hr : Row w g 3 #[.int .i64 a, .int .i64 b]) :
  Calls Tryz.prog 96 #[.slice (some ⟨g, 0, none⟩) 2 2] w fun e w' => e = .returned (.int .i64 (if a = 0 then b else a)) ∧ w = w' := by
 have q := hr.cell
 clear hr
 go_enter Tryz.func96, Tryz.ntmps96
 go_wp2_with fail
 go_loopw [8] (fun i wr => (i = .int .i64 0 ∨ (i = .int .i64 1 ∧ a = 0) ∨ (i = .int .i64 2 ∧ a = 0 ∧ b = 0)) ∧ w = wr) (fun i _ => 2 - (intOf i).toNat)
 case atStart => exact ⟨.inl rfl, rfl⟩
 case round =>
  obtain ⟨rfl | ⟨rfl, rfl⟩ | ⟨rfl, rfl, rfl⟩, rfl⟩ := hrel
  ·by_cases h0 : a = 0
   ·subst h0
    go_wp2_with fail
    go_roundw
    case rel => simp
    case measure => simp [intOf]
   ·have e1 : (a == 0) = false := by simpa using h0
    have e2 : (a != 0) = true := by simpa using h0
    have HH := Lib.hid h0
    clear h0
    go_wp2_with fail
    go_ret
    exact ⟨by first | rfl | (rw [if_neg HH.out] <;> rfl), rfl⟩
  ·by_cases h0 : b = 0
   ·subst h0
    go_wp2_with fail
    go_roundw
    case rel => simp
    case measure => simp [intOf]
   ·have e1 : (b == 0) = false := by simpa using h0
    have e2 : (b != 0) = true := by simpa using h0
    go_wp2_with fail
    go_ret
    exact ⟨by simp, rfl⟩
  ·go_wp2_with fail
   go_ret
   exact ⟨by simp, rfl⟩
theorem setCmp_or (l m : List Int) : Ec.setCmp l m = if cmpI l.length m.length = 0 then Ec.cmpL l m else cmpI l.length m.length := by
 unfold Ec.setCmp cmpI
 rcases Nat.lt_trichotomy l.length m.length with h | h | h
 ·rw [if_pos h, if_pos (show (l.length : Int) < (m.length : Int) by omega)]; rfl
 ·rw [if_neg (by omega), if_neg (by omega), if_neg (show ¬ (l.length : Int) < (m.length : Int) by omega), if_neg (show ¬ (m.length : Int) < (l.length : Int) by omega)]; rfl
 ·rw [if_neg (by omega), if_pos h, if_neg (show ¬ (l.length : Int) < (m.length : Int) by omega), if_pos (show (m.length : Int) < (l.length : Int) by omega)]; rfl
theorem better_any (A B : Option Addr) (c d : Nat) (l m : List Int) (w : World) (hA : Ints w A l) (hB : Ints w B m) (h1 : l.length ≤ 100000) (h2 : m.length ≤ 100000) :
  Calls Tryz.prog 95 #[.slice A l.length c, .slice B m.length d] w fun e w' => e = .returned (.bool (decide (Ec.setCmp l m < 0))) ∧ Ext w w' := by
 have HA := Lib.hid hA
 have HB := Lib.hid hB
 have HS := Lib.hid (setCmp_or l m)
 clear hA hB
 go_enter Tryz.func95, Tryz.ntmps95
 go_wp2_with fail
 refine (c_Compare_any _ _ _).mono ?_
 rintro e w1 ⟨rfl, rfl⟩
 obtain ⟨x, hx⟩ : ∃ x, cmpI (l.length : Int) (m.length : Int) = x := ⟨_, rfl⟩
 rw [hx] at HS ⊢
 clear hx
 go_wp2_with fail
 refine (sl_Compare_any A B c d l m _ HA.out HB.out h1 h2).mono ?_
 rintro e w1 ⟨rfl, rfl⟩
 obtain ⟨y, hy⟩ : ∃ y, Ec.cmpL l m = y := ⟨_, rfl⟩
 rw [hy] at HS ⊢
 clear hy
 go_wp2_with fail
 refine (c_Or_any _ x y _ (Row.new _ _ _)).mono ?_
 rintro e w1 ⟨rfl, rfl⟩
 have HS2 : Hid ((if x = 0 then y else x) = Ec.setCmp l m) := Lib.hid HS.out.symm
 obtain ⟨z, hz⟩ : ∃ z, (if x = 0 then y else x) = z := ⟨_, rfl⟩
 rw [hz] at HS2 ⊢
 clear hz
 go_wp2_with fail
 go_ret
 exact ⟨by rw [← HS2.out] <;> rfl, (Ext.refl _).alloc _⟩
def ListsAt (w : World) (A : Option Addr) (ls : List (List Int)) : Prop := 0 < ls.length → ∃ b o, A = some ⟨b, o, none⟩ ∧ ∀ k, (hk : k < ls.length) → ∃ B d, w.cell? ⟨b, o + k, none⟩ = some (.slice B (ls[k]).length d) ∧ Ints w B ls[k]
theorem ListsAt.ext {w w' : World} {A : Option Addr} {ls : List (List Int)} (h : ListsAt w A ls) (he : Ext w w') : ListsAt w' A ls := fun h0 =>
 let ⟨b, o, e, hk⟩ := h h0
 ⟨b, o, e, fun k hk' => let ⟨B, d, h1, h2⟩ := hk k hk'; ⟨B, d, he.cell h1, h2.ext he⟩⟩
def bestO : List (List Int) → List Int
 | [] => []
 | x :: l => Ec.bestL x l
theorem bestL_snoc (out : List Int) (l : List (List Int)) (x : List Int) : Ec.bestL out (l ++ [x]) = if Ec.setCmp x (Ec.bestL out l) < 0 then x else Ec.bestL out l := by
 induction l generalizing out with
 | nil => rfl
 | cons y l ih => simp only [List.cons_append, Ec.bestL]; exact ih _
theorem bestO_succ (ls : List (List Int)) (k : Nat) (h : k < ls.length) (h0 : 0 < k) : bestO (ls.take (k + 1)) = if Ec.setCmp ls[k] (bestO (ls.take k)) < 0 then ls[k] else bestO (ls.take k) := by
 cases ls with
 | nil => cases h
 | cons x l =>
  obtain ⟨k, rfl⟩ : ∃ j, k = j + 1 := ⟨k - 1, by omega⟩
  have h' : k < l.length := by simpa using h
  simp only [List.take_succ_cons, bestO, List.getElem_cons_succ]
  rw [List.take_succ_eq_append_getElem h', bestL_snoc]
  rfl
theorem bestO_mem (ls : List (List Int)) : ∀ n, (∀ x ∈ ls, x.length ≤ n) → (bestO ls).length ≤ n := by
 intro n h
 cases ls with
 | nil => simp [bestO]
 | cons x l =>
  rcases (Ec.bestL_is x l).1 with e | e
  ·simp only [bestO, e]; exact h x (by simp)
  ·exact h _ (List.mem_cons_of_mem _ e)
def BestRel (w : World) (ls : List (List Int)) (v i : Value) (wr : World) : Prop :=
 ∃ k : Nat, k ≤ ls.length ∧ i = .int .i64 k ∧ Ext w wr ∧ ∃ B d, v = .slice B (bestO (ls.take k)).length d ∧ Ints wr B (bestO (ls.take k))
theorem best_sets (A : Option Addr) (c : Nat) (ls : List (List Int)) (w : World) (hA : ListsAt w A ls) (h1 : ls.length ≤ 100000) (h2 : ∀ x ∈ ls, x.length ≤ 100000) :
  Calls Tryz.prog 94 #[.slice A ls.length c, .func (.func 95) #[] #[]] w fun e w' => ∃ B d, e = .returned (.tuple #[.slice B (bestO ls).length d, .bool (decide (0 < ls.length))]) ∧ Ints w' B (bestO ls) ∧ Ext w w' := by
 have HA := Lib.hid hA
 have HH := Lib.hid h2
 clear hA h2
 go_enter Tryz.func94, Tryz.ntmps94
 go_wp2_with fail
 go_loopw [6, 11] (fun v i wr => BestRel w ls v i wr) (fun _ i _ => ls.length - (intOf i).toNat)
 case atStart => exact ⟨0, Nat.zero_le _, rfl, Ext.refl _, none, 0, rfl, fun h => by simp [bestO] at h⟩
 case round =>
  obtain ⟨k, hk, rfl, hE, B, d, rfl, hI⟩ := hrel
  by_cases hlt : k < ls.length
  ·obtain ⟨b, o, rfl, hc⟩ := (HA.out.ext hE) (by omega)
   obtain ⟨B2, d2, q, hI2⟩ := hc k hlt
   have hb1 := HH.out ls[k] (List.getElem_mem hlt)
   have hb2 := bestO_mem (ls.take k) 100000 (fun x hx => HH.out x (List.mem_of_mem_take hx))
   have HE := Lib.hid hE
   have HI := Lib.hid hI
   have HI2 := Lib.hid hI2
   rcases Nat.eq_zero_or_pos k with rfl | hp
   ·have hb0 : bestO (ls.take (0 + 1)) = ls[0] := by
     cases ls with
     | nil => cases hlt
     | cons x l => rfl
    have HB0 := Lib.hid hb0
    simp only [Nat.add_zero] at q
    clear hc hI hI2 hE hb0
    go_wp2_with fail
    go_roundw
    case rel => exact ⟨0 + 1, by omega, rfl, HE.out, B2, d2, by rw [HB0.out], by rw [HB0.out]; exact HI2.out⟩
    case measure => simp [intOf]; omega
   ·have hk0 : ((k : Int) == 0) = false := by simp; omega
    have HS := Lib.hid (bestO_succ ls k hlt hp)
    obtain ⟨out, hout⟩ : ∃ out, bestO (ls.take k) = out := ⟨_, rfl⟩
    rw [hout] at HS HI hb2 ⊢
    obtain ⟨x, hx⟩ : ∃ x, ls[k] = x := ⟨_, rfl⟩
    rw [hx] at q HS HI2 hb1
    clear hc hI hI2 hE hout hx
    go_wp2_with fail
    refine (better_any B2 B d2 d x out _ HI2.out HI.out hb1 hb2).mono ?_
    rintro e w3 ⟨rfl, hE3⟩
    have HE3 := Lib.hid (HE.out.trans hE3)
    have HI3 := Lib.hid (HI.out.ext hE3)
    have HI4 := Lib.hid (HI2.out.ext hE3)
    clear hE3 q
    by_cases hs : Ec.setCmp x out < 0
    ·have hd : decide (Ec.setCmp x out < 0) = true := by simpa using hs
     rw [hd]
     have HSS := Lib.hid (HS.out.trans (if_pos hs))
     clear hs hd
     go_wp2_with fail
     go_roundw
     case rel => exact ⟨k + 1, by omega, by go_num, HE3.out, B2, d2, by rw [HSS.out], by rw [HSS.out]; exact HI4.out⟩
     case measure => simp [intOf]; omega
    ·have hd : decide (Ec.setCmp x out < 0) = false := by simpa using hs
     rw [hd]
     have HSS := Lib.hid (HS.out.trans (if_neg hs))
     clear hs hd
     go_wp2_with fail
     go_roundw
     case rel => exact ⟨k + 1, by omega, by go_num, HE3.out, B, d, by rw [HSS.out], by rw [HSS.out]; exact HI3.out⟩
     case measure => simp [intOf]; omega
  ·obtain rfl : k = ls.length := by omega
   rw [List.take_length] at hI ⊢
   have HE := Lib.hid hE
   have HI := Lib.hid hI
   clear hE hI
   go_wp2_with fail
   go_ret2
   exact ⟨B, d, by simp, HI.out, HE.out⟩
end Go.Proofs.YtcbodpnmndbgnaaGreatDoor
namespace Go.Proofs.YtcbodpnmndbgnaaGreatDoor
open Go.RowKit Go.Shelf
open Sp (rd)
attribute [local go_sem] Oper.semAt_some
set_option maxRecDepth 100000
set_option maxHeartbeats 1000000
abbrev Ecl1 := { x : Sp.Ecl // (1 ≤ x.day ∧ x.day ≤ 9030) ∧ (0 ≤ x.far ∧ x.far ≤ 5400) }
def eclV (x : Sp.Ecl) : Value := .agg #[.int .i64 x.day, .bool x.full, .int .i64 x.far]
def KeepsEng (n0 bT bX M : Nat) (W W' : World) : Prop := Below n0 W W' ∧ W'.heap[bT]? = W.heap[bT]? ∧ W'.heap[bX]? = W.heap[bX]? ∧ W'.heap[M]? = W.heap[M]?
theorem keepsEng_t {n0 bT bX M : Nat} {A B C : World} (h : KeepsEng n0 bT bX M A B) (k : KeepsEng n0 bT bX M B C) : KeepsEng n0 bT bX M A C :=
 ⟨h.1.trans k.1, k.2.1.trans h.2.1, k.2.2.1.trans h.2.2.1, k.2.2.2.trans h.2.2.2⟩
theorem keepsEng_b {n0 bT bX M B : Nat} (h0 : n0 ≤ B) (h1 : bT < B) (h2 : bX < B) (h3 : M < B) (W : World) (l : Nat) (o o' : Obj) (hl : B ≤ l) (hW : W.heap[l]? = some o) (_ : o.isCells = false) (_ : o.isWalk = false) : KeepsEng n0 bT bX M W (W.putObj l o') :=
 ⟨(Below.refl n0 W).grown (grownBy_putObj' W l o') (by have := (Array.getElem?_eq_some_iff.1 hW).1; omega) (fun k e => by cases e; omega), World.putObj_heap_other (by omega), World.putObj_heap_other (by omega), World.putObj_heap_other (by omega)⟩
structure ForeIn (w0 : World) (p : EP) (e : Ec.Engine) (set : List Int) (M bT bX : Nat) (hi : Int) (W : World) : Prop where
 ext : Ext w0 W
 cache : Seen e set M W
 to : Row W bT 3 #[.int .i64 hi]
 x : Row W bX 100 #[.slice p.Ab e.sky.bodies.length p.cb, .int .i64 e.sky.nnum, .int .i64 e.sky.nden, .int .i64 e.sky.nstart, .slice p.As e.sun.length p.cs, .slice p.Am e.moon.length p.cm, .slice p.An e.node.length p.cn, .slice p.Af e.feasts.length p.cf, .int .i64 e.nw, .int .i64 e.fl, .int .i64 e.wide, .slice p.At set.length p.ct, .map (some M)]
theorem ForeIn.move {w0 : World} {p : EP} {e : Ec.Engine} {set : List Int} {M bT bX : Nat} {hi : Int} {W W' : World} (h : ForeIn w0 p e set M bT bX hi W) (hM : w0.heap.size ≤ M) (hm : Move e set M W W') : ForeIn w0 p e set M bT bX hi W' :=
 ⟨h.ext.trans' (hm.below hM h.ext.size), hm.cache, hm.row h.cache h.to, hm.row h.cache h.x⟩
theorem ForeIn.keep {w0 : World} {p : EP} {e : Ec.Engine} {set : List Int} {M bT bX : Nat} {hi : Int} {W W' : World} (h : ForeIn w0 p e set M bT bX hi W) (hk : KeepsEng w0.heap.size bT bX M W W') : ForeIn w0 p e set M bT bX hi W' :=
 ⟨h.ext.trans' hk.1, h.cache.of_block hk.2.2.2, hk.2.1.trans h.to, hk.2.2.1.trans h.x⟩
def ForeAll (e : Ec.Engine) (set : List Int) (lo hi : Int) (xs : List Ecl1) : Prop := xs.map Subtype.val = Ec.foreL e set (max 1 lo) hi
def ForeSome (e : Ec.Engine) (set : List Int) (lo hi : Int) (pre : List Ecl1) : Prop := ∃ rest, pre.map Subtype.val ++ rest = Ec.foreL e set (max 1 lo) hi
def forePart (e : Ec.Engine) (set : List Int) (d : Int) : Nat → List Sp.Ecl
 | 0 => []
 | 1 => if Ec.foreB e set d false then [⟨d, false, Ec.farAt e set d⟩] else []
 | _ => Ec.foreD e set d
theorem foreL_split (e : Ec.Engine) (set : List Int) (lo hi : Int) (k : Nat) (hk : k < (hi + 1 - lo).toNat) (j : Nat) (hj : j ≤ 2) : ∃ rest, Ec.foreN e set lo k ++ forePart e set (lo + (k : Nat)) j ++ rest = Ec.foreL e set lo hi := by
 have h1 : ∀ n, k + 1 ≤ n → ∃ rest, Ec.foreN e set lo (k + 1) ++ rest = Ec.foreN e set lo n := by
  intro n
  induction n with
  | zero => intro h; omega
  | succ n ih =>
   intro h
   rcases Nat.eq_or_lt_of_le h with h' | h'
   ·exact ⟨[], by rw [List.append_nil, h']⟩
   ·obtain ⟨r, hr⟩ := ih (by omega)
    exact ⟨r ++ Ec.foreD e set (lo + (n : Nat)), by rw [← List.append_assoc, hr]; rfl⟩
 obtain ⟨r, hr⟩ := h1 _ hk
 have h2 : ∃ r2, forePart e set (lo + (k : Nat)) j ++ r2 = Ec.foreD e set (lo + (k : Nat)) := by
  rcases (show j = 0 ∨ j = 1 ∨ j = 2 by omega) with rfl | rfl | rfl
  ·exact ⟨_, rfl⟩
  ·exact ⟨_, rfl⟩
  ·exact ⟨[], List.append_nil _⟩
 obtain ⟨r2, hr2⟩ := h2
 refine ⟨r2 ++ r, ?_⟩
 rw [List.append_assoc, ← List.append_assoc _ r2, hr2, ← List.append_assoc]
 exact hr
def foreW (p : EP) (e : Ec.Engine) (set : List Int) (M : Nat) (lo hi : Int) (w : World) : World :=
 ((w.alloc (.cells #[.slice p.Ab e.sky.bodies.length p.cb, .int .i64 e.sky.nnum, .int .i64 e.sky.nden, .int .i64 e.sky.nstart, .slice p.As e.sun.length p.cs, .slice p.Am e.moon.length p.cm, .slice p.An e.node.length p.cn, .slice p.Af e.feasts.length p.cf, .int .i64 e.nw, .int .i64 e.fl, .int .i64 e.wide, .slice p.At set.length p.ct, .map (some M)] 100)).alloc (.cells #[.int .i64 lo] 3)).alloc (.cells #[.int .i64 hi] 3)
theorem foreW_size (p : EP) (e : Ec.Engine) (set : List Int) (M : Nat) (lo hi : Int) (w : World) : (foreW p e set M lo hi w).heap.size = w.heap.size + 3 := by simp [foreW]
theorem foreW_ext (p : EP) (e : Ec.Engine) (set : List Int) (M : Nat) (lo hi : Int) (w : World) : Ext w (foreW p e set M lo hi w) := (((Ext.refl w).alloc _).alloc _).alloc _
theorem foreW_X (p : EP) (e : Ec.Engine) (set : List Int) (M : Nat) (lo hi : Int) (w : World) : Row (foreW p e set M lo hi w) w.heap.size 100 #[.slice p.Ab e.sky.bodies.length p.cb, .int .i64 e.sky.nnum, .int .i64 e.sky.nden, .int .i64 e.sky.nstart, .slice p.As e.sun.length p.cs, .slice p.Am e.moon.length p.cm, .slice p.An e.node.length p.cn, .slice p.Af e.feasts.length p.cf, .int .i64 e.nw, .int .i64 e.fl, .int .i64 e.wide, .slice p.At set.length p.ct, .map (some M)] := (blocks3 w _ _ _).1
theorem foreW_F (p : EP) (e : Ec.Engine) (set : List Int) (M : Nat) (lo hi : Int) (w : World) : Row (foreW p e set M lo hi w) (w.heap.size + 1) 3 #[.int .i64 lo] := (blocks3 w _ _ _).2.1
theorem foreW_T (p : EP) (e : Ec.Engine) (set : List Int) (M : Nat) (lo hi : Int) (w : World) : Row (foreW p e set M lo hi w) (w.heap.size + 2) 3 #[.int .i64 hi] := (blocks3 w _ _ _).2.2
attribute [irreducible] foreW
def foreV (b : Nat) : Value := .func (.func 133) #[] #[.pointer (some ⟨b + 1, 0, none⟩), .pointer (some ⟨b + 2, 0, none⟩), .pointer (some ⟨b, 0, none⟩)]
theorem e_foretold_any (p : EP) (e : Ec.Engine) (set : List Int) (M : Nat) (lo hi : Int) (w : World) :
  Calls Tryz.prog 77 #[.agg #[.slice p.Ab e.sky.bodies.length p.cb, .int .i64 e.sky.nnum, .int .i64 e.sky.nden, .int .i64 e.sky.nstart, .slice p.As e.sun.length p.cs, .slice p.Am e.moon.length p.cm, .slice p.An e.node.length p.cn, .slice p.Af e.feasts.length p.cf, .int .i64 e.nw, .int .i64 e.fl, .int .i64 e.wide, .slice p.At set.length p.ct, .map (some M)], .int .i64 lo, .int .i64 hi] w fun r w' => r = .returned (foreV w.heap.size) ∧ w' = foreW p e set M lo hi w := by
 have hmf : ∀ (fn : Fn) (first cap : Array Value) (w : World), (Instr.makeFunc fn first cap).run Tryz.prog w = .ok (.func fn first cap) w := fun _ _ _ _ => rfl
 go_enter Tryz.func77, Tryz.ntmps77
 go_wp2_with fail
 go_ret
 exact ⟨rfl, by unfold foreW; rfl⟩
theorem pickP0 (x0 x1 : Value) (w : World) : (Instr.index 163 (.agg #[x0, x1]) (.int .i64 0)).run Tryz.prog w = .ok x0 w := by kernel_rfl
theorem pickP1 (x0 x1 : Value) (w : World) : (Instr.index 163 (.agg #[x0, x1]) (.int .i64 1)).run Tryz.prog w = .ok x1 w := by kernel_rfl
end Go.Proofs.YtcbodpnmndbgnaaGreatDoor
namespace Go.Proofs.YtcbodpnmndbgnaaGreatDoor
open Go.RowKit Go.Shelf
open Sp (rd)
attribute [local go_sem] Oper.semAt_some
set_option maxRecDepth 100000
set_option maxHeartbeats 4000000
theorem OnlyEnd.normal {Q : Exit → Act → World → Prop} {a : Act} {w : World} (h : Q .normal a w) : OnlyEnd Q .normal a w := h
def ForeRel (w0 : World) (p : EP) (e : Ec.Engine) (set : List Int) (M bT bX : Nat) (lo hi : Int) (J : List Ecl1 → World → Prop) (d : Value) (wr : World) : Prop :=
 ∃ (k : Nat) (pre : List Ecl1), d = .int .i64 (lo + (k : Int)) ∧ k ≤ (hi + 1 - lo).toNat ∧ pre.map Subtype.val = Ec.foreN e set lo k ∧ J pre wr ∧ ForeIn w0 p e set M bT bX hi wr
def ForeRel2 (w0 : World) (p : EP) (e : Ec.Engine) (set : List Int) (M bT bX : Nat) (lo hi : Int) (J : List Ecl1 → World → Prop) (k : Nat) (i : Value) (wr : World) : Prop :=
 ∃ pre : List Ecl1, J pre wr ∧ ForeIn w0 p e set M bT bX hi wr ∧ ((i = .int .i64 0 ∧ pre.map Subtype.val = Ec.foreN e set lo k ++ forePart e set (lo + (k : Int)) 0) ∨
  (i = .int .i64 1 ∧ pre.map Subtype.val = Ec.foreN e set lo k ++ forePart e set (lo + (k : Int)) 1) ∨ (i = .int .i64 2 ∧ pre.map Subtype.val = Ec.foreN e set lo k ++ forePart e set (lo + (k : Int)) 2))
def ForeOut (e : Ec.Engine) (set : List Int) (lo hi : Int) (J Jx : List Ecl1 → World → Prop) (r : Ending) (B : World) : Prop :=
 (∃ v, r = .returned v) ∧ ((∃ xs : List Ecl1, xs.map Subtype.val = Ec.foreL e set lo hi ∧ J xs B) ∨ (∃ pre : List Ecl1, (∃ rest, pre.map Subtype.val ++ rest = Ec.foreL e set lo hi) ∧ Jx pre B))
theorem part_no (e : Ec.Engine) (set : List Int) (d : Int) (full : Bool) (h : Ec.foreB e set d full = false) : forePart e set d (if full then 2 else 1) = forePart e set d (if full then 1 else 0) := by
 cases full
 ·show (if Ec.foreB e set d false = true then [(⟨d, false, Ec.farAt e set d⟩ : Sp.Ecl)] else []) = []
  rw [h]; rfl
 ·show Ec.foreD e set d = (if Ec.foreB e set d false = true then [(⟨d, false, Ec.farAt e set d⟩ : Sp.Ecl)] else [])
  unfold Ec.foreD
  rw [h]; exact List.append_nil _
theorem part_yes (e : Ec.Engine) (set : List Int) (d : Int) (full : Bool) (h : Ec.foreB e set d full = true) : forePart e set d (if full then 2 else 1) = forePart e set d (if full then 1 else 0) ++ [⟨d, full, Ec.farAt e set d⟩] := by
 cases full
 ·show (if Ec.foreB e set d false = true then [(⟨d, false, Ec.farAt e set d⟩ : Sp.Ecl)] else []) = [⟨d, false, Ec.farAt e set d⟩]
  rw [h]; rfl
 ·show Ec.foreD e set d = (if Ec.foreB e set d false = true then [(⟨d, false, Ec.farAt e set d⟩ : Sp.Ecl)] else []) ++ [⟨d, true, Ec.farAt e set d⟩]
  unfold Ec.foreD
  rw [h]; rfl
theorem fore_no1 {e : Ec.Engine} {set : List Int} {d : Int} {full : Bool} (h : Ec.hasB e set d full = false) : Ec.foreB e set d full = false := by simp [Ec.foreB, h]
theorem fore_no2 {e : Ec.Engine} {set : List Int} {d : Int} {full : Bool} (h : ¬ Ec.farAt e set d ≤ Ec.limitOf e full + e.wide) : Ec.foreB e set d full = false := by simp [Ec.foreB]; omega
theorem fore_yes {e : Ec.Engine} {set : List Int} {d : Int} {full : Bool} (h1 : Ec.hasB e set d full = true) (h : Ec.farAt e set d ≤ Ec.limitOf e full + e.wide) : Ec.foreB e set d full = true := by simp [Ec.foreB, h1, h]
theorem fore_len {e : Ec.Engine} {set : List Int} {lo hi : Int} {k j : Nat} {pre : List Ecl1} (hp : pre.map Subtype.val = Ec.foreN e set lo k ++ forePart e set (lo + (k : Int)) j) (hk : k < (hi + 1 - lo).toNat) (full : Bool) (hj : j = if full then 1 else 0)
  (h : Ec.foreB e set (lo + (k : Int)) full = true) : pre.length < (Ec.foreL e set lo hi).length := by
 obtain ⟨rest, hr⟩ := foreL_split e set lo hi k hk (if full then 2 else 1) (by cases full <;> simp)
 have h1 : pre.length = (Ec.foreN e set lo k ++ forePart e set (lo + (k : Int)) j).length := by rw [← hp, List.length_map]
 rw [← hr, h1, part_yes e set _ full h, hj]
 simp only [List.length_append, List.length_cons, List.length_nil]
 omega
theorem fore_pre {e : Ec.Engine} {set : List Int} {lo hi : Int} {k j : Nat} {pre : List Ecl1} (hp : pre.map Subtype.val = Ec.foreN e set lo k ++ forePart e set (lo + (k : Int)) j) (hk : k < (hi + 1 - lo).toNat) (full : Bool) (hj : j = if full then 1 else 0)
  (h : Ec.foreB e set (lo + (k : Int)) full = true) (x : Ecl1) (hx : x.1 = ⟨lo + (k : Int), full, Ec.farAt e set (lo + (k : Int))⟩) : (pre ++ [x]).map Subtype.val = Ec.foreN e set lo k ++ forePart e set (lo + (k : Int)) (if full then 2 else 1) ∧
   ∃ rest, (pre ++ [x]).map Subtype.val ++ rest = Ec.foreL e set lo hi := by
 have h1 : (pre ++ [x]).map Subtype.val = Ec.foreN e set lo k ++ forePart e set (lo + (k : Int)) (if full then 2 else 1) := by
  rw [List.map_append, hp, part_yes e set _ full h, hj, List.append_assoc]
  simp [hx]
 refine ⟨h1, ?_⟩
 rw [h1]
 exact foreL_split e set lo hi k hk _ (by cases full <;> simp)
theorem e_fore1_any (n : Nat) (hn : 1 ≤ n) (l bF bT bX : Nat) (w0 : World) (p : EP) (e : Ec.Engine) (set : List Int) (M : Nat) (lo0 lo hi : Int) (N : Nat) (J Jx : List Ecl1 → World → Prop) (hK : Fine e set) (hm : EngSet w0 p e set) (hM : w0.heap.size ≤ M)
  (hlo : lo = max 1 lo0) (hlo9 : lo0 ≤ 9030) (hlo0 : -9030 ≤ lo0) (hhi : hi ≤ 9030) (hhi0 : -9030 ≤ hi) (hN : (Ec.foreL e set lo hi).length ≤ N)
  (hJ : ∀ s A B, J s A → Move e set M A B → J s B)
  (hY : ∀ pre x A, J pre A → pre.length < N → YieldAt Fence.wide (n - 1) Tryz.prog l #[eclV x.1] A fun r B =>
   (r = .returned (.bool true) ∧ J (pre ++ [x]) B ∧ KeepsEng w0.heap.size bT bX M A B) ∨ (r = .returned (.bool false) ∧ Jx (pre ++ [x]) B))
  (W : World) (hF : Row W bF 3 #[.int .i64 lo0]) (hI : ForeIn w0 p e set M bT bX hi W) (h0 : J [] W) :
  Calls Tryz.prog 133 #[.func (.yield l) #[] #[], .pointer (some ⟨bF, 0, none⟩), .pointer (some ⟨bT, 0, none⟩), .pointer (some ⟨bX, 0, none⟩)] W (ForeOut e set lo hi J Jx) := by
 have i0 := pickP0
 have i1 := pickP1
 have hn1 : ∀ w, (nilAhead 372 161 (.agg #[]) "tellurion/eclipse.full").run Tryz.prog w = .ok (some false) w := fun _ => by kernel_rfl
 have hn1' : ∀ w, (method 372 161 (.agg #[]) "tellurion/eclipse.full").run Tryz.prog w = .ok (257, .agg #[]) w := fun _ => by kernel_rfl
 have hn2 : ∀ w, (nilAhead 372 162 (.agg #[]) "tellurion/eclipse.full").run Tryz.prog w = .ok (some false) w := fun _ => by kernel_rfl
 have hn2' : ∀ w, (method 372 162 (.agg #[]) "tellurion/eclipse.full").run Tryz.prog w = .ok (258, .agg #[]) w := fun _ => by kernel_rfl
 have HK := Lib.hid hK
 have HM := Lib.hid hm
 have HJ := Lib.hid hJ
 have HY := Lib.hid hY
 have HNN := Lib.hid hN
 have HL := Lib.hid hlo
 obtain ⟨⟨v1, v2⟩, ⟨v3, v4⟩, v5, v6⟩ := hK.limits
 have hl1 : 1 ≤ lo := by omega
 have hl9 : lo ≤ 9030 := by omega
 have cF := hF.cell
 clear hK hm hJ hY hN hF
 rcases (show (1 < lo0 ∧ lo = lo0) ∨ (lo0 ≤ 1 ∧ lo = 1) by omega) with ⟨hp, rfl⟩ | ⟨hp, rfl⟩
 ·
  clear hlo
  go_enter Tryz.func133, Tryz.ntmps133
  go_wp2_with fail
  clear cF
  go_loopw [5, 7, 8] (fun d _ _ wr => ForeRel w0 p e set M bT bX lo hi J d wr) (fun d _ _ _ => (hi + 1 - intOf d).toNat)
  case atStart => exact ⟨0, [], by simp, Nat.zero_le _, rfl, h0, hI⟩
  case round =>
   obtain ⟨k, pre, rfl, hk, hp1, hJ1, hI1⟩ := hrel
   have HP := Lib.hid hp1
   have HI1 := Lib.hid hI1
   have cT := hI1.to.cell
   clear hp1 hI1
   by_cases hlt : k < (hi + 1 - lo).toNat
   ·have hle : decide (lo + (k : Int) ≤ hi) = true := by simp only [decide_eq_true_eq]; omega
    go_wp2_with fail
    obtain ⟨wo, rfl⟩ : ∃ wo : World, wo = wr := ⟨_, rfl⟩
    clear cT
    go_loopw [7, 8, 21] (fun _ _ i wr => ForeRel2 w0 p e set M bT bX lo hi J k i wr) (fun _ _ i _ => 2 - (intOf i).toNat)
    case atStart => exact ⟨pre, hJ1, HI1.out, .inl ⟨rfl, by rw [HP.out]; exact (List.append_nil _).symm⟩⟩
    case round =>
     obtain ⟨pre2, hJ2, hI2, ⟨rfl, hp2⟩ | ⟨rfl, hp2⟩ | ⟨rfl, hp2⟩⟩ := hrel
     ·have HP2 := Lib.hid hp2
      have HI2 := Lib.hid hI2
      clear hp2 hI2
      have hI2c := HI2.out.x.cell
      cases hb : Ec.hasB e set (lo + (k : Int)) false
      ·have HB := Lib.hid hb
       clear hb
       go_wp2_with fail
       refine (e_has_false p e set M (lo + (k : Int)) wr HK.out (HM.out.ext HI2.out.ext) HI2.out.cache (by omega) (by omega)).mono ?_
       rintro r w1 ⟨rfl, hS⟩
       rw [HB.out]
       have HS := Lib.hid hS
       clear hS hI2c
       go_wp2_with fail
       go_roundw
       case rel => exact ⟨pre2, HJ.out _ _ _ hJ2 HS.out, HI2.out.move hM HS.out, .inr (.inl ⟨rfl, by rw [HP2.out]; exact congrArg _ (part_no e set _ false (fore_no1 HB.out)).symm⟩)⟩
       case measure => simp [intOf]
      ·have HB := Lib.hid hb
       have hfb := far_bounds e set (lo + (k : Int))
       clear hb
       go_wp2_with fail
       refine (e_has_false p e set M (lo + (k : Int)) wr HK.out (HM.out.ext HI2.out.ext) HI2.out.cache (by omega) (by omega)).mono ?_
       rintro r w1 ⟨rfl, hS⟩
       rw [HB.out]
       have HI3 := Lib.hid (HI2.out.move hM hS)
       have HJ3 := Lib.hid (HJ.out _ _ _ hJ2 hS)
       clear hS hI2c
       have hI3c := HI3.out.x.cell
       go_wp2_with fail
       refine (e_far_any p e set M (lo + (k : Int)) w1 HK.out (HM.out.ext HI3.out.ext) HI3.out.cache (by omega) (by omega)).mono ?_
       rintro r w2 ⟨rfl, hS⟩
       have HI4 := Lib.hid (HI3.out.move hM hS)
       have HJ4 := Lib.hid (HJ.out _ _ _ HJ3.out hS)
       clear hS hI3c
       obtain ⟨fr, hfr⟩ : ∃ fr, Ec.farAt e set (lo + (k : Int)) = fr := ⟨_, rfl⟩
       have HFR := Lib.hid hfr
       rw [hfr] at hfb ⊢
       clear hfr
       obtain ⟨f1, f2⟩ := hfb
       go_wp2_with fail
       by_cases hf : fr ≤ e.nw + e.wide
       ·have HF := Lib.hid hf
        have hfd : decide (fr ≤ e.nw + e.wide) = true := by simpa using hf
        have HFB : Hid (Ec.foreB e set (lo + (k : Int)) false = true) := Lib.hid (fore_yes HB.out (by rw [HFR.out]; simpa [Ec.limitOf] using hf))
        clear hf
        refine (wpIn_wide (n := n)).1 ?_
        refine wpIn_region_later_tail 16 (by kernel_rfl) (by kernel_rfl) (fun W hW => ?_)
        have q1 := Later.block (w := W) (by rw [hW]; exact HI4.out.x)
        have HLM := Lib.hid (fun x : Later W => show Calls Tryz.prog 90 #[.agg #[.slice p.Ab e.sky.bodies.length p.cb, .int .i64 e.sky.nnum, .int .i64 e.sky.nden, .int .i64 e.sky.nstart, .slice p.As e.sun.length p.cs, .slice p.Am e.moon.length p.cm, .slice p.An e.node.length p.cn, .slice p.Af e.feasts.length p.cf, .int .i64 e.nw, .int .i64 e.fl, .int .i64 e.wide, .slice p.At set.length p.ct, .map (some M)], .iface 161 (.agg #[])] x.world fun r w' => r = .returned (.int .i64 e.nw) ∧ Ext x.world w' from e_limit_false p e set M x.world)
        simp only [List.take_succ_cons, List.take_zero, List.drop_succ_cons, List.drop_zero]
        repeat (go_big_quiet_step ((first | (go_at_call 90; exact Later.call (HLM.out _)) | (exact Later.call (e_new_full _)))))
        refine wpQuiet_nil ?_
        intro x
        subst hW
        have HSX := Lib.hid (Step.of_ext HI4.out.cache x.ext)
        have HI5 := Lib.hid (HI4.out.move hM HSX.out)
        have HJ5 := Lib.hid (HJ.out _ _ _ HJ4.out HSX.out)
        obtain ⟨fn, tmps, assign, body, hy, hR⟩ := HY.out pre2 ⟨⟨(lo + (k : Int)), false, fr⟩, ⟨by simp only; omega, by simp only; omega⟩, by simp only; omega, by simp only; omega⟩ x.world HJ5.out (Nat.lt_of_lt_of_le (fore_len HP2.out hlt false rfl HFB.out) HNN.out)
        have HRR := Lib.hid hR
        have HPP := Lib.hid (fore_pre HP2.out hlt false rfl HFB.out ⟨⟨(lo + (k : Int)), false, fr⟩, ⟨by simp only; omega, by simp only; omega⟩, by simp only; omega, by simp only; omega⟩ (congrArg (fun z => (⟨(lo + (k : Int)), false, z⟩ : Sp.Ecl)) HFR.out.symm))
        simp only [eclV] at hy
        clear hR q1
        gi_wp2
        refine HRR.out.mono ?_
        rintro r B (⟨rfl, hJ6, hk6⟩ | ⟨rfl, hJx6⟩)
        ·have HI6 := Lib.hid (HI5.out.keep hk6)
         have HJ6 := Lib.hid hJ6
         clear hk6 hJ6
         gi_wp2
         refine OnlyEnd.normal ?_
         go_wp2
         go_roundw
         case rel => exact ⟨_, HJ6.out, HI6.out, .inr (.inl ⟨rfl, HPP.out.1⟩)⟩
         case measure => simp [intOf]
        ·have HJ6 := Lib.hid hJx6
         clear hJx6
         gi_wp2
         refine OnlyEnd.normal ?_
         go_wp2
         go_end0
         exact ⟨⟨_, rfl⟩, .inr ⟨_, HPP.out.2, HJ6.out⟩⟩
       ·have HF := Lib.hid hf
        have hfd : decide (fr ≤ e.nw + e.wide) = false := by simpa using hf
        have HFB : Hid (Ec.foreB e set (lo + (k : Int)) false = false) := Lib.hid (fore_no2 (by rw [HFR.out]; simpa [Ec.limitOf] using hf))
        clear hf
        refine wp_region_later (by kernel_rfl) (by kernel_rfl) (fun W hW => ?_)
        have q1 := Later.block (w := W) (by rw [hW]; exact HI4.out.x)
        have HLM := Lib.hid (fun x : Later W => show Calls Tryz.prog 90 #[.agg #[.slice p.Ab e.sky.bodies.length p.cb, .int .i64 e.sky.nnum, .int .i64 e.sky.nden, .int .i64 e.sky.nstart, .slice p.As e.sun.length p.cs, .slice p.Am e.moon.length p.cm, .slice p.An e.node.length p.cn, .slice p.Af e.feasts.length p.cf, .int .i64 e.nw, .int .i64 e.fl, .int .i64 e.wide, .slice p.At set.length p.ct, .map (some M)], .iface 161 (.agg #[])] x.world fun r w' => r = .returned (.int .i64 e.nw) ∧ Ext x.world w' from e_limit_false p e set M x.world)
        repeat (go_big_quiet_step ((go_at_call 90; exact Later.call (HLM.out _))))
        refine wpQuiet_nil ?_
        rintro ⟨w3, hE⟩
        subst hW
        have HS := Lib.hid (Step.of_ext HI4.out.cache hE)
        dsimp only
        clear q1 hE
        go_wp2
        go_roundw
        case rel => exact ⟨pre2, HJ.out _ _ _ HJ4.out HS.out, HI4.out.move hM HS.out, .inr (.inl ⟨rfl, by rw [HP2.out]; exact congrArg _ (part_no e set _ false HFB.out).symm⟩)⟩
        case measure => simp [intOf]
     ·have HP2 := Lib.hid hp2
      have HI2 := Lib.hid hI2
      clear hp2 hI2
      have hI2c := HI2.out.x.cell
      cases hb : Ec.hasB e set (lo + (k : Int)) true
      ·have HB := Lib.hid hb
       clear hb
       go_wp2_with fail
       refine (e_has_true p e set M (lo + (k : Int)) wr HK.out (HM.out.ext HI2.out.ext) HI2.out.cache (by omega) (by omega)).mono ?_
       rintro r w1 ⟨rfl, hS⟩
       rw [HB.out]
       have HS := Lib.hid hS
       clear hS hI2c
       go_wp2_with fail
       go_roundw
       case rel => exact ⟨pre2, HJ.out _ _ _ hJ2 HS.out, HI2.out.move hM HS.out, .inr (.inr ⟨rfl, by rw [HP2.out]; exact congrArg _ (part_no e set _ true (fore_no1 HB.out)).symm⟩)⟩
       case measure => simp [intOf]
      ·have HB := Lib.hid hb
       have hfb := far_bounds e set (lo + (k : Int))
       clear hb
       go_wp2_with fail
       refine (e_has_true p e set M (lo + (k : Int)) wr HK.out (HM.out.ext HI2.out.ext) HI2.out.cache (by omega) (by omega)).mono ?_
       rintro r w1 ⟨rfl, hS⟩
       rw [HB.out]
       have HI3 := Lib.hid (HI2.out.move hM hS)
       have HJ3 := Lib.hid (HJ.out _ _ _ hJ2 hS)
       clear hS hI2c
       have hI3c := HI3.out.x.cell
       go_wp2_with fail
       refine (e_far_any p e set M (lo + (k : Int)) w1 HK.out (HM.out.ext HI3.out.ext) HI3.out.cache (by omega) (by omega)).mono ?_
       rintro r w2 ⟨rfl, hS⟩
       have HI4 := Lib.hid (HI3.out.move hM hS)
       have HJ4 := Lib.hid (HJ.out _ _ _ HJ3.out hS)
       clear hS hI3c
       obtain ⟨fr, hfr⟩ : ∃ fr, Ec.farAt e set (lo + (k : Int)) = fr := ⟨_, rfl⟩
       have HFR := Lib.hid hfr
       rw [hfr] at hfb ⊢
       clear hfr
       obtain ⟨f1, f2⟩ := hfb
       go_wp2_with fail
       by_cases hf : fr ≤ e.fl + e.wide
       ·have HF := Lib.hid hf
        have hfd : decide (fr ≤ e.fl + e.wide) = true := by simpa using hf
        have HFB : Hid (Ec.foreB e set (lo + (k : Int)) true = true) := Lib.hid (fore_yes HB.out (by rw [HFR.out]; simpa [Ec.limitOf] using hf))
        clear hf
        refine (wpIn_wide (n := n)).1 ?_
        refine wpIn_region_later_tail 16 (by kernel_rfl) (by kernel_rfl) (fun W hW => ?_)
        have q1 := Later.block (w := W) (by rw [hW]; exact HI4.out.x)
        have HLM := Lib.hid (fun x : Later W => show Calls Tryz.prog 90 #[.agg #[.slice p.Ab e.sky.bodies.length p.cb, .int .i64 e.sky.nnum, .int .i64 e.sky.nden, .int .i64 e.sky.nstart, .slice p.As e.sun.length p.cs, .slice p.Am e.moon.length p.cm, .slice p.An e.node.length p.cn, .slice p.Af e.feasts.length p.cf, .int .i64 e.nw, .int .i64 e.fl, .int .i64 e.wide, .slice p.At set.length p.ct, .map (some M)], .iface 162 (.agg #[])] x.world fun r w' => r = .returned (.int .i64 e.fl) ∧ Ext x.world w' from e_limit_true p e set M x.world)
        simp only [List.take_succ_cons, List.take_zero, List.drop_succ_cons, List.drop_zero]
        repeat (go_big_quiet_step ((first | (go_at_call 90; exact Later.call (HLM.out _)) | (exact Later.call (e_full_full _)))))
        refine wpQuiet_nil ?_
        intro x
        subst hW
        have HSX := Lib.hid (Step.of_ext HI4.out.cache x.ext)
        have HI5 := Lib.hid (HI4.out.move hM HSX.out)
        have HJ5 := Lib.hid (HJ.out _ _ _ HJ4.out HSX.out)
        obtain ⟨fn, tmps, assign, body, hy, hR⟩ := HY.out pre2 ⟨⟨(lo + (k : Int)), true, fr⟩, ⟨by simp only; omega, by simp only; omega⟩, by simp only; omega, by simp only; omega⟩ x.world HJ5.out (Nat.lt_of_lt_of_le (fore_len HP2.out hlt true rfl HFB.out) HNN.out)
        have HRR := Lib.hid hR
        have HPP := Lib.hid (fore_pre HP2.out hlt true rfl HFB.out ⟨⟨(lo + (k : Int)), true, fr⟩, ⟨by simp only; omega, by simp only; omega⟩, by simp only; omega, by simp only; omega⟩ (congrArg (fun z => (⟨(lo + (k : Int)), true, z⟩ : Sp.Ecl)) HFR.out.symm))
        simp only [eclV] at hy
        clear hR q1
        gi_wp2
        refine HRR.out.mono ?_
        rintro r B (⟨rfl, hJ6, hk6⟩ | ⟨rfl, hJx6⟩)
        ·have HI6 := Lib.hid (HI5.out.keep hk6)
         have HJ6 := Lib.hid hJ6
         clear hk6 hJ6
         gi_wp2
         refine OnlyEnd.normal ?_
         go_wp2
         go_roundw
         case rel => exact ⟨_, HJ6.out, HI6.out, .inr (.inr ⟨rfl, HPP.out.1⟩)⟩
         case measure => simp [intOf]
        ·have HJ6 := Lib.hid hJx6
         clear hJx6
         gi_wp2
         refine OnlyEnd.normal ?_
         go_wp2
         go_end0
         exact ⟨⟨_, rfl⟩, .inr ⟨_, HPP.out.2, HJ6.out⟩⟩
       ·have HF := Lib.hid hf
        have hfd : decide (fr ≤ e.fl + e.wide) = false := by simpa using hf
        have HFB : Hid (Ec.foreB e set (lo + (k : Int)) true = false) := Lib.hid (fore_no2 (by rw [HFR.out]; simpa [Ec.limitOf] using hf))
        clear hf
        refine wp_region_later (by kernel_rfl) (by kernel_rfl) (fun W hW => ?_)
        have q1 := Later.block (w := W) (by rw [hW]; exact HI4.out.x)
        have HLM := Lib.hid (fun x : Later W => show Calls Tryz.prog 90 #[.agg #[.slice p.Ab e.sky.bodies.length p.cb, .int .i64 e.sky.nnum, .int .i64 e.sky.nden, .int .i64 e.sky.nstart, .slice p.As e.sun.length p.cs, .slice p.Am e.moon.length p.cm, .slice p.An e.node.length p.cn, .slice p.Af e.feasts.length p.cf, .int .i64 e.nw, .int .i64 e.fl, .int .i64 e.wide, .slice p.At set.length p.ct, .map (some M)], .iface 162 (.agg #[])] x.world fun r w' => r = .returned (.int .i64 e.fl) ∧ Ext x.world w' from e_limit_true p e set M x.world)
        repeat (go_big_quiet_step ((go_at_call 90; exact Later.call (HLM.out _))))
        refine wpQuiet_nil ?_
        rintro ⟨w3, hE⟩
        subst hW
        have HS := Lib.hid (Step.of_ext HI4.out.cache hE)
        dsimp only
        clear q1 hE
        go_wp2
        go_roundw
        case rel => exact ⟨pre2, HJ.out _ _ _ HJ4.out HS.out, HI4.out.move hM HS.out, .inr (.inr ⟨rfl, by rw [HP2.out]; exact congrArg _ (part_no e set _ true HFB.out).symm⟩)⟩
        case measure => simp [intOf]
     ·have HP2 := Lib.hid hp2
      have HI2 := Lib.hid hI2
      clear hp2 hI2
      go_wp2_with fail
      go_roundw
      case rel => exact ⟨k + 1, pre2, by simp; omega, by omega, HP2.out, hJ2, HI2.out⟩
      case measure => simp [intOf]; omega
   ·go_wp2_with fail
    go_end0
    exact ⟨⟨_, rfl⟩, .inl ⟨pre, by rw [HP.out]; unfold Ec.foreL; rw [show k = (hi + 1 - lo).toNat by omega], hJ1⟩⟩
 ·
  clear hlo
  go_enter Tryz.func133, Tryz.ntmps133
  go_wp2_with fail
  clear cF
  go_loopw [5, 7, 8] (fun d _ _ wr => ForeRel w0 p e set M bT bX 1 hi J d wr) (fun d _ _ _ => (hi + 1 - intOf d).toNat)
  case atStart => exact ⟨0, [], by simp, Nat.zero_le _, rfl, h0, hI⟩
  case round =>
   obtain ⟨k, pre, rfl, hk, hp1, hJ1, hI1⟩ := hrel
   have HP := Lib.hid hp1
   have HI1 := Lib.hid hI1
   have cT := hI1.to.cell
   clear hp1 hI1
   by_cases hlt : k < (hi + 1 - 1).toNat
   ·have hle : decide (1 + (k : Int) ≤ hi) = true := by simp only [decide_eq_true_eq]; omega
    go_wp2_with fail
    obtain ⟨wo, rfl⟩ : ∃ wo : World, wo = wr := ⟨_, rfl⟩
    clear cT
    go_loopw [7, 8, 21] (fun _ _ i wr => ForeRel2 w0 p e set M bT bX 1 hi J k i wr) (fun _ _ i _ => 2 - (intOf i).toNat)
    case atStart => exact ⟨pre, hJ1, HI1.out, .inl ⟨rfl, by rw [HP.out]; exact (List.append_nil _).symm⟩⟩
    case round =>
     obtain ⟨pre2, hJ2, hI2, ⟨rfl, hp2⟩ | ⟨rfl, hp2⟩ | ⟨rfl, hp2⟩⟩ := hrel
     ·have HP2 := Lib.hid hp2
      have HI2 := Lib.hid hI2
      clear hp2 hI2
      have hI2c := HI2.out.x.cell
      cases hb : Ec.hasB e set (1 + (k : Int)) false
      ·have HB := Lib.hid hb
       clear hb
       go_wp2_with fail
       refine (e_has_false p e set M (1 + (k : Int)) wr HK.out (HM.out.ext HI2.out.ext) HI2.out.cache (by omega) (by omega)).mono ?_
       rintro r w1 ⟨rfl, hS⟩
       rw [HB.out]
       have HS := Lib.hid hS
       clear hS hI2c
       go_wp2_with fail
       go_roundw
       case rel => exact ⟨pre2, HJ.out _ _ _ hJ2 HS.out, HI2.out.move hM HS.out, .inr (.inl ⟨rfl, by rw [HP2.out]; exact congrArg _ (part_no e set _ false (fore_no1 HB.out)).symm⟩)⟩
       case measure => simp [intOf]
      ·have HB := Lib.hid hb
       have hfb := far_bounds e set (1 + (k : Int))
       clear hb
       go_wp2_with fail
       refine (e_has_false p e set M (1 + (k : Int)) wr HK.out (HM.out.ext HI2.out.ext) HI2.out.cache (by omega) (by omega)).mono ?_
       rintro r w1 ⟨rfl, hS⟩
       rw [HB.out]
       have HI3 := Lib.hid (HI2.out.move hM hS)
       have HJ3 := Lib.hid (HJ.out _ _ _ hJ2 hS)
       clear hS hI2c
       have hI3c := HI3.out.x.cell
       go_wp2_with fail
       refine (e_far_any p e set M (1 + (k : Int)) w1 HK.out (HM.out.ext HI3.out.ext) HI3.out.cache (by omega) (by omega)).mono ?_
       rintro r w2 ⟨rfl, hS⟩
       have HI4 := Lib.hid (HI3.out.move hM hS)
       have HJ4 := Lib.hid (HJ.out _ _ _ HJ3.out hS)
       clear hS hI3c
       obtain ⟨fr, hfr⟩ : ∃ fr, Ec.farAt e set (1 + (k : Int)) = fr := ⟨_, rfl⟩
       have HFR := Lib.hid hfr
       rw [hfr] at hfb ⊢
       clear hfr
       obtain ⟨f1, f2⟩ := hfb
       go_wp2_with fail
       by_cases hf : fr ≤ e.nw + e.wide
       ·have HF := Lib.hid hf
        have hfd : decide (fr ≤ e.nw + e.wide) = true := by simpa using hf
        have HFB : Hid (Ec.foreB e set (1 + (k : Int)) false = true) := Lib.hid (fore_yes HB.out (by rw [HFR.out]; simpa [Ec.limitOf] using hf))
        clear hf
        refine (wpIn_wide (n := n)).1 ?_
        refine wpIn_region_later_tail 16 (by kernel_rfl) (by kernel_rfl) (fun W hW => ?_)
        have q1 := Later.block (w := W) (by rw [hW]; exact HI4.out.x)
        have HLM := Lib.hid (fun x : Later W => show Calls Tryz.prog 90 #[.agg #[.slice p.Ab e.sky.bodies.length p.cb, .int .i64 e.sky.nnum, .int .i64 e.sky.nden, .int .i64 e.sky.nstart, .slice p.As e.sun.length p.cs, .slice p.Am e.moon.length p.cm, .slice p.An e.node.length p.cn, .slice p.Af e.feasts.length p.cf, .int .i64 e.nw, .int .i64 e.fl, .int .i64 e.wide, .slice p.At set.length p.ct, .map (some M)], .iface 161 (.agg #[])] x.world fun r w' => r = .returned (.int .i64 e.nw) ∧ Ext x.world w' from e_limit_false p e set M x.world)
        simp only [List.take_succ_cons, List.take_zero, List.drop_succ_cons, List.drop_zero]
        repeat (go_big_quiet_step ((first | (go_at_call 90; exact Later.call (HLM.out _)) | (exact Later.call (e_new_full _)))))
        refine wpQuiet_nil ?_
        intro x
        subst hW
        have HSX := Lib.hid (Step.of_ext HI4.out.cache x.ext)
        have HI5 := Lib.hid (HI4.out.move hM HSX.out)
        have HJ5 := Lib.hid (HJ.out _ _ _ HJ4.out HSX.out)
        obtain ⟨fn, tmps, assign, body, hy, hR⟩ := HY.out pre2 ⟨⟨(1 + (k : Int)), false, fr⟩, ⟨by simp only; omega, by simp only; omega⟩, by simp only; omega, by simp only; omega⟩ x.world HJ5.out (Nat.lt_of_lt_of_le (fore_len HP2.out hlt false rfl HFB.out) HNN.out)
        have HRR := Lib.hid hR
        have HPP := Lib.hid (fore_pre HP2.out hlt false rfl HFB.out ⟨⟨(1 + (k : Int)), false, fr⟩, ⟨by simp only; omega, by simp only; omega⟩, by simp only; omega, by simp only; omega⟩ (congrArg (fun z => (⟨(1 + (k : Int)), false, z⟩ : Sp.Ecl)) HFR.out.symm))
        simp only [eclV] at hy
        clear hR q1
        gi_wp2
        refine HRR.out.mono ?_
        rintro r B (⟨rfl, hJ6, hk6⟩ | ⟨rfl, hJx6⟩)
        ·have HI6 := Lib.hid (HI5.out.keep hk6)
         have HJ6 := Lib.hid hJ6
         clear hk6 hJ6
         gi_wp2
         refine OnlyEnd.normal ?_
         go_wp2
         go_roundw
         case rel => exact ⟨_, HJ6.out, HI6.out, .inr (.inl ⟨rfl, HPP.out.1⟩)⟩
         case measure => simp [intOf]
        ·have HJ6 := Lib.hid hJx6
         clear hJx6
         gi_wp2
         refine OnlyEnd.normal ?_
         go_wp2
         go_end0
         exact ⟨⟨_, rfl⟩, .inr ⟨_, HPP.out.2, HJ6.out⟩⟩
       ·have HF := Lib.hid hf
        have hfd : decide (fr ≤ e.nw + e.wide) = false := by simpa using hf
        have HFB : Hid (Ec.foreB e set (1 + (k : Int)) false = false) := Lib.hid (fore_no2 (by rw [HFR.out]; simpa [Ec.limitOf] using hf))
        clear hf
        refine wp_region_later (by kernel_rfl) (by kernel_rfl) (fun W hW => ?_)
        have q1 := Later.block (w := W) (by rw [hW]; exact HI4.out.x)
        have HLM := Lib.hid (fun x : Later W => show Calls Tryz.prog 90 #[.agg #[.slice p.Ab e.sky.bodies.length p.cb, .int .i64 e.sky.nnum, .int .i64 e.sky.nden, .int .i64 e.sky.nstart, .slice p.As e.sun.length p.cs, .slice p.Am e.moon.length p.cm, .slice p.An e.node.length p.cn, .slice p.Af e.feasts.length p.cf, .int .i64 e.nw, .int .i64 e.fl, .int .i64 e.wide, .slice p.At set.length p.ct, .map (some M)], .iface 161 (.agg #[])] x.world fun r w' => r = .returned (.int .i64 e.nw) ∧ Ext x.world w' from e_limit_false p e set M x.world)
        repeat (go_big_quiet_step ((go_at_call 90; exact Later.call (HLM.out _))))
        refine wpQuiet_nil ?_
        rintro ⟨w3, hE⟩
        subst hW
        have HS := Lib.hid (Step.of_ext HI4.out.cache hE)
        dsimp only
        clear q1 hE
        go_wp2
        go_roundw
        case rel => exact ⟨pre2, HJ.out _ _ _ HJ4.out HS.out, HI4.out.move hM HS.out, .inr (.inl ⟨rfl, by rw [HP2.out]; exact congrArg _ (part_no e set _ false HFB.out).symm⟩)⟩
        case measure => simp [intOf]
     ·have HP2 := Lib.hid hp2
      have HI2 := Lib.hid hI2
      clear hp2 hI2
      have hI2c := HI2.out.x.cell
      cases hb : Ec.hasB e set (1 + (k : Int)) true
      ·have HB := Lib.hid hb
       clear hb
       go_wp2_with fail
       refine (e_has_true p e set M (1 + (k : Int)) wr HK.out (HM.out.ext HI2.out.ext) HI2.out.cache (by omega) (by omega)).mono ?_
       rintro r w1 ⟨rfl, hS⟩
       rw [HB.out]
       have HS := Lib.hid hS
       clear hS hI2c
       go_wp2_with fail
       go_roundw
       case rel => exact ⟨pre2, HJ.out _ _ _ hJ2 HS.out, HI2.out.move hM HS.out, .inr (.inr ⟨rfl, by rw [HP2.out]; exact congrArg _ (part_no e set _ true (fore_no1 HB.out)).symm⟩)⟩
       case measure => simp [intOf]
      ·have HB := Lib.hid hb
       have hfb := far_bounds e set (1 + (k : Int))
       clear hb
       go_wp2_with fail
       refine (e_has_true p e set M (1 + (k : Int)) wr HK.out (HM.out.ext HI2.out.ext) HI2.out.cache (by omega) (by omega)).mono ?_
       rintro r w1 ⟨rfl, hS⟩
       rw [HB.out]
       have HI3 := Lib.hid (HI2.out.move hM hS)
       have HJ3 := Lib.hid (HJ.out _ _ _ hJ2 hS)
       clear hS hI2c
       have hI3c := HI3.out.x.cell
       go_wp2_with fail
       refine (e_far_any p e set M (1 + (k : Int)) w1 HK.out (HM.out.ext HI3.out.ext) HI3.out.cache (by omega) (by omega)).mono ?_
       rintro r w2 ⟨rfl, hS⟩
       have HI4 := Lib.hid (HI3.out.move hM hS)
       have HJ4 := Lib.hid (HJ.out _ _ _ HJ3.out hS)
       clear hS hI3c
       obtain ⟨fr, hfr⟩ : ∃ fr, Ec.farAt e set (1 + (k : Int)) = fr := ⟨_, rfl⟩
       have HFR := Lib.hid hfr
       rw [hfr] at hfb ⊢
       clear hfr
       obtain ⟨f1, f2⟩ := hfb
       go_wp2_with fail
       by_cases hf : fr ≤ e.fl + e.wide
       ·have HF := Lib.hid hf
        have hfd : decide (fr ≤ e.fl + e.wide) = true := by simpa using hf
        have HFB : Hid (Ec.foreB e set (1 + (k : Int)) true = true) := Lib.hid (fore_yes HB.out (by rw [HFR.out]; simpa [Ec.limitOf] using hf))
        clear hf
        refine (wpIn_wide (n := n)).1 ?_
        refine wpIn_region_later_tail 16 (by kernel_rfl) (by kernel_rfl) (fun W hW => ?_)
        have q1 := Later.block (w := W) (by rw [hW]; exact HI4.out.x)
        have HLM := Lib.hid (fun x : Later W => show Calls Tryz.prog 90 #[.agg #[.slice p.Ab e.sky.bodies.length p.cb, .int .i64 e.sky.nnum, .int .i64 e.sky.nden, .int .i64 e.sky.nstart, .slice p.As e.sun.length p.cs, .slice p.Am e.moon.length p.cm, .slice p.An e.node.length p.cn, .slice p.Af e.feasts.length p.cf, .int .i64 e.nw, .int .i64 e.fl, .int .i64 e.wide, .slice p.At set.length p.ct, .map (some M)], .iface 162 (.agg #[])] x.world fun r w' => r = .returned (.int .i64 e.fl) ∧ Ext x.world w' from e_limit_true p e set M x.world)
        simp only [List.take_succ_cons, List.take_zero, List.drop_succ_cons, List.drop_zero]
        repeat (go_big_quiet_step ((first | (go_at_call 90; exact Later.call (HLM.out _)) | (exact Later.call (e_full_full _)))))
        refine wpQuiet_nil ?_
        intro x
        subst hW
        have HSX := Lib.hid (Step.of_ext HI4.out.cache x.ext)
        have HI5 := Lib.hid (HI4.out.move hM HSX.out)
        have HJ5 := Lib.hid (HJ.out _ _ _ HJ4.out HSX.out)
        obtain ⟨fn, tmps, assign, body, hy, hR⟩ := HY.out pre2 ⟨⟨(1 + (k : Int)), true, fr⟩, ⟨by simp only; omega, by simp only; omega⟩, by simp only; omega, by simp only; omega⟩ x.world HJ5.out (Nat.lt_of_lt_of_le (fore_len HP2.out hlt true rfl HFB.out) HNN.out)
        have HRR := Lib.hid hR
        have HPP := Lib.hid (fore_pre HP2.out hlt true rfl HFB.out ⟨⟨(1 + (k : Int)), true, fr⟩, ⟨by simp only; omega, by simp only; omega⟩, by simp only; omega, by simp only; omega⟩ (congrArg (fun z => (⟨(1 + (k : Int)), true, z⟩ : Sp.Ecl)) HFR.out.symm))
        simp only [eclV] at hy
        clear hR q1
        gi_wp2
        refine HRR.out.mono ?_
        rintro r B (⟨rfl, hJ6, hk6⟩ | ⟨rfl, hJx6⟩)
        ·have HI6 := Lib.hid (HI5.out.keep hk6)
         have HJ6 := Lib.hid hJ6
         clear hk6 hJ6
         gi_wp2
         refine OnlyEnd.normal ?_
         go_wp2
         go_roundw
         case rel => exact ⟨_, HJ6.out, HI6.out, .inr (.inr ⟨rfl, HPP.out.1⟩)⟩
         case measure => simp [intOf]
        ·have HJ6 := Lib.hid hJx6
         clear hJx6
         gi_wp2
         refine OnlyEnd.normal ?_
         go_wp2
         go_end0
         exact ⟨⟨_, rfl⟩, .inr ⟨_, HPP.out.2, HJ6.out⟩⟩
       ·have HF := Lib.hid hf
        have hfd : decide (fr ≤ e.fl + e.wide) = false := by simpa using hf
        have HFB : Hid (Ec.foreB e set (1 + (k : Int)) true = false) := Lib.hid (fore_no2 (by rw [HFR.out]; simpa [Ec.limitOf] using hf))
        clear hf
        refine wp_region_later (by kernel_rfl) (by kernel_rfl) (fun W hW => ?_)
        have q1 := Later.block (w := W) (by rw [hW]; exact HI4.out.x)
        have HLM := Lib.hid (fun x : Later W => show Calls Tryz.prog 90 #[.agg #[.slice p.Ab e.sky.bodies.length p.cb, .int .i64 e.sky.nnum, .int .i64 e.sky.nden, .int .i64 e.sky.nstart, .slice p.As e.sun.length p.cs, .slice p.Am e.moon.length p.cm, .slice p.An e.node.length p.cn, .slice p.Af e.feasts.length p.cf, .int .i64 e.nw, .int .i64 e.fl, .int .i64 e.wide, .slice p.At set.length p.ct, .map (some M)], .iface 162 (.agg #[])] x.world fun r w' => r = .returned (.int .i64 e.fl) ∧ Ext x.world w' from e_limit_true p e set M x.world)
        repeat (go_big_quiet_step ((go_at_call 90; exact Later.call (HLM.out _))))
        refine wpQuiet_nil ?_
        rintro ⟨w3, hE⟩
        subst hW
        have HS := Lib.hid (Step.of_ext HI4.out.cache hE)
        dsimp only
        clear q1 hE
        go_wp2
        go_roundw
        case rel => exact ⟨pre2, HJ.out _ _ _ HJ4.out HS.out, HI4.out.move hM HS.out, .inr (.inr ⟨rfl, by rw [HP2.out]; exact congrArg _ (part_no e set _ true HFB.out).symm⟩)⟩
        case measure => simp [intOf]
     ·have HP2 := Lib.hid hp2
      have HI2 := Lib.hid hI2
      clear hp2 hI2
      go_wp2_with fail
      go_roundw
      case rel => exact ⟨k + 1, pre2, by simp; omega, by omega, HP2.out, hJ2, HI2.out⟩
      case measure => simp [intOf]; omega
   ·go_wp2_with fail
    go_end0
    exact ⟨⟨_, rfl⟩, .inl ⟨pre, by rw [HP.out]; unfold Ec.foreL; rw [show k = (hi + 1 - 1).toNat by omega], hJ1⟩⟩
end Go.Proofs.YtcbodpnmndbgnaaGreatDoor
namespace Go.Proofs.YtcbodpnmndbgnaaGreatDoor
open Go.RowKit
open Sp (rd)
theorem ForeIn.later {w0 : World} {p : EP} {e : Ec.Engine} {set : List Int} {M bT bX : Nat} {hi : Int} {W W' : World} (h : ForeIn w0 p e set M bT bX hi W) (he : Ext W W') : ForeIn w0 p e set M bT bX hi W' :=
 ⟨h.ext.trans he, h.cache.ext he, h.to.ext he, h.x.ext he⟩
theorem fore_seq (n : Nat) (hn : 1 ≤ n) (p : EP) (e : Ec.Engine) (set : List Int) (M : Nat) (lo hi : Int) (w0 : World) (hK : Fine e set) (hm : EngSet w0 p e set) (hM : w0.heap.size ≤ M) (h1 : lo ≤ 9030) (h2 : -9030 ≤ lo) (h3 : hi ≤ 9030) (h4 : -9030 ≤ hi)
  (b : Nat) (W : World) (hF : Row W (b + 1) 3 #[.int .i64 lo]) (hI : ForeIn w0 p e set M (b + 2) b hi W) (W' : World) (hW : Ext W W') :
  SeqStep Fence.wide n Tryz.prog 133 #[.pointer (some ⟨b + 1, 0, none⟩), .pointer (some ⟨b + 2, 0, none⟩), .pointer (some ⟨b, 0, none⟩)] (fun x : Ecl1 => #[eclV x.1]) (KeepsEng w0.heap.size (b + 2) b M) (Move e set M)
   (ForeAll e set lo hi) (ForeSome e set lo hi) (Ec.foreL e set (max 1 lo) hi).length W' := fun l J Jx hJ hY h0 =>
 callsIn_wide.2 (e_fore1_any n hn l (b + 1) (b + 2) b w0 p e set M lo (max 1 lo) hi _ J Jx hK hm hM rfl h1 h2 h3 h4 (Nat.le_refl _) hJ hY W' (hF.ext hW) (hI.later hW) h0)
theorem foreIn_new {w0 w : World} {p : EP} {e : Ec.Engine} {set : List Int} {M : Nat} (lo hi : Int) (hE : Ext w0 w) (hC : Seen e set M w) : ForeIn w0 p e set M (w.heap.size + 2) w.heap.size hi (foreW p e set M lo hi w) :=
 ⟨hE.trans (foreW_ext p e set M lo hi w), hC.ext (foreW_ext p e set M lo hi w), foreW_T p e set M lo hi w, foreW_X p e set M lo hi w⟩
end Go.Proofs.YtcbodpnmndbgnaaGreatDoor
