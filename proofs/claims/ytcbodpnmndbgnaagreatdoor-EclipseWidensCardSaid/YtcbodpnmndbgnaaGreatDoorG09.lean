/- Volume 9 of the texts that the laws of this seat use: EcRefM EcErr EcRefEcl: walks of the program's functions, and plain laws. -/
import Derived.Carry
import Derived.Test.YtcbodpnmndbgnaaGreatDoorG02
import Derived.Test.YtcbodpnmndbgnaaGreatDoorG04
import Derived.Test.YtcbodpnmndbgnaaGreatDoorG06
import Derived.Test.YtcbodpnmndbgnaaGreatDoorG07
namespace Go.Proofs.YtcbodpnmndbgnaaGreatDoor
open Go.RowKit
open Sp (rd)
theorem ngcd_step (x y : Nat) : Nat.gcd x y = Nat.gcd y (x % y) := by rw [Nat.gcd_comm, Nat.gcd_rec, Nat.gcd_comm]
set_option maxRecDepth 100000 in
theorem r_gcd_any (x y : Nat) (w : World) (hx : x ≤ 1000000000) (hy : y ≤ 1000000000) :
  Calls Tryz.prog 114 #[.int .i64 (x : Int), .int .i64 (y : Int)] w fun e w' => e = .returned (.int .i64 (Nat.gcd x y : Int)) ∧ Ext w w' := by
 go_enter Tryz.func114, Tryz.ntmps114
 go_wp2_with fail
 go_loopw [0, 1] (fun a b wr => ∃ p q : Nat, a = .int .i64 (p : Int) ∧ b = .int .i64 (q : Int) ∧ Nat.gcd x y = Nat.gcd p q ∧ p ≤ 1000000000 ∧ q ≤ 1000000000 ∧ Ext w wr) (fun _ b _ => (intOf b).toNat)
 case atStart => exact ⟨x, y, rfl, rfl, rfl, hx, hy, Ext.refl _⟩
 case round =>
  obtain ⟨p, q, rfl, rfl, hg, hp, hq, hE⟩ := hrel
  have HG := Lib.hid hg
  have HE := Lib.hid hE
  clear hg hE
  by_cases h0 : 0 < q
  ·have hm : (p : Int).tmod (q : Int) = ((p % q : Nat) : Int) := by rw [Int.tmod_eq_emod_of_nonneg (by omega)]; rfl
   have hlt := Nat.mod_lt p h0
   go_wp2_with fail
   go_quiet (fail)
   go_wp2_with fail
   refine ⟨⟨q, p % q, rfl, by go_num, by rw [HG.out, ngcd_step], hq, by omega, HE.out.drewN _⟩, by simp [intOf]; omega⟩
  ·obtain rfl : q = 0 := by omega
   go_wp2_with fail
   go_ret
   exact ⟨by rw [HG.out, Nat.gcd_zero_right]; rfl, HE.out⟩
set_option maxRecDepth 100000 in
set_option maxHeartbeats 1000000 in
theorem r_Month_ok (s : Sp.Sky) (A : Option Addr) (c : Nat) (w : World) (hs : SkyOk s) (hm : Bodies w A s.bodies) (h : Sp.isMonth s = true) :
  Calls Tryz.prog 59 #[.agg #[.slice A s.bodies.length c, .int .i64 s.nnum, .int .i64 s.nden, .int .i64 s.nstart]] w fun e w' => e = .returned (.tuple #[.int .i64 (Sp.monthNum s / monthG s), .int .i64 (Sp.monthDen s / monthG s), .bool true]) ∧ Ext w w' := by
 have hmb := month_bounds hs h
 have hgb := monthG_bounds hs h
 have n2 := hs.n2
 obtain ⟨b, o, rfl, hc⟩ := hm (by omega)
 have e0 := hc 0 (by omega)
 have e1 := hc 1 (by omega)
 have b0 : bd s.bodies 0 = Sp.body s 0 := rfl
 have b1 : bd s.bodies 1 = Sp.body s 1 := rfl
 rw [b0] at e0
 rw [b1] at e1
 obtain ⟨p0, p1, _, _⟩ := e0
 obtain ⟨p2, p3, _, _⟩ := e1
 simp only [Nat.zero_mul, Nat.one_mul, Nat.add_zero] at p0 p1 p2 p3
 have n0 := lts (lt_of_cell p0)
 clear hc
 have q := (Row.new w 28 #[.slice (some ⟨b, o, none⟩) s.bodies.length c, .int .i64 s.nnum, .int .i64 s.nden, .int .i64 s.nstart]).cell 0
 simp only [List.getElem?_toArray, List.getElem?_cons_zero] at q
 have hE : Ext w (w.alloc (.cells #[.slice (some ⟨b, o, none⟩) s.bodies.length c, .int .i64 s.nnum, .int .i64 s.nden, .int .i64 s.nstart] 28)) := (Ext.refl w).alloc _
 replace p0 := hE.cell p0
 replace p1 := hE.cell p1
 replace p2 := hE.cell p2
 replace p3 := hE.cell p3
 go_enter Tryz.func59, Tryz.ntmps59
 go_wp2_with fail
 obtain ⟨W, hW⟩ : ∃ W, w.alloc (.cells #[.slice (some ⟨b, o, none⟩) s.bodies.length c, .int .i64 s.nnum, .int .i64 s.nden, .int .i64 s.nstart] 28) = W := ⟨_, rfl⟩
 have hz : W.heap.size = w.heap.size + 1 := by rw [← hW]; simp
 rw [hW] at q p0 p1 p2 p3 hE ⊢
 clear hW n0
 have m0 := World.new_ne W _ q
 have m1 := World.new_ne W _ p0
 have k0 := lts (lt_of_cell q)
 have k1 := lts (lt_of_cell p0)
 simp only at m0 m1 k0 k1
 have h01 : (0 : Int) < s.bodies.length := by omega
 have h11 : (1 : Int) < s.bodies.length := by omega
 have h00 : 0 < s.bodies.length := by omega
 refine Code.wp_mono (Q := fun e a' w' => e = .normal ∧ ∃ b4 b5, w.heap.size < b4 ∧ w.heap.size < b5 ∧ b4 ≠ b5 ∧ Ext W w' ∧ Row w' b4 24 #[.int .i64 (Sp.body s 0).num, .int .i64 (Sp.body s 0).den] ∧ Row w' b5 24 #[.int .i64 (Sp.body s 1).num, .int .i64 (Sp.body s 1).den] ∧ a' = (⟨#[.agg #[.slice (some ⟨b, o, none⟩) s.bodies.length c, .int .i64 s.nnum, .int .i64 s.nden, .int .i64 s.nstart], .pointer (some ⟨w.heap.size, 0, none⟩), .int .i64 0, .int .i64 0, .bool false, .pointer (some ⟨b4, 0, none⟩), .pointer (some ⟨b5, 0, none⟩), undef, undef, undef, .pointer (some ⟨w.heap.size, 0, none⟩), .slice (some ⟨b, o, none⟩) s.bodies.length c, .pointer (some ⟨b, o, none⟩), .pointer (some ⟨b, o, none⟩), .agg #[.int .i64 (Sp.body s 0).num, .int .i64 (Sp.body s 0).den], .pointer (some ⟨w.heap.size, 0, none⟩), .slice (some ⟨b, o, none⟩) s.bodies.length c, .pointer (some ⟨b, o + 4, none⟩), .pointer (some ⟨b, o + 4, none⟩), .agg #[.int .i64 (Sp.body s 1).num, .int .i64 (Sp.body s 1).den], undef, undef, undef, undef, undef, undef, undef, undef, undef, undef, undef, undef, undef, undef, undef, undef, undef, undef, undef, undef, undef, undef, undef, undef, undef, undef, undef], []⟩ : Act)) ?hq ?hr
 case hr =>
  go_region_held3 (fun w' => w'.cell? ⟨w.heap.size, 0, none⟩ = some (.slice (some ⟨b, o, none⟩) s.bodies.length c) ∧ w'.cell? ⟨b, o, none⟩ = some (.int .i64 (Sp.body s 0).num) ∧ w'.cell? ⟨b, o + 1, none⟩ = some (.int .i64 (Sp.body s 0).den) ∧ w'.cell? ⟨b, o + 4, none⟩ = some (.int .i64 (Sp.body s 1).num) ∧ w'.cell? ⟨b, o + 4 + 1, none⟩ = some (.int .i64 (Sp.body s 1).den)) (go_keep) (fail)
  ·have hE3 : Ext W ((W.alloc (.cells #[.int .i64 (Sp.body s 0).num, .int .i64 (Sp.body s 0).den] 24)).alloc (.cells #[.int .i64 (Sp.body s 1).num, .int .i64 (Sp.body s 1).den] 24)).drew := (((Ext.refl W).alloc _).alloc _).drew
   exact ⟨rfl, w.heap.size + 1, w.heap.size + 1 + 1, by omega, by omega, by omega, hE3, by rw [← hz]; exact (blocks2 W _ _).1, by rw [← hz]; exact (blocks2 W _ _).2, rfl⟩
  ·have hE3 : Ext W ((W.alloc (.cells #[.int .i64 (Sp.body s 1).num, .int .i64 (Sp.body s 1).den] 24)).alloc (.cells #[.int .i64 (Sp.body s 0).num, .int .i64 (Sp.body s 0).den] 24)).drew := (((Ext.refl W).alloc _).alloc _).drew
   exact ⟨rfl, w.heap.size + 1 + 1, w.heap.size + 1, by omega, by omega, by omega, hE3, by rw [← hz]; exact (blocks2 W _ _).2, by rw [← hz]; exact (blocks2 W _ _).1, rfl⟩
 case hq =>
  rintro e a' w1 ⟨rfl, b4, b5, hb4, hb5, hne, hE1, r4, r5, rfl⟩
  have c4 := r4.cell
  have c5 := r5.cell
  have g0 := hs.all 0 (by omega)
  have g1 := hs.all 1 (by omega)
  rw [b0] at g0
  rw [b1] at g1
  obtain ⟨n0, hn0⟩ : ∃ n0, (Sp.body s 0).num = n0 := ⟨_, rfl⟩
  obtain ⟨x0, hx0⟩ : ∃ x0, (Sp.body s 0).den = x0 := ⟨_, rfl⟩
  obtain ⟨n1, hn1⟩ : ∃ n1, (Sp.body s 1).num = n1 := ⟨_, rfl⟩
  obtain ⟨x1, hx1⟩ : ∃ x1, (Sp.body s 1).den = x1 := ⟨_, rfl⟩
  obtain ⟨u1, u2, u3, u4, _, _, _, _, _⟩ := g0
  obtain ⟨v1, v2, v3, v4, _, _, _, _, _⟩ := g1
  simp only [hn0, hx0] at u1 u2 u3 u4 c4 ⊢
  simp only [hn1, hx1] at v1 v2 v3 v4 c5 ⊢
  have t1 := mul_bounds (a := n1) (b := n0) (A := 10000) (B := 10000) (by omega) (by omega) (by omega) (by omega)
  have t2 := mul_bounds (a := x1) (b := n0) (A := 10000) (B := 10000) (by omega) (by omega) (by omega) (by omega)
  have t3 := mul_bounds (a := x0) (b := n1) (A := 10000) (B := 10000) (by omega) (by omega) (by omega) (by omega)
  have hnum : Sp.monthNum s = n1 * n0 := by simp only [Sp.monthNum, hn1, hn0]
  have hd : Sp.monthDen s = x1 * n0 - x0 * n1 := by simp only [Sp.monthDen, hn1, hn0, hx0, hx1]
  have hG : monthG s = (Nat.gcd (n1 * n0).toNat (x1 * n0 - x0 * n1).toNat : Int) := by
   unfold monthG
   rw [hnum, hd]
   rw [hnum, hd] at hmb
   unfold Int.gcd
   congr 2 <;> omega
  rw [hnum, hd] at hmb
  rw [hG] at hgb
  obtain ⟨N, hN⟩ : ∃ N : Nat, n1 * n0 = N := ⟨(n1 * n0).toNat, by omega⟩
  obtain ⟨D, hD⟩ : ∃ D : Nat, x1 * n0 - x0 * n1 = D := ⟨(x1 * n0 - x0 * n1).toNat, by omega⟩
  have HFIN : Hid (Ending.returned (.tuple #[.int .i64 (Sp.monthNum s / monthG s), .int .i64 (Sp.monthDen s / monthG s), .bool true]) = .returned (.tuple #[.int .i64 ((N : Int) / (Nat.gcd N D : Int)), .int .i64 ((D : Int) / (Nat.gcd N D : Int)), .bool true])) := Lib.hid (by
   rw [hG, hnum, hd, hN, hD]
   rfl)
  have HE := Lib.hid (hE.trans hE1)
  rw [hN, hD] at hmb hgb
  simp only [Int.toNat_natCast] at hgb
  have HN := Lib.hid hN
  have HD := Lib.hid hD
  clear hnum hd hn0 hx0 hn1 hx1 hE hE1 b0 b1 h hG
  go_wp2
  go_quiet (fail)
  go_wp2_with fail
  skip
  refine (r_gcd_any N D _ (by omega) (by omega)).mono ?_
  rintro e w2 ⟨rfl, hE2⟩
  have HE2 := Lib.hid ((HE.out.drewN _).trans hE2)
  clear hE2 c4 c5 hN hD
  have hq1 : (N : Int).tdiv (Nat.gcd N D : Int) = (N : Int) / (Nat.gcd N D : Int) := Int.tdiv_eq_ediv_of_nonneg (by omega)
  have hq2 : (D : Int).tdiv (Nat.gcd N D : Int) = (D : Int) / (Nat.gcd N D : Int) := Int.tdiv_eq_ediv_of_nonneg (by omega)
  have z1 : 0 ≤ (N : Int) / (Nat.gcd N D : Int) := Int.ediv_nonneg (by omega) (by omega)
  have z2 : (N : Int) / (Nat.gcd N D : Int) ≤ N := Int.ediv_le_self _ (by omega)
  have z3 : 0 ≤ (D : Int) / (Nat.gcd N D : Int) := Int.ediv_nonneg (by omega) (by omega)
  have z4 : (D : Int) / (Nat.gcd N D : Int) ≤ D := Int.ediv_le_self _ (by omega)
  go_wp2
  go_quiet (fail)
  go_wp2
  go_ret3
  exact ⟨HFIN.out.symm, HE2.out.drewN _⟩
set_option maxRecDepth 100000 in
set_option maxHeartbeats 1000000 in
theorem r_Month_no (s : Sp.Sky) (A : Option Addr) (c : Nat) (w : World) (hs : SkyOk s) (hm : Bodies w A s.bodies) (h : Sp.isMonth s = false) :
  Calls Tryz.prog 59 #[.agg #[.slice A s.bodies.length c, .int .i64 s.nnum, .int .i64 s.nden, .int .i64 s.nstart]] w fun e w' => e = .returned (.tuple #[.int .i64 0, .int .i64 0, .bool false]) ∧ Ext w w' := by
 skip
 have n2 := hs.n2
 obtain ⟨b, o, rfl, hc⟩ := hm (by omega)
 have e0 := hc 0 (by omega)
 have e1 := hc 1 (by omega)
 have b0 : bd s.bodies 0 = Sp.body s 0 := rfl
 have b1 : bd s.bodies 1 = Sp.body s 1 := rfl
 rw [b0] at e0
 rw [b1] at e1
 obtain ⟨p0, p1, _, _⟩ := e0
 obtain ⟨p2, p3, _, _⟩ := e1
 simp only [Nat.zero_mul, Nat.one_mul, Nat.add_zero] at p0 p1 p2 p3
 have n0 := lts (lt_of_cell p0)
 clear hc
 have q := (Row.new w 28 #[.slice (some ⟨b, o, none⟩) s.bodies.length c, .int .i64 s.nnum, .int .i64 s.nden, .int .i64 s.nstart]).cell 0
 simp only [List.getElem?_toArray, List.getElem?_cons_zero] at q
 have hE : Ext w (w.alloc (.cells #[.slice (some ⟨b, o, none⟩) s.bodies.length c, .int .i64 s.nnum, .int .i64 s.nden, .int .i64 s.nstart] 28)) := (Ext.refl w).alloc _
 replace p0 := hE.cell p0
 replace p1 := hE.cell p1
 replace p2 := hE.cell p2
 replace p3 := hE.cell p3
 go_enter Tryz.func59, Tryz.ntmps59
 go_wp2_with fail
 obtain ⟨W, hW⟩ : ∃ W, w.alloc (.cells #[.slice (some ⟨b, o, none⟩) s.bodies.length c, .int .i64 s.nnum, .int .i64 s.nden, .int .i64 s.nstart] 28) = W := ⟨_, rfl⟩
 have hz : W.heap.size = w.heap.size + 1 := by rw [← hW]; simp
 rw [hW] at q p0 p1 p2 p3 hE ⊢
 clear hW n0
 have m0 := World.new_ne W _ q
 have m1 := World.new_ne W _ p0
 have k0 := lts (lt_of_cell q)
 have k1 := lts (lt_of_cell p0)
 simp only at m0 m1 k0 k1
 have h01 : (0 : Int) < s.bodies.length := by omega
 have h11 : (1 : Int) < s.bodies.length := by omega
 have h00 : 0 < s.bodies.length := by omega
 refine Code.wp_mono (Q := fun e a' w' => e = .normal ∧ ∃ b4 b5, w.heap.size < b4 ∧ w.heap.size < b5 ∧ b4 ≠ b5 ∧ Ext W w' ∧ Row w' b4 24 #[.int .i64 (Sp.body s 0).num, .int .i64 (Sp.body s 0).den] ∧ Row w' b5 24 #[.int .i64 (Sp.body s 1).num, .int .i64 (Sp.body s 1).den] ∧ a' = (⟨#[.agg #[.slice (some ⟨b, o, none⟩) s.bodies.length c, .int .i64 s.nnum, .int .i64 s.nden, .int .i64 s.nstart], .pointer (some ⟨w.heap.size, 0, none⟩), .int .i64 0, .int .i64 0, .bool false, .pointer (some ⟨b4, 0, none⟩), .pointer (some ⟨b5, 0, none⟩), undef, undef, undef, .pointer (some ⟨w.heap.size, 0, none⟩), .slice (some ⟨b, o, none⟩) s.bodies.length c, .pointer (some ⟨b, o, none⟩), .pointer (some ⟨b, o, none⟩), .agg #[.int .i64 (Sp.body s 0).num, .int .i64 (Sp.body s 0).den], .pointer (some ⟨w.heap.size, 0, none⟩), .slice (some ⟨b, o, none⟩) s.bodies.length c, .pointer (some ⟨b, o + 4, none⟩), .pointer (some ⟨b, o + 4, none⟩), .agg #[.int .i64 (Sp.body s 1).num, .int .i64 (Sp.body s 1).den], undef, undef, undef, undef, undef, undef, undef, undef, undef, undef, undef, undef, undef, undef, undef, undef, undef, undef, undef, undef, undef, undef, undef, undef, undef, undef, undef], []⟩ : Act)) ?hq ?hr
 case hr =>
  go_region_held3 (fun w' => w'.cell? ⟨w.heap.size, 0, none⟩ = some (.slice (some ⟨b, o, none⟩) s.bodies.length c) ∧ w'.cell? ⟨b, o, none⟩ = some (.int .i64 (Sp.body s 0).num) ∧ w'.cell? ⟨b, o + 1, none⟩ = some (.int .i64 (Sp.body s 0).den) ∧ w'.cell? ⟨b, o + 4, none⟩ = some (.int .i64 (Sp.body s 1).num) ∧ w'.cell? ⟨b, o + 4 + 1, none⟩ = some (.int .i64 (Sp.body s 1).den)) (go_keep) (fail)
  ·have hE3 : Ext W ((W.alloc (.cells #[.int .i64 (Sp.body s 0).num, .int .i64 (Sp.body s 0).den] 24)).alloc (.cells #[.int .i64 (Sp.body s 1).num, .int .i64 (Sp.body s 1).den] 24)).drew := (((Ext.refl W).alloc _).alloc _).drew
   exact ⟨rfl, w.heap.size + 1, w.heap.size + 1 + 1, by omega, by omega, by omega, hE3, by rw [← hz]; exact (blocks2 W _ _).1, by rw [← hz]; exact (blocks2 W _ _).2, rfl⟩
  ·have hE3 : Ext W ((W.alloc (.cells #[.int .i64 (Sp.body s 1).num, .int .i64 (Sp.body s 1).den] 24)).alloc (.cells #[.int .i64 (Sp.body s 0).num, .int .i64 (Sp.body s 0).den] 24)).drew := (((Ext.refl W).alloc _).alloc _).drew
   exact ⟨rfl, w.heap.size + 1 + 1, w.heap.size + 1, by omega, by omega, by omega, hE3, by rw [← hz]; exact (blocks2 W _ _).2, by rw [← hz]; exact (blocks2 W _ _).1, rfl⟩
 case hq =>
  rintro e a' w1 ⟨rfl, b4, b5, hb4, hb5, hne, hE1, r4, r5, rfl⟩
  have c4 := r4.cell
  have c5 := r5.cell
  have g0 := hs.all 0 (by omega)
  have g1 := hs.all 1 (by omega)
  rw [b0] at g0
  rw [b1] at g1
  obtain ⟨n0, hn0⟩ : ∃ n0, (Sp.body s 0).num = n0 := ⟨_, rfl⟩
  obtain ⟨x0, hx0⟩ : ∃ x0, (Sp.body s 0).den = x0 := ⟨_, rfl⟩
  obtain ⟨n1, hn1⟩ : ∃ n1, (Sp.body s 1).num = n1 := ⟨_, rfl⟩
  obtain ⟨x1, hx1⟩ : ∃ x1, (Sp.body s 1).den = x1 := ⟨_, rfl⟩
  obtain ⟨u1, u2, u3, u4, _, _, _, _, _⟩ := g0
  obtain ⟨v1, v2, v3, v4, _, _, _, _, _⟩ := g1
  simp only [hn0, hx0] at u1 u2 u3 u4 c4 ⊢
  simp only [hn1, hx1] at v1 v2 v3 v4 c5 ⊢
  have t1 := mul_bounds (a := n1) (b := n0) (A := 10000) (B := 10000) (by omega) (by omega) (by omega) (by omega)
  have t2 := mul_bounds (a := x1) (b := n0) (A := 10000) (B := 10000) (by omega) (by omega) (by omega) (by omega)
  have t3 := mul_bounds (a := x0) (b := n1) (A := 10000) (B := 10000) (by omega) (by omega) (by omega) (by omega)
  have hnum : Sp.monthNum s = n1 * n0 := by simp only [Sp.monthNum, hn1, hn0]
  have hd : Sp.monthDen s = x1 * n0 - x0 * n1 := by simp only [Sp.monthDen, hn1, hn0, hx0, hx1]
  have hden : x1 * n0 - x0 * n1 ≤ 0 := by
   have h' : ¬ 0 < Sp.monthDen s := of_decide_eq_false h
   omega
  have HE := Lib.hid (hE.trans hE1)
  clear hnum hd hn0 hx0 hn1 hx1 hE hE1 b0 b1 h
  go_wp2
  go_quiet (fail)
  go_wp2
  go_ret3
  exact ⟨rfl, HE.out.drewN _⟩
end Go.Proofs.YtcbodpnmndbgnaaGreatDoor
namespace Go.Proofs.YtcbodpnmndbgnaaGreatDoor
open Go.RowKit
open Sp (rd)
set_option maxRecDepth 100000
set_option maxHeartbeats 1000000
def widensΦf (p : EP) (e : Ec.Engine) (set : List Int) (lo : Int) (hi : Int) (w0 : World) (i : Nat) (v : Value) (w : World) : Prop :=
 match i with
 | 0 => v = .agg #[.slice p.Ab e.sky.bodies.length p.cb, .int .i64 e.sky.nnum, .int .i64 e.sky.nden, .int .i64 e.sky.nstart, .slice p.As e.sun.length p.cs, .slice p.Am e.moon.length p.cm, .slice p.An e.node.length p.cn, .slice p.Af e.feasts.length p.cf, .int .i64 e.nw, .int .i64 e.fl, .int .i64 e.wide]
 | 1 => v = .slice p.At set.length p.ct
 | 2 => v = .int .i64 lo
 | 3 => v = .int .i64 hi
 | 4 => v = .bool false
 | 5 => v = .bool false
 | 6 => v = undef
 | 7 => v = undef
 | 8 => v = .bool false
 | 9 => v = .tuple #[.agg #[.slice none 0 0, .int .i64 0, .int .i64 0, .int .i64 0, .slice none 0 0, .slice none 0 0, .slice none 0 0, .slice none 0 0, .int .i64 0, .int .i64 0, .int .i64 0, .slice none 0 0, .map none], .int .i64 2]
 | 10 => v = .tuple #[.agg #[.slice none 0 0, .int .i64 0, .int .i64 0, .int .i64 0, .slice none 0 0, .slice none 0 0, .slice none 0 0, .slice none 0 0, .int .i64 0, .int .i64 0, .int .i64 0, .slice none 0 0, .map none], .int .i64 2]
 | 11 => v = .agg #[.slice none 0 0, .int .i64 0, .int .i64 0, .int .i64 0, .slice none 0 0, .slice none 0 0, .slice none 0 0, .slice none 0 0, .int .i64 0, .int .i64 0, .int .i64 0, .slice none 0 0, .map none]
 | 12 => v = .int .i64 2
 | _ => AskNew w0 v w
theorem widensΦf_mono {p : EP} {e : Ec.Engine} {set : List Int} {lo : Int} {hi : Int} {w0 : World} (i : Nat) (v : Value) (w w' : World) (h : widensΦf p e set lo hi w0 i v w) (he : Ext w w') : widensΦf p e set lo hi w0 i v w' := by
 unfold widensΦf at h ⊢
 split at h <;> first
  | exact h
  | exact AskTup.ext h he
  | exact AskAgg.ext h he
  | exact AskNew.ext h he
def widensΦt (p : EP) (e : Ec.Engine) (set : List Int) (lo : Int) (hi : Int) (late : Int) (fb : Bool) (w0 : World) (i : Nat) (v : Value) (w : World) : Prop :=
 match i with
 | 0 => v = .agg #[.slice p.Ab e.sky.bodies.length p.cb, .int .i64 e.sky.nnum, .int .i64 e.sky.nden, .int .i64 e.sky.nstart, .slice p.As e.sun.length p.cs, .slice p.Am e.moon.length p.cm, .slice p.An e.node.length p.cn, .slice p.Af e.feasts.length p.cf, .int .i64 e.nw, .int .i64 e.fl, .int .i64 e.wide]
 | 1 => v = .slice p.At set.length p.ct
 | 2 => v = .int .i64 lo
 | 3 => v = .int .i64 hi
 | 4 => v = .bool true
 | 5 => v = .bool true
 | 6 => v = .int .i64 late
 | 7 => v = .bool fb
 | 8 => v = .bool fb
 | 9 => v = .tuple #[.agg #[.slice none 0 0, .int .i64 0, .int .i64 0, .int .i64 0, .slice none 0 0, .slice none 0 0, .slice none 0 0, .slice none 0 0, .int .i64 0, .int .i64 0, .int .i64 0, .slice none 0 0, .map none], .int .i64 2]
 | 10 => v = .tuple #[.agg #[.slice none 0 0, .int .i64 0, .int .i64 0, .int .i64 0, .slice none 0 0, .slice none 0 0, .slice none 0 0, .slice none 0 0, .int .i64 0, .int .i64 0, .int .i64 0, .slice none 0 0, .map none], .int .i64 2]
 | 11 => v = .agg #[.slice none 0 0, .int .i64 0, .int .i64 0, .int .i64 0, .slice none 0 0, .slice none 0 0, .slice none 0 0, .slice none 0 0, .int .i64 0, .int .i64 0, .int .i64 0, .slice none 0 0, .map none]
 | 12 => v = .int .i64 2
 | _ => AskNew w0 v w
theorem widensΦt_mono {p : EP} {e : Ec.Engine} {set : List Int} {lo : Int} {hi : Int} {late : Int} {fb : Bool} {w0 : World} (i : Nat) (v : Value) (w w' : World) (h : widensΦt p e set lo hi late fb w0 i v w) (he : Ext w w') : widensΦt p e set lo hi late fb w0 i v w' := by
 unfold widensΦt at h ⊢
 split at h <;> first
  | exact h
  | exact AskTup.ext h he
  | exact AskAgg.ext h he
  | exact AskNew.ext h he
theorem e_Widens_err (p : EP) (e : Ec.Engine) (set : List Int) (lo hi late : Int) (w : World) (hm : EngSet w p e set) (hl : EngShort e) (hs : set.length ≤ 100000) (h : (Ec.engineOk e && (Ec.setOk e.feasts set && (Ec.isSpan lo hi && Ec.isLate late))) = false) :
  Calls Tryz.prog 40 #[.agg #[.slice p.Ab e.sky.bodies.length p.cb, .int .i64 e.sky.nnum, .int .i64 e.sky.nden, .int .i64 e.sky.nstart, .slice p.As e.sun.length p.cs, .slice p.Am e.moon.length p.cm, .slice p.An e.node.length p.cn, .slice p.Af e.feasts.length p.cf, .int .i64 e.nw, .int .i64 e.fl, .int .i64 e.wide], .slice p.At set.length p.ct, .int .i64 lo, .int .i64 hi, .int .i64 late] w fun r w' => r = .returned (.tuple #[.int .i64 0, .int .i64 2]) ∧ Ext w w' := by
 have HM := Lib.hid hm
 have HL := Lib.hid hl
 have HR0 : Hid (Row (w.alloc (.cells #[.slice p.Ab e.sky.bodies.length p.cb, .int .i64 e.sky.nnum, .int .i64 e.sky.nden, .int .i64 e.sky.nstart, .slice p.As e.sun.length p.cs, .slice p.Am e.moon.length p.cm, .slice p.An e.node.length p.cn, .slice p.Af e.feasts.length p.cf, .int .i64 e.nw, .int .i64 e.fl, .int .i64 e.wide] 32)) w.heap.size 32 #[.slice p.Ab e.sky.bodies.length p.cb, .int .i64 e.sky.nnum, .int .i64 e.sky.nden, .int .i64 e.sky.nstart, .slice p.As e.sun.length p.cs, .slice p.Am e.moon.length p.cm, .slice p.An e.node.length p.cn, .slice p.Af e.feasts.length p.cf, .int .i64 e.nw, .int .i64 e.fl, .int .i64 e.wide]) := Lib.hid (Row.new w _ _)
 have HE0 := Lib.hid ((Ext.refl w).alloc (.cells #[.slice p.Ab e.sky.bodies.length p.cb, .int .i64 e.sky.nnum, .int .i64 e.sky.nden, .int .i64 e.sky.nstart, .slice p.As e.sun.length p.cs, .slice p.Am e.moon.length p.cm, .slice p.An e.node.length p.cn, .slice p.Af e.feasts.length p.cf, .int .i64 e.nw, .int .i64 e.fl, .int .i64 e.wide] 32))
 clear hm hl
 obtain ⟨fb, c3⟩ : ∃ fb, Ec.isLate late = fb := ⟨_, rfl⟩
 rw [c3] at h
 cases c2 : Ec.isSpan lo hi
 ·replace h : (Ec.engineOk e && (Ec.setOk e.feasts set && false)) = false := by simp
  go_enter Tryz.func40, Tryz.ntmps40
  go_wp2_with fail
  obtain ⟨W, hW⟩ : ∃ W, w.alloc (.cells #[.slice p.Ab e.sky.bodies.length p.cb, .int .i64 e.sky.nnum, .int .i64 e.sky.nden, .int .i64 e.sky.nstart, .slice p.As e.sun.length p.cs, .slice p.Am e.moon.length p.cm, .slice p.An e.node.length p.cn, .slice p.Af e.feasts.length p.cf, .int .i64 e.nw, .int .i64 e.fl, .int .i64 e.wide] 32) = W := ⟨_, rfl⟩
  rw [hW] at HR0 HE0 ⊢
  clear hW
  refine Code.wp_mono (Q := fun e' a' w' => e' = .normal ∧ ∃ b, W.heap.size ≤ b ∧ Ext W w' ∧ a' = (⟨#[.agg #[.slice p.Ab e.sky.bodies.length p.cb, .int .i64 e.sky.nnum, .int .i64 e.sky.nden, .int .i64 e.sky.nstart, .slice p.As e.sun.length p.cs, .slice p.Am e.moon.length p.cm, .slice p.An e.node.length p.cn, .slice p.Af e.feasts.length p.cf, .int .i64 e.nw, .int .i64 e.fl, .int .i64 e.wide], .slice p.At set.length p.ct, .int .i64 lo, .int .i64 hi, .int .i64 late, .pointer (some ⟨w.heap.size, 0, none⟩), undef, undef, undef, undef, .int .i64 0, .int .i64 0, .pointer (some ⟨b, 0, none⟩), .int .i64 2, undef, undef, undef, undef, undef, undef, .tuple #[.agg #[.slice none 0 0, .int .i64 0, .int .i64 0, .int .i64 0, .slice none 0 0, .slice none 0 0, .slice none 0 0, .slice none 0 0, .int .i64 0, .int .i64 0, .int .i64 0, .slice none 0 0, .map none], .int .i64 2], .agg #[.slice p.Ab e.sky.bodies.length p.cb, .int .i64 e.sky.nnum, .int .i64 e.sky.nden, .int .i64 e.sky.nstart, .slice p.As e.sun.length p.cs, .slice p.Am e.moon.length p.cm, .slice p.An e.node.length p.cn, .slice p.Af e.feasts.length p.cf, .int .i64 e.nw, .int .i64 e.fl, .int .i64 e.wide], .slice p.At set.length p.ct, .int .i64 lo, .int .i64 hi, .bool false, .bool false, undef, undef, .bool false, .tuple #[.agg #[.slice none 0 0, .int .i64 0, .int .i64 0, .int .i64 0, .slice none 0 0, .slice none 0 0, .slice none 0 0, .slice none 0 0, .int .i64 0, .int .i64 0, .int .i64 0, .slice none 0 0, .map none], .int .i64 2], .agg #[.slice none 0 0, .int .i64 0, .int .i64 0, .int .i64 0, .slice none 0 0, .slice none 0 0, .slice none 0 0, .slice none 0 0, .int .i64 0, .int .i64 0, .int .i64 0, .slice none 0 0, .map none], .int .i64 2, undef, undef, undef, undef, undef, undef, undef, undef, undef, undef, undef, undef, undef, undef, undef, undef, undef, undef, undef, undef, undef, undef, undef, undef, undef, undef, undef, undef, undef, undef, undef, undef, undef, undef, undef, undef, undef, undef, undef, undef, undef, undef, undef, undef, undef, undef, undef, undef, undef, undef], []⟩ : Act)) ?hq (wp_region_free_tail 14 12 (widensΦf p e set lo hi W) (by kernel_rfl) (by simp) (by kernel_rfl) (by kernel_rfl) (by kernel_rfl) (by kernel_rfl) widensΦf_mono ?hob ?hQ ?hZ)
  case hob =>
   intro i o hin ho a wa hE hF
   match i, hin with
   | 0, _ =>
    cases ho
    have h0 : a.tmps[5]?.getD undef = .pointer (some ⟨w.heap.size, 0, none⟩) := evalD (hF.old 5 (by decide))
    have q := (HR0.out.ext hE).cell
    refine Ran.value rfl (v := .agg #[.slice p.Ab e.sky.bodies.length p.cb, .int .i64 e.sky.nnum, .int .i64 e.sky.nden, .int .i64 e.sky.nstart, .slice p.As e.sun.length p.cs, .slice p.Am e.moon.length p.cm, .slice p.An e.node.length p.cn, .slice p.Af e.feasts.length p.cf, .int .i64 e.nw, .int .i64 e.fl, .int .i64 e.wide]) (w1 := wa) ?_ ⟨rfl, Ext.refl _⟩
    go_simp
   | 1, _ =>
    cases ho
    have h0 : a.tmps[1]?.getD undef = .slice p.At set.length p.ct := evalD (hF.old 1 (by decide))
    refine Ran.value rfl (v := .slice p.At set.length p.ct) (w1 := wa) ?_ ⟨rfl, Ext.refl _⟩
    go_simp
   | 2, _ =>
    cases ho
    have h0 : a.tmps[2]?.getD undef = .int .i64 lo := evalD (hF.old 2 (by decide))
    refine Ran.value rfl (v := .int .i64 lo) (w1 := wa) ?_ ⟨rfl, Ext.refl _⟩
    go_simp
   | 3, _ =>
    cases ho
    have h0 : a.tmps[3]?.getD undef = .int .i64 hi := evalD (hF.old 3 (by decide))
    refine Ran.value rfl (v := .int .i64 hi) (w1 := wa) ?_ ⟨rfl, Ext.refl _⟩
    go_simp
   | 4, _ =>
    cases ho
    have h0 : a.tmps[23]?.getD undef = .int .i64 lo := evalD (hF.from_ 2 23 rfl (by decide))
    have h1 : a.tmps[24]?.getD undef = .int .i64 hi := evalD (hF.from_ 3 24 rfl (by decide))
    refine Ran.enter rfl (f := 76) (args := #[.int .i64 lo, .int .i64 hi]) (w1 := wa) ?_ ?_
    ·go_simp
    ·refine (e_isSpan_any lo hi _).mono ?_
     rintro r w1 ⟨rfl, rfl⟩
     exact ⟨_, rfl, by rw [c2]; rfl, Ext.refl _⟩
   | 5, _ =>
    cases ho
    have h0 : a.tmps[25]?.getD undef = .bool false := evalD (hF.from_ 4 25 rfl (by decide))
    refine Ran.value rfl (v := .bool false) (w1 := wa) ?_ ⟨rfl, Ext.refl _⟩
    go_simp
   | 6, _ =>
    cases ho
    have hg : a.eval (.tmp 26) = .bool false := hF.from_ 5 26 rfl (by decide)
    exact Ran.if_ rfl rfl rfl hg (fun h => by cases h) (fun _ => ⟨rfl, Ext.refl _⟩)
   | 7, _ =>
    cases ho
    have hg : a.eval (.tmp 26) = .bool false := hF.from_ 5 26 rfl (by decide)
    exact Ran.if_ rfl rfl rfl hg (fun h => by cases h) (fun _ => ⟨rfl, Ext.refl _⟩)
   | 8, _ =>
    cases ho
    have h0 : a.tmps[26]?.getD undef = .bool false := evalD (hF.from_ 5 26 rfl (by decide))
    have h1 : a.tmps[28]?.getD undef = undef := evalD (hF.from_ 7 28 rfl (by decide))
    refine Ran.value rfl (v := .bool false) (w1 := wa) ?_ ⟨rfl, Ext.refl _⟩
    go_simp
   | 9, _ =>
    cases ho
    have h0 : a.tmps[21]?.getD undef = .agg #[.slice p.Ab e.sky.bodies.length p.cb, .int .i64 e.sky.nnum, .int .i64 e.sky.nden, .int .i64 e.sky.nstart, .slice p.As e.sun.length p.cs, .slice p.Am e.moon.length p.cm, .slice p.An e.node.length p.cn, .slice p.Af e.feasts.length p.cf, .int .i64 e.nw, .int .i64 e.fl, .int .i64 e.wide] := evalD (hF.from_ 0 21 rfl (by decide))
    have h1 : a.tmps[22]?.getD undef = .slice p.At set.length p.ct := evalD (hF.from_ 1 22 rfl (by decide))
    have h2 : a.tmps[29]?.getD undef = .bool false := evalD (hF.from_ 8 29 rfl (by decide))
    refine Ran.enter rfl (f := 69) (args := #[.agg #[.slice p.Ab e.sky.bodies.length p.cb, .int .i64 e.sky.nnum, .int .i64 e.sky.nden, .int .i64 e.sky.nstart, .slice p.As e.sun.length p.cs, .slice p.Am e.moon.length p.cm, .slice p.An e.node.length p.cn, .slice p.Af e.feasts.length p.cf, .int .i64 e.nw, .int .i64 e.fl, .int .i64 e.wide], .slice p.At set.length p.ct, .bool false]) (w1 := wa) ?_ ?_
    ·go_simp
    ·refine (e_asked_err p e set false wa (HM.out.ext (HE0.out.trans hE)) HL.out hs h).mono ?_
     rintro r w1 ⟨rfl, hX⟩
     exact ⟨_, rfl, rfl, hX⟩
   | 10, _ =>
    cases ho
    have h0 : a.tmps[30]?.getD undef = .tuple #[.agg #[.slice none 0 0, .int .i64 0, .int .i64 0, .int .i64 0, .slice none 0 0, .slice none 0 0, .slice none 0 0, .slice none 0 0, .int .i64 0, .int .i64 0, .int .i64 0, .slice none 0 0, .map none], .int .i64 2] := evalD (hF.from_ 9 30 rfl (by decide))
    refine Ran.value rfl (w1 := wa) (v := .tuple #[.agg #[.slice none 0 0, .int .i64 0, .int .i64 0, .int .i64 0, .slice none 0 0, .slice none 0 0, .slice none 0 0, .slice none 0 0, .int .i64 0, .int .i64 0, .int .i64 0, .slice none 0 0, .map none], .int .i64 2]) ?_ ⟨rfl, Ext.refl _⟩
    go_simp
   | 11, _ =>
    cases ho
    have h0 : a.tmps[20]?.getD undef = .tuple #[.agg #[.slice none 0 0, .int .i64 0, .int .i64 0, .int .i64 0, .slice none 0 0, .slice none 0 0, .slice none 0 0, .slice none 0 0, .int .i64 0, .int .i64 0, .int .i64 0, .slice none 0 0, .map none], .int .i64 2] := evalD (hF.from_ 10 20 rfl (by decide))
    refine Ran.value rfl (w1 := wa) (v := .agg #[.slice none 0 0, .int .i64 0, .int .i64 0, .int .i64 0, .slice none 0 0, .slice none 0 0, .slice none 0 0, .slice none 0 0, .int .i64 0, .int .i64 0, .int .i64 0, .slice none 0 0, .map none]) ?_ ⟨rfl, Ext.refl _⟩
    go_simp
   | 12, _ =>
    cases ho
    have h0 : a.tmps[20]?.getD undef = .tuple #[.agg #[.slice none 0 0, .int .i64 0, .int .i64 0, .int .i64 0, .slice none 0 0, .slice none 0 0, .slice none 0 0, .slice none 0 0, .int .i64 0, .int .i64 0, .int .i64 0, .slice none 0 0, .map none], .int .i64 2] := evalD (hF.from_ 10 20 rfl (by decide))
    refine Ran.value rfl (w1 := wa) (v := .int .i64 2) ?_ ⟨rfl, Ext.refl _⟩
    go_simp
   | 13, _ =>
    cases ho
    refine Ran.value rfl (w1 := wa.alloc (.cells zeroEng 100)) (v := .pointer (some ⟨wa.heap.size, 0, none⟩)) (by kernel_rfl) ⟨⟨wa.heap.size, rfl, hE.size, Row.new _ _ _⟩, (Ext.refl _).alloc _⟩
   | k + 14, hin => omega
  case hQ =>
   intro vs w2 hE hΦ
   have f0 : vs 0 = .agg #[.slice p.Ab e.sky.bodies.length p.cb, .int .i64 e.sky.nnum, .int .i64 e.sky.nden, .int .i64 e.sky.nstart, .slice p.As e.sun.length p.cs, .slice p.Am e.moon.length p.cm, .slice p.An e.node.length p.cn, .slice p.Af e.feasts.length p.cf, .int .i64 e.nw, .int .i64 e.fl, .int .i64 e.wide] := hΦ 0 (by omega)
   have f1 : vs 1 = .slice p.At set.length p.ct := hΦ 1 (by omega)
   have f2 : vs 2 = .int .i64 lo := hΦ 2 (by omega)
   have f3 : vs 3 = .int .i64 hi := hΦ 3 (by omega)
   have f4 : vs 4 = .bool false := hΦ 4 (by omega)
   have f5 : vs 5 = .bool false := hΦ 5 (by omega)
   have f6 : vs 6 = undef := hΦ 6 (by omega)
   have f7 : vs 7 = undef := hΦ 7 (by omega)
   have f8 : vs 8 = .bool false := hΦ 8 (by omega)
   have f9 : vs 9 = .tuple #[.agg #[.slice none 0 0, .int .i64 0, .int .i64 0, .int .i64 0, .slice none 0 0, .slice none 0 0, .slice none 0 0, .slice none 0 0, .int .i64 0, .int .i64 0, .int .i64 0, .slice none 0 0, .map none], .int .i64 2] := hΦ 9 (by omega)
   have f10 : vs 10 = .tuple #[.agg #[.slice none 0 0, .int .i64 0, .int .i64 0, .int .i64 0, .slice none 0 0, .slice none 0 0, .slice none 0 0, .slice none 0 0, .int .i64 0, .int .i64 0, .int .i64 0, .slice none 0 0, .map none], .int .i64 2] := hΦ 10 (by omega)
   have f11 : vs 11 = .agg #[.slice none 0 0, .int .i64 0, .int .i64 0, .int .i64 0, .slice none 0 0, .slice none 0 0, .slice none 0 0, .slice none 0 0, .int .i64 0, .int .i64 0, .int .i64 0, .slice none 0 0, .map none] := hΦ 11 (by omega)
   have f12 : vs 12 = .int .i64 2 := hΦ 12 (by omega)
   obtain ⟨b, f13, hb, hr⟩ : AskNew W (vs 13) w2 := hΦ 13 (by omega)
   have hrg : List.range 14 = [0, 1, 2, 3, 4, 5, 6, 7, 8, 9, 10, 11, 12, 13] := rfl
   unfold putAll putS
   simp only [List.length_cons, List.length_nil, List.take_succ_cons, List.take_zero, List.drop_succ_cons, List.drop_zero, Nat.reduceAdd, hrg, List.foldl_cons, List.foldl_nil, dstOf, List.getElem?_cons_succ, List.getElem?_cons_zero, Option.bind_some]
   clear hrg
   rw [f0, f1, f2, f3, f4, f5, f6, f7, f8, f9, f10, f11, f12, f13]
   have c := hr.cell
   simp only [zeroEng] at c
   have fz := hr.free
   go_wp2
   clear c fz
   obtain ⟨W3, hW3⟩ : ∃ W3, setsAt w2 b 0 [.slice none 0 0, .int .i64 0, .int .i64 0, .int .i64 0, .slice none 0 0, .slice none 0 0, .slice none 0 0, .slice none 0 0, .int .i64 0, .int .i64 0, .int .i64 0, .slice none 0 0, .map none] = W3 := ⟨_, rfl⟩
   have hE3 : Ext W W3 := by rw [← hW3]; exact Ext.sets hb _ _ _ hE
   simp only [setsAt, Nat.reduceAdd] at hW3
   try rw [hW3]
   first | exact hE3 | exact ⟨hb, hE3⟩ | exact ⟨b, hb, hE3, by simp⟩
  case hZ =>
   intro _ vs w2 hE hΦ on oz hon hoz
   obtain rfl := Option.some.inj hon
   obtain rfl := Option.some.inj hoz
   have f0 : vs 0 = .agg #[.slice p.Ab e.sky.bodies.length p.cb, .int .i64 e.sky.nnum, .int .i64 e.sky.nden, .int .i64 e.sky.nstart, .slice p.As e.sun.length p.cs, .slice p.Am e.moon.length p.cm, .slice p.An e.node.length p.cn, .slice p.Af e.feasts.length p.cf, .int .i64 e.nw, .int .i64 e.fl, .int .i64 e.wide] := hΦ 0 (by omega) (by omega)
   have f1 : vs 1 = .slice p.At set.length p.ct := hΦ 1 (by omega) (by omega)
   have f2 : vs 2 = .int .i64 lo := hΦ 2 (by omega) (by omega)
   have f3 : vs 3 = .int .i64 hi := hΦ 3 (by omega) (by omega)
   have f4 : vs 4 = .bool false := hΦ 4 (by omega) (by omega)
   have f5 : vs 5 = .bool false := hΦ 5 (by omega) (by omega)
   have f6 : vs 6 = undef := hΦ 6 (by omega) (by omega)
   have f7 : vs 7 = undef := hΦ 7 (by omega) (by omega)
   have f8 : vs 8 = .bool false := hΦ 8 (by omega) (by omega)
   have f9 : vs 9 = .tuple #[.agg #[.slice none 0 0, .int .i64 0, .int .i64 0, .int .i64 0, .slice none 0 0, .slice none 0 0, .slice none 0 0, .slice none 0 0, .int .i64 0, .int .i64 0, .int .i64 0, .slice none 0 0, .map none], .int .i64 2] := hΦ 9 (by omega) (by omega)
   have f10 : vs 10 = .tuple #[.agg #[.slice none 0 0, .int .i64 0, .int .i64 0, .int .i64 0, .slice none 0 0, .slice none 0 0, .slice none 0 0, .slice none 0 0, .int .i64 0, .int .i64 0, .int .i64 0, .slice none 0 0, .map none], .int .i64 2] := hΦ 10 (by omega) (by omega)
   have f11 : vs 11 = .agg #[.slice none 0 0, .int .i64 0, .int .i64 0, .int .i64 0, .slice none 0 0, .slice none 0 0, .slice none 0 0, .slice none 0 0, .int .i64 0, .int .i64 0, .int .i64 0, .slice none 0 0, .map none] := hΦ 11 (by omega) (by omega)
   obtain ⟨b, f13, hb, hr⟩ : AskNew W (vs 13) w2 := hΦ 13 (by omega) (by omega)
   have hrg : (List.range 14).filter (· ≠ 12) = [0, 1, 2, 3, 4, 5, 6, 7, 8, 9, 10, 11, 13] := by decide
   rw [hrg]
   unfold putS
   simp only [List.take_succ_cons, List.take_zero, List.drop_succ_cons, List.drop_zero, Nat.reduceAdd, List.foldl_cons, List.foldl_nil, dstOf, List.getElem?_cons_succ, List.getElem?_cons_zero, Option.bind_some]
   clear hrg
   rw [f0, f1, f2, f3, f4, f5, f6, f7, f8, f9, f10, f11, f13]
   have c := hr.cell
   simp only [zeroEng] at c
   have fz := hr.free
   go_wp2
   clear c fz
   obtain ⟨W3, hW3⟩ : ∃ W3, setsAt w2 b 0 [.slice none 0 0, .int .i64 0, .int .i64 0, .int .i64 0, .slice none 0 0, .slice none 0 0, .slice none 0 0, .slice none 0 0, .int .i64 0, .int .i64 0, .int .i64 0, .slice none 0 0, .map none] = W3 := ⟨_, rfl⟩
   have hE3 : Ext W W3 := by rw [← hW3]; exact Ext.sets hb _ _ _ hE
   simp only [setsAt, Nat.reduceAdd] at hW3
   try rw [hW3]
   first | exact hE3 | exact ⟨hb, hE3⟩ | exact ⟨b, hb, hE3, by simp⟩
  case hq =>
   rintro e' a' w3 ⟨rfl, b, hb, hE3, rfl⟩
   have hE4 : Ext w w3 := HE0.out.trans hE3
   go_wp2_with fail
   go_ret2
   exact ⟨rfl, hE4⟩
 ·replace h : (Ec.engineOk e && (Ec.setOk e.feasts set && fb)) = false := by rw [c2, Bool.true_and] at h; exact h
  go_enter Tryz.func40, Tryz.ntmps40
  go_wp2_with fail
  obtain ⟨W, hW⟩ : ∃ W, w.alloc (.cells #[.slice p.Ab e.sky.bodies.length p.cb, .int .i64 e.sky.nnum, .int .i64 e.sky.nden, .int .i64 e.sky.nstart, .slice p.As e.sun.length p.cs, .slice p.Am e.moon.length p.cm, .slice p.An e.node.length p.cn, .slice p.Af e.feasts.length p.cf, .int .i64 e.nw, .int .i64 e.fl, .int .i64 e.wide] 32) = W := ⟨_, rfl⟩
  rw [hW] at HR0 HE0 ⊢
  clear hW
  refine Code.wp_mono (Q := fun e' a' w' => e' = .normal ∧ ∃ b, W.heap.size ≤ b ∧ Ext W w' ∧ a' = (⟨#[.agg #[.slice p.Ab e.sky.bodies.length p.cb, .int .i64 e.sky.nnum, .int .i64 e.sky.nden, .int .i64 e.sky.nstart, .slice p.As e.sun.length p.cs, .slice p.Am e.moon.length p.cm, .slice p.An e.node.length p.cn, .slice p.Af e.feasts.length p.cf, .int .i64 e.nw, .int .i64 e.fl, .int .i64 e.wide], .slice p.At set.length p.ct, .int .i64 lo, .int .i64 hi, .int .i64 late, .pointer (some ⟨w.heap.size, 0, none⟩), undef, undef, undef, undef, .int .i64 0, .int .i64 0, .pointer (some ⟨b, 0, none⟩), .int .i64 2, undef, undef, undef, undef, undef, undef, .tuple #[.agg #[.slice none 0 0, .int .i64 0, .int .i64 0, .int .i64 0, .slice none 0 0, .slice none 0 0, .slice none 0 0, .slice none 0 0, .int .i64 0, .int .i64 0, .int .i64 0, .slice none 0 0, .map none], .int .i64 2], .agg #[.slice p.Ab e.sky.bodies.length p.cb, .int .i64 e.sky.nnum, .int .i64 e.sky.nden, .int .i64 e.sky.nstart, .slice p.As e.sun.length p.cs, .slice p.Am e.moon.length p.cm, .slice p.An e.node.length p.cn, .slice p.Af e.feasts.length p.cf, .int .i64 e.nw, .int .i64 e.fl, .int .i64 e.wide], .slice p.At set.length p.ct, .int .i64 lo, .int .i64 hi, .bool true, .bool true, .int .i64 late, .bool fb, .bool fb, .tuple #[.agg #[.slice none 0 0, .int .i64 0, .int .i64 0, .int .i64 0, .slice none 0 0, .slice none 0 0, .slice none 0 0, .slice none 0 0, .int .i64 0, .int .i64 0, .int .i64 0, .slice none 0 0, .map none], .int .i64 2], .agg #[.slice none 0 0, .int .i64 0, .int .i64 0, .int .i64 0, .slice none 0 0, .slice none 0 0, .slice none 0 0, .slice none 0 0, .int .i64 0, .int .i64 0, .int .i64 0, .slice none 0 0, .map none], .int .i64 2, undef, undef, undef, undef, undef, undef, undef, undef, undef, undef, undef, undef, undef, undef, undef, undef, undef, undef, undef, undef, undef, undef, undef, undef, undef, undef, undef, undef, undef, undef, undef, undef, undef, undef, undef, undef, undef, undef, undef, undef, undef, undef, undef, undef, undef, undef, undef, undef, undef, undef], []⟩ : Act)) ?hq (wp_region_free_tail 14 12 (widensΦt p e set lo hi late fb W) (by kernel_rfl) (by simp) (by kernel_rfl) (by kernel_rfl) (by kernel_rfl) (by kernel_rfl) widensΦt_mono ?hob ?hQ ?hZ)
  case hob =>
   intro i o hin ho a wa hE hF
   match i, hin with
   | 0, _ =>
    cases ho
    have h0 : a.tmps[5]?.getD undef = .pointer (some ⟨w.heap.size, 0, none⟩) := evalD (hF.old 5 (by decide))
    have q := (HR0.out.ext hE).cell
    refine Ran.value rfl (v := .agg #[.slice p.Ab e.sky.bodies.length p.cb, .int .i64 e.sky.nnum, .int .i64 e.sky.nden, .int .i64 e.sky.nstart, .slice p.As e.sun.length p.cs, .slice p.Am e.moon.length p.cm, .slice p.An e.node.length p.cn, .slice p.Af e.feasts.length p.cf, .int .i64 e.nw, .int .i64 e.fl, .int .i64 e.wide]) (w1 := wa) ?_ ⟨rfl, Ext.refl _⟩
    go_simp
   | 1, _ =>
    cases ho
    have h0 : a.tmps[1]?.getD undef = .slice p.At set.length p.ct := evalD (hF.old 1 (by decide))
    refine Ran.value rfl (v := .slice p.At set.length p.ct) (w1 := wa) ?_ ⟨rfl, Ext.refl _⟩
    go_simp
   | 2, _ =>
    cases ho
    have h0 : a.tmps[2]?.getD undef = .int .i64 lo := evalD (hF.old 2 (by decide))
    refine Ran.value rfl (v := .int .i64 lo) (w1 := wa) ?_ ⟨rfl, Ext.refl _⟩
    go_simp
   | 3, _ =>
    cases ho
    have h0 : a.tmps[3]?.getD undef = .int .i64 hi := evalD (hF.old 3 (by decide))
    refine Ran.value rfl (v := .int .i64 hi) (w1 := wa) ?_ ⟨rfl, Ext.refl _⟩
    go_simp
   | 4, _ =>
    cases ho
    have h0 : a.tmps[23]?.getD undef = .int .i64 lo := evalD (hF.from_ 2 23 rfl (by decide))
    have h1 : a.tmps[24]?.getD undef = .int .i64 hi := evalD (hF.from_ 3 24 rfl (by decide))
    refine Ran.enter rfl (f := 76) (args := #[.int .i64 lo, .int .i64 hi]) (w1 := wa) ?_ ?_
    ·go_simp
    ·refine (e_isSpan_any lo hi _).mono ?_
     rintro r w1 ⟨rfl, rfl⟩
     exact ⟨_, rfl, by rw [c2]; rfl, Ext.refl _⟩
   | 5, _ =>
    cases ho
    have h0 : a.tmps[25]?.getD undef = .bool true := evalD (hF.from_ 4 25 rfl (by decide))
    refine Ran.value rfl (v := .bool true) (w1 := wa) ?_ ⟨rfl, Ext.refl _⟩
    go_simp
   | 6, _ =>
    cases ho
    have hg : a.eval (.tmp 26) = .bool true := hF.from_ 5 26 rfl (by decide)
    refine Ran.if_ rfl rfl rfl hg (fun _ => ?_) (fun h => absurd rfl h)
    have h0 : a.tmps[4]?.getD undef = .int .i64 late := evalD (hF.old 4 (by decide))
    refine Ran.value rfl (v := .int .i64 late) (w1 := wa) ?_ ⟨rfl, Ext.refl _⟩
    go_simp
   | 7, _ =>
    cases ho
    have hg : a.eval (.tmp 26) = .bool true := hF.from_ 5 26 rfl (by decide)
    refine Ran.if_ rfl rfl rfl hg (fun _ => ?_) (fun h => absurd rfl h)
    have h0 : a.tmps[27]?.getD undef = .int .i64 late := evalD (hF.from_ 6 27 rfl (by decide))
    refine Ran.enter rfl (f := 83) (args := #[.int .i64 late]) (w1 := wa) ?_ ?_
    ·go_simp
    ·refine (e_isLate_any late _).mono ?_
     rintro r w1 ⟨rfl, rfl⟩
     exact ⟨_, rfl, by rw [c3]; rfl, Ext.refl _⟩
   | 8, _ =>
    cases ho
    have h0 : a.tmps[26]?.getD undef = .bool true := evalD (hF.from_ 5 26 rfl (by decide))
    have h1 : a.tmps[28]?.getD undef = .bool fb := evalD (hF.from_ 7 28 rfl (by decide))
    refine Ran.value rfl (v := .bool fb) (w1 := wa) ?_ ⟨rfl, Ext.refl _⟩
    go_simp
   | 9, _ =>
    cases ho
    have h0 : a.tmps[21]?.getD undef = .agg #[.slice p.Ab e.sky.bodies.length p.cb, .int .i64 e.sky.nnum, .int .i64 e.sky.nden, .int .i64 e.sky.nstart, .slice p.As e.sun.length p.cs, .slice p.Am e.moon.length p.cm, .slice p.An e.node.length p.cn, .slice p.Af e.feasts.length p.cf, .int .i64 e.nw, .int .i64 e.fl, .int .i64 e.wide] := evalD (hF.from_ 0 21 rfl (by decide))
    have h1 : a.tmps[22]?.getD undef = .slice p.At set.length p.ct := evalD (hF.from_ 1 22 rfl (by decide))
    have h2 : a.tmps[29]?.getD undef = .bool fb := evalD (hF.from_ 8 29 rfl (by decide))
    refine Ran.enter rfl (f := 69) (args := #[.agg #[.slice p.Ab e.sky.bodies.length p.cb, .int .i64 e.sky.nnum, .int .i64 e.sky.nden, .int .i64 e.sky.nstart, .slice p.As e.sun.length p.cs, .slice p.Am e.moon.length p.cm, .slice p.An e.node.length p.cn, .slice p.Af e.feasts.length p.cf, .int .i64 e.nw, .int .i64 e.fl, .int .i64 e.wide], .slice p.At set.length p.ct, .bool fb]) (w1 := wa) ?_ ?_
    ·go_simp
    ·refine (e_asked_err p e set fb wa (HM.out.ext (HE0.out.trans hE)) HL.out hs h).mono ?_
     rintro r w1 ⟨rfl, hX⟩
     exact ⟨_, rfl, rfl, hX⟩
   | 10, _ =>
    cases ho
    have h0 : a.tmps[30]?.getD undef = .tuple #[.agg #[.slice none 0 0, .int .i64 0, .int .i64 0, .int .i64 0, .slice none 0 0, .slice none 0 0, .slice none 0 0, .slice none 0 0, .int .i64 0, .int .i64 0, .int .i64 0, .slice none 0 0, .map none], .int .i64 2] := evalD (hF.from_ 9 30 rfl (by decide))
    refine Ran.value rfl (w1 := wa) (v := .tuple #[.agg #[.slice none 0 0, .int .i64 0, .int .i64 0, .int .i64 0, .slice none 0 0, .slice none 0 0, .slice none 0 0, .slice none 0 0, .int .i64 0, .int .i64 0, .int .i64 0, .slice none 0 0, .map none], .int .i64 2]) ?_ ⟨rfl, Ext.refl _⟩
    go_simp
   | 11, _ =>
    cases ho
    have h0 : a.tmps[20]?.getD undef = .tuple #[.agg #[.slice none 0 0, .int .i64 0, .int .i64 0, .int .i64 0, .slice none 0 0, .slice none 0 0, .slice none 0 0, .slice none 0 0, .int .i64 0, .int .i64 0, .int .i64 0, .slice none 0 0, .map none], .int .i64 2] := evalD (hF.from_ 10 20 rfl (by decide))
    refine Ran.value rfl (w1 := wa) (v := .agg #[.slice none 0 0, .int .i64 0, .int .i64 0, .int .i64 0, .slice none 0 0, .slice none 0 0, .slice none 0 0, .slice none 0 0, .int .i64 0, .int .i64 0, .int .i64 0, .slice none 0 0, .map none]) ?_ ⟨rfl, Ext.refl _⟩
    go_simp
   | 12, _ =>
    cases ho
    have h0 : a.tmps[20]?.getD undef = .tuple #[.agg #[.slice none 0 0, .int .i64 0, .int .i64 0, .int .i64 0, .slice none 0 0, .slice none 0 0, .slice none 0 0, .slice none 0 0, .int .i64 0, .int .i64 0, .int .i64 0, .slice none 0 0, .map none], .int .i64 2] := evalD (hF.from_ 10 20 rfl (by decide))
    refine Ran.value rfl (w1 := wa) (v := .int .i64 2) ?_ ⟨rfl, Ext.refl _⟩
    go_simp
   | 13, _ =>
    cases ho
    refine Ran.value rfl (w1 := wa.alloc (.cells zeroEng 100)) (v := .pointer (some ⟨wa.heap.size, 0, none⟩)) (by kernel_rfl) ⟨⟨wa.heap.size, rfl, hE.size, Row.new _ _ _⟩, (Ext.refl _).alloc _⟩
   | k + 14, hin => omega
  case hQ =>
   intro vs w2 hE hΦ
   have f0 : vs 0 = .agg #[.slice p.Ab e.sky.bodies.length p.cb, .int .i64 e.sky.nnum, .int .i64 e.sky.nden, .int .i64 e.sky.nstart, .slice p.As e.sun.length p.cs, .slice p.Am e.moon.length p.cm, .slice p.An e.node.length p.cn, .slice p.Af e.feasts.length p.cf, .int .i64 e.nw, .int .i64 e.fl, .int .i64 e.wide] := hΦ 0 (by omega)
   have f1 : vs 1 = .slice p.At set.length p.ct := hΦ 1 (by omega)
   have f2 : vs 2 = .int .i64 lo := hΦ 2 (by omega)
   have f3 : vs 3 = .int .i64 hi := hΦ 3 (by omega)
   have f4 : vs 4 = .bool true := hΦ 4 (by omega)
   have f5 : vs 5 = .bool true := hΦ 5 (by omega)
   have f6 : vs 6 = .int .i64 late := hΦ 6 (by omega)
   have f7 : vs 7 = .bool fb := hΦ 7 (by omega)
   have f8 : vs 8 = .bool fb := hΦ 8 (by omega)
   have f9 : vs 9 = .tuple #[.agg #[.slice none 0 0, .int .i64 0, .int .i64 0, .int .i64 0, .slice none 0 0, .slice none 0 0, .slice none 0 0, .slice none 0 0, .int .i64 0, .int .i64 0, .int .i64 0, .slice none 0 0, .map none], .int .i64 2] := hΦ 9 (by omega)
   have f10 : vs 10 = .tuple #[.agg #[.slice none 0 0, .int .i64 0, .int .i64 0, .int .i64 0, .slice none 0 0, .slice none 0 0, .slice none 0 0, .slice none 0 0, .int .i64 0, .int .i64 0, .int .i64 0, .slice none 0 0, .map none], .int .i64 2] := hΦ 10 (by omega)
   have f11 : vs 11 = .agg #[.slice none 0 0, .int .i64 0, .int .i64 0, .int .i64 0, .slice none 0 0, .slice none 0 0, .slice none 0 0, .slice none 0 0, .int .i64 0, .int .i64 0, .int .i64 0, .slice none 0 0, .map none] := hΦ 11 (by omega)
   have f12 : vs 12 = .int .i64 2 := hΦ 12 (by omega)
   obtain ⟨b, f13, hb, hr⟩ : AskNew W (vs 13) w2 := hΦ 13 (by omega)
   have hrg : List.range 14 = [0, 1, 2, 3, 4, 5, 6, 7, 8, 9, 10, 11, 12, 13] := rfl
   unfold putAll putS
   simp only [List.length_cons, List.length_nil, List.take_succ_cons, List.take_zero, List.drop_succ_cons, List.drop_zero, Nat.reduceAdd, hrg, List.foldl_cons, List.foldl_nil, dstOf, List.getElem?_cons_succ, List.getElem?_cons_zero, Option.bind_some]
   clear hrg
   rw [f0, f1, f2, f3, f4, f5, f6, f7, f8, f9, f10, f11, f12, f13]
   have c := hr.cell
   simp only [zeroEng] at c
   have fz := hr.free
   go_wp2
   clear c fz
   obtain ⟨W3, hW3⟩ : ∃ W3, setsAt w2 b 0 [.slice none 0 0, .int .i64 0, .int .i64 0, .int .i64 0, .slice none 0 0, .slice none 0 0, .slice none 0 0, .slice none 0 0, .int .i64 0, .int .i64 0, .int .i64 0, .slice none 0 0, .map none] = W3 := ⟨_, rfl⟩
   have hE3 : Ext W W3 := by rw [← hW3]; exact Ext.sets hb _ _ _ hE
   simp only [setsAt, Nat.reduceAdd] at hW3
   try rw [hW3]
   first | exact hE3 | exact ⟨hb, hE3⟩ | exact ⟨b, hb, hE3, by simp⟩
  case hZ =>
   intro _ vs w2 hE hΦ on oz hon hoz
   obtain rfl := Option.some.inj hon
   obtain rfl := Option.some.inj hoz
   have f0 : vs 0 = .agg #[.slice p.Ab e.sky.bodies.length p.cb, .int .i64 e.sky.nnum, .int .i64 e.sky.nden, .int .i64 e.sky.nstart, .slice p.As e.sun.length p.cs, .slice p.Am e.moon.length p.cm, .slice p.An e.node.length p.cn, .slice p.Af e.feasts.length p.cf, .int .i64 e.nw, .int .i64 e.fl, .int .i64 e.wide] := hΦ 0 (by omega) (by omega)
   have f1 : vs 1 = .slice p.At set.length p.ct := hΦ 1 (by omega) (by omega)
   have f2 : vs 2 = .int .i64 lo := hΦ 2 (by omega) (by omega)
   have f3 : vs 3 = .int .i64 hi := hΦ 3 (by omega) (by omega)
   have f4 : vs 4 = .bool true := hΦ 4 (by omega) (by omega)
   have f5 : vs 5 = .bool true := hΦ 5 (by omega) (by omega)
   have f6 : vs 6 = .int .i64 late := hΦ 6 (by omega) (by omega)
   have f7 : vs 7 = .bool fb := hΦ 7 (by omega) (by omega)
   have f8 : vs 8 = .bool fb := hΦ 8 (by omega) (by omega)
   have f9 : vs 9 = .tuple #[.agg #[.slice none 0 0, .int .i64 0, .int .i64 0, .int .i64 0, .slice none 0 0, .slice none 0 0, .slice none 0 0, .slice none 0 0, .int .i64 0, .int .i64 0, .int .i64 0, .slice none 0 0, .map none], .int .i64 2] := hΦ 9 (by omega) (by omega)
   have f10 : vs 10 = .tuple #[.agg #[.slice none 0 0, .int .i64 0, .int .i64 0, .int .i64 0, .slice none 0 0, .slice none 0 0, .slice none 0 0, .slice none 0 0, .int .i64 0, .int .i64 0, .int .i64 0, .slice none 0 0, .map none], .int .i64 2] := hΦ 10 (by omega) (by omega)
   have f11 : vs 11 = .agg #[.slice none 0 0, .int .i64 0, .int .i64 0, .int .i64 0, .slice none 0 0, .slice none 0 0, .slice none 0 0, .slice none 0 0, .int .i64 0, .int .i64 0, .int .i64 0, .slice none 0 0, .map none] := hΦ 11 (by omega) (by omega)
   obtain ⟨b, f13, hb, hr⟩ : AskNew W (vs 13) w2 := hΦ 13 (by omega) (by omega)
   have hrg : (List.range 14).filter (· ≠ 12) = [0, 1, 2, 3, 4, 5, 6, 7, 8, 9, 10, 11, 13] := by decide
   rw [hrg]
   unfold putS
   simp only [List.take_succ_cons, List.take_zero, List.drop_succ_cons, List.drop_zero, Nat.reduceAdd, List.foldl_cons, List.foldl_nil, dstOf, List.getElem?_cons_succ, List.getElem?_cons_zero, Option.bind_some]
   clear hrg
   rw [f0, f1, f2, f3, f4, f5, f6, f7, f8, f9, f10, f11, f13]
   have c := hr.cell
   simp only [zeroEng] at c
   have fz := hr.free
   go_wp2
   clear c fz
   obtain ⟨W3, hW3⟩ : ∃ W3, setsAt w2 b 0 [.slice none 0 0, .int .i64 0, .int .i64 0, .int .i64 0, .slice none 0 0, .slice none 0 0, .slice none 0 0, .slice none 0 0, .int .i64 0, .int .i64 0, .int .i64 0, .slice none 0 0, .map none] = W3 := ⟨_, rfl⟩
   have hE3 : Ext W W3 := by rw [← hW3]; exact Ext.sets hb _ _ _ hE
   simp only [setsAt, Nat.reduceAdd] at hW3
   try rw [hW3]
   first | exact hE3 | exact ⟨hb, hE3⟩ | exact ⟨b, hb, hE3, by simp⟩
  case hq =>
   rintro e' a' w3 ⟨rfl, b, hb, hE3, rfl⟩
   have hE4 : Ext w w3 := HE0.out.trans hE3
   go_wp2_with fail
   go_ret2
   exact ⟨rfl, hE4⟩
end Go.Proofs.YtcbodpnmndbgnaaGreatDoor
namespace Go.Proofs.YtcbodpnmndbgnaaGreatDoor
open Go.RowKit
open Sp (rd)
set_option maxRecDepth 100000 in
set_option maxHeartbeats 2000000 in
theorem r_Eclipses_any (s : Sp.Sky) (A : Option Addr) (c : Nat) (nw fl lo hi : Int) (w : World) (hs : SkyOk s) (hm : Bodies w A s.bodies) (c1 : Sp.isLimit nw = true) (c2 : Sp.isLimit fl = true) (d1 : 1 ≤ lo) (d2 : lo ≤ hi) (d3 : hi ≤ 20000) :
  Calls Tryz.prog 136 #[.agg #[.slice A s.bodies.length c, .int .i64 s.nnum, .int .i64 s.nden, .int .i64 s.nstart], .int .i64 nw, .int .i64 fl, .int .i64 lo, .int .i64 hi] w fun e w' => ∃ v, e = .returned v ∧ EclVal w' v (Sp.ecls s nw fl lo hi) ∧ Ext w w' := by
 have HM := Lib.hid hm
 have HK := Lib.hid hs
 clear hm hs
 obtain ⟨e1, e2⟩ := limit_of c1
 obtain ⟨e3, e4⟩ := limit_of c2
 obtain ⟨i0, hi0, hi1, hi2, hi3⟩ := info_parts info_ecl
 go_enter Tryz.func136, Tryz.ntmps136
 go_wp2_with fail
 have hr := Row.new w 28 #[.slice A s.bodies.length c, .int .i64 s.nnum, .int .i64 s.nden, .int .i64 s.nstart]
 have hE : Ext w (w.alloc (.cells #[.slice A s.bodies.length c, .int .i64 s.nnum, .int .i64 s.nden, .int .i64 s.nstart] 28)) := (Ext.refl w).alloc _
 generalize w.alloc (.cells #[.slice A s.bodies.length c, .int .i64 s.nnum, .int .i64 s.nden, .int .i64 s.nstart] 28) = w1 at *
 refine (r_Moons_any s A c _ _ _ lo hi w1 HK.out (HM.out.ext hE) d1 d2 d3).mono ?_
 rintro e w2 ⟨v, rfl, hv, hE1⟩
 have hll := moonsN_le s lo (hi + 1 - lo).toNat
 have HD := Lib.hid (moonsN_days s lo (hi + 1 - lo).toNat)
 obtain ⟨l, hL⟩ : ∃ l, Sp.moonsL s lo hi = l := ⟨_, rfl⟩
 rw [show Sp.moonsN s lo (hi + 1 - lo).toNat = l from hL] at hll HD
 have hEq : Sp.ecls s nw fl lo hi = Sp.eclsOf s nw fl l := by rw [← hL]; rfl
 rw [hL] at hv
 obtain ⟨AM, cM, rfl, hc⟩ := hv
 replace hE := hE.trans hE1
 replace hr := hr.ext hE1
 clear hE1
 have HC := Lib.hid hc
 have HQ := Lib.hid hEq
 have HE := Lib.hid hE
 have hz := hE.size
 clear hc hEq hL hE
 go_wp2_with fail
 go_loopw [11, 13] (fun v d wr => EclRel w2 s nw fl l v d wr) (fun _ d _ => l.length - (intOf d).toNat)
 case atStart => exact ⟨0, Nat.zero_le _, rfl, by simp [Sp.eclsOf, eclCells, World.ownsRow], Ext.refl _⟩
 case round =>
  obtain ⟨k, hk, rfl, hown, hE⟩ := hrel
  have HE2 := Lib.hid hE
  have hz2 := hE.size
  have HRW := Lib.hid (hr.ext hE)
  have b0 := HRW.out.cell
  by_cases hlt : k < l.length
  ·have hle := ecls_le s nw fl (l.take k)
   rw [List.length_take] at hle
   have htake : l.take (k + 1) = l.take k ++ [l[k]] := by rw [List.take_succ_eq_append_getElem hlt]
   have hday := HD.out l[k] (List.getElem_mem hlt)
   have hcc := HC.out (by omega)
   obtain ⟨b, o, rfl, hcell⟩ := hcc
   obtain ⟨q1c, q2c⟩ := hcell k hlt
   replace q1c := hE.cell q1c
   replace q2c := hE.cell q2c
   have hnext : Sp.eclsOf s nw fl (l.take (k + 1)) = Sp.eclsOf s nw fl (l.take k) ++ Sp.eclOf s nw fl l[k] := by rw [htake, eclsOf_append]
   obtain ⟨L, hL⟩ : ∃ L, Sp.eclsOf s nw fl (l.take k) = L := ⟨_, rfl⟩
   rw [hL] at hown hle hnext
   have HN := Lib.hid hnext
   obtain ⟨m, hm⟩ : ∃ m, l[k] = m := ⟨_, rfl⟩
   rw [hm] at q1c q2c hday HN
   clear hE hcell htake hnext hL hm
   obtain ⟨md, mf⟩ := m
   simp only at q1c q2c hday
   cases mf
   ·go_wp2_with fail
    refine wp_region_later (by kernel_rfl) (by kernel_rfl) (fun W hW => ?_)
    subst hW
    have q1 := Later.block (w := W) HRW.out
    have y1 := fun X : Later W => X.ext.cell q1c
    have y2 := fun X : Later W => X.ext.cell q2c
    have HB := Lib.hid (fun X : Later W => HM.out.ext ((HE.out.trans HE2.out).trans X.ext))
    clear b0
    repeat (go_big_quiet_step (fail))
    go_big_quiet_step ((go_at_call 167; exact Later.call (r_Far_any s A c _ _ HK.out (by exact HB.out _) (by omega) (by omega))))
    repeat (go_big_quiet_step (fail))
    refine wpQuiet_nil ?_
    rintro ⟨w3, hE3⟩
    dsimp only
    have HE3 := Lib.hid (HE2.out.trans hE3)
    have z1 := hE3.cell q1c
    have z2 := hE3.cell q2c
    have hz3 := hE3.size
    have hown3 := ownsRow_of_block hown (fun g hg => hE3.block g (hown.lt g hg).2)
    have HO3 := Lib.hid hown3
    clear hown hE3 q1 y1 y2 q1c q2c hown3
    by_cases hf : Sp.far s md ≤ nw <;> have HF := Lib.hid hf
    ·go_wp2_with fail
     refine wp_region_later_mix (v0 := u11) 13 (by kernel_rfl) (by kernel_rfl) rfl rfl (by kernel_rfl) ?_ (fun W hW => ?_)
     ·intro x
      rfl
     subst hW
     have y1 := fun X : Later W => X.ext.cell z1
     have y2 := fun X : Later W => X.ext.cell z2
     clear z1 z2
     simp only [List.take_succ_cons, List.take_zero, List.drop_succ_cons, List.drop_zero, Act.put, List.setIfInBounds_toArray, List.set_cons_succ, List.set_cons_zero]
     repeat (go_big_quiet_step (fail))
     refine wpQuiet_nil ?_
     rintro ⟨w4, hE4⟩
     dsimp only
     go_wp2
     have hz4 := hE4.size
     refine ⟨⟨⟨_, hE4.alloc _⟩, rfl⟩, ?_⟩
     have hown4 := (ownsRow_of_block HO3.out (fun g hg => hE4.block g (HO3.out.lt g hg).2)).alloc (.cells #[.int .i64 md, .bool false, .int .i64 (Sp.far s md)] 59)
     have HO4 := Lib.hid hown4
     clear hown4
     refine wpList_append_lies _ rfl _ _ 50 rfl w2.heap.size 59 i0 _ 3 24 Tryz.underlying50 hi0 hi1 hi2 hi3 rfl (by decide) u11 L.length (eclCells L) rfl HO4.out ⟨w4.heap.size, 0, none⟩ 1 1 [.int .i64 md, .bool false, .int .i64 (Sp.far s md)] rfl rfl (World.news_of_block (cs := #[.int .i64 md, .bool false, .int .i64 (Sp.far s md)]) (t := 59) (fr := (0, 0)) (heap_alloc_new _ _)) (by simp [Value.oneCell']) (by omega) (by simp only [maxLen]; omega) (by omega) (by simp; omega) _ rfl ?_
     intro gg cap w5 hown5 hgrow hat hlt4
     have HO5 := Lib.hid hown5
     have HX5 := Lib.hid (((HE3.out.trans hE4).alloc _).grown hgrow (fun g hg => (HO4.out.lt g hg).1))
     clear hown5 hgrow hat hE4 y1 y2
     go_wp2
     refine NoPanic.normal ?_
     go_wp2_with fail
     refine ⟨⟨k + 1, by omega, by go_num, ?_, HX5.out⟩, by simp [intOf]; omega⟩
     rw [HN.out]
     simpa [Sp.eclOf, HF.out, eclCells_append, eclCells] using HO5.out
    ·go_wp2_with fail
     refine ⟨⟨k + 1, by omega, by go_num, ?_, HE3.out⟩, by simp [intOf]; omega⟩
     rw [HN.out, show Sp.eclOf s nw fl (md, false) = [] from if_neg HF.out]
     simpa using HO3.out
   ·go_wp2_with fail
    refine wp_region_later (by kernel_rfl) (by kernel_rfl) (fun W hW => ?_)
    subst hW
    have q1 := Later.block (w := W) HRW.out
    have y1 := fun X : Later W => X.ext.cell q1c
    have y2 := fun X : Later W => X.ext.cell q2c
    have HB := Lib.hid (fun X : Later W => HM.out.ext ((HE.out.trans HE2.out).trans X.ext))
    clear b0
    repeat (go_big_quiet_step (fail))
    go_big_quiet_step ((go_at_call 167; exact Later.call (r_Far_any s A c _ _ HK.out (by exact HB.out _) (by omega) (by omega))))
    repeat (go_big_quiet_step (fail))
    refine wpQuiet_nil ?_
    rintro ⟨w3, hE3⟩
    dsimp only
    have HE3 := Lib.hid (HE2.out.trans hE3)
    have z1 := hE3.cell q1c
    have z2 := hE3.cell q2c
    have hz3 := hE3.size
    have hown3 := ownsRow_of_block hown (fun g hg => hE3.block g (hown.lt g hg).2)
    have HO3 := Lib.hid hown3
    clear hown hE3 q1 y1 y2 q1c q2c hown3
    by_cases hf : Sp.far s md ≤ fl <;> have HF := Lib.hid hf
    ·go_wp2_with fail
     refine wp_region_later_mix (v0 := u11) 13 (by kernel_rfl) (by kernel_rfl) rfl rfl (by kernel_rfl) ?_ (fun W hW => ?_)
     ·intro x
      rfl
     subst hW
     have y1 := fun X : Later W => X.ext.cell z1
     have y2 := fun X : Later W => X.ext.cell z2
     clear z1 z2
     simp only [List.take_succ_cons, List.take_zero, List.drop_succ_cons, List.drop_zero, Act.put, List.setIfInBounds_toArray, List.set_cons_succ, List.set_cons_zero]
     repeat (go_big_quiet_step (fail))
     refine wpQuiet_nil ?_
     rintro ⟨w4, hE4⟩
     dsimp only
     go_wp2
     have hz4 := hE4.size
     refine ⟨⟨⟨_, hE4.alloc _⟩, rfl⟩, ?_⟩
     have hown4 := (ownsRow_of_block HO3.out (fun g hg => hE4.block g (HO3.out.lt g hg).2)).alloc (.cells #[.int .i64 md, .bool true, .int .i64 (Sp.far s md)] 59)
     have HO4 := Lib.hid hown4
     clear hown4
     refine wpList_append_lies _ rfl _ _ 50 rfl w2.heap.size 59 i0 _ 3 24 Tryz.underlying50 hi0 hi1 hi2 hi3 rfl (by decide) u11 L.length (eclCells L) rfl HO4.out ⟨w4.heap.size, 0, none⟩ 1 1 [.int .i64 md, .bool true, .int .i64 (Sp.far s md)] rfl rfl (World.news_of_block (cs := #[.int .i64 md, .bool true, .int .i64 (Sp.far s md)]) (t := 59) (fr := (0, 0)) (heap_alloc_new _ _)) (by simp [Value.oneCell']) (by omega) (by simp only [maxLen]; omega) (by omega) (by simp; omega) _ rfl ?_
     intro gg cap w5 hown5 hgrow hat hlt4
     have HO5 := Lib.hid hown5
     have HX5 := Lib.hid (((HE3.out.trans hE4).alloc _).grown hgrow (fun g hg => (HO4.out.lt g hg).1))
     clear hown5 hgrow hat hE4 y1 y2
     go_wp2
     refine NoPanic.normal ?_
     go_wp2_with fail
     refine ⟨⟨k + 1, by omega, by go_num, ?_, HX5.out⟩, by simp [intOf]; omega⟩
     rw [HN.out]
     simpa [Sp.eclOf, HF.out, eclCells_append, eclCells] using HO5.out
    ·go_wp2_with fail
     refine ⟨⟨k + 1, by omega, by go_num, ?_, HE3.out⟩, by simp [intOf]; omega⟩
     rw [HN.out, show Sp.eclOf s nw fl (md, true) = [] from if_neg HF.out]
     simpa using HO3.out
  ·obtain rfl : k = l.length := by omega
   clear b0
   have HO := Lib.hid hown
   clear hown
   go_wp2_with fail
   go_ret
   refine ⟨_, rfl, ?_, HE.out.trans HE2.out⟩
   have := EclVal.of_own (l := Sp.eclsOf s nw fl (l.take l.length)) HO.out
   rwa [List.take_length, ← HQ.out] at this
end Go.Proofs.YtcbodpnmndbgnaaGreatDoor
