/- The walks of the reference's gcd, Month, Drift, Cycle. (Printed by wip/mkrmonth.py.) -/
import Derived.Test.YtlcddcnmoajpjaaGreatDoorV18
import Derived.Test.YtlcddcnmoajpjaaGreatDoorV09
namespace Go.Proofs.YtlcddcnmoajpjaaGreatDoor
open Go.RowKit
open Sp (rd)

theorem ngcd_step (x y : Nat) : Nat.gcd x y = Nat.gcd y (x % y) := by rw [Nat.gcd_comm, Nat.gcd_rec, Nat.gcd_comm]
set_option maxRecDepth 100000 in
theorem r_gcd_any (x y : Nat) (w : World) (hx : x ≤ 1000000000) (hy : y ≤ 1000000000) :
    Calls Tryz.prog 138 #[.int .i64 (x : Int), .int .i64 (y : Int)] w fun e w' => e = .returned (.int .i64 (Nat.gcd x y : Int)) ∧ Ext w w' := by
  go_enter Tryz.func138, Tryz.ntmps138
  go_wp2_with fail
  go_loopw [0, 1] (fun a b wr => ∃ p q : Nat, a = .int .i64 (p : Int) ∧ b = .int .i64 (q : Int) ∧ Nat.gcd x y = Nat.gcd p q ∧ p ≤ 1000000000 ∧ q ≤ 1000000000 ∧ Ext w wr) (fun _ b _ => (intOf b).toNat)
  case atStart => exact ⟨x, y, rfl, rfl, rfl, hx, hy, Ext.refl _⟩
  case round =>
    obtain ⟨p, q, rfl, rfl, hg, hp, hq, hE⟩ := hrel
    have HG := Lib.hid hg
    have HE := Lib.hid hE
    clear hg hE
    by_cases h0 : 0 < q
    · have hm : (p : Int).tmod (q : Int) = ((p % q : Nat) : Int) := by rw [Int.tmod_eq_emod_of_nonneg (by omega)]; rfl
      have hlt := Nat.mod_lt p h0
      go_wp2_with fail
      go_quiet (fail)
      go_wp2_with fail
      refine ⟨⟨q, p % q, rfl, by go_num, by rw [HG.out, ngcd_step], hq, by omega, HE.out.drewN _⟩, by simp [intOf]; omega⟩
    · obtain rfl : q = 0 := by omega
      go_wp2_with fail
      go_ret
      exact ⟨by rw [HG.out, Nat.gcd_zero_right]; rfl, HE.out⟩

set_option maxRecDepth 100000 in
set_option maxHeartbeats 1000000 in
theorem r_Month_ok (s : Sp.Sky) (A : Option Addr) (c : Nat) (w : World) (hs : SkyOk s) (hm : Bodies w A s.bodies) (h : Sp.isMonth s = true) :
    Calls Tryz.prog 71 #[.agg #[.slice A s.bodies.length c, .int .i64 s.nnum, .int .i64 s.nden, .int .i64 s.nstart]] w fun e w' => e = .returned (.tuple #[.int .i64 (Sp.monthNum s / monthG s), .int .i64 (Sp.monthDen s / monthG s), .bool true]) ∧ Ext w w' := by
  have hmb := month_bounds hs h
  have hgb := monthG_bounds hs h
  have n2 := hs.n2
  obtain ⟨b, o, rfl, hc⟩ := hm (by omega)
  have e0 := hc 0 (by omega)
  have e1 := hc 1 (by omega)
  have b0 : bd s.bodies 0 = Sp.body s 0 := rfl
  have b1 : bd s.bodies 1 = Sp.body s 1 := rfl
  rw [b0] at e0
  rw [b1] at e1
  obtain ⟨p0, p1, _, _⟩ := e0
  obtain ⟨p2, p3, _, _⟩ := e1
  simp only [Nat.zero_mul, Nat.one_mul, Nat.add_zero] at p0 p1 p2 p3
  have n0 := lts (lt_of_cell p0)
  clear hc
  have q := (Row.new w 28 #[.slice (some ⟨b, o, none⟩) s.bodies.length c, .int .i64 s.nnum, .int .i64 s.nden, .int .i64 s.nstart]).cell 0
  simp only [List.getElem?_toArray, List.getElem?_cons_zero] at q
  have hE : Ext w (w.alloc (.cells #[.slice (some ⟨b, o, none⟩) s.bodies.length c, .int .i64 s.nnum, .int .i64 s.nden, .int .i64 s.nstart] 28)) := (Ext.refl w).alloc _
  replace p0 := hE.cell p0
  replace p1 := hE.cell p1
  replace p2 := hE.cell p2
  replace p3 := hE.cell p3
  go_enter Tryz.func71, Tryz.ntmps71
  go_wp2_with fail
  obtain ⟨W, hW⟩ : ∃ W, w.alloc (.cells #[.slice (some ⟨b, o, none⟩) s.bodies.length c, .int .i64 s.nnum, .int .i64 s.nden, .int .i64 s.nstart] 28) = W := ⟨_, rfl⟩
  have hz : W.heap.size = w.heap.size + 1 := by rw [← hW]; simp
  rw [hW] at q p0 p1 p2 p3 hE ⊢
  clear hW n0
  have m0 := World.new_ne W _ q
  have m1 := World.new_ne W _ p0
  have k0 := lts (lt_of_cell q)
  have k1 := lts (lt_of_cell p0)
  simp only at m0 m1 k0 k1
  have h01 : (0 : Int) < s.bodies.length := by omega
  have h11 : (1 : Int) < s.bodies.length := by omega
  have h00 : 0 < s.bodies.length := by omega
  refine Code.wp_mono (Q := fun e a' w' => e = .normal ∧ ∃ b4 b5, w.heap.size < b4 ∧ w.heap.size < b5 ∧ b4 ≠ b5 ∧ Ext W w' ∧ Row w' b4 24 #[.int .i64 (Sp.body s 0).num, .int .i64 (Sp.body s 0).den] ∧ Row w' b5 24 #[.int .i64 (Sp.body s 1).num, .int .i64 (Sp.body s 1).den] ∧ a' = (⟨#[.agg #[.slice (some ⟨b, o, none⟩) s.bodies.length c, .int .i64 s.nnum, .int .i64 s.nden, .int .i64 s.nstart], .pointer (some ⟨w.heap.size, 0, none⟩), .int .i64 0, .int .i64 0, .bool false, .pointer (some ⟨b4, 0, none⟩), .pointer (some ⟨b5, 0, none⟩), undef, undef, undef, .pointer (some ⟨w.heap.size, 0, none⟩), .slice (some ⟨b, o, none⟩) s.bodies.length c, .pointer (some ⟨b, o, none⟩), .pointer (some ⟨b, o, none⟩), .agg #[.int .i64 (Sp.body s 0).num, .int .i64 (Sp.body s 0).den], .pointer (some ⟨w.heap.size, 0, none⟩), .slice (some ⟨b, o, none⟩) s.bodies.length c, .pointer (some ⟨b, o + 4, none⟩), .pointer (some ⟨b, o + 4, none⟩), .agg #[.int .i64 (Sp.body s 1).num, .int .i64 (Sp.body s 1).den], undef, undef, undef, undef, undef, undef, undef, undef, undef, undef, undef, undef, undef, undef, undef, undef, undef, undef, undef, undef, undef, undef, undef, undef, undef, undef, undef], []⟩ : Act)) ?hq ?hr
  case hr =>
    go_region_held3 (fun w' => w'.cell? ⟨w.heap.size, 0, none⟩ = some (.slice (some ⟨b, o, none⟩) s.bodies.length c) ∧ w'.cell? ⟨b, o, none⟩ = some (.int .i64 (Sp.body s 0).num) ∧ w'.cell? ⟨b, o + 1, none⟩ = some (.int .i64 (Sp.body s 0).den) ∧ w'.cell? ⟨b, o + 4, none⟩ = some (.int .i64 (Sp.body s 1).num) ∧ w'.cell? ⟨b, o + 4 + 1, none⟩ = some (.int .i64 (Sp.body s 1).den)) (go_keep) (fail)
    · have hE3 : Ext W ((W.alloc (.cells #[.int .i64 (Sp.body s 0).num, .int .i64 (Sp.body s 0).den] 24)).alloc (.cells #[.int .i64 (Sp.body s 1).num, .int .i64 (Sp.body s 1).den] 24)).drew := (((Ext.refl W).alloc _).alloc _).drew
      exact ⟨rfl, w.heap.size + 1, w.heap.size + 1 + 1, by omega, by omega, by omega, hE3, by rw [← hz]; exact (blocks2 W _ _).1, by rw [← hz]; exact (blocks2 W _ _).2, rfl⟩
    · have hE3 : Ext W ((W.alloc (.cells #[.int .i64 (Sp.body s 1).num, .int .i64 (Sp.body s 1).den] 24)).alloc (.cells #[.int .i64 (Sp.body s 0).num, .int .i64 (Sp.body s 0).den] 24)).drew := (((Ext.refl W).alloc _).alloc _).drew
      exact ⟨rfl, w.heap.size + 1 + 1, w.heap.size + 1, by omega, by omega, by omega, hE3, by rw [← hz]; exact (blocks2 W _ _).2, by rw [← hz]; exact (blocks2 W _ _).1, rfl⟩
  case hq =>
    rintro e a' w1 ⟨rfl, b4, b5, hb4, hb5, hne, hE1, r4, r5, rfl⟩
    have c4 := r4.cell
    have c5 := r5.cell
    have g0 := hs.all 0 (by omega)
    have g1 := hs.all 1 (by omega)
    rw [b0] at g0
    rw [b1] at g1
    obtain ⟨n0, hn0⟩ : ∃ n0, (Sp.body s 0).num = n0 := ⟨_, rfl⟩
    obtain ⟨x0, hx0⟩ : ∃ x0, (Sp.body s 0).den = x0 := ⟨_, rfl⟩
    obtain ⟨n1, hn1⟩ : ∃ n1, (Sp.body s 1).num = n1 := ⟨_, rfl⟩
    obtain ⟨x1, hx1⟩ : ∃ x1, (Sp.body s 1).den = x1 := ⟨_, rfl⟩
    obtain ⟨u1, u2, u3, u4, _, _, _, _, _⟩ := g0
    obtain ⟨v1, v2, v3, v4, _, _, _, _, _⟩ := g1
    simp only [hn0, hx0] at u1 u2 u3 u4 c4 ⊢
    simp only [hn1, hx1] at v1 v2 v3 v4 c5 ⊢
    have t1 := mul_bounds (a := n1) (b := n0) (A := 10000) (B := 10000) (by omega) (by omega) (by omega) (by omega)
    have t2 := mul_bounds (a := x1) (b := n0) (A := 10000) (B := 10000) (by omega) (by omega) (by omega) (by omega)
    have t3 := mul_bounds (a := x0) (b := n1) (A := 10000) (B := 10000) (by omega) (by omega) (by omega) (by omega)
    have hnum : Sp.monthNum s = n1 * n0 := by simp only [Sp.monthNum, hn1, hn0]
    have hd : Sp.monthDen s = x1 * n0 - x0 * n1 := by simp only [Sp.monthDen, hn1, hn0, hx0, hx1]
    have hG : monthG s = (Nat.gcd (n1 * n0).toNat (x1 * n0 - x0 * n1).toNat : Int) := by
      unfold monthG
      rw [hnum, hd]
      rw [hnum, hd] at hmb
      unfold Int.gcd
      congr 2 <;> omega
    rw [hnum, hd] at hmb
    rw [hG] at hgb
    obtain ⟨N, hN⟩ : ∃ N : Nat, n1 * n0 = N := ⟨(n1 * n0).toNat, by omega⟩
    obtain ⟨D, hD⟩ : ∃ D : Nat, x1 * n0 - x0 * n1 = D := ⟨(x1 * n0 - x0 * n1).toNat, by omega⟩
    have HFIN : Hid (Ending.returned (.tuple #[.int .i64 (Sp.monthNum s / monthG s), .int .i64 (Sp.monthDen s / monthG s), .bool true]) = .returned (.tuple #[.int .i64 ((N : Int) / (Nat.gcd N D : Int)), .int .i64 ((D : Int) / (Nat.gcd N D : Int)), .bool true])) := Lib.hid (by
      rw [hG, hnum, hd, hN, hD]
      rfl)
    have HE := Lib.hid (hE.trans hE1)
    rw [hN, hD] at hmb hgb
    simp only [Int.toNat_natCast] at hgb
    have HN := Lib.hid hN
    have HD := Lib.hid hD
    clear hnum hd hn0 hx0 hn1 hx1 hE hE1 b0 b1 h hG
    go_wp2
    go_quiet (fail)
    go_wp2_with fail
    skip
    refine (r_gcd_any N D _ (by omega) (by omega)).mono ?_
    rintro e w2 ⟨rfl, hE2⟩
    have HE2 := Lib.hid ((HE.out.drewN _).trans hE2)
    clear hE2 c4 c5 hN hD
    have hq1 : (N : Int).tdiv (Nat.gcd N D : Int) = (N : Int) / (Nat.gcd N D : Int) := Int.tdiv_eq_ediv_of_nonneg (by omega)
    have hq2 : (D : Int).tdiv (Nat.gcd N D : Int) = (D : Int) / (Nat.gcd N D : Int) := Int.tdiv_eq_ediv_of_nonneg (by omega)
    have z1 : 0 ≤ (N : Int) / (Nat.gcd N D : Int) := Int.ediv_nonneg (by omega) (by omega)
    have z2 : (N : Int) / (Nat.gcd N D : Int) ≤ N := Int.ediv_le_self _ (by omega)
    have z3 : 0 ≤ (D : Int) / (Nat.gcd N D : Int) := Int.ediv_nonneg (by omega) (by omega)
    have z4 : (D : Int) / (Nat.gcd N D : Int) ≤ D := Int.ediv_le_self _ (by omega)
    go_wp2
    go_quiet (fail)
    go_wp2
    go_ret3
    exact ⟨HFIN.out.symm, HE2.out.drewN _⟩

set_option maxRecDepth 100000 in
set_option maxHeartbeats 1000000 in
theorem r_Month_no (s : Sp.Sky) (A : Option Addr) (c : Nat) (w : World) (hs : SkyOk s) (hm : Bodies w A s.bodies) (h : Sp.isMonth s = false) :
    Calls Tryz.prog 71 #[.agg #[.slice A s.bodies.length c, .int .i64 s.nnum, .int .i64 s.nden, .int .i64 s.nstart]] w fun e w' => e = .returned (.tuple #[.int .i64 0, .int .i64 0, .bool false]) ∧ Ext w w' := by
  skip
  have n2 := hs.n2
  obtain ⟨b, o, rfl, hc⟩ := hm (by omega)
  have e0 := hc 0 (by omega)
  have e1 := hc 1 (by omega)
  have b0 : bd s.bodies 0 = Sp.body s 0 := rfl
  have b1 : bd s.bodies 1 = Sp.body s 1 := rfl
  rw [b0] at e0
  rw [b1] at e1
  obtain ⟨p0, p1, _, _⟩ := e0
  obtain ⟨p2, p3, _, _⟩ := e1
  simp only [Nat.zero_mul, Nat.one_mul, Nat.add_zero] at p0 p1 p2 p3
  have n0 := lts (lt_of_cell p0)
  clear hc
  have q := (Row.new w 28 #[.slice (some ⟨b, o, none⟩) s.bodies.length c, .int .i64 s.nnum, .int .i64 s.nden, .int .i64 s.nstart]).cell 0
  simp only [List.getElem?_toArray, List.getElem?_cons_zero] at q
  have hE : Ext w (w.alloc (.cells #[.slice (some ⟨b, o, none⟩) s.bodies.length c, .int .i64 s.nnum, .int .i64 s.nden, .int .i64 s.nstart] 28)) := (Ext.refl w).alloc _
  replace p0 := hE.cell p0
  replace p1 := hE.cell p1
  replace p2 := hE.cell p2
  replace p3 := hE.cell p3
  go_enter Tryz.func71, Tryz.ntmps71
  go_wp2_with fail
  obtain ⟨W, hW⟩ : ∃ W, w.alloc (.cells #[.slice (some ⟨b, o, none⟩) s.bodies.length c, .int .i64 s.nnum, .int .i64 s.nden, .int .i64 s.nstart] 28) = W := ⟨_, rfl⟩
  have hz : W.heap.size = w.heap.size + 1 := by rw [← hW]; simp
  rw [hW] at q p0 p1 p2 p3 hE ⊢
  clear hW n0
  have m0 := World.new_ne W _ q
  have m1 := World.new_ne W _ p0
  have k0 := lts (lt_of_cell q)
  have k1 := lts (lt_of_cell p0)
  simp only at m0 m1 k0 k1
  have h01 : (0 : Int) < s.bodies.length := by omega
  have h11 : (1 : Int) < s.bodies.length := by omega
  have h00 : 0 < s.bodies.length := by omega
  refine Code.wp_mono (Q := fun e a' w' => e = .normal ∧ ∃ b4 b5, w.heap.size < b4 ∧ w.heap.size < b5 ∧ b4 ≠ b5 ∧ Ext W w' ∧ Row w' b4 24 #[.int .i64 (Sp.body s 0).num, .int .i64 (Sp.body s 0).den] ∧ Row w' b5 24 #[.int .i64 (Sp.body s 1).num, .int .i64 (Sp.body s 1).den] ∧ a' = (⟨#[.agg #[.slice (some ⟨b, o, none⟩) s.bodies.length c, .int .i64 s.nnum, .int .i64 s.nden, .int .i64 s.nstart], .pointer (some ⟨w.heap.size, 0, none⟩), .int .i64 0, .int .i64 0, .bool false, .pointer (some ⟨b4, 0, none⟩), .pointer (some ⟨b5, 0, none⟩), undef, undef, undef, .pointer (some ⟨w.heap.size, 0, none⟩), .slice (some ⟨b, o, none⟩) s.bodies.length c, .pointer (some ⟨b, o, none⟩), .pointer (some ⟨b, o, none⟩), .agg #[.int .i64 (Sp.body s 0).num, .int .i64 (Sp.body s 0).den], .pointer (some ⟨w.heap.size, 0, none⟩), .slice (some ⟨b, o, none⟩) s.bodies.length c, .pointer (some ⟨b, o + 4, none⟩), .pointer (some ⟨b, o + 4, none⟩), .agg #[.int .i64 (Sp.body s 1).num, .int .i64 (Sp.body s 1).den], undef, undef, undef, undef, undef, undef, undef, undef, undef, undef, undef, undef, undef, undef, undef, undef, undef, undef, undef, undef, undef, undef, undef, undef, undef, undef, undef], []⟩ : Act)) ?hq ?hr
  case hr =>
    go_region_held3 (fun w' => w'.cell? ⟨w.heap.size, 0, none⟩ = some (.slice (some ⟨b, o, none⟩) s.bodies.length c) ∧ w'.cell? ⟨b, o, none⟩ = some (.int .i64 (Sp.body s 0).num) ∧ w'.cell? ⟨b, o + 1, none⟩ = some (.int .i64 (Sp.body s 0).den) ∧ w'.cell? ⟨b, o + 4, none⟩ = some (.int .i64 (Sp.body s 1).num) ∧ w'.cell? ⟨b, o + 4 + 1, none⟩ = some (.int .i64 (Sp.body s 1).den)) (go_keep) (fail)
    · have hE3 : Ext W ((W.alloc (.cells #[.int .i64 (Sp.body s 0).num, .int .i64 (Sp.body s 0).den] 24)).alloc (.cells #[.int .i64 (Sp.body s 1).num, .int .i64 (Sp.body s 1).den] 24)).drew := (((Ext.refl W).alloc _).alloc _).drew
      exact ⟨rfl, w.heap.size + 1, w.heap.size + 1 + 1, by omega, by omega, by omega, hE3, by rw [← hz]; exact (blocks2 W _ _).1, by rw [← hz]; exact (blocks2 W _ _).2, rfl⟩
    · have hE3 : Ext W ((W.alloc (.cells #[.int .i64 (Sp.body s 1).num, .int .i64 (Sp.body s 1).den] 24)).alloc (.cells #[.int .i64 (Sp.body s 0).num, .int .i64 (Sp.body s 0).den] 24)).drew := (((Ext.refl W).alloc _).alloc _).drew
      exact ⟨rfl, w.heap.size + 1 + 1, w.heap.size + 1, by omega, by omega, by omega, hE3, by rw [← hz]; exact (blocks2 W _ _).2, by rw [← hz]; exact (blocks2 W _ _).1, rfl⟩
  case hq =>
    rintro e a' w1 ⟨rfl, b4, b5, hb4, hb5, hne, hE1, r4, r5, rfl⟩
    have c4 := r4.cell
    have c5 := r5.cell
    have g0 := hs.all 0 (by omega)
    have g1 := hs.all 1 (by omega)
    rw [b0] at g0
    rw [b1] at g1
    obtain ⟨n0, hn0⟩ : ∃ n0, (Sp.body s 0).num = n0 := ⟨_, rfl⟩
    obtain ⟨x0, hx0⟩ : ∃ x0, (Sp.body s 0).den = x0 := ⟨_, rfl⟩
    obtain ⟨n1, hn1⟩ : ∃ n1, (Sp.body s 1).num = n1 := ⟨_, rfl⟩
    obtain ⟨x1, hx1⟩ : ∃ x1, (Sp.body s 1).den = x1 := ⟨_, rfl⟩
    obtain ⟨u1, u2, u3, u4, _, _, _, _, _⟩ := g0
    obtain ⟨v1, v2, v3, v4, _, _, _, _, _⟩ := g1
    simp only [hn0, hx0] at u1 u2 u3 u4 c4 ⊢
    simp only [hn1, hx1] at v1 v2 v3 v4 c5 ⊢
    have t1 := mul_bounds (a := n1) (b := n0) (A := 10000) (B := 10000) (by omega) (by omega) (by omega) (by omega)
    have t2 := mul_bounds (a := x1) (b := n0) (A := 10000) (B := 10000) (by omega) (by omega) (by omega) (by omega)
    have t3 := mul_bounds (a := x0) (b := n1) (A := 10000) (B := 10000) (by omega) (by omega) (by omega) (by omega)
    have hnum : Sp.monthNum s = n1 * n0 := by simp only [Sp.monthNum, hn1, hn0]
    have hd : Sp.monthDen s = x1 * n0 - x0 * n1 := by simp only [Sp.monthDen, hn1, hn0, hx0, hx1]
    have hden : x1 * n0 - x0 * n1 ≤ 0 := by
      have h' : ¬ 0 < Sp.monthDen s := of_decide_eq_false h
      omega
    have HE := Lib.hid (hE.trans hE1)
    clear hnum hd hn0 hx0 hn1 hx1 hE hE1 b0 b1 h
    go_wp2
    go_quiet (fail)
    go_wp2
    go_ret3
    exact ⟨rfl, HE.out.drewN _⟩

set_option maxRecDepth 100000 in
set_option maxHeartbeats 2000000 in
theorem r_Drift_any (s : Sp.Sky) (A : Option Addr) (c : Nat) (n : Int) (w : World) (hs : SkyOk s) (hm : Bodies w A s.bodies) (h : Sp.isMonth s = true) (hn1 : 0 ≤ n) (hn2 : n ≤ 400) :
    Calls Tryz.prog 74 #[.agg #[.slice A s.bodies.length c, .int .i64 s.nnum, .int .i64 s.nden, .int .i64 s.nstart], .int .i64 n] w fun e w' => e = .returned (.int .i64 (Sp.drift s n)) ∧ Ext w w' := by
  have hb := month_bounds hs h
  have n2 := hs.n2
  obtain ⟨b, o, rfl, hc⟩ := hm (by omega)
  have e0 := hc 0 (by omega)
  have e1 := hc 1 (by omega)
  have b0 : bd s.bodies 0 = Sp.body s 0 := rfl
  have b1 : bd s.bodies 1 = Sp.body s 1 := rfl
  rw [b0] at e0
  rw [b1] at e1
  obtain ⟨p0, p1, _, _⟩ := e0
  obtain ⟨p2, p3, _, _⟩ := e1
  simp only [Nat.zero_mul, Nat.one_mul, Nat.add_zero] at p0 p1 p2 p3
  have n0 := lts (lt_of_cell p0)
  clear hc
  have q := (Row.new w 28 #[.slice (some ⟨b, o, none⟩) s.bodies.length c, .int .i64 s.nnum, .int .i64 s.nden, .int .i64 s.nstart]).cell
  have q0 := q 0
  have q1 := q 1
  have q2 := q 2
  simp only [List.getElem?_toArray, List.getElem?_cons_zero, List.getElem?_cons_succ] at q0 q1 q2
  have hE : Ext w (w.alloc (.cells #[.slice (some ⟨b, o, none⟩) s.bodies.length c, .int .i64 s.nnum, .int .i64 s.nden, .int .i64 s.nstart] 28)) := (Ext.refl w).alloc _
  replace p0 := hE.cell p0
  replace p1 := hE.cell p1
  replace p2 := hE.cell p2
  replace p3 := hE.cell p3
  go_enter Tryz.func74, Tryz.ntmps74
  go_wp2_with fail
  obtain ⟨W, hW⟩ : ∃ W, w.alloc (.cells #[.slice (some ⟨b, o, none⟩) s.bodies.length c, .int .i64 s.nnum, .int .i64 s.nden, .int .i64 s.nstart] 28) = W := ⟨_, rfl⟩
  have hz : w.heap.size + 1 ≤ W.heap.size := by rw [← hW]; simp
  rw [hW] at q0 q1 q2 p0 p1 p2 p3 hE ⊢
  clear hW n0 q
  have m0 := World.new_ne W _ q0
  have m1 := World.new_ne W _ p0
  have k0 := lts (lt_of_cell q0)
  have k1 := lts (lt_of_cell p0)
  simp only at m0 m1 k0 k1
  have h01 : (0 : Int) < s.bodies.length := by omega
  have h11 : (1 : Int) < s.bodies.length := by omega
  have h00 : 0 < s.bodies.length := by omega
  have HS := Lib.hid (And.intro q0 (And.intro q1 (And.intro q2 (And.intro p0 (And.intro p1 (And.intro p2 p3))))))
  refine Code.wp_mono (Q := fun e a' w' => e = .normal ∧ ∃ b7 b8 b9, w.heap.size < b7 ∧ w.heap.size < b8 ∧ w.heap.size < b9 ∧ b7 ≠ b8 ∧ b7 ≠ b9 ∧ b8 ≠ b9 ∧ Ext W w' ∧ Row w' b7 24 #[.int .i64 (Sp.body s 0).num, .int .i64 (Sp.body s 0).den] ∧ Row w' b8 24 #[.int .i64 (Sp.body s 1).num, .int .i64 (Sp.body s 1).den] ∧ Row w' b9 24 #[.int .i64 s.nnum, .int .i64 s.nden] ∧ a' = (⟨#[.agg #[.slice (some ⟨b, o, none⟩) s.bodies.length c, .int .i64 s.nnum, .int .i64 s.nden, .int .i64 s.nstart], .int .i64 n, .pointer (some ⟨w.heap.size, 0, none⟩), undef, .int .i64 0, .pointer (some ⟨b7, 0, none⟩), .pointer (some ⟨b8, 0, none⟩), .pointer (some ⟨b9, 0, none⟩), undef, undef, undef, .pointer (some ⟨w.heap.size, 0, none⟩), .slice (some ⟨b, o, none⟩) s.bodies.length c, .pointer (some ⟨b, o, none⟩), .pointer (some ⟨b, o, none⟩), .agg #[.int .i64 (Sp.body s 0).num, .int .i64 (Sp.body s 0).den], .pointer (some ⟨w.heap.size, 0, none⟩), .slice (some ⟨b, o, none⟩) s.bodies.length c, .pointer (some ⟨b, o + 4, none⟩), .pointer (some ⟨b, o + 4, none⟩), .agg #[.int .i64 (Sp.body s 1).num, .int .i64 (Sp.body s 1).den], .pointer (some ⟨w.heap.size, 1, none⟩), .pointer (some ⟨w.heap.size, 1, none⟩), .agg #[.int .i64 s.nnum, .int .i64 s.nden], undef, undef, undef, undef, undef, undef, undef, undef, undef, undef, undef, undef, undef, undef, undef, undef, undef, undef, undef, undef, undef, undef, undef, undef, undef, undef, undef, undef, undef, undef, undef, undef, undef, undef, undef, undef, undef, undef, undef, undef, undef, undef], []⟩ : Act)) ?hq ?hr
  case hr =>
    go_region_held3 (fun w' => w'.cell? ⟨w.heap.size, 0, none⟩ = some (.slice (some ⟨b, o, none⟩) s.bodies.length c) ∧ w'.cell? ⟨w.heap.size, 1, none⟩ = some (.int .i64 s.nnum) ∧ w'.cell? ⟨w.heap.size, 2, none⟩ = some (.int .i64 s.nden) ∧ w'.cell? ⟨b, o, none⟩ = some (.int .i64 (Sp.body s 0).num) ∧ w'.cell? ⟨b, o + 1, none⟩ = some (.int .i64 (Sp.body s 0).den) ∧ w'.cell? ⟨b, o + 4, none⟩ = some (.int .i64 (Sp.body s 1).num) ∧ w'.cell? ⟨b, o + 4 + 1, none⟩ = some (.int .i64 (Sp.body s 1).den)) (first | (go_keep; done) | ((try dsimp only); obtain ⟨r0, r1, r2, r3, r4, r5, r6⟩ := HS.out; refine ⟨Ext.cell ?_ r0, Ext.cell ?_ r1, Ext.cell ?_ r2, Ext.cell ?_ r3, Ext.cell ?_ r4, Ext.cell ?_ r5, Ext.cell ?_ r6⟩ <;> repeat (first | exact Ext.refl _ | apply Ext.drew | apply Ext.alloc | refine Ext.setCell ?_ (by simp; omega) _))) (fail)
    all_goals first
      | exact ⟨rfl, W.heap.size + 0, W.heap.size + 1, W.heap.size + 2, by omega, by omega, by omega, by omega, by omega, by omega, three_new W _ _ _, (blocks3 W _ _ _).1, (blocks3 W _ _ _).2.1, (blocks3 W _ _ _).2.2, rfl⟩
      | exact ⟨rfl, W.heap.size + 0, W.heap.size + 2, W.heap.size + 1, by omega, by omega, by omega, by omega, by omega, by omega, three_new W _ _ _, (blocks3 W _ _ _).1, (blocks3 W _ _ _).2.2, (blocks3 W _ _ _).2.1, rfl⟩
      | exact ⟨rfl, W.heap.size + 1, W.heap.size + 0, W.heap.size + 2, by omega, by omega, by omega, by omega, by omega, by omega, three_new W _ _ _, (blocks3 W _ _ _).2.1, (blocks3 W _ _ _).1, (blocks3 W _ _ _).2.2, rfl⟩
      | exact ⟨rfl, W.heap.size + 1, W.heap.size + 2, W.heap.size + 0, by omega, by omega, by omega, by omega, by omega, by omega, three_new W _ _ _, (blocks3 W _ _ _).2.1, (blocks3 W _ _ _).2.2, (blocks3 W _ _ _).1, rfl⟩
      | exact ⟨rfl, W.heap.size + 2, W.heap.size + 0, W.heap.size + 1, by omega, by omega, by omega, by omega, by omega, by omega, three_new W _ _ _, (blocks3 W _ _ _).2.2, (blocks3 W _ _ _).1, (blocks3 W _ _ _).2.1, rfl⟩
      | exact ⟨rfl, W.heap.size + 2, W.heap.size + 1, W.heap.size + 0, by omega, by omega, by omega, by omega, by omega, by omega, three_new W _ _ _, (blocks3 W _ _ _).2.2, (blocks3 W _ _ _).2.1, (blocks3 W _ _ _).1, rfl⟩
  case hq =>
    rintro e a' w1 ⟨rfl, b7, b8, b9, hb7, hb8, hb9, hne1, hne2, hne3, hE1, r7, r8, r9, rfl⟩
    have g0 := hs.all 0 (by omega)
    have g1 := hs.all 1 (by omega)
    rw [b0] at g0
    rw [b1] at g1
    have c7 := r7.cell
    have c8 := r8.cell
    have c9 := r9.cell
    have hdr : Sp.drift s n = min ((2 * n * (Sp.body s 0).num * ((Sp.body s 1).den * s.nnum + s.nden * (Sp.body s 1).num)) % (Sp.monthDen s * s.nnum)) (Sp.monthDen s * s.nnum - (2 * n * (Sp.body s 0).num * ((Sp.body s 1).den * s.nnum + s.nden * (Sp.body s 1).num)) % (Sp.monthDen s * s.nnum)) * 10800 / (Sp.monthDen s * s.nnum) := rfl
    have hmd : Sp.monthDen s = (Sp.body s 1).den * (Sp.body s 0).num - (Sp.body s 0).den * (Sp.body s 1).num := rfl
    have s1 := hs.num1
    have s2 := hs.num2
    have s3 := hs.den1
    have s4 := hs.den2
    rw [hmd] at hdr hb
    obtain ⟨n0, hn0⟩ : ∃ n0, (Sp.body s 0).num = n0 := ⟨_, rfl⟩
    obtain ⟨x0, hx0⟩ : ∃ x0, (Sp.body s 0).den = x0 := ⟨_, rfl⟩
    obtain ⟨n1, hn1'⟩ : ∃ n1, (Sp.body s 1).num = n1 := ⟨_, rfl⟩
    obtain ⟨x1, hx1⟩ : ∃ x1, (Sp.body s 1).den = x1 := ⟨_, rfl⟩
    obtain ⟨u1, u2, u3, u4, _, _, _, _, _⟩ := g0
    obtain ⟨v1, v2, v3, v4, _, _, _, _, _⟩ := g1
    obtain ⟨nn, hnn⟩ : ∃ nn, s.nnum = nn := ⟨_, rfl⟩
    obtain ⟨nd, hnd⟩ : ∃ nd, s.nden = nd := ⟨_, rfl⟩
    rw [hn0, hn1', hx1, hx0, hnn, hnd] at hdr
    rw [hn0, hn1', hx1, hx0] at hb
    simp only [hn0, hx0, hn1', hx1, hnn, hnd] at u1 u2 u3 u4 v1 v2 v3 v4 s1 s2 s3 s4 c7 c8 c9 ⊢
    have a1 := mul_bounds (a := x1) (b := n0) (A := 10000) (B := 10000) (by omega) (by omega) (by omega) (by omega)
    have a2 := mul_bounds (a := x0) (b := n1) (A := 10000) (B := 10000) (by omega) (by omega) (by omega) (by omega)
    have t2 : 0 ≤ x1 * nn := Int.mul_nonneg (by omega) (by omega)
    have t2' := mul_bounds (a := x1) (b := nn) (A := 10000) (B := 10000) (by omega) (by omega) (by omega) (by omega)
    have t3 : 0 ≤ nd * n1 := Int.mul_nonneg (by omega) (by omega)
    have t3' := mul_bounds (a := nd) (b := n1) (A := 10000) (B := 10000) (by omega) (by omega) (by omega) (by omega)
    have t1 : 0 ≤ (x1 * nn + nd * n1) * n0 := Int.mul_nonneg (by omega) (by omega)
    have t1' := mul_bounds (a := x1 * nn + nd * n1) (b := n0) (A := 200000000) (B := 10000) (by omega) (by omega) (by omega) (by omega)
    have t4 : 0 ≤ 2 * n * ((x1 * nn + nd * n1) * n0) := Int.mul_nonneg (by omega) (by omega)
    have t4' := mul_bounds (a := 2 * n) (b := (x1 * nn + nd * n1) * n0) (A := 800) (B := 2000000000000) (by omega) (by omega) (by omega) (by omega)
    have t5 : 0 < nn * (x1 * n0 - x0 * n1) := Int.mul_pos (by omega) (by omega)
    have t5' := mul_bounds (a := nn) (b := x1 * n0 - x0 * n1) (A := 10000) (B := 100000000) (by omega) (by omega) (by omega) (by omega)
    have e1' : 2 * n * n0 * (x1 * nn + nd * n1) = 2 * n * ((x1 * nn + nd * n1) * n0) := by rw [Int.mul_assoc (2 * n), Int.mul_comm n0]
    have e2' : (x1 * n0 - x0 * n1) * nn = nn * (x1 * n0 - x0 * n1) := Int.mul_comm _ _
    rw [e1', e2'] at hdr
    have t6 := emod_bounds (2 * n * ((x1 * nn + nd * n1) * n0)) (nn * (x1 * n0 - x0 * n1)) (by omega)
    have hm1 : (2 * n * ((x1 * nn + nd * n1) * n0)).tmod (nn * (x1 * n0 - x0 * n1)) = 2 * n * ((x1 * nn + nd * n1) * n0) % (nn * (x1 * n0 - x0 * n1)) := Int.tmod_eq_emod_of_nonneg t4
    obtain ⟨R, hR⟩ : ∃ R, 2 * n * ((x1 * nn + nd * n1) * n0) % (nn * (x1 * n0 - x0 * n1)) = R := ⟨_, rfl⟩
    obtain ⟨D, hD⟩ : ∃ D, nn * (x1 * n0 - x0 * n1) = D := ⟨_, rfl⟩
    rw [hR] at hdr t6 hm1
    rw [hD] at hdr t6 hm1 t5 t5'
    have HE := Lib.hid (hE.trans hE1)
    have HD := Lib.hid hdr
    clear hn0 hx0 hn1' hx1 hnn hnd hdr hE hE1 h b0 b1 e1' e2' hR
    rcases Int.lt_or_le (D - R) R with hle | hle
    · have hq : ((D - R) * 10800).tdiv D = (D - R) * 10800 / D := Int.tdiv_eq_ediv_of_nonneg (by omega)
      have hmin : min R (D - R) = D - R := by omega
      have z1 : 0 ≤ (D - R) * 10800 / D := Int.ediv_nonneg (by omega) (by omega)
      have z2 : (D - R) * 10800 / D ≤ (D - R) * 10800 := Int.ediv_le_self _ (by omega)
      go_wp2
      go_ret
      refine ⟨ret_int ?_, HE.out⟩
      rw [HD.out, hmin]
    · have hq : (R * 10800).tdiv D = R * 10800 / D := Int.tdiv_eq_ediv_of_nonneg (by omega)
      have hmin : min R (D - R) = R := by omega
      have z1 : 0 ≤ R * 10800 / D := Int.ediv_nonneg (by omega) (by omega)
      have z2 : R * 10800 / D ≤ R * 10800 := Int.ediv_le_self _ (by omega)
      go_wp2
      go_ret
      refine ⟨ret_int ?_, HE.out⟩
      rw [HD.out, hmin]

theorem cycleN_step (s : Sp.Sky) (limit n : Int) (k : Nat) : Sp.cycleN s limit n (k + 1) = if Sp.drift s n ≤ limit then some n else Sp.cycleN s limit (n + 1) k := rfl
set_option maxRecDepth 100000 in
set_option maxHeartbeats 1000000 in
theorem r_Cycle_any (s : Sp.Sky) (A : Option Addr) (c : Nat) (limit : Int) (w : World) (hs : SkyOk s) (hm : Bodies w A s.bodies) (h : Sp.isMonth s = true) :
    Calls Tryz.prog 73 #[.agg #[.slice A s.bodies.length c, .int .i64 s.nnum, .int .i64 s.nden, .int .i64 s.nstart], .int .i64 limit] w fun e w' => e = .returned (.int .i64 ((Sp.cycleO s limit).getD (-1))) ∧ Ext w w' := by
  have HM := Lib.hid hm
  have HS := Lib.hid hs
  clear hm hs
  go_enter Tryz.func73, Tryz.ntmps73
  go_wp2_with fail
  have hr0 := Row.new w 28 #[.slice A s.bodies.length c, .int .i64 s.nnum, .int .i64 s.nden, .int .i64 s.nstart]
  have hE0 : Ext w (w.alloc (.cells #[.slice A s.bodies.length c, .int .i64 s.nnum, .int .i64 s.nden, .int .i64 s.nstart] 28)) := (Ext.refl w).alloc _
  generalize w.alloc (.cells #[.slice A s.bodies.length c, .int .i64 s.nnum, .int .i64 s.nden, .int .i64 s.nstart] 28) = w1 at *
  go_loopw [5] (fun d wr => ∃ k : Nat, k ≤ 400 ∧ d = .int .i64 (1 + (k : Int)) ∧ Sp.cycleO s limit = Sp.cycleN s limit (1 + (k : Int)) (400 - k) ∧ Ext w1 wr) (fun d _ => (401 - intOf d).toNat)
  case atStart => exact ⟨0, Nat.zero_le _, rfl, rfl, Ext.refl _⟩
  case round =>
    obtain ⟨k, hk, rfl, hnx, hE⟩ := hrel
    have b0 := (hr0.ext hE).cell
    have HE := Lib.hid hE
    by_cases hlt : k < 400
    · obtain ⟨m, hm⟩ : ∃ m, 400 - k = m + 1 := ⟨400 - k - 1, by omega⟩
      rw [hm, cycleN_step] at hnx
      have HX := Lib.hid hnx
      clear hnx hE
      go_wp2_with fail
      refine (r_Drift_any s A c (1 + (k : Int)) _ HS.out (HM.out.ext (hE0.trans HE.out)) h (by omega) (by omega)).mono ?_
      rintro e w2 ⟨rfl, hE2⟩
      have HE2 := Lib.hid (HE.out.trans hE2)
      clear hE2 b0
      by_cases hb : Sp.drift s (1 + (k : Int)) ≤ limit
      · have HY := Lib.hid (HX.out.trans (if_pos hb))
        go_wp2_with fail
        go_ret
        exact ⟨by rw [HY.out]; rfl, hE0.trans HE2.out⟩
      · have HY := Lib.hid (HX.out.trans (if_neg hb))
        go_wp2_with fail
        refine ⟨⟨k + 1, by omega, by go_num, ?_, HE2.out⟩, by simp [intOf]; omega⟩
        rw [HY.out, show 400 - (k + 1) = m by omega]
        congr 1
    · obtain rfl : k = 400 := by omega
      have HX := Lib.hid hnx
      clear hnx hE
      go_wp2_with fail
      go_ret
      exact ⟨by rw [HX.out]; rfl, hE0.trans HE.out⟩
end Go.Proofs.YtlcddcnmoajpjaaGreatDoor
