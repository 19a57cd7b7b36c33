/- Drift1: The walks of layer 5: drift.
Drift2: The walks of layer 5: Drift. (Printed by wip/mkdrift.py.)
Cycle1: The walks of layer 5: the closure of Cycle.
Cycle2: The walks of layer 5: the closure of Cycle where there is no month.
Cycle3: The walks of layer 5: Cycle. (Printed by wip/mkcycle.py.) -/
import Derived.Test.YtlcddcnmoajpjaaGreatDoorV08
import Derived.Test.YtlcddcnmoajpjaaGreatDoorV07
namespace Go.Proofs.YtlcddcnmoajpjaaGreatDoor
open Go.RowKit
open Sp (rd)
theorem three_new (W : World) (o1 o2 o3 : Obj) : Ext W (((W.alloc o1).alloc o2).alloc o3).drew := ((((Ext.refl W).alloc _).alloc _).alloc _).drew
set_option maxRecDepth 100000 in
set_option maxHeartbeats 1000000 in
theorem drift_ok (s : Sp.Sky) (A : Option Addr) (c : Nat) (n : Int) (w : World) (hs : SkyOk s) (hm : Bodies w A s.bodies) (h : Sp.isMonth s = true) (hn1 : 0 ≤ n) (hn2 : n ≤ 400) :
    Calls Tryz.prog 136 #[.agg #[.slice A s.bodies.length c, .int .i64 s.nnum, .int .i64 s.nden, .int .i64 s.nstart], .int .i64 n] w fun e w' => e = .returned (.int .i64 (Sp.drift s n)) ∧ Ext w w' := by
  have n2 := hs.n2
  have hb := month_bounds hs h
  go_enter Tryz.func136, Tryz.ntmps136
  go_wp2_with fail
  have hE0 : Ext w (w.alloc (.cells #[.slice A s.bodies.length c, .int .i64 s.nnum, .int .i64 s.nden, .int .i64 s.nstart] 28)) := (Ext.refl w).alloc _
  refine (month_ok s A c _ hs (hm.ext hE0) h).mono ?_
  rintro e W ⟨rfl, hE1⟩
  have q := ((Row.new w 28 #[.slice A s.bodies.length c, .int .i64 s.nnum, .int .i64 s.nden, .int .i64 s.nstart]).ext hE1).cell
  have hE := hE0.trans hE1
  have hmW := hm.ext hE
  have hz : w.heap.size + 1 ≤ W.heap.size := by have := hE1.size; simpa using this
  clear hE0 hE1
  obtain ⟨b, o, rfl, hc⟩ := hmW (by omega)
  have e0 := hc 0 (by omega)
  have e1 := hc 1 (by omega)
  have b0 : bd s.bodies 0 = Sp.body s 0 := rfl
  have b1 : bd s.bodies 1 = Sp.body s 1 := rfl
  rw [b0] at e0
  rw [b1] at e1
  obtain ⟨p0, p1, _, _⟩ := e0
  obtain ⟨p2, p3, _, _⟩ := e1
  simp only [Nat.zero_mul, Nat.one_mul, Nat.add_zero] at p0 p1 p2 p3
  have q0 := q 0
  have q1 := q 1
  have q2 := q 2
  simp only [List.getElem?_toArray, List.getElem?_cons_zero, List.getElem?_cons_succ] at q0 q1 q2
  clear hc q
  have m0 := World.new_ne W _ q0
  have m1 := World.new_ne W _ p0
  have k0 := lts (lt_of_cell q0)
  have k1 := lts (lt_of_cell p0)
  simp only at m0 m1 k0 k1
  go_wp2_with fail
  have h01 : (0 : Int) < s.bodies.length := by omega
  have h11 : (1 : Int) < s.bodies.length := by omega
  have h00 : 0 < s.bodies.length := by omega
  have HS := Lib.hid (And.intro q0 (And.intro q1 (And.intro q2 (And.intro p0 (And.intro p1 (And.intro p2 p3))))))
  refine Code.wp_mono (Q := fun e a' w' => e = .normal ∧ ∃ b7 b8 b9, w.heap.size < b7 ∧ w.heap.size < b8 ∧ w.heap.size < b9 ∧ b7 ≠ b8 ∧ b7 ≠ b9 ∧ b8 ≠ b9 ∧ Ext W w' ∧ Row w' b7 24 #[.int .i64 (Sp.body s 0).num, .int .i64 (Sp.body s 0).den] ∧ Row w' b8 24 #[.int .i64 (Sp.body s 1).num, .int .i64 (Sp.body s 1).den] ∧ Row w' b9 24 #[.int .i64 s.nnum, .int .i64 s.nden] ∧ a' = (⟨#[.agg #[.slice (some ⟨b, o, none⟩) s.bodies.length c, .int .i64 s.nnum, .int .i64 s.nden, .int .i64 s.nstart], .int .i64 n, .pointer (some ⟨w.heap.size, 0, none⟩), undef, .int .i64 0, .int .i64 (Sp.monthNum s), .int .i64 (Sp.monthDen s), .pointer (some ⟨b7, 0, none⟩), .pointer (some ⟨b8, 0, none⟩), .pointer (some ⟨b9, 0, none⟩), undef, undef, undef, undef, undef, undef, .tuple #[.int .i64 (Sp.monthNum s), .int .i64 (Sp.monthDen s)], .agg #[.slice (some ⟨b, o, none⟩) s.bodies.length c, .int .i64 s.nnum, .int .i64 s.nden, .int .i64 s.nstart], .tuple #[.int .i64 (Sp.monthNum s), .int .i64 (Sp.monthDen s)], .int .i64 (Sp.monthNum s), .int .i64 (Sp.monthDen s), .pointer (some ⟨w.heap.size, 0, none⟩), .slice (some ⟨b, o, none⟩) s.bodies.length c, .pointer (some ⟨b, o, none⟩), .pointer (some ⟨b, o, none⟩), .agg #[.int .i64 (Sp.body s 0).num, .int .i64 (Sp.body s 0).den], .pointer (some ⟨w.heap.size, 0, none⟩), .slice (some ⟨b, o, none⟩) s.bodies.length c, .pointer (some ⟨b, o + 4, none⟩), .pointer (some ⟨b, o + 4, none⟩), .agg #[.int .i64 (Sp.body s 1).num, .int .i64 (Sp.body s 1).den], .pointer (some ⟨w.heap.size, 1, none⟩), .pointer (some ⟨w.heap.size, 1, none⟩), .agg #[.int .i64 s.nnum, .int .i64 s.nden], undef, undef, undef, undef, undef, undef, undef, undef, undef, undef, undef, undef, undef, undef, undef, undef, undef, undef, undef, undef, undef, undef, undef, undef, undef, undef, undef, undef, undef, undef, undef, undef, undef, undef, undef, undef, undef, undef, undef], []⟩ : Act)) ?hq ?hr
  case hr =>
    go_region_held3 (fun w' => w'.cell? ⟨w.heap.size, 0, none⟩ = some (.slice (some ⟨b, o, none⟩) s.bodies.length c) ∧ w'.cell? ⟨w.heap.size, 1, none⟩ = some (.int .i64 s.nnum) ∧ w'.cell? ⟨w.heap.size, 2, none⟩ = some (.int .i64 s.nden) ∧ w'.cell? ⟨b, o, none⟩ = some (.int .i64 (Sp.body s 0).num) ∧ w'.cell? ⟨b, o + 1, none⟩ = some (.int .i64 (Sp.body s 0).den) ∧ w'.cell? ⟨b, o + 4, none⟩ = some (.int .i64 (Sp.body s 1).num) ∧ w'.cell? ⟨b, o + 4 + 1, none⟩ = some (.int .i64 (Sp.body s 1).den)) (first | (go_keep; done) | ((try dsimp only); obtain ⟨r0, r1, r2, r3, r4, r5, r6⟩ := HS.out; refine ⟨Ext.cell ?_ r0, Ext.cell ?_ r1, Ext.cell ?_ r2, Ext.cell ?_ r3, Ext.cell ?_ r4, Ext.cell ?_ r5, Ext.cell ?_ r6⟩ <;> repeat (first | exact Ext.refl _ | apply Ext.drew | apply Ext.alloc | refine Ext.setCell ?_ (by simp; omega) _))) (fail)
    all_goals first
      | exact ⟨rfl, W.heap.size + 0, W.heap.size + 1, W.heap.size + 2, by omega, by omega, by omega, by omega, by omega, by omega, three_new W _ _ _, (blocks3 W _ _ _).1, (blocks3 W _ _ _).2.1, (blocks3 W _ _ _).2.2, rfl⟩
      | exact ⟨rfl, W.heap.size + 0, W.heap.size + 2, W.heap.size + 1, by omega, by omega, by omega, by omega, by omega, by omega, three_new W _ _ _, (blocks3 W _ _ _).1, (blocks3 W _ _ _).2.2, (blocks3 W _ _ _).2.1, rfl⟩
      | exact ⟨rfl, W.heap.size + 1, W.heap.size + 0, W.heap.size + 2, by omega, by omega, by omega, by omega, by omega, by omega, three_new W _ _ _, (blocks3 W _ _ _).2.1, (blocks3 W _ _ _).1, (blocks3 W _ _ _).2.2, rfl⟩
      | exact ⟨rfl, W.heap.size + 1, W.heap.size + 2, W.heap.size + 0, by omega, by omega, by omega, by omega, by omega, by omega, three_new W _ _ _, (blocks3 W _ _ _).2.1, (blocks3 W _ _ _).2.2, (blocks3 W _ _ _).1, rfl⟩
      | exact ⟨rfl, W.heap.size + 2, W.heap.size + 0, W.heap.size + 1, by omega, by omega, by omega, by omega, by omega, by omega, three_new W _ _ _, (blocks3 W _ _ _).2.2, (blocks3 W _ _ _).1, (blocks3 W _ _ _).2.1, rfl⟩
      | exact ⟨rfl, W.heap.size + 2, W.heap.size + 1, W.heap.size + 0, by omega, by omega, by omega, by omega, by omega, by omega, three_new W _ _ _, (blocks3 W _ _ _).2.2, (blocks3 W _ _ _).2.1, (blocks3 W _ _ _).1, rfl⟩
  case hq =>
    rintro e a' w1 ⟨rfl, b7, b8, b9, hb7, hb8, hb9, hne1, hne2, hne3, hE1, r7, r8, r9, rfl⟩
    have g0 := hs.all 0 (by omega)
    have g1 := hs.all 1 (by omega)
    rw [b0] at g0
    rw [b1] at g1
    have c7 := r7.cell
    have c8 := r8.cell
    have c9 := r9.cell
    have hdr : Sp.drift s n = min ((2 * n * (Sp.body s 0).num * ((Sp.body s 1).den * s.nnum + s.nden * (Sp.body s 1).num)) % (Sp.monthDen s * s.nnum)) (Sp.monthDen s * s.nnum - (2 * n * (Sp.body s 0).num * ((Sp.body s 1).den * s.nnum + s.nden * (Sp.body s 1).num)) % (Sp.monthDen s * s.nnum)) * 10800 / (Sp.monthDen s * s.nnum) := rfl
    obtain ⟨n0, hn0⟩ : ∃ n0, (Sp.body s 0).num = n0 := ⟨_, rfl⟩
    obtain ⟨x0, hx0⟩ : ∃ x0, (Sp.body s 0).den = x0 := ⟨_, rfl⟩
    obtain ⟨n1, hn1'⟩ : ∃ n1, (Sp.body s 1).num = n1 := ⟨_, rfl⟩
    obtain ⟨x1, hx1⟩ : ∃ x1, (Sp.body s 1).den = x1 := ⟨_, rfl⟩
    obtain ⟨sl, hsl⟩ : ∃ sl, Sp.monthDen s = sl := ⟨_, rfl⟩
    obtain ⟨mn, hmn⟩ : ∃ mn, Sp.monthNum s = mn := ⟨_, rfl⟩
    obtain ⟨nn, hnn⟩ : ∃ nn, s.nnum = nn := ⟨_, rfl⟩
    obtain ⟨nd, hnd⟩ : ∃ nd, s.nden = nd := ⟨_, rfl⟩
    obtain ⟨u1, u2, u3, u4, _, _, _, _, _⟩ := g0
    obtain ⟨v1, v2, v3, v4, _, _, _, _, _⟩ := g1
    have s1 := hs.num1
    have s2 := hs.num2
    have s3 := hs.den1
    have s4 := hs.den2
    rw [hn0, hn1', hx1, hsl, hnn, hnd] at hdr
    simp only [hn0, hx0, hn1', hx1, hsl, hmn, hnn, hnd] at u1 u2 u3 u4 v1 v2 v3 v4 s1 s2 s3 s4 c7 c8 c9 hb ⊢
    have t1 : 0 ≤ 2 * n * n0 := Int.mul_nonneg (by omega) (by omega)
    have t1' := mul_bounds (a := 2 * n) (b := n0) (A := 800) (B := 10000) (by omega) (by omega) (by omega) (by omega)
    have t2 : 0 ≤ x1 * nn := Int.mul_nonneg (by omega) (by omega)
    have t2' := mul_bounds (a := x1) (b := nn) (A := 10000) (B := 10000) (by omega) (by omega) (by omega) (by omega)
    have t3 : 0 ≤ nd * n1 := Int.mul_nonneg (by omega) (by omega)
    have t3' := mul_bounds (a := nd) (b := n1) (A := 10000) (B := 10000) (by omega) (by omega) (by omega) (by omega)
    have t4 : 0 ≤ 2 * n * n0 * (x1 * nn + nd * n1) := Int.mul_nonneg (by omega) (by omega)
    have t4' := mul_bounds (a := 2 * n * n0) (b := x1 * nn + nd * n1) (A := 8000000) (B := 200000000) (by omega) (by omega) (by omega) (by omega)
    have t5 : 0 < sl * nn := Int.mul_pos (by omega) (by omega)
    have t5' := mul_bounds (a := sl) (b := nn) (A := 100000000) (B := 10000) (by omega) (by omega) (by omega) (by omega)
    have t6 := emod_bounds (2 * n * n0 * (x1 * nn + nd * n1)) (sl * nn) (by omega)
    have HE := Lib.hid (hE.trans hE1)
    have HD := Lib.hid hdr
    clear hn0 hx0 hn1' hx1 hsl hmn hnn hnd hdr hE hE1 h hmW b0 b1
    go_wp2
    go_quiet (fail)
    go_wp2_with fail
    refine (floor_any _ _ _ (by omega) (by omega) (by omega) (by omega)).mono ?_
    rintro e w2 ⟨rfl, hE2⟩
    go_wp2_with fail
    all_goals
      refine (floor_any _ _ _ (by omega) (by omega) (by omega) (by omega)).mono ?_
      rintro e w3 ⟨rfl, hE3⟩
      go_wp2_with fail
      go_ret
      refine ⟨ret_int ?_, ((HE.out.drewN _).trans hE2).trans hE3⟩
      rw [HD.out]
      congr 2
      omega

theorem drift_no (s : Sp.Sky) (A : Option Addr) (c : Nat) (n : Int) (w : World) (hs : SkyOk s) (hm : Bodies w A s.bodies) (h : Sp.isMonth s = false) :
    Calls Tryz.prog 136 #[.agg #[.slice A s.bodies.length c, .int .i64 s.nnum, .int .i64 s.nden, .int .i64 s.nstart], .int .i64 n] w fun e w' => e = .panicked [{ v := .iface 152 (.agg #[.int .i64 7]), recovered := false }] ∧ Ext w w' := by
  go_enter Tryz.func136, Tryz.ntmps136
  go_wp2_with fail
  have hE0 : Ext w (w.alloc (.cells #[.slice A s.bodies.length c, .int .i64 s.nnum, .int .i64 s.nden, .int .i64 s.nstart] 28)) := (Ext.refl w).alloc _
  refine (month_no s A c _ hs (hm.ext hE0) h).mono ?_
  rintro e W ⟨rfl, hE1⟩
  exact ⟨rfl, rfl, hE0.trans hE1⟩
end Go.Proofs.YtlcddcnmoajpjaaGreatDoor

namespace Go.Proofs.YtlcddcnmoajpjaaGreatDoor
open Go.RowKit
open Sp (rd)

theorem drift1_ok (s : Sp.Sky) (A : Option Addr) (c : Nat) (bS bM bN : Nat) (m n : Int) (W : World) (hs : SkyOk s) (hm : Bodies W A s.bodies) (h : Sp.isMonth s = true) (h1 : 0 ≤ m) (h2 : m ≤ 400) (rS : Row W bS 28 #[.slice A s.bodies.length c, .int .i64 s.nnum, .int .i64 s.nden, .int .i64 s.nstart])
    (rM : Row W bM 3 #[.int .i64 m]) (rN : Row W bN 3 #[.int .i64 n]) :
    Calls Tryz.prog 135 #[.pointer (some ⟨bS, 0, none⟩), .pointer (some ⟨bM, 0, none⟩), .pointer (some ⟨bN, 0, none⟩)] W fun e w' => e = .returned (.tuple #[]) ∧ ∃ W1, Ext W W1 ∧ w' = W1.setCell ⟨bN, 0, none⟩ (.int .i64 (Sp.drift s m)) := by
  have cS := rS.cell
  have cM := rM.cell
  go_enter Tryz.func135, Tryz.ntmps135
  go_wp2_with fail
  refine (drift_ok s A c m W hs hm h h1 h2).mono ?_
  rintro e W1 ⟨rfl, hE⟩
  have cN := (rN.ext hE).cell
  have fN := (rN.ext hE).free
  clear cS cM
  go_wp2_with fail
  go_end0
  exact ⟨rfl, W1, hE, rfl⟩
theorem drift1_no (s : Sp.Sky) (A : Option Addr) (c : Nat) (bS bM : Nat) (m : Int) (q : Value) (W : World) (hs : SkyOk s) (hm : Bodies W A s.bodies) (h : Sp.isMonth s = false) (rS : Row W bS 28 #[.slice A s.bodies.length c, .int .i64 s.nnum, .int .i64 s.nden, .int .i64 s.nstart])
    (rM : Row W bM 3 #[.int .i64 m]) :
    Calls Tryz.prog 135 #[.pointer (some ⟨bS, 0, none⟩), .pointer (some ⟨bM, 0, none⟩), q] W fun e w' => e = .panicked [{ v := .iface 152 (.agg #[.int .i64 7]), recovered := false }] ∧ Ext W w' := by
  have cS := rS.cell
  have cM := rM.cell
  go_enter Tryz.func135, Tryz.ntmps135
  go_wp2_with fail
  refine (drift_no s A c m W hs hm h).mono ?_
  rintro e W1 ⟨rfl, hE⟩
  exact ⟨rfl, rfl, hE⟩
theorem months_of {n : Int} (h : Sp.areMonths n = true) : 0 ≤ n ∧ n ≤ 400 := inR_iff.1 h

theorem Drift_err (s : Sp.Sky) (A : Option Addr) (c : Nat) (m : Int) (w : World) (hm : Bodies w A s.bodies) (hl : Short s.bodies) (h : (Sp.skyOk s && (Sp.areMonths m)) = false) :
    Calls Tryz.prog 69 #[.agg #[.slice A s.bodies.length c, .int .i64 s.nnum, .int .i64 s.nden, .int .i64 s.nstart], .int .i64 m] w fun e w' => e = .returned (.tuple #[.int .i64 0, .int .i64 2]) ∧ Ext w w' := by
  have hl1 := hl.1
  have HL := Lib.hid hl
  have HM := Lib.hid hm
  clear hm hl
  cases c0 : Sp.skyOk s
  · clear h
    go_enter Tryz.func69, Tryz.ntmps69
    go_wp2_with fail
    refine (isSky_any s A c _ (HM.out.ext (((Ext.refl w).alloc _).alloc _)) HL.out).mono ?_
    rintro e w1 ⟨rfl, hE1⟩
    have hE := (((Ext.refl w).alloc _).alloc _).trans hE1
    have hr : Row w1 w.heap.size 28 _ := Row.ext (blocks2 w _ _ ).1 hE1
    have hr1 : Row w1 (w.heap.size + 1) 3 _ := Row.ext (blocks2 w _ _ ).2 hE1
    have b0 := hr.cell
    have b1 := hr1.cell
    clear hE1
    go_wp2_with fail
    go_ret2
    exact ⟨rfl, hE⟩
  cases c1 : Sp.areMonths m
  · clear h
    go_enter Tryz.func69, Tryz.ntmps69
    go_wp2_with fail
    refine (isSky_any s A c _ (HM.out.ext (((Ext.refl w).alloc _).alloc _)) HL.out).mono ?_
    rintro e w1 ⟨rfl, hE1⟩
    have hE := (((Ext.refl w).alloc _).alloc _).trans hE1
    have hr : Row w1 w.heap.size 28 _ := Row.ext (blocks2 w _ _ ).1 hE1
    have hr1 : Row w1 (w.heap.size + 1) 3 _ := Row.ext (blocks2 w _ _ ).2 hE1
    have b0 := hr.cell
    have b1 := hr1.cell
    clear hE1
    go_wp2_with fail
    refine (areMonths_any m _).mono ?_
    rintro e w0 ⟨rfl, rfl⟩
    go_wp2_with fail
    go_ret2
    exact ⟨rfl, hE⟩
  · simp [c0, c1] at h

theorem Drift_ok (s : Sp.Sky) (A : Option Addr) (c : Nat) (m : Int) (w : World) (hm : Bodies w A s.bodies) (hl : Short s.bodies) (hmn : Sp.isMonth s = true) (c0 : Sp.skyOk s = true) (c1 : Sp.areMonths m = true) :
    Calls Tryz.prog 69 #[.agg #[.slice A s.bodies.length c, .int .i64 s.nnum, .int .i64 s.nden, .int .i64 s.nstart], .int .i64 m] w fun e w' => e = .returned (.tuple #[.int .i64 (Sp.drift s m), .int .i64 0]) ∧ Ext w w' := by
  have hl1 := hl.1
  have HL := Lib.hid hl
  have HM := Lib.hid hm
  clear hm hl
  go_enter Tryz.func69, Tryz.ntmps69
  go_wp2_with fail
  refine (isSky_any s A c _ (HM.out.ext (((Ext.refl w).alloc _).alloc _)) HL.out).mono ?_
  rintro e w1 ⟨rfl, hE1⟩
  have hE := (((Ext.refl w).alloc _).alloc _).trans hE1
  have hr : Row w1 w.heap.size 28 _ := Row.ext (blocks2 w _ _ ).1 hE1
  have hr1 : Row w1 (w.heap.size + 1) 3 _ := Row.ext (blocks2 w _ _ ).2 hE1
  have b0 := hr.cell
  have b1 := hr1.cell
  clear hE1
  go_wp2_with fail
  refine (areMonths_any m _).mono ?_
  rintro e w0 ⟨rfl, rfl⟩
  have hmf : ∀ (fn : Fn) (first cap : Array Value) (w : World), (Instr.makeFunc fn first cap).run Tryz.prog w = .ok (.func fn first cap) w := fun _ _ _ _ => rfl
  obtain ⟨g1, g2⟩ := months_of c1
  have HK := Lib.hid (skyOk_iff.1 c0)
  have hE3 : Ext w1 ((w1.alloc (.cells #[.int .i64 0] 3)).alloc (.cells #[.int .i64 0] 32)) := ((Ext.refl w1).alloc _).alloc _
  have rN : Row ((w1.alloc (.cells #[.int .i64 0] 3)).alloc (.cells #[.int .i64 0] 32)) w1.heap.size 3 #[.int .i64 0] := (blocks2 w1 _ _).1
  have rR : Row ((w1.alloc (.cells #[.int .i64 0] 3)).alloc (.cells #[.int .i64 0] 32)) (w1.heap.size + 1) 32 #[.int .i64 0] := (blocks2 w1 _ _).2
  have hz := hr.lt
  go_wp2_with fail
  refine (try_any 135 _ 7 _ (fun w' => ∃ W1, Ext ((w1.alloc (.cells #[.int .i64 0] 3)).alloc (.cells #[.int .i64 0] 32)) W1 ∧ w' = W1.setCell ⟨w1.heap.size, 0, none⟩ (.int .i64 (Sp.drift s m))) (fun _ => False) (enters_of Tryz.func135 (by kernel_rfl) rfl)
    ((drift1_ok s A c w.heap.size (w.heap.size + 1) w1.heap.size m 0 _ HK.out (HM.out.ext (hE.trans hE3)) hmn g1 g2 (hr.ext hE3) (hr1.ext hE3) rN).mono ?_)).mono ?_
  · rintro e w' ⟨rfl, W1, hEE, rfl⟩
    refine ⟨?_, .inl ⟨rfl, W1, hEE, rfl⟩⟩
    simpa using (rR.ext hEE).far (p := ⟨w1.heap.size, 0, none⟩) (by simp) _
  · rintro e w' ⟨W2, ⟨⟨W1, hEE, rfl⟩, rfl, rfl⟩ | ⟨h0, _⟩⟩
    · simp only [World.size_alloc]
      have sN : Row ((W1.setCell ⟨w1.heap.size, 0, none⟩ (.int .i64 (Sp.drift s m))).setCell ⟨w1.heap.size + 1, 0, none⟩ (.int .i64 0)) w1.heap.size 3 #[.int .i64 (Sp.drift s m)] := by
        simpa using ((rN.ext hEE).set_ 0 (.int .i64 (Sp.drift s m))).far (p := ⟨w1.heap.size + 1, 0, none⟩) (by simp <;> omega) (.int .i64 0)
      have hE4 : Ext w1 ((W1.setCell ⟨w1.heap.size, 0, none⟩ (.int .i64 (Sp.drift s m))).setCell ⟨w1.heap.size + 1, 0, none⟩ (.int .i64 0)) := ((hE3.trans hEE).setCell (by simp) _).setCell (by simp) _
      have cN := sN.cell
      have HE := Lib.hid (hE.trans hE4)
      clear hE3 rN rR hEE hE hE4 b0 b1 sN
      go_wp2_with fail
      go_ret2
      exact ⟨rfl, HE.out⟩
    · exact h0.elim

theorem DriftNo_ok (s : Sp.Sky) (A : Option Addr) (c : Nat) (m : Int) (w : World) (hm : Bodies w A s.bodies) (hl : Short s.bodies) (hmn : Sp.isMonth s = false) (c0 : Sp.skyOk s = true) (c1 : Sp.areMonths m = true) :
    Calls Tryz.prog 69 #[.agg #[.slice A s.bodies.length c, .int .i64 s.nnum, .int .i64 s.nden, .int .i64 s.nstart], .int .i64 m] w fun e w' => e = .returned (.tuple #[.int .i64 0, .int .i64 7]) ∧ Ext w w' := by
  have hl1 := hl.1
  have HL := Lib.hid hl
  have HM := Lib.hid hm
  clear hm hl
  go_enter Tryz.func69, Tryz.ntmps69
  go_wp2_with fail
  refine (isSky_any s A c _ (HM.out.ext (((Ext.refl w).alloc _).alloc _)) HL.out).mono ?_
  rintro e w1 ⟨rfl, hE1⟩
  have hE := (((Ext.refl w).alloc _).alloc _).trans hE1
  have hr : Row w1 w.heap.size 28 _ := Row.ext (blocks2 w _ _ ).1 hE1
  have hr1 : Row w1 (w.heap.size + 1) 3 _ := Row.ext (blocks2 w _ _ ).2 hE1
  have b0 := hr.cell
  have b1 := hr1.cell
  clear hE1
  go_wp2_with fail
  refine (areMonths_any m _).mono ?_
  rintro e w0 ⟨rfl, rfl⟩
  have hmf : ∀ (fn : Fn) (first cap : Array Value) (w : World), (Instr.makeFunc fn first cap).run Tryz.prog w = .ok (.func fn first cap) w := fun _ _ _ _ => rfl
  obtain ⟨g1, g2⟩ := months_of c1
  have HK := Lib.hid (skyOk_iff.1 c0)
  have hE3 : Ext w1 ((w1.alloc (.cells #[.int .i64 0] 3)).alloc (.cells #[.int .i64 0] 32)) := ((Ext.refl w1).alloc _).alloc _
  have rN : Row ((w1.alloc (.cells #[.int .i64 0] 3)).alloc (.cells #[.int .i64 0] 32)) w1.heap.size 3 #[.int .i64 0] := (blocks2 w1 _ _).1
  have rR : Row ((w1.alloc (.cells #[.int .i64 0] 3)).alloc (.cells #[.int .i64 0] 32)) (w1.heap.size + 1) 32 #[.int .i64 0] := (blocks2 w1 _ _).2
  have hz := hr.lt
  go_wp2_with fail
  refine (try_any 135 _ 7 _ (fun _ => False) (fun w' => Ext ((w1.alloc (.cells #[.int .i64 0] 3)).alloc (.cells #[.int .i64 0] 32)) w') (enters_of Tryz.func135 (by kernel_rfl) rfl)
    ((drift1_no s A c w.heap.size (w.heap.size + 1) m _ _ HK.out (HM.out.ext (hE.trans hE3)) hmn (hr.ext hE3) (hr1.ext hE3)).mono ?_)).mono ?_
  · rintro e w' ⟨rfl, hEE⟩
    exact ⟨by simpa using rR.ext hEE, .inr ⟨rfl, hEE⟩⟩
  · rintro e w' ⟨W1, ⟨h0, _⟩ | ⟨hEE, rfl, rfl⟩⟩
    · exact h0.elim
    · have HE := Lib.hid (hE.trans (((hE3.trans hEE).setCell (p := ⟨w1.heap.size + 1, 0, none⟩) (by simp) (.int .i64 7)).alloc (.cells #[.int .i64 7] 152)))
      simp only [World.size_alloc]
      clear hE3 rN rR hEE hE b0 b1
      go_wp2_with fail
      go_ret2
      exact ⟨rfl, HE.out⟩

end Go.Proofs.YtlcddcnmoajpjaaGreatDoor

namespace Go.Proofs.YtlcddcnmoajpjaaGreatDoor
open Go.RowKit
open Sp (rd)
/-- All that was there is as it was, but for box b. -/
abbrev But (b : Nat) (W W' : World) : Prop := Push b (.int .i64 0) (.int .i64 0) W W'
theorem But.set {b : Nat} {W W1 : World} (h : But b W W1) (v : Value) : But b W (W1.setCell ⟨b, 0, none⟩ v) :=
  ⟨h.os, h.tape, h.output, by simpa using h.size, fun k hk hb hv => ⟨(Below.heap_setCell _ _ _ _ hb).trans (h.block k hk hb hv).1, by simp [Value.ownBlock]⟩⟩
theorem But.ext {b : Nat} {W W1 W2 : World} (h : But b W W1) (he : Ext W1 W2) : But b W W2 := h.trans (Push.of_ext he)
theorem But.row' {b : Nat} {W W' : World} (h : But b W W') {g : Nat} {t : TypeId} {cs : Array Value} (hr : Row W g t cs) (hb : g ≠ b) : Row W' g t cs := h.row hr hb (by simp [Value.ownBlock])
theorem But.to_ext {b : Nat} {w W W' : World} (h : But b W W') (he : Ext w W) (hb : w.heap.size ≤ b) : Ext w W' :=
  ⟨h.os.trans he.os, h.tape.trans he.tape, h.output.trans he.output, Nat.le_trans he.size h.size, fun k hk => ((h.block k (Nat.lt_of_lt_of_le hk he.size) (by omega) (by simp [Value.ownBlock])).1).trans (he.block k hk)⟩

def CycRel (W : World) (bN : Nat) (s : Sp.Sky) (lim : Int) (wr : World) : Prop := ∃ k : Nat, k ≤ 400 ∧ (∀ j : Nat, j < k → lim < Sp.drift s (1 + j)) ∧ Row wr bN 3 #[.int .i64 (1 + (k : Int))] ∧ But bN W wr
def cycK (bN : Nat) (wr : World) : Nat := match wr.cell? ⟨bN, 0, none⟩ with
  | some (.int _ v) => (500 - v).toNat
  | _ => 0
theorem cycK_row {bN : Nat} {wr : World} {v : Int} (h : Row wr bN 3 #[.int .i64 v]) : cycK bN wr = (500 - v).toNat := by
  have := h.cell 0
  simp only [List.getElem?_toArray, List.getElem?_cons_zero] at this
  simp [cycK, this]
theorem cycleN_none (s : Sp.Sky) (lim : Int) : ∀ (m : Nat) (lo : Int), (∀ j : Nat, j < m → lim < Sp.drift s (lo + j)) → Sp.cycleN s lim lo m = none
  | 0, _, _ => rfl
  | m + 1, lo, h => by
    have h0 := h 0 (by omega)
    simp only [Int.natCast_zero, Int.add_zero] at h0
    simp only [Sp.cycleN, if_neg (Int.not_le.2 h0)]
    refine cycleN_none s lim m (lo + 1) fun j hj => ?_
    have := h (j + 1) (by omega)
    rwa [show lo + 1 + (j : Int) = lo + ((j + 1 : Nat) : Int) by omega]
theorem cycleN_some (s : Sp.Sky) (lim : Int) : ∀ (m : Nat) (lo : Int) (k : Nat), k < m → (∀ j : Nat, j < k → lim < Sp.drift s (lo + j)) → Sp.drift s (lo + k) ≤ lim → Sp.cycleN s lim lo m = some (lo + k)
  | 0, _, _, h, _, _ => by omega
  | m + 1, lo, 0, _, _, h1 => by
    simp only [Int.natCast_zero, Int.add_zero] at h1 ⊢
    simp [Sp.cycleN, h1]
  | m + 1, lo, k + 1, hk, h, h1 => by
    have h0 := h 0 (by omega)
    simp only [Int.natCast_zero, Int.add_zero] at h0
    simp only [Sp.cycleN, if_neg (Int.not_le.2 h0)]
    have := cycleN_some s lim m (lo + 1) k (by omega) (fun j hj => by
      have := h (j + 1) (by omega)
      rwa [show lo + 1 + (j : Int) = lo + ((j + 1 : Nat) : Int) by omega]) (by rwa [show lo + 1 + (k : Int) = lo + ((k + 1 : Nat) : Int) by omega])
    rw [this]
    congr 1
    omega
def CycPost (W : World) (bN : Nat) (s : Sp.Sky) (lim : Int) (e : Ending) (w' : World) : Prop := But bN W w' ∧
  ((e = .returned (.tuple #[]) ∧ ∃ v, Sp.cycleO s lim = some v ∧ Row w' bN 3 #[.int .i64 v]) ∨ (e = .panicked [{ v := .iface 152 (.agg #[.int .i64 5]), recovered := false }] ∧ Sp.cycleO s lim = none))
set_option maxHeartbeats 1000000 in
theorem cycle1_any (s : Sp.Sky) (A : Option Addr) (c : Nat) (bS bL bN : Nat) (lim n : Int) (W : World) (hs : SkyOk s) (h : Sp.isMonth s = true) (rS : Row W bS 28 #[.slice A s.bodies.length c, .int .i64 s.nnum, .int .i64 s.nden, .int .i64 s.nstart])
    (rL : Row W bL 3 #[.int .i64 lim]) (rN : Row W bN 3 #[.int .i64 n]) (hm0 : ∀ W', But bN W W' → Bodies W' A s.bodies) (hne : bL ≠ bN) :
    Calls Tryz.prog 137 #[.pointer (some ⟨bN, 0, none⟩), .pointer (some ⟨bS, 0, none⟩), .pointer (some ⟨bL, 0, none⟩)] W (CycPost W bN s lim) := by
  have hneS : bS ≠ bN := by
    rintro rfl
    unfold Row at rS rN
    rw [rS] at rN
    cases rN
  have HM := Lib.hid hm0
  clear hm0
  have cN := rN.cell
  have fN := rN.free
  go_enter Tryz.func137, Tryz.ntmps137
  go_wp2_with fail
  go_loopw [] (fun wr => CycRel W bN s lim wr) (fun wr => cycK bN wr)
  case atStart => exact ⟨0, by omega, fun j hj => by omega, by simpa using rN.set_ 0 (.int .i64 1), But.set (Push.of_ext (Ext.refl _)) _⟩
  case round =>
    obtain ⟨k, hk, hno, rK, hB⟩ := hrel
    have HNO := Lib.hid hno
    have hmW := HM.out _ hB
    have rS' := hB.row' rS hneS
    have rL' := hB.row' rL hne
    have cK := rK.cell
    have fK := rK.free
    clear hno cN fN
    by_cases h4 : k < 400
    · by_cases hd : Sp.drift s (1 + (k : Int)) ≤ lim
      · have HD := Lib.hid hd
        go_wp2_with fail
        refine wp_region_later (by kernel_rfl) (by kernel_rfl) (fun WW hW => ?_)
        have q1 := Later.block (w := WW) (by rw [hW]; exact rS')
        have q2 := Later.block (w := WW) (by rw [hW]; exact rL')
        have q3 := Later.block (w := WW) (by rw [hW]; exact rK)
        have HB := Lib.hid (fun X : Later WW => (by rw [hW]; exact hmW : Bodies WW A s.bodies).ext X.ext)
        repeat (go_big_quiet_step ((go_at_call 136; exact Later.call (drift_ok s A c _ _ hs (by exact HB.out _) h (by omega) (by omega)))))
        refine wpQuiet_nil ?_
        rintro ⟨W2, hE4⟩
        subst hW
        have rK2 := rK.ext hE4
        have hB2 := hB.ext hE4
        clear q1 q2 q3 cK fK
        go_wp2_with fail
        go_end0
        exact ⟨hB2, .inl ⟨rfl, _, cycleN_some s lim 400 1 k h4 HNO.out HD.out, rK2⟩⟩
      · have HD := Lib.hid hd
        go_wp2_with fail
        refine wp_region_later (by kernel_rfl) (by kernel_rfl) (fun WW hW => ?_)
        have q1 := Later.block (w := WW) (by rw [hW]; exact rS')
        have q2 := Later.block (w := WW) (by rw [hW]; exact rL')
        have q3 := Later.block (w := WW) (by rw [hW]; exact rK)
        have HB := Lib.hid (fun X : Later WW => (by rw [hW]; exact hmW : Bodies WW A s.bodies).ext X.ext)
        repeat (go_big_quiet_step ((go_at_call 136; exact Later.call (drift_ok s A c _ _ hs (by exact HB.out _) h (by omega) (by omega)))))
        refine wpQuiet_nil ?_
        rintro ⟨W2, hE4⟩
        subst hW
        have rK2 := rK.ext hE4
        have hB2 := hB.ext hE4
        have cK2 := rK2.cell
        have fK2 := rK2.free
        clear q1 q2 q3 cK fK
        go_wp2_with fail
        have rK3 := rK2.set_ 0 (.int .i64 (1 + (k : Int) + 1))
        simp only [List.setIfInBounds_toArray, List.set_cons_zero] at rK3
        refine ⟨⟨k + 1, by omega, fun j hj => ?_, by rw [show (1 + ((k + 1 : Nat) : Int)) = 1 + (k : Int) + 1 by omega]; exact rK3, hB2.set _⟩, ?_⟩
        · rcases Nat.lt_or_ge j k with h' | h'
          · exact HNO.out j h'
          · obtain rfl : j = k := by omega
            first | exact HD.out | exact Int.not_le.1 HD.out
        · rw [cycK_row rK, cycK_row rK3]; omega
    · obtain rfl : k = 400 := by omega
      go_wp2_with fail
      exact ⟨rfl, hB, .inr ⟨rfl, cycleN_none s lim 400 1 HNO.out⟩⟩
end Go.Proofs.YtlcddcnmoajpjaaGreatDoor

namespace Go.Proofs.YtlcddcnmoajpjaaGreatDoor
open Go.RowKit
open Sp (rd)

set_option maxHeartbeats 1000000 in
theorem cycle1_no (s : Sp.Sky) (A : Option Addr) (c : Nat) (bS bL bN : Nat) (lim n : Int) (W : World) (hs : SkyOk s) (hm : Bodies (W.setCell ⟨bN, 0, none⟩ (.int .i64 1)) A s.bodies) (h : Sp.isMonth s = false) (rS : Row W bS 28 #[.slice A s.bodies.length c, .int .i64 s.nnum, .int .i64 s.nden, .int .i64 s.nstart])
    (rL : Row W bL 3 #[.int .i64 lim]) (rN : Row W bN 3 #[.int .i64 n]) (hne : bL ≠ bN) :
    Calls Tryz.prog 137 #[.pointer (some ⟨bN, 0, none⟩), .pointer (some ⟨bS, 0, none⟩), .pointer (some ⟨bL, 0, none⟩)] W fun e w' => e = .panicked [{ v := .iface 152 (.agg #[.int .i64 7]), recovered := false }] ∧ But bN W w' := by
  have hneS : bS ≠ bN := by
    rintro rfl
    unfold Row at rS rN
    rw [rS] at rN
    cases rN
  have cN := rN.cell
  have fN := rN.free
  have hB : But bN W (W.setCell ⟨bN, 0, none⟩ (.int .i64 1)) := But.set (Push.of_ext (Ext.refl _)) _
  have c1 := (hB.row' rS hneS).cell
  have c2 := (hB.row' rL hne).cell
  have c3 := (rN.set_ 0 (.int .i64 1)).cell
  simp only [List.setIfInBounds_toArray, List.set_cons_zero] at c3
  go_enter Tryz.func137, Tryz.ntmps137
  go_wp2_with fail
  obtain ⟨W0, hW0⟩ : ∃ W0, W.setCell ⟨bN, 0, none⟩ (.int .i64 1) = W0 := ⟨_, rfl⟩
  rw [hW0] at hB hm c1 c2 c3 ⊢
  clear hW0 cN fN
  refine wp_loop_rounds 1 ?_
  rw [rounds_succ]
  go_wp2_with fail
  have g1 := c1 0
  have g2 := c1 1
  have g3 := c1 2
  have g4 := c1 3
  have g5 := c2 0
  have g6 := c3 0
  simp only [List.getElem?_toArray, List.getElem?_cons_zero, List.getElem?_cons_succ] at g1 g2 g3 g4 g5
  refine wp_region_held (S := fun w' => w' = W0.drew) (by kernel_rfl) ?_
  show wpAnyH _ _ _ _ _ (4 + 1) _ _ _
  refine wpAnyH_take (i := 0) (v := .agg #[.slice A s.bodies.length c, .int .i64 s.nnum, .int .i64 s.nden, .int .i64 s.nstart]) rfl (by kernel_rfl) (by kernel_rfl) (by kernel_rfl) (fun _ _ _ hh => hh) (.inl ⟨by kernel_rfl, ?_⟩) rfl ?_
  · rintro w' rfl
    simp [go_sem, g1, g2, g3, g4]
  refine wpAnyH_take (i := 1) (v := .int .i64 1) rfl (by kernel_rfl) (by kernel_rfl) (by kernel_rfl) (fun _ _ _ hh => hh) (.inl ⟨by kernel_rfl, ?_⟩) rfl ?_
  · rintro w' rfl
    simp [go_sem, g6]
  refine wpAnyH_take (i := 3) (v := .int .i64 lim) rfl (by kernel_rfl) (by kernel_rfl) (by kernel_rfl) (fun _ _ _ hh => hh) (.inl ⟨by kernel_rfl, ?_⟩) rfl ?_
  · rintro w' rfl
    simp [go_sem, g5]
  refine wpAnyH_all (rs := [2]) (by kernel_rfl) (by simp) (fun i hi => ?_)
  obtain rfl : i = 2 := by simpa using hi
  unfold wpOp
  simp only [List.getElem?_toArray, List.getElem?_cons_zero, List.getElem?_cons_succ]
  rw [if_pos (by kernel_rfl)]
  refine .inl ?_
  unfold Oper.wp
  simp [go_sem]
  refine (drift_no s A c 1 _ hs (hm.ext (Ext.refl _).drew) h).mono ?_
  rintro e w' ⟨rfl, hE⟩
  exact ⟨rfl, rfl, (hB.ext (Ext.refl _).drew).ext hE⟩
end Go.Proofs.YtlcddcnmoajpjaaGreatDoor

namespace Go.Proofs.YtlcddcnmoajpjaaGreatDoor
open Go.RowKit
open Sp (rd)

/-- Two boxes made; the first one turned: what was there before is there. -/
theorem Bodies.but {w W W' : World} {b : Nat} {A : Option Addr} {l : List Sp.Body} (h : Bodies w A l) (he : Ext w W) (hb : But b W W') (hl : w.heap.size ≤ b) : Bodies W' A l := h.ext (hb.to_ext he hl)
def cycleV (s : Sp.Sky) (lim : Int) : Value := match Sp.cycleO s lim with
  | some v => .tuple #[.int .i64 v, .int .i64 0]
  | none => .tuple #[.int .i64 0, .int .i64 5]

theorem Cycle_err (s : Sp.Sky) (A : Option Addr) (c : Nat) (m : Int) (w : World) (hm : Bodies w A s.bodies) (hl : Short s.bodies) (h : (Sp.skyOk s && (Sp.isLimit m)) = false) :
    Calls Tryz.prog 70 #[.agg #[.slice A s.bodies.length c, .int .i64 s.nnum, .int .i64 s.nden, .int .i64 s.nstart], .int .i64 m] w fun e w' => e = .returned (.tuple #[.int .i64 0, .int .i64 2]) ∧ Ext w w' := by
  have hl1 := hl.1
  have HL := Lib.hid hl
  have HM := Lib.hid hm
  clear hm hl
  cases c0 : Sp.skyOk s
  · clear h
    go_enter Tryz.func70, Tryz.ntmps70
    go_wp2_with fail
    refine (isSky_any s A c _ (HM.out.ext (((Ext.refl w).alloc _).alloc _)) HL.out).mono ?_
    rintro e w1 ⟨rfl, hE1⟩
    have hE := (((Ext.refl w).alloc _).alloc _).trans hE1
    have hr : Row w1 w.heap.size 28 _ := Row.ext (blocks2 w _ _ ).1 hE1
    have hr1 : Row w1 (w.heap.size + 1) 3 _ := Row.ext (blocks2 w _ _ ).2 hE1
    have b0 := hr.cell
    have b1 := hr1.cell
    clear hE1
    go_wp2_with fail
    go_ret2
    exact ⟨rfl, hE⟩
  cases c1 : Sp.isLimit m
  · clear h
    go_enter Tryz.func70, Tryz.ntmps70
    go_wp2_with fail
    refine (isSky_any s A c _ (HM.out.ext (((Ext.refl w).alloc _).alloc _)) HL.out).mono ?_
    rintro e w1 ⟨rfl, hE1⟩
    have hE := (((Ext.refl w).alloc _).alloc _).trans hE1
    have hr : Row w1 w.heap.size 28 _ := Row.ext (blocks2 w _ _ ).1 hE1
    have hr1 : Row w1 (w.heap.size + 1) 3 _ := Row.ext (blocks2 w _ _ ).2 hE1
    have b0 := hr.cell
    have b1 := hr1.cell
    clear hE1
    go_wp2_with fail
    refine (isLimit_any m _).mono ?_
    rintro e w0 ⟨rfl, rfl⟩
    go_wp2_with fail
    go_ret2
    exact ⟨rfl, hE⟩
  · simp [c0, c1] at h

theorem Cycle_ok (s : Sp.Sky) (A : Option Addr) (c : Nat) (m : Int) (w : World) (hm : Bodies w A s.bodies) (hl : Short s.bodies) (hmn : Sp.isMonth s = true) (c0 : Sp.skyOk s = true) (c1 : Sp.isLimit m = true) :
    Calls Tryz.prog 70 #[.agg #[.slice A s.bodies.length c, .int .i64 s.nnum, .int .i64 s.nden, .int .i64 s.nstart], .int .i64 m] w fun e w' => e = .returned (cycleV s m) ∧ Ext w w' := by
  have hl1 := hl.1
  have HL := Lib.hid hl
  have HM := Lib.hid hm
  clear hm hl
  go_enter Tryz.func70, Tryz.ntmps70
  go_wp2_with fail
  refine (isSky_any s A c _ (HM.out.ext (((Ext.refl w).alloc _).alloc _)) HL.out).mono ?_
  rintro e w1 ⟨rfl, hE1⟩
  have hE := (((Ext.refl w).alloc _).alloc _).trans hE1
  have hr : Row w1 w.heap.size 28 _ := Row.ext (blocks2 w _ _ ).1 hE1
  have hr1 : Row w1 (w.heap.size + 1) 3 _ := Row.ext (blocks2 w _ _ ).2 hE1
  have b0 := hr.cell
  have b1 := hr1.cell
  clear hE1
  go_wp2_with fail
  refine (isLimit_any m _).mono ?_
  rintro e w0 ⟨rfl, rfl⟩
  have hmf : ∀ (fn : Fn) (first cap : Array Value) (w : World), (Instr.makeFunc fn first cap).run Tryz.prog w = .ok (.func fn first cap) w := fun _ _ _ _ => rfl
  have HK := Lib.hid (skyOk_iff.1 c0)
  have hE3 : Ext w1 ((w1.alloc (.cells #[.int .i64 0] 3)).alloc (.cells #[.int .i64 0] 32)) := ((Ext.refl w1).alloc _).alloc _
  have rN : Row ((w1.alloc (.cells #[.int .i64 0] 3)).alloc (.cells #[.int .i64 0] 32)) w1.heap.size 3 #[.int .i64 0] := (blocks2 w1 _ _).1
  have rR : Row ((w1.alloc (.cells #[.int .i64 0] 3)).alloc (.cells #[.int .i64 0] 32)) (w1.heap.size + 1) 32 #[.int .i64 0] := (blocks2 w1 _ _).2
  have hz := hr.lt
  have hz1 := hr1.lt
  cases hO : Sp.cycleO s m with
  | some v =>
    have hV : cycleV s m = .tuple #[.int .i64 v, .int .i64 0] := by simp [cycleV, hO]
    have HV := Lib.hid hV
    clear hV
    go_wp2_with fail
    refine (try_any 137 _ 5 _ (fun w' => But w1.heap.size ((w1.alloc (.cells #[.int .i64 0] 3)).alloc (.cells #[.int .i64 0] 32)) w' ∧ Row w' w1.heap.size 3 #[.int .i64 v]) (fun _ => False) (enters_of Tryz.func137 (by kernel_rfl) rfl)
      ((cycle1_any s A c w.heap.size (w.heap.size + 1) w1.heap.size m 0 _ HK.out hmn (hr.ext hE3) (hr1.ext hE3) rN (fun W' hW' => HM.out.but (hE.trans hE3) hW' (by omega)) (by omega)).mono ?_)).mono ?_
    · rintro e w' ⟨hB, ⟨rfl, v', hv', rV⟩ | ⟨rfl, hv'⟩⟩
      · rw [hO] at hv'
        cases hv'
        exact ⟨by simpa using hB.row' rR (by omega), .inl ⟨rfl, hB, rV⟩⟩
      · rw [hO] at hv'
        cases hv'
    · rintro e w' ⟨W2, ⟨⟨hB, rV⟩, rfl, rfl⟩ | ⟨h0, _⟩⟩
      · simp only [World.size_alloc]
        have sN : Row (W2.setCell ⟨w1.heap.size + 1, 0, none⟩ (.int .i64 0)) w1.heap.size 3 #[.int .i64 v] := rV.far (p := ⟨w1.heap.size + 1, 0, none⟩) (by simp) _
        have cN := sN.cell
        have HE := Lib.hid ((hE.trans (hB.to_ext hE3 (Nat.le_refl _))).setCell (p := ⟨w1.heap.size + 1, 0, none⟩) (by simp; omega) (.int .i64 0))
        clear hE3 rN rR hE b0 b1 sN hB rV hO
        go_wp2_with fail
        go_ret2
        exact ⟨by rw [HV.out]; rfl, HE.out⟩
      · exact h0.elim
  | none =>
    have hV : cycleV s m = .tuple #[.int .i64 0, .int .i64 5] := by simp [cycleV, hO]
    have HV := Lib.hid hV
    clear hV
    go_wp2_with fail
    refine (try_any 137 _ 5 _ (fun _ => False) (fun w' => But w1.heap.size ((w1.alloc (.cells #[.int .i64 0] 3)).alloc (.cells #[.int .i64 0] 32)) w') (enters_of Tryz.func137 (by kernel_rfl) rfl)
      ((cycle1_any s A c w.heap.size (w.heap.size + 1) w1.heap.size m 0 _ HK.out hmn (hr.ext hE3) (hr1.ext hE3) rN (fun W' hW' => HM.out.but (hE.trans hE3) hW' (by omega)) (by omega)).mono ?_)).mono ?_
    · rintro e w' ⟨hB, ⟨rfl, v', hv', rV⟩ | ⟨rfl, hv'⟩⟩
      · rw [hO] at hv'
        cases hv'
      · exact ⟨by simpa using hB.row' rR (by omega), .inr ⟨rfl, hB⟩⟩
    · rintro e w' ⟨W2, ⟨h0, _⟩ | ⟨hB, rfl, rfl⟩⟩
      · exact h0.elim
      · have HE := Lib.hid (((hE.trans (hB.to_ext hE3 (Nat.le_refl _))).setCell (p := ⟨w1.heap.size + 1, 0, none⟩) (by simp; omega) (.int .i64 5)).alloc (.cells #[.int .i64 5] 152))
        simp only [World.size_alloc]
        clear hE3 rN rR hE b0 b1 hB hO
        go_wp2_with fail
        go_ret2
        exact ⟨by rw [HV.out]; rfl, HE.out⟩

theorem CycleNo_ok (s : Sp.Sky) (A : Option Addr) (c : Nat) (m : Int) (w : World) (hm : Bodies w A s.bodies) (hl : Short s.bodies) (hmn : Sp.isMonth s = false) (c0 : Sp.skyOk s = true) (c1 : Sp.isLimit m = true) :
    Calls Tryz.prog 70 #[.agg #[.slice A s.bodies.length c, .int .i64 s.nnum, .int .i64 s.nden, .int .i64 s.nstart], .int .i64 m] w fun e w' => e = .returned (.tuple #[.int .i64 0, .int .i64 7]) ∧ Ext w w' := by
  have hl1 := hl.1
  have HL := Lib.hid hl
  have HM := Lib.hid hm
  clear hm hl
  go_enter Tryz.func70, Tryz.ntmps70
  go_wp2_with fail
  refine (isSky_any s A c _ (HM.out.ext (((Ext.refl w).alloc _).alloc _)) HL.out).mono ?_
  rintro e w1 ⟨rfl, hE1⟩
  have hE := (((Ext.refl w).alloc _).alloc _).trans hE1
  have hr : Row w1 w.heap.size 28 _ := Row.ext (blocks2 w _ _ ).1 hE1
  have hr1 : Row w1 (w.heap.size + 1) 3 _ := Row.ext (blocks2 w _ _ ).2 hE1
  have b0 := hr.cell
  have b1 := hr1.cell
  clear hE1
  go_wp2_with fail
  refine (isLimit_any m _).mono ?_
  rintro e w0 ⟨rfl, rfl⟩
  have hmf : ∀ (fn : Fn) (first cap : Array Value) (w : World), (Instr.makeFunc fn first cap).run Tryz.prog w = .ok (.func fn first cap) w := fun _ _ _ _ => rfl
  have HK := Lib.hid (skyOk_iff.1 c0)
  have hE3 : Ext w1 ((w1.alloc (.cells #[.int .i64 0] 3)).alloc (.cells #[.int .i64 0] 32)) := ((Ext.refl w1).alloc _).alloc _
  have rN : Row ((w1.alloc (.cells #[.int .i64 0] 3)).alloc (.cells #[.int .i64 0] 32)) w1.heap.size 3 #[.int .i64 0] := (blocks2 w1 _ _).1
  have rR : Row ((w1.alloc (.cells #[.int .i64 0] 3)).alloc (.cells #[.int .i64 0] 32)) (w1.heap.size + 1) 32 #[.int .i64 0] := (blocks2 w1 _ _).2
  have hz := hr.lt
  have hz1 := hr1.lt
  go_wp2_with fail
  refine (try_any 137 _ 7 _ (fun _ => False) (fun w' => But w1.heap.size ((w1.alloc (.cells #[.int .i64 0] 3)).alloc (.cells #[.int .i64 0] 32)) w') (enters_of Tryz.func137 (by kernel_rfl) rfl)
    ((cycle1_no s A c w.heap.size (w.heap.size + 1) w1.heap.size m 0 _ HK.out (HM.out.but (hE.trans hE3) (But.set (Push.of_ext (Ext.refl _)) _) (by omega)) hmn (hr.ext hE3) (hr1.ext hE3) rN (by omega)).mono ?_)).mono ?_
  · rintro e w' ⟨rfl, hB⟩
    exact ⟨by simpa using hB.row' rR (by omega), .inr ⟨rfl, hB⟩⟩
  · rintro e w' ⟨W2, ⟨h0, _⟩ | ⟨hB, rfl, rfl⟩⟩
    · exact h0.elim
    · have HE := Lib.hid (((hE.trans (hB.to_ext hE3 (Nat.le_refl _))).setCell (p := ⟨w1.heap.size + 1, 0, none⟩) (by simp; omega) (.int .i64 7)).alloc (.cells #[.int .i64 7] 152))
      simp only [World.size_alloc]
      clear hE3 rN rR hE b0 b1 hB
      go_wp2_with fail
      go_ret2
      exact ⟨rfl, HE.out⟩

end Go.Proofs.YtlcddcnmoajpjaaGreatDoor
