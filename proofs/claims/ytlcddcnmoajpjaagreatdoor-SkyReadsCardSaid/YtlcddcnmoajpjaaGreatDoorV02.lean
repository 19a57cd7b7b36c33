/- Sky1: The walks of layer 5, part 1: ranges, quotients, the ways of bodies and of the node, what one body is ahead of another.
Sky2: The walks of layer 5, part 2: the way of a body, of sun, moon and node, how far one body is ahead of another.
Sky3: The walks of layer 5, part 3: the node, how far the moon is ahead of the sun and from the node, roundings.
Pred: The walks of layer 5: which numbers, periods, bodies and skies are as defined. -/
import Derived.Test.YtlcddcnmoajpjaaGreatDoorV01
namespace Go.Proofs.YtlcddcnmoajpjaaGreatDoor
open Go.RowKit
open Sp (rd)

theorem lts {b n : Nat} (h : b < n) : b < n ∧ b < n + 1 ∧ b < n + 2 ∧ b < n + 3 ∧ b < n + 4 ∧ b ≤ n ∧ b ≤ n + 1 ∧ b ≤ n + 2 ∧ b ≤ n + 3 := by omega
theorem blocks1 (w : World) (o : Obj) : (w.alloc o).heap[w.heap.size]? = some o := heap_alloc_new w o
theorem blocks2 (w : World) (o1 o2 : Obj) : ((w.alloc o1).alloc o2).heap[w.heap.size]? = some o1 ∧ ((w.alloc o1).alloc o2).heap[w.heap.size + 1]? = some o2 :=
  ⟨(Below.heap_alloc _ _ _ (by simp)).trans (heap_alloc_new w o1), by have := heap_alloc_new (w.alloc o1) o2; simpa using this⟩
theorem Later.block {w : World} {g : Nat} {cs : Array Value} {t : TypeId} {fr : Nat × Nat} (h : w.heap[g]? = some (.cells cs t fr)) (x : Later w) (i : Nat) : x.world.cell? ⟨g, i, none⟩ = cs[i]? := by
  have hlt : g < w.heap.size := by
    rcases Nat.lt_or_ge g w.heap.size with h' | h'
    · exact h'
    · rw [Array.getElem?_eq_none h'] at h; cases h
  exact cell_of_row x.world g i cs t fr ((x.ext.block g hlt).trans h)
theorem ret_ints2 {k l : IntKind} {a b c d : Int} (h : a = c) (h' : b = d) : Ending.returned (.tuple #[.int k a, .int l b]) = .returned (.tuple #[.int k c, .int l d]) := by rw [h, h']
theorem Ext.rfl_of {w w' : World} (h : w = w') : Ext w w' := h ▸ Ext.refl w

theorem in_any (x lo hi : Int) (w : World) : Calls Tryz.prog 104 #[.int .i64 x, .int .i64 lo, .int .i64 hi] w fun e w' => e = .returned (.bool (Sp.inR x lo hi)) ∧ w = w' := by
  go_enter Tryz.func104, Tryz.ntmps104
  go_wp2
  · go_ret
    exact ⟨ret_bool (by simp [Sp.inR, *]), rfl⟩
  · go_ret
    exact ⟨ret_bool (by simp [Sp.inR, *]; omega), rfl⟩

theorem floor_any (a b : Int) (w : World) (hb : 1 ≤ b) (h1 : -4000000000000000000 ≤ a) (h2 : a ≤ 4000000000000000000) (h3 : b ≤ 4000000000000000000) :
    Calls Tryz.prog 148 #[.int .i64 a, .int .i64 b] w fun e w' => e = .returned (.tuple #[.int .i64 (a / b), .int .i64 (a % b)]) ∧ Ext w w' := by
  by_cases h0 : 0 ≤ a
  · have hm := emod_bounds a b hb
    go_enter Tryz.func148, Tryz.ntmps148
    go_wp2_with fail
    go_quiet (fail)
    go_wp2
    go_ret2
    exact ⟨rfl, (Ext.refl _).drewN _⟩
  · have hm := tmod_bounds a b hb (by omega)
    have hq := tdiv_bounds a b hb (by omega)
    by_cases hr : a.tmod b < 0
    · have F := Lib.hid (tdiv_neg a b hb (by omega) hr)
      go_enter Tryz.func148, Tryz.ntmps148
      go_wp2_with fail
      go_quiet (fail)
      go_wp2
      go_ret2
      exact ⟨ret_ints2 F.out.1 F.out.2, (Ext.refl _).drewN _⟩
    · have F := Lib.hid (tdiv_zero a b hb (by omega) (by omega))
      go_enter Tryz.func148, Tryz.ntmps148
      go_wp2_with fail
      go_quiet (fail)
      go_wp2
      go_ret2
      exact ⟨ret_ints2 F.out.1 F.out.2, (Ext.refl _).drewN _⟩
/-- The quotient and the rest by their names. -/
theorem floor_to (a b q r : Int) (w : World) (hb : 1 ≤ b) (h1 : -4000000000000000000 ≤ a) (h2 : a ≤ 4000000000000000000) (h3 : b ≤ 4000000000000000000) (h : a = q * b + r) (hr : 0 ≤ r) (hr' : r < b) :
    Calls Tryz.prog 148 #[.int .i64 a, .int .i64 b] w fun e w' => e = .returned (.tuple #[.int .i64 q, .int .i64 r]) ∧ Ext w w' := by
  have e : a / b = q ∧ a % b = r := by
    subst h
    constructor
    · rw [Int.add_comm, Int.add_mul_ediv_right _ _ (by omega), Int.ediv_eq_zero_of_lt hr hr', Int.zero_add]
    · rw [Int.add_comm, Int.add_mul_emod_self_right, Int.emod_eq_of_lt hr hr']
  have := floor_any a b w hb h1 h2 h3
  rwa [e.1, e.2] at this

theorem around_any (a : Int) (w : World) (h1 : -4000000000000000000 ≤ a) (h2 : a ≤ 4000000000000000000) :
    Calls Tryz.prog 96 #[.int .i64 a] w fun e w' => e = .returned (.int .i64 (a % 21600)) ∧ Ext w w' := by
  go_enter Tryz.func96, Tryz.ntmps96
  go_wp2_with (go_at_call 148; refine (floor_any _ _ _ (by omega) (by omega) (by omega) (by omega)).mono ?_; rintro e w' ⟨rfl, hb⟩)
  go_ret
  exact ⟨rfl, by assumption⟩

theorem gone_any (A : Option Addr) (n c : Nat) (x y z day num den : Int) (w : World) (h1 : 0 ≤ day) (h2 : day ≤ 20000) (h3 : 1 ≤ num) (h4 : num ≤ 10000) (h5 : 1 ≤ den) (h6 : den ≤ 10000) :
    Calls Tryz.prog 151 #[.agg #[.slice A n c, .int .i64 x, .int .i64 y, .int .i64 z, .int .i64 day], .agg #[.int .i64 num, .int .i64 den]] w fun e w' => e = .returned (.int .i64 (Sp.gone num den day)) ∧ Ext w w' := by
  have k0 : 0 ≤ day * 21600 * den := Int.mul_nonneg (by omega) (by omega)
  have k1 : day * 21600 * den ≤ 432000000 * 10000 := Int.mul_le_mul (by omega) (by omega) (by omega) (by omega)
  go_enter Tryz.func151, Tryz.ntmps151
  go_wp2_with (go_at_call 148; refine (floor_any _ _ _ (by omega) (by omega) (by omega) (by omega)).mono ?_; rintro e w' ⟨rfl, hb⟩)
  go_ret
  exact ⟨rfl, (((Ext.refl _).alloc _).alloc _).trans ‹_›⟩

theorem sum2_any (b o c : Nat) (x y : Int) (w : World) (hx : w.cell? ⟨b, o, none⟩ = some (.int .i64 x)) (hy : w.cell? ⟨b, o + 1, none⟩ = some (.int .i64 y))
    (h1 : -1000000000000000000 ≤ x) (h2 : x ≤ 1000000000000000000) (h3 : -1000000000000000000 ≤ y) (h4 : y ≤ 1000000000000000000) :
    Calls Tryz.prog 150 #[.slice (some ⟨b, o, none⟩) 2 c] w fun e w' => e = .returned (.int .i64 (x + y)) ∧ w = w' := by
  go_enter Tryz.func150, Tryz.ntmps150
  go_wp2
  refine wp_loop_rounds 3 ?_
  rw [rounds_succ]
  go_wp2
  rw [rounds_succ]
  go_wp2
  rw [rounds_succ]
  go_wp2
  go_ret
  exact ⟨rfl, rfl⟩
theorem sum2_new (x y : Int) (w : World) (h1 : -1000000000000000000 ≤ x) (h2 : x ≤ 1000000000000000000) (h3 : -1000000000000000000 ≤ y) (h4 : y ≤ 1000000000000000000) :
    Calls Tryz.prog 150 #[.slice (some ⟨w.heap.size, 0, none⟩) 2 2] (w.alloc (.cells #[.int .i64 x, .int .i64 y] 3)) fun e w' => e = .returned (.int .i64 (x + y)) ∧ Ext w w' :=
  (sum2_any _ _ _ x y _ (by simp) (by simp) h1 h2 h3 h4).mono fun _ _ ⟨he, hw⟩ => ⟨he, hw ▸ (Ext.refl _).alloc _⟩
theorem sum3_any (b o c : Nat) (x y z : Int) (w : World) (hx : w.cell? ⟨b, o, none⟩ = some (.int .i64 x)) (hy : w.cell? ⟨b, o + 1, none⟩ = some (.int .i64 y)) (hz : w.cell? ⟨b, o + 2, none⟩ = some (.int .i64 z))
    (h1 : -1000000000000000000 ≤ x) (h2 : x ≤ 1000000000000000000) (h3 : -1000000000000000000 ≤ y) (h4 : y ≤ 1000000000000000000) (h5 : -1000000000000000000 ≤ z) (h6 : z ≤ 1000000000000000000) :
    Calls Tryz.prog 150 #[.slice (some ⟨b, o, none⟩) 3 c] w fun e w' => e = .returned (.int .i64 (x + y + z)) ∧ w = w' := by
  go_enter Tryz.func150, Tryz.ntmps150
  go_wp2
  refine wp_loop_rounds 4 ?_
  rw [rounds_succ]
  go_wp2
  rw [rounds_succ]
  go_wp2
  rw [rounds_succ]
  go_wp2
  rw [rounds_succ]
  go_wp2
  go_ret
  exact ⟨rfl, rfl⟩
theorem sum3_new (x y z : Int) (w : World) (h1 : -1000000000000000000 ≤ x) (h2 : x ≤ 1000000000000000000) (h3 : -1000000000000000000 ≤ y) (h4 : y ≤ 1000000000000000000) (h5 : -1000000000000000000 ≤ z) (h6 : z ≤ 1000000000000000000) :
    Calls Tryz.prog 150 #[.slice (some ⟨w.heap.size, 0, none⟩) 3 3] (w.alloc (.cells #[.int .i64 x, .int .i64 y, .int .i64 z] 3)) fun e w' => e = .returned (.int .i64 (x + y + z)) ∧ Ext w w' :=
  (sum3_any _ _ _ x y z _ (by simp) (by simp) (by simp) h1 h2 h3 h4 h5 h6).mono fun _ _ ⟨he, hw⟩ => ⟨he, hw ▸ (Ext.refl _).alloc _⟩

theorem mean_any (b o n c : Nat) (x y z day : Int) (i : Nat) (B : Sp.Body) (w : World) (hB : BodyAt w b (o + i * 4) B) (hi : i < n)
    (h1 : 0 ≤ day) (h2 : day ≤ 20000) (hk : BodyOk B) :
    Calls Tryz.prog 116 #[.agg #[.slice (some ⟨b, o, none⟩) n c, .int .i64 x, .int .i64 y, .int .i64 z, .int .i64 day], .int .i64 (i : Int)] w fun e w' => e = .returned (.int .i64 (Sp.mean B day)) ∧ Ext w w' := by
  have hg := gone_bounds h1 h2 hk.num1 hk.den1 hk.four
  obtain ⟨k1, k2, k3, k4, k5, k6, k7, _, _, _⟩ := hk
  obtain ⟨hnum, hden, hstart, A, rc, hroad, _⟩ := hB
  have hi' : (0 : Int) ≤ (i : Int) ∧ (i : Int) < (n : Int) := by omega
  have hb := lts (lt_of_cell hnum)
  simp only at hb
  go_enter Tryz.func116, Tryz.ntmps116
  go_wp2_with fail
  refine wp_region_later_tail 6 (by kernel_rfl) (by kernel_rfl) (fun W hW => ?_)
  have q1 := Later.block (w := W) (by rw [hW]; exact (blocks2 _ _ _).1)
  have q2 := Later.block (w := W) (by rw [hW]; exact (blocks2 _ _ _).2)
  have hE0 : Ext w W := by rw [hW]; exact ((Ext.refl _).alloc _).alloc _
  clear hW hnum hden hstart hroad hb
  simp only [List.take_succ_cons, List.take_zero, List.drop_succ_cons, List.drop_zero]
  repeat (go_big_quiet_step ((go_at_call 151; exact Later.call (gone_any _ _ _ _ _ _ _ _ _ _ (by omega) (by omega) (by omega) (by omega) (by omega) (by omega)))))
  refine wpQuiet_nil ?_
  rintro ⟨W1, hE⟩
  go_wp2_with (go_at_call 150; refine (sum2_new _ _ _ (by omega) (by omega) (by omega) (by omega)).mono ?_; rintro e w1 ⟨rfl, hE1⟩)
  go_ret
  exact ⟨rfl, hE0.trans (hE.trans ‹_›)⟩

end Go.Proofs.YtlcddcnmoajpjaaGreatDoor

namespace Go.Proofs.YtlcddcnmoajpjaaGreatDoor
open Go.RowKit
open Sp (rd)

set_option maxRecDepth 100000 in
theorem way_any (b o n c : Nat) (x y z day : Int) (i : Nat) (B : Sp.Body) (w : World) (hB : BodyAt w b (o + i * 4) B) (hi : i < n)
    (h1 : 0 ≤ day) (h2 : day ≤ 20000) (hk : BodyOk B) :
    Calls Tryz.prog 97 #[.agg #[.slice (some ⟨b, o, none⟩) n c, .int .i64 x, .int .i64 y, .int .i64 z, .int .i64 day], .int .i64 (i : Int)] w fun e w' => e = .returned (.int .i64 (Sp.way B day)) ∧ Ext w w' := by
  have HB := Lib.hid hB
  have HK := Lib.hid hk
  have hm := mean_bounds hk h1 h2
  obtain ⟨_, _, _, _, _, _, _, l1, l2, hro⟩ := hk
  obtain ⟨hnum, hden, hstart, A, rc, hroad, hints⟩ := hB
  obtain ⟨rb, ro, rfl, hcell⟩ := hints (by omega)
  obtain ⟨st, rs, nx, e1, hrs, hst, hnx, e2, e3, e4, e5⟩ := step_of (m := Sp.mean B day) l1
  have c1 := hcell st hst
  have c2 := hcell nx hnx
  have b1 := rd_bounds hro st
  have b2 := rd_bounds hro nx
  have kk := mul_bounds (a := rd B.road nx - rd B.road st) (b := rs) (A := 1200) (B := 21600) (by omega) (by omega) (by omega) (by omega)
  have fin : Sp.way B day = Sp.mean B day + rd B.road st + (rd B.road nx - rd B.road st) * (rs : Int) / 21600 := by
    unfold Sp.way Sp.errOf
    dsimp only
    rw [e4, e5, ← e3]
    omega
  rw [fin]
  have E1 := Lib.hid e1
  clear e1 e3 e4 e5 fin hnum hden hstart hcell hints
  generalize rd B.road st = p at *
  generalize rd B.road nx = q at *
  have hi' : (0 : Int) ≤ (i : Int) ∧ (i : Int) < (n : Int) := by omega
  have hb := lts (lt_of_cell hroad)
  have hb' := lts (lt_of_cell c1)
  simp only at hb hb'
  go_enter Tryz.func97, Tryz.ntmps97
  have hm2 := emod_bounds (Sp.mean B day) 21600 (by omega)
  have hl : 0 ≤ Sp.mean B day % 21600 * (B.road.length : Int) ∧ Sp.mean B day % 21600 * (B.road.length : Int) ≤ 172800 := by
    have := E1.out
    omega
  go_wp2_with fail
  refine (mean_any b o n c x y z day i B _ (by exact HB.out.ext ((Ext.refl w).alloc _)) hi h1 h2 HK.out).mono ?_
  rintro e w1 ⟨rfl, hE1⟩
  have hE : Ext w w1 := ((Ext.refl w).alloc _).trans hE1
  clear hE1
  go_wp2_with fail
  refine (around_any _ _ (by omega) (by omega)).mono ?_
  rintro e w2 ⟨rfl, hE2⟩
  replace hE := hE.trans hE2
  clear hE2
  go_wp2_with fail
  refine (floor_to _ _ (st : Int) (rs : Int) _ (by omega) (by omega) (by omega) (by omega) E1.out (by omega) (by omega)).mono ?_
  rintro e w3 ⟨rfl, hE3⟩
  replace hE := hE.trans hE3
  clear hE3
  replace c1 := hE.cell c1
  replace c2 := hE.cell c2
  go_wp2_with fail
  refine (floor_any _ _ _ (by omega) (by omega) (by omega) (by omega)).mono ?_
  rintro e w4 ⟨rfl, hE4⟩
  replace c1 := hE4.cell c1
  replace hE := hE.trans hE4
  clear hE4 c2
  have kd : -1200 ≤ (q - p) * (rs : Int) / 21600 ∧ (q - p) * (rs : Int) / 21600 ≤ 1200 := by omega
  go_wp2_with fail
  refine (sum3_new _ _ _ _ (by omega) (by omega) (by omega) (by omega) (by omega) (by omega)).mono ?_
  rintro e w5 ⟨rfl, hE5⟩
  replace hE := hE.trans hE5
  clear hE5
  go_wp2_with fail
  go_ret
  exact ⟨rfl, hE⟩

structure SkyOk (s : Sp.Sky) : Prop where
  n2 : 2 ≤ s.bodies.length
  n4 : s.bodies.length ≤ 4
  num1 : 1 ≤ s.nnum
  num2 : s.nnum ≤ 10000
  den1 : 1 ≤ s.nden
  den2 : s.nden ≤ 10000
  four : 4 * s.nden ≤ s.nnum
  start1 : 0 ≤ s.nstart
  start2 : s.nstart ≤ 21599
  all : ∀ k, k < s.bodies.length → BodyOk (bd s.bodies k)

theorem skyOk_iff {s : Sp.Sky} : Sp.skyOk s = true ↔ SkyOk s := by
  simp only [Sp.skyOk, Sp.period, Sp.spot, Bool.and_eq_true, inR_iff, decide_eq_true_eq, List.all_eq_true]
  constructor
  · rintro ⟨h0, ⟨h1, h2, h3⟩, h4, h5⟩
    refine ⟨by omega, by omega, by omega, by omega, by omega, by omega, by omega, by omega, by omega, fun k hk => bodyOk_iff.1 ?_⟩
    unfold bd
    rw [List.getD_eq_getElem?_getD, List.getElem?_eq_getElem hk]
    exact h5 _ (List.getElem_mem hk)
  · rintro ⟨a, b, c, d, e, f, g, h, i, j⟩
    refine ⟨by omega, ⟨by omega, by omega, by omega⟩, by omega, fun x hx => bodyOk_iff.2 ?_⟩
    obtain ⟨k, hk, rfl⟩ := List.mem_iff_getElem.1 hx
    have := j k hk
    unfold bd at this
    rwa [List.getD_eq_getElem?_getD, List.getElem?_eq_getElem hk] at this

theorem SkyOk.body {s : Sp.Sky} (h : SkyOk s) {i : Int} (h0 : 0 ≤ i) (h1 : i < s.bodies.length) : BodyOk (Sp.body s i) := h.all _ (by omega)
theorem Bodies.at_ {w : World} {A : Option Addr} {s : Sp.Sky} (h : Bodies w A s.bodies) {i : Int} (h0 : 0 ≤ i) (h1 : i < s.bodies.length) :
    ∃ b o, A = some ⟨b, o, none⟩ ∧ BodyAt w b (o + i.toNat * 4) (Sp.body s i) := by
  obtain ⟨b, o, e, hc⟩ := h (by omega)
  exact ⟨b, o, e, hc _ (by omega)⟩

theorem mean_sky (s : Sp.Sky) (A : Option Addr) (c : Nat) (x y z day i : Int) (w : World) (hs : SkyOk s) (hm : Bodies w A s.bodies) (h0 : 0 ≤ i) (h1 : i < s.bodies.length) (h2 : 0 ≤ day) (h3 : day ≤ 20000) :
    Calls Tryz.prog 116 #[.agg #[.slice A s.bodies.length c, .int .i64 x, .int .i64 y, .int .i64 z, .int .i64 day], .int .i64 i] w fun e w' => e = .returned (.int .i64 (Sp.mean (Sp.body s i) day)) ∧ Ext w w' := by
  obtain ⟨b, o, rfl, hb⟩ := hm.at_ h0 h1
  have := mean_any b o s.bodies.length c x y z day i.toNat _ w hb (by omega) h2 h3 (hs.body h0 h1)
  rwa [Int.toNat_of_nonneg h0] at this
theorem way_sky (s : Sp.Sky) (A : Option Addr) (c : Nat) (x y z day i : Int) (w : World) (hs : SkyOk s) (hm : Bodies w A s.bodies) (h0 : 0 ≤ i) (h1 : i < s.bodies.length) (h2 : 0 ≤ day) (h3 : day ≤ 20000) :
    Calls Tryz.prog 97 #[.agg #[.slice A s.bodies.length c, .int .i64 x, .int .i64 y, .int .i64 z, .int .i64 day], .int .i64 i] w fun e w' => e = .returned (.int .i64 (Sp.way (Sp.body s i) day)) ∧ Ext w w' := by
  obtain ⟨b, o, rfl, hb⟩ := hm.at_ h0 h1
  have := way_any b o s.bodies.length c x y z day i.toNat _ w hb (by omega) h2 h3 (hs.body h0 h1)
  rwa [Int.toNat_of_nonneg h0] at this
theorem way_sky_bounds {s : Sp.Sky} (hs : SkyOk s) {day i : Int} (h0 : 0 ≤ i) (h1 : i < s.bodies.length) (h2 : 0 ≤ day) (h3 : day ≤ 20000) : -1800 ≤ Sp.way (Sp.body s i) day ∧ Sp.way (Sp.body s i) day ≤ 108023399 :=
  way_bounds (hs.body h0 h1) h2 h3

theorem sun_any (s : Sp.Sky) (A : Option Addr) (c : Nat) (x y z day : Int) (w : World) (hs : SkyOk s) (hm : Bodies w A s.bodies) (h2 : 0 ≤ day) (h3 : day ≤ 20000) :
    Calls Tryz.prog 169 #[.agg #[.slice A s.bodies.length c, .int .i64 x, .int .i64 y, .int .i64 z, .int .i64 day]] w fun e w' => e = .returned (.int .i64 (Sp.way (Sp.body s 0) day)) ∧ Ext w w' := by
  have n2 := hs.n2
  have HS := Lib.hid hs
  have HM := Lib.hid hm
  clear hs hm
  go_enter Tryz.func169, Tryz.ntmps169
  go_wp2_with fail
  refine (way_sky s A c x y z day 0 _ HS.out (by exact HM.out.ext ((Ext.refl w).alloc _)) (by omega) (by omega) h2 h3).mono ?_
  rintro e w1 ⟨rfl, hE⟩
  replace hE := ((Ext.refl w).alloc _).trans hE
  go_wp2_with fail
  go_ret
  exact ⟨rfl, hE⟩
theorem moon_any (s : Sp.Sky) (A : Option Addr) (c : Nat) (x y z day : Int) (w : World) (hs : SkyOk s) (hm : Bodies w A s.bodies) (h2 : 0 ≤ day) (h3 : day ≤ 20000) :
    Calls Tryz.prog 149 #[.agg #[.slice A s.bodies.length c, .int .i64 x, .int .i64 y, .int .i64 z, .int .i64 day]] w fun e w' => e = .returned (.int .i64 (Sp.way (Sp.body s 1) day)) ∧ Ext w w' := by
  have n2 := hs.n2
  have HS := Lib.hid hs
  have HM := Lib.hid hm
  clear hs hm
  go_enter Tryz.func149, Tryz.ntmps149
  go_wp2_with fail
  refine (way_sky s A c x y z day 1 _ HS.out (by exact HM.out.ext ((Ext.refl w).alloc _)) (by omega) (by omega) h2 h3).mono ?_
  rintro e w1 ⟨rfl, hE⟩
  replace hE := ((Ext.refl w).alloc _).trans hE
  go_wp2_with fail
  go_ret
  exact ⟨rfl, hE⟩

theorem ahead_any (s : Sp.Sky) (A : Option Addr) (c : Nat) (x y z day i j : Int) (w : World) (hs : SkyOk s) (hm : Bodies w A s.bodies) (h0 : 0 ≤ i) (h1 : i < s.bodies.length) (h4 : 0 ≤ j) (h5 : j < s.bodies.length) (h2 : 0 ≤ day) (h3 : day ≤ 20000) :
    Calls Tryz.prog 117 #[.agg #[.slice A s.bodies.length c, .int .i64 x, .int .i64 y, .int .i64 z, .int .i64 day], .int .i64 i, .int .i64 j] w fun e w' => e = .returned (.int .i64 (Sp.ahead s i j day)) ∧ Ext w w' := by
  have hb1 := way_sky_bounds hs h0 h1 h2 h3
  have hb2 := way_sky_bounds hs h4 h5 h2 h3
  have HS := Lib.hid hs
  have HM := Lib.hid hm
  clear hs hm
  go_enter Tryz.func117, Tryz.ntmps117
  go_wp2_with fail
  refine wp_region_later (by kernel_rfl) (by kernel_rfl) (fun W hW => ?_)
  have q1 := Later.block (w := W) (by rw [hW]; exact blocks1 _ _)
  have hE0 : Ext w W := by rw [hW]; exact (Ext.refl _).alloc _
  clear hW
  have HB := Lib.hid (fun X : Later W => HM.out.ext (hE0.trans X.ext))
  repeat (go_big_quiet_step ((go_at_call 97; exact Later.call (way_sky s A c x y z day _ _ HS.out (by exact HB.out _) (by omega) (by omega) (by omega) (by omega)))))
  refine wpQuiet_nil ?_
  rintro ⟨W1, hE⟩
  go_wp2_with fail
  go_ret
  exact ⟨rfl, hE0.trans hE⟩

theorem passes_any (a b : Int) (w : World) (h1 : -4000000000000000000 ≤ a) (h2 : a ≤ 4000000000000000000) (h3 : -4000000000000000000 ≤ b) (h4 : b ≤ 4000000000000000000) :
    Calls Tryz.prog 158 #[.int .i64 a, .int .i64 b] w fun e w' => e = .returned (.bool (Sp.passes a b)) ∧ Ext w w' := by
  go_enter Tryz.func158, Tryz.ntmps158
  go_wp2_with fail
  refine (floor_any _ _ _ (by omega) (by omega) (by omega) (by omega)).mono ?_
  rintro e w1 ⟨rfl, hE1⟩
  go_wp2_with fail
  refine (floor_any _ _ _ (by omega) (by omega) (by omega) (by omega)).mono ?_
  rintro e w2 ⟨rfl, hE2⟩
  go_wp2_with fail
  go_ret
  exact ⟨ret_bool (by simp [Sp.passes]), hE1.trans hE2⟩

end Go.Proofs.YtlcddcnmoajpjaaGreatDoor

namespace Go.Proofs.YtlcddcnmoajpjaaGreatDoor
open Go.RowKit
open Sp (rd)

theorem node_bounds {s : Sp.Sky} (hs : SkyOk s) {day : Int} (h2 : 0 ≤ day) (h3 : day ≤ 20000) : 0 ≤ Sp.gone s.nnum s.nden day ∧ Sp.gone s.nnum s.nden day ≤ 108000000 :=
  gone_bounds h2 h3 hs.num1 hs.den1 hs.four

theorem node_any (s : Sp.Sky) (A : Option Addr) (n c : Nat) (day : Int) (w : World) (hs : SkyOk s) (h2 : 0 ≤ day) (h3 : day ≤ 20000) :
    Calls Tryz.prog 98 #[.agg #[.slice A n c, .int .i64 s.nnum, .int .i64 s.nden, .int .i64 s.nstart, .int .i64 day]] w fun e w' => e = .returned (.int .i64 (Sp.node s day)) ∧ Ext w w' := by
  have hg := node_bounds hs h2 h3
  obtain ⟨_, _, k1, k2, k3, k4, k5, k6, k7, _⟩ := hs
  go_enter Tryz.func98, Tryz.ntmps98
  go_wp2_with fail
  refine wp_region_later (by kernel_rfl) (by kernel_rfl) (fun W hW => ?_)
  have q1 := Later.block (w := W) (by rw [hW]; exact blocks1 _ _)
  have hE0 : Ext w W := by rw [hW]; exact (Ext.refl _).alloc _
  clear hW
  repeat (go_big_quiet_step ((first | (go_at_call 151; exact Later.call (gone_any _ _ _ _ _ _ _ _ _ _ (by omega) (by omega) (by omega) (by omega) (by omega) (by omega))) | (go_at_call 96; exact Later.call (around_any _ _ (by omega) (by omega))))))
  refine wpQuiet_nil ?_
  rintro ⟨W1, hE⟩
  go_wp2_with fail
  go_ret
  exact ⟨rfl, hE0.trans hE⟩

theorem round_any (n : Int) (w : World) (h1 : -4000000000000000000 ≤ n) (h2 : n ≤ 4000000000000000000) :
    Calls Tryz.prog 126 #[.int .i64 n] w fun e w' => e = .returned (.int .i64 (Sp.round n)) ∧ Ext w w' := by
  have hm := emod_bounds n 21600 (by omega)
  go_enter Tryz.func126, Tryz.ntmps126
  go_wp2_with fail
  refine (around_any _ _ (by omega) (by omega)).mono ?_
  rintro e w1 ⟨rfl, hE1⟩
  go_wp2_with fail
  all_goals
    go_ret
    exact ⟨ret_int (by unfold Sp.round; omega), hE1⟩

theorem far_any (s : Sp.Sky) (A : Option Addr) (c : Nat) (day : Int) (w : World) (hs : SkyOk s) (hm : Bodies w A s.bodies) (h2 : 0 ≤ day) (h3 : day ≤ 20000) :
    Calls Tryz.prog 92 #[.agg #[.slice A s.bodies.length c, .int .i64 s.nnum, .int .i64 s.nden, .int .i64 s.nstart, .int .i64 day]] w fun e w' => e = .returned (.int .i64 (Sp.far s day)) ∧ Ext w w' := by
  have hn := emod_bounds (s.nstart - Sp.gone s.nnum s.nden day) 21600 (by omega)
  have hnode : 0 ≤ Sp.node s day ∧ Sp.node s day < 21600 := hn
  clear hn
  have n2 := hs.n2
  have hb1 := way_sky_bounds hs (i := 1) (by omega) (by omega) h2 h3
  have hf := emod_bounds (Sp.way (Sp.body s 1) day - Sp.node s day) 10800 (by omega)
  have HS := Lib.hid hs
  have HM := Lib.hid hm
  clear hs hm
  go_enter Tryz.func92, Tryz.ntmps92
  go_wp2_with fail
  refine wp_region_later (by kernel_rfl) (by kernel_rfl) (fun W hW => ?_)
  have q1 := Later.block (w := W) (by rw [hW]; exact blocks1 _ _)
  have hE0 : Ext w W := by rw [hW]; exact (Ext.refl _).alloc _
  clear hW
  have HB := Lib.hid (fun X : Later W => HM.out.ext (hE0.trans X.ext))
  repeat (go_big_quiet_step ((first | (go_at_call 149; exact Later.call (moon_any s A c _ _ _ day _ HS.out (by exact HB.out _) (by omega) (by omega))) | (go_at_call 98; exact Later.call (node_any s A _ c day _ HS.out (by omega) (by omega))) | (go_at_call 148; exact Later.call (floor_any _ _ _ (by omega) (by omega) (by omega) (by omega))))))
  refine wpQuiet_nil ?_
  rintro ⟨W1, hE⟩
  go_wp2_with fail
  all_goals
    go_ret
    exact ⟨ret_int (by unfold Sp.far; dsimp only; omega), hE0.trans hE⟩

theorem pick0 (x0 x1 : Value) (w : World) : (Instr.index 180 (.agg #[x0, x1]) (.int .i64 0)).run Tryz.prog w = .ok x0 w := by kernel_rfl
theorem pick1 (x0 x1 : Value) (w : World) : (Instr.index 180 (.agg #[x0, x1]) (.int .i64 1)).run Tryz.prog w = .ok x1 w := by kernel_rfl

theorem lunar_any (s : Sp.Sky) (A : Option Addr) (c : Nat) (x y z day : Int) (w : World) (hs : SkyOk s) (hm : Bodies w A s.bodies) (h2 : 0 ≤ day) (h3 : day ≤ 20000) :
    Calls Tryz.prog 159 #[.agg #[.slice A s.bodies.length c, .int .i64 x, .int .i64 y, .int .i64 z, .int .i64 day]] w fun e w' => e = .returned (.int .i64 (Sp.ahead s 1 0 day)) ∧ Ext w w' := by
  have n2 := hs.n2
  have hb1 := way_sky_bounds hs (i := 1) (by omega) (by omega) h2 h3
  have hb2 := way_sky_bounds hs (i := 0) (by omega) (by omega) h2 h3
  have HS := Lib.hid hs
  have HM := Lib.hid hm
  clear hs hm
  have hmf : ∀ (fn : Fn) (first cap : Array Value) (w : World), (Instr.makeFunc fn first cap).run Tryz.prog w = .ok (.func fn first cap) w := fun _ _ _ _ => rfl
  have i0 := pick0
  have i1 := pick1
  go_enter Tryz.func159, Tryz.ntmps159
  go_wp2_with fail
  refine wp_loop_rounds 3 ?_
  rw [rounds_succ]
  go_wp2_with fail
  refine (sun_any s A c x y z day _ HS.out (by exact HM.out.ext (((Ext.refl w).alloc _).alloc _)) h2 h3).mono ?_
  rintro e w1 ⟨rfl, hE1⟩
  have hE : Ext w w1 := (((Ext.refl w).alloc _).alloc _).trans hE1
  have hb : Row w1 w.heap.size 120 _ := Row.ext (blocks2 _ _ _).1 hE1
  have hr : Row w1 (w.heap.size + 1) 179 _ := Row.ext (blocks2 _ _ _).2 hE1
  clear hE1
  have b0 := hb.cell
  have r0 := hr.cell
  have f0 := hr.free
  go_wp2_with fail
  rw [rounds_succ]
  go_wp2_with fail
  have hE' := hE.setCell (p := ⟨w.heap.size + 1, 0, none⟩) (Nat.le_succ _) (.int .i64 (Sp.way (Sp.body s 0) day))
  refine (moon_any s A c x y z day _ HS.out (by exact HM.out.ext hE') h2 h3).mono ?_
  rintro e w2 ⟨rfl, hE2⟩
  have hr2 : Row w2 (w.heap.size + 1) 179 #[.int .i64 (Sp.way (Sp.body s 0) day), .int .i64 0] := Row.ext (hr.set_ 0 (.int .i64 (Sp.way (Sp.body s 0) day))) hE2
  replace hE := hE'.trans hE2
  clear hE2 hE' hr b0 r0 f0 hb
  have r0 := hr2.cell
  have f0 := hr2.free
  go_wp2_with fail
  rw [rounds_succ]
  go_wp2_with fail
  go_ret
  exact ⟨rfl, hE.setCell (p := ⟨w.heap.size + 1, 1, none⟩) (Nat.le_succ _) _⟩

end Go.Proofs.YtlcddcnmoajpjaaGreatDoor

namespace Go.Proofs.YtlcddcnmoajpjaaGreatDoor
open Go.RowKit
open Sp (rd)

theorem isPeriod_any (num den : Int) (w : World) : Calls Tryz.prog 142 #[.agg #[.int .i64 num, .int .i64 den]] w fun e w' => e = .returned (.bool (Sp.period num den)) ∧ Ext w w' := by
  by_cases hd : 1 ≤ den ∧ den ≤ 10000
  · obtain ⟨d1, d2⟩ := hd
    have hd' : Sp.inR den 1 10000 = true := inR_iff.2 ⟨d1, d2⟩
    go_enter Tryz.func142, Tryz.ntmps142
    go_wp2_with (go_at_call 104; refine (in_any _ _ _ _).mono ?_; rintro e w' ⟨rfl, rfl⟩)
    all_goals
      go_ret
      exact ⟨ret_bool (by simp_all [Sp.period]), (Ext.refl _).alloc _⟩
  · have hd' : Sp.inR den 1 10000 = false := inR_no.2 hd
    clear hd
    go_enter Tryz.func142, Tryz.ntmps142
    go_wp2_with (go_at_call 104; refine (in_any _ _ _ _).mono ?_; rintro e w' ⟨rfl, rfl⟩)
    all_goals
      go_ret
      exact ⟨ret_bool (by simp_all [Sp.period]), (Ext.refl _).alloc _⟩

theorem isPlace_any (n : Int) (w : World) : Calls Tryz.prog 143 #[.int .i64 n] w fun e w' => e = .returned (.bool (Sp.spot n)) ∧ w = w' := by
  go_enter Tryz.func143, Tryz.ntmps143
  go_wp2_with (go_at_call 104; refine (in_any _ _ _ _).mono ?_; rintro e w' ⟨rfl, rfl⟩)
  go_ret
  exact ⟨rfl, rfl⟩
theorem isDay_any (n : Int) (w : World) : Calls Tryz.prog 95 #[.int .i64 n] w fun e w' => e = .returned (.bool (Sp.isDay n)) ∧ w = w' := by
  go_enter Tryz.func95, Tryz.ntmps95
  go_wp2_with (go_at_call 104; refine (in_any _ _ _ _).mono ?_; rintro e w' ⟨rfl, rfl⟩)
  go_ret
  exact ⟨rfl, rfl⟩
theorem isLimit_any (n : Int) (w : World) : Calls Tryz.prog 91 #[.int .i64 n] w fun e w' => e = .returned (.bool (Sp.isLimit n)) ∧ w = w' := by
  go_enter Tryz.func91, Tryz.ntmps91
  go_wp2_with (go_at_call 104; refine (in_any _ _ _ _).mono ?_; rintro e w' ⟨rfl, rfl⟩)
  go_ret
  exact ⟨rfl, rfl⟩
theorem isOff_any (n : Int) (w : World) : Calls Tryz.prog 107 #[.int .i64 n] w fun e w' => e = .returned (.bool (Sp.isOff n)) ∧ w = w' := by
  go_enter Tryz.func107, Tryz.ntmps107
  go_wp2_with (go_at_call 104; refine (in_any _ _ _ _).mono ?_; rintro e w' ⟨rfl, rfl⟩)
  go_ret
  exact ⟨rfl, rfl⟩
theorem areMonths_any (n : Int) (w : World) : Calls Tryz.prog 134 #[.int .i64 n] w fun e w' => e = .returned (.bool (Sp.areMonths n)) ∧ w = w' := by
  go_enter Tryz.func134, Tryz.ntmps134
  go_wp2_with (go_at_call 104; refine (in_any _ _ _ _).mono ?_; rintro e w' ⟨rfl, rfl⟩)
  go_ret
  exact ⟨rfl, rfl⟩

theorem isSpan_any (lo hi : Int) (w : World) : Calls Tryz.prog 86 #[.int .i64 lo, .int .i64 hi] w fun e w' => e = .returned (.bool (Sp.isSpan lo hi)) ∧ w = w' := by
  by_cases h1 : 1 ≤ lo ∧ lo ≤ 20000
  · obtain ⟨d1, d2⟩ := h1
    have h1' : Sp.inR lo 1 20000 = true := inR_iff.2 ⟨d1, d2⟩
    by_cases h2 : lo ≤ hi ∧ hi ≤ 20000
    · obtain ⟨d3, d4⟩ := h2
      have h2' : Sp.inR hi lo 20000 = true := inR_iff.2 ⟨d3, d4⟩
      go_enter Tryz.func86, Tryz.ntmps86
      go_wp2_with (go_at_call 104; refine (in_any _ _ _ _).mono ?_; rintro e w' ⟨rfl, rfl⟩)
      all_goals
        go_ret
        exact ⟨ret_bool (by simp [Sp.isSpan, h1', h2']), rfl⟩
    · have h2' : Sp.inR hi lo 20000 = false := inR_no.2 h2
      clear h2
      go_enter Tryz.func86, Tryz.ntmps86
      go_wp2_with (go_at_call 104; refine (in_any _ _ _ _).mono ?_; rintro e w' ⟨rfl, rfl⟩)
      all_goals
        go_ret
        exact ⟨ret_bool (by simp [Sp.isSpan, h2']), rfl⟩
  · have h1' : Sp.inR lo 1 20000 = false := inR_no.2 h1
    clear h1
    go_enter Tryz.func86, Tryz.ntmps86
    go_wp2_with (go_at_call 104; refine (in_any _ _ _ _).mono ?_; rintro e w' ⟨rfl, rfl⟩)
    all_goals
      go_ret
      exact ⟨ret_bool (by simp [Sp.isSpan, h1']), rfl⟩

theorem isBody_any (A : Option Addr) (c : Nat) (s : Sp.Sky) (x y z n : Int) (w : World) (hl : s.bodies.length ≤ 100000) :
    Calls Tryz.prog 94 #[.agg #[.slice A s.bodies.length c, .int .i64 x, .int .i64 y, .int .i64 z], .int .i64 n] w fun e w' => e = .returned (.bool (Sp.isBody s n)) ∧ Ext w w' := by
  go_enter Tryz.func94, Tryz.ntmps94
  go_wp2_with (go_at_call 104; refine (in_any _ _ _ _).mono ?_; rintro e w' ⟨rfl, rfl⟩)
  go_ret
  exact ⟨rfl, (Ext.refl _).alloc _⟩

theorem areTwo_any (A : Option Addr) (c : Nat) (s : Sp.Sky) (x y z one other : Int) (w : World) (hl : s.bodies.length ≤ 100000) :
    Calls Tryz.prog 113 #[.agg #[.slice A s.bodies.length c, .int .i64 x, .int .i64 y, .int .i64 z], .int .i64 one, .int .i64 other] w fun e w' => e = .returned (.bool (Sp.isBody s one && (Sp.isBody s other && (one != other)))) ∧ Ext w w' := by
  cases h1 : Sp.isBody s one
  · go_enter Tryz.func113, Tryz.ntmps113
    go_wp2_with fail
    refine (isBody_any A c s x y z one _ hl).mono ?_
    rintro e w1 ⟨rfl, hE⟩
    replace hE := ((Ext.refl w).alloc _).trans hE
    go_wp2_with fail
    go_ret
    exact ⟨ret_bool (by simp), hE⟩
  · go_enter Tryz.func113, Tryz.ntmps113
    go_wp2_with fail
    refine (isBody_any A c s x y z one _ hl).mono ?_
    rintro e w1 ⟨rfl, hE⟩
    have hr : Row w1 w.heap.size 28 _ := (Row.new w _ _).ext hE
    have hc := hr.cell
    replace hE := ((Ext.refl w).alloc _).trans hE
    go_wp2_with fail
    refine (isBody_any A c s x y z other _ hl).mono ?_
    rintro e w2 ⟨rfl, hE2⟩
    replace hE := hE.trans hE2
    go_wp2_with fail
    all_goals
      go_ret
      exact ⟨ret_bool (by simp [*]), hE⟩

theorem badErr_any (n : Int) (w : World) : Calls Tryz.prog 146 #[.int .i64 n] w fun e w' => e = .returned (.bool (!Sp.inR n (-600) 600)) ∧ w = w' := by
  go_enter Tryz.func146, Tryz.ntmps146
  go_wp2_with (go_at_call 104; refine (in_any _ _ _ _).mono ?_; rintro e w' ⟨rfl, rfl⟩)
  go_ret
  exact ⟨rfl, rfl⟩

end Go.Proofs.YtlcddcnmoajpjaaGreatDoor
