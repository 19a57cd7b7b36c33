/- Month1: The walks of layer 5: month.
Try: The walks of layer 5: try.
Month2: The walks of layer 5: gcd, Month. (Printed by wip/mkmonth.py.) -/
import Derived.Recover
import Derived.Defers
import Derived.Test.YtlcddcnmoajpjaaGreatDoorV07
namespace Go.Proofs.YtlcddcnmoajpjaaGreatDoor
open Go.RowKit
open Sp (rd)
set_option maxRecDepth 100000 in
set_option maxHeartbeats 1000000 in
theorem month_ok (s : Sp.Sky) (A : Option Addr) (c : Nat) (w : World) (hs : SkyOk s) (hm : Bodies w A s.bodies) (h : Sp.isMonth s = true) :
    Calls Tryz.prog 132 #[.agg #[.slice A s.bodies.length c, .int .i64 s.nnum, .int .i64 s.nden, .int .i64 s.nstart]] w fun e w' => e = .returned (.tuple #[.int .i64 (Sp.monthNum s), .int .i64 (Sp.monthDen s)]) ∧ Ext w w' := by
  have n2 := hs.n2
  obtain ⟨b, o, rfl, hc⟩ := hm (by omega)
  have e0 := hc 0 (by omega)
  have e1 := hc 1 (by omega)
  have b0 : bd s.bodies 0 = Sp.body s 0 := rfl
  have b1 : bd s.bodies 1 = Sp.body s 1 := rfl
  rw [b0] at e0
  rw [b1] at e1
  obtain ⟨p0, p1, _, _⟩ := e0
  obtain ⟨p2, p3, _, _⟩ := e1
  simp only [Nat.zero_mul, Nat.one_mul, Nat.add_zero] at p0 p1 p2 p3
  have n0 := lts (lt_of_cell p0)
  clear hc
  have q := (Row.new w 28 #[.slice (some ⟨b, o, none⟩) s.bodies.length c, .int .i64 s.nnum, .int .i64 s.nden, .int .i64 s.nstart]).cell 0
  simp only [List.getElem?_toArray, List.getElem?_cons_zero] at q
  have hE : Ext w (w.alloc (.cells #[.slice (some ⟨b, o, none⟩) s.bodies.length c, .int .i64 s.nnum, .int .i64 s.nden, .int .i64 s.nstart] 28)) := (Ext.refl w).alloc _
  replace p0 := hE.cell p0
  replace p1 := hE.cell p1
  replace p2 := hE.cell p2
  replace p3 := hE.cell p3
  go_enter Tryz.func132, Tryz.ntmps132
  go_wp2_with fail
  obtain ⟨W, hW⟩ : ∃ W, w.alloc (.cells #[.slice (some ⟨b, o, none⟩) s.bodies.length c, .int .i64 s.nnum, .int .i64 s.nden, .int .i64 s.nstart] 28) = W := ⟨_, rfl⟩
  have hz : W.heap.size = w.heap.size + 1 := by rw [← hW]; simp
  rw [hW] at q p0 p1 p2 p3 hE ⊢
  clear hW n0
  have m0 := World.new_ne W _ q
  have m1 := World.new_ne W _ p0
  have k0 := lts (lt_of_cell q)
  have k1 := lts (lt_of_cell p0)
  simp only at m0 m1 k0 k1
  have h01 : (0 : Int) < s.bodies.length := by omega
  have h11 : (1 : Int) < s.bodies.length := by omega
  have h00 : 0 < s.bodies.length := by omega
  refine Code.wp_mono (Q := fun e a' w' => e = .normal ∧ ∃ b4 b5, w.heap.size < b4 ∧ w.heap.size < b5 ∧ b4 ≠ b5 ∧ Ext W w' ∧ Row w' b4 24 #[.int .i64 (Sp.body s 0).num, .int .i64 (Sp.body s 0).den] ∧ Row w' b5 24 #[.int .i64 (Sp.body s 1).num, .int .i64 (Sp.body s 1).den] ∧ a' = (⟨#[.agg #[.slice (some ⟨b, o, none⟩) s.bodies.length c, .int .i64 s.nnum, .int .i64 s.nden, .int .i64 s.nstart], .pointer (some ⟨w.heap.size, 0, none⟩), .int .i64 0, .int .i64 0, .pointer (some ⟨b4, 0, none⟩), .pointer (some ⟨b5, 0, none⟩), undef, undef, .pointer (some ⟨w.heap.size, 0, none⟩), .slice (some ⟨b, o, none⟩) s.bodies.length c, .pointer (some ⟨b, o, none⟩), .pointer (some ⟨b, o, none⟩), .agg #[.int .i64 (Sp.body s 0).num, .int .i64 (Sp.body s 0).den], .pointer (some ⟨w.heap.size, 0, none⟩), .slice (some ⟨b, o, none⟩) s.bodies.length c, .pointer (some ⟨b, o + 4, none⟩), .pointer (some ⟨b, o + 4, none⟩), .agg #[.int .i64 (Sp.body s 1).num, .int .i64 (Sp.body s 1).den], undef, undef, undef, undef, undef, undef, undef, undef, undef, undef, undef, undef, undef, undef, undef, undef, undef, undef, undef, undef, undef, undef], []⟩ : Act)) ?hq ?hr
  case hr =>
    go_region_held3 (fun w' => w'.cell? ⟨w.heap.size, 0, none⟩ = some (.slice (some ⟨b, o, none⟩) s.bodies.length c) ∧ w'.cell? ⟨b, o, none⟩ = some (.int .i64 (Sp.body s 0).num) ∧ w'.cell? ⟨b, o + 1, none⟩ = some (.int .i64 (Sp.body s 0).den) ∧ w'.cell? ⟨b, o + 4, none⟩ = some (.int .i64 (Sp.body s 1).num) ∧ w'.cell? ⟨b, o + 4 + 1, none⟩ = some (.int .i64 (Sp.body s 1).den)) (go_keep) (fail)
    · have hE3 : Ext W ((W.alloc (.cells #[.int .i64 (Sp.body s 0).num, .int .i64 (Sp.body s 0).den] 24)).alloc (.cells #[.int .i64 (Sp.body s 1).num, .int .i64 (Sp.body s 1).den] 24)).drew := (((Ext.refl W).alloc _).alloc _).drew
      exact ⟨rfl, w.heap.size + 1, w.heap.size + 1 + 1, by omega, by omega, by omega, hE3, by rw [← hz]; exact (blocks2 W _ _).1, by rw [← hz]; exact (blocks2 W _ _).2, rfl⟩
    · have hE3 : Ext W ((W.alloc (.cells #[.int .i64 (Sp.body s 1).num, .int .i64 (Sp.body s 1).den] 24)).alloc (.cells #[.int .i64 (Sp.body s 0).num, .int .i64 (Sp.body s 0).den] 24)).drew := (((Ext.refl W).alloc _).alloc _).drew
      exact ⟨rfl, w.heap.size + 1 + 1, w.heap.size + 1, by omega, by omega, by omega, hE3, by rw [← hz]; exact (blocks2 W _ _).2, by rw [← hz]; exact (blocks2 W _ _).1, rfl⟩
  case hq =>
    rintro e a' w1 ⟨rfl, b4, b5, hb4, hb5, hne, hE1, r4, r5, rfl⟩
    have c4 := r4.cell
    have c5 := r5.cell
    have g0 := hs.all 0 (by omega)
    have g1 := hs.all 1 (by omega)
    rw [b0] at g0
    rw [b1] at g1
    obtain ⟨n0, hn0⟩ : ∃ n0, (Sp.body s 0).num = n0 := ⟨_, rfl⟩
    obtain ⟨x0, hx0⟩ : ∃ x0, (Sp.body s 0).den = x0 := ⟨_, rfl⟩
    obtain ⟨n1, hn1⟩ : ∃ n1, (Sp.body s 1).num = n1 := ⟨_, rfl⟩
    obtain ⟨x1, hx1⟩ : ∃ x1, (Sp.body s 1).den = x1 := ⟨_, rfl⟩
    obtain ⟨u1, u2, u3, u4, _, _, _, _, _⟩ := g0
    obtain ⟨v1, v2, v3, v4, _, _, _, _, _⟩ := g1
    simp only [hn0, hx0] at u1 u2 u3 u4 c4 ⊢
    simp only [hn1, hx1] at v1 v2 v3 v4 c5 ⊢
    have t1 := mul_bounds (a := n1) (b := n0) (A := 10000) (B := 10000) (by omega) (by omega) (by omega) (by omega)
    have t2 := mul_bounds (a := x1) (b := n0) (A := 10000) (B := 10000) (by omega) (by omega) (by omega) (by omega)
    have t3 := mul_bounds (a := x0) (b := n1) (A := 10000) (B := 10000) (by omega) (by omega) (by omega) (by omega)
    have hden : 0 < x1 * n0 - x0 * n1 := by
      have h' : 0 < Sp.monthDen s := of_decide_eq_true h
      unfold Sp.monthDen at h'
      rw [hx1, hn0, hx0, hn1] at h'
      exact h'
    have hnum : Sp.monthNum s = n1 * n0 := by simp only [Sp.monthNum, hn1, hn0]
    have hd : Sp.monthDen s = x1 * n0 - x0 * n1 := by simp only [Sp.monthDen, hn1, hn0, hx0, hx1]
    have HN := Lib.hid hnum
    have HD := Lib.hid hd
    have HE := Lib.hid (hE.trans hE1)
    clear hnum hd hn0 hx0 hn1 hx1 hE hE1 b0 b1 h
    go_wp2
    go_quiet (fail)
    go_wp2
    go_ret2
    exact ⟨by rw [HN.out, HD.out]; rfl, HE.out.drewN _⟩
set_option maxRecDepth 100000 in
set_option maxHeartbeats 1000000 in
theorem month_no (s : Sp.Sky) (A : Option Addr) (c : Nat) (w : World) (hs : SkyOk s) (hm : Bodies w A s.bodies) (h : Sp.isMonth s = false) :
    Calls Tryz.prog 132 #[.agg #[.slice A s.bodies.length c, .int .i64 s.nnum, .int .i64 s.nden, .int .i64 s.nstart]] w fun e w' => e = .panicked [{ v := .iface 152 (.agg #[.int .i64 7]), recovered := false }] ∧ Ext w w' := by
  have n2 := hs.n2
  obtain ⟨b, o, rfl, hc⟩ := hm (by omega)
  have e0 := hc 0 (by omega)
  have e1 := hc 1 (by omega)
  have b0 : bd s.bodies 0 = Sp.body s 0 := rfl
  have b1 : bd s.bodies 1 = Sp.body s 1 := rfl
  rw [b0] at e0
  rw [b1] at e1
  obtain ⟨p0, p1, _, _⟩ := e0
  obtain ⟨p2, p3, _, _⟩ := e1
  simp only [Nat.zero_mul, Nat.one_mul, Nat.add_zero] at p0 p1 p2 p3
  have n0 := lts (lt_of_cell p0)
  clear hc
  have q := (Row.new w 28 #[.slice (some ⟨b, o, none⟩) s.bodies.length c, .int .i64 s.nnum, .int .i64 s.nden, .int .i64 s.nstart]).cell 0
  simp only [List.getElem?_toArray, List.getElem?_cons_zero] at q
  have hE : Ext w (w.alloc (.cells #[.slice (some ⟨b, o, none⟩) s.bodies.length c, .int .i64 s.nnum, .int .i64 s.nden, .int .i64 s.nstart] 28)) := (Ext.refl w).alloc _
  replace p0 := hE.cell p0
  replace p1 := hE.cell p1
  replace p2 := hE.cell p2
  replace p3 := hE.cell p3
  go_enter Tryz.func132, Tryz.ntmps132
  go_wp2_with fail
  obtain ⟨W, hW⟩ : ∃ W, w.alloc (.cells #[.slice (some ⟨b, o, none⟩) s.bodies.length c, .int .i64 s.nnum, .int .i64 s.nden, .int .i64 s.nstart] 28) = W := ⟨_, rfl⟩
  have hz : W.heap.size = w.heap.size + 1 := by rw [← hW]; simp
  rw [hW] at q p0 p1 p2 p3 hE ⊢
  clear hW n0
  have m0 := World.new_ne W _ q
  have m1 := World.new_ne W _ p0
  have k0 := lts (lt_of_cell q)
  have k1 := lts (lt_of_cell p0)
  simp only at m0 m1 k0 k1
  have h01 : (0 : Int) < s.bodies.length := by omega
  have h11 : (1 : Int) < s.bodies.length := by omega
  have h00 : 0 < s.bodies.length := by omega
  refine Code.wp_mono (Q := fun e a' w' => e = .normal ∧ ∃ b4 b5, w.heap.size < b4 ∧ w.heap.size < b5 ∧ b4 ≠ b5 ∧ Ext W w' ∧ Row w' b4 24 #[.int .i64 (Sp.body s 0).num, .int .i64 (Sp.body s 0).den] ∧ Row w' b5 24 #[.int .i64 (Sp.body s 1).num, .int .i64 (Sp.body s 1).den] ∧ a' = (⟨#[.agg #[.slice (some ⟨b, o, none⟩) s.bodies.length c, .int .i64 s.nnum, .int .i64 s.nden, .int .i64 s.nstart], .pointer (some ⟨w.heap.size, 0, none⟩), .int .i64 0, .int .i64 0, .pointer (some ⟨b4, 0, none⟩), .pointer (some ⟨b5, 0, none⟩), undef, undef, .pointer (some ⟨w.heap.size, 0, none⟩), .slice (some ⟨b, o, none⟩) s.bodies.length c, .pointer (some ⟨b, o, none⟩), .pointer (some ⟨b, o, none⟩), .agg #[.int .i64 (Sp.body s 0).num, .int .i64 (Sp.body s 0).den], .pointer (some ⟨w.heap.size, 0, none⟩), .slice (some ⟨b, o, none⟩) s.bodies.length c, .pointer (some ⟨b, o + 4, none⟩), .pointer (some ⟨b, o + 4, none⟩), .agg #[.int .i64 (Sp.body s 1).num, .int .i64 (Sp.body s 1).den], undef, undef, undef, undef, undef, undef, undef, undef, undef, undef, undef, undef, undef, undef, undef, undef, undef, undef, undef, undef, undef, undef], []⟩ : Act)) ?hq ?hr
  case hr =>
    go_region_held3 (fun w' => w'.cell? ⟨w.heap.size, 0, none⟩ = some (.slice (some ⟨b, o, none⟩) s.bodies.length c) ∧ w'.cell? ⟨b, o, none⟩ = some (.int .i64 (Sp.body s 0).num) ∧ w'.cell? ⟨b, o + 1, none⟩ = some (.int .i64 (Sp.body s 0).den) ∧ w'.cell? ⟨b, o + 4, none⟩ = some (.int .i64 (Sp.body s 1).num) ∧ w'.cell? ⟨b, o + 4 + 1, none⟩ = some (.int .i64 (Sp.body s 1).den)) (go_keep) (fail)
    · have hE3 : Ext W ((W.alloc (.cells #[.int .i64 (Sp.body s 0).num, .int .i64 (Sp.body s 0).den] 24)).alloc (.cells #[.int .i64 (Sp.body s 1).num, .int .i64 (Sp.body s 1).den] 24)).drew := (((Ext.refl W).alloc _).alloc _).drew
      exact ⟨rfl, w.heap.size + 1, w.heap.size + 1 + 1, by omega, by omega, by omega, hE3, by rw [← hz]; exact (blocks2 W _ _).1, by rw [← hz]; exact (blocks2 W _ _).2, rfl⟩
    · have hE3 : Ext W ((W.alloc (.cells #[.int .i64 (Sp.body s 1).num, .int .i64 (Sp.body s 1).den] 24)).alloc (.cells #[.int .i64 (Sp.body s 0).num, .int .i64 (Sp.body s 0).den] 24)).drew := (((Ext.refl W).alloc _).alloc _).drew
      exact ⟨rfl, w.heap.size + 1 + 1, w.heap.size + 1, by omega, by omega, by omega, hE3, by rw [← hz]; exact (blocks2 W _ _).2, by rw [← hz]; exact (blocks2 W _ _).1, rfl⟩
  case hq =>
    rintro e a' w1 ⟨rfl, b4, b5, hb4, hb5, hne, hE1, r4, r5, rfl⟩
    have c4 := r4.cell
    have c5 := r5.cell
    have g0 := hs.all 0 (by omega)
    have g1 := hs.all 1 (by omega)
    rw [b0] at g0
    rw [b1] at g1
    obtain ⟨n0, hn0⟩ : ∃ n0, (Sp.body s 0).num = n0 := ⟨_, rfl⟩
    obtain ⟨x0, hx0⟩ : ∃ x0, (Sp.body s 0).den = x0 := ⟨_, rfl⟩
    obtain ⟨n1, hn1⟩ : ∃ n1, (Sp.body s 1).num = n1 := ⟨_, rfl⟩
    obtain ⟨x1, hx1⟩ : ∃ x1, (Sp.body s 1).den = x1 := ⟨_, rfl⟩
    obtain ⟨u1, u2, u3, u4, _, _, _, _, _⟩ := g0
    obtain ⟨v1, v2, v3, v4, _, _, _, _, _⟩ := g1
    simp only [hn0, hx0] at u1 u2 u3 u4 c4 ⊢
    simp only [hn1, hx1] at v1 v2 v3 v4 c5 ⊢
    have t1 := mul_bounds (a := n1) (b := n0) (A := 10000) (B := 10000) (by omega) (by omega) (by omega) (by omega)
    have t2 := mul_bounds (a := x1) (b := n0) (A := 10000) (B := 10000) (by omega) (by omega) (by omega) (by omega)
    have t3 := mul_bounds (a := x0) (b := n1) (A := 10000) (B := 10000) (by omega) (by omega) (by omega) (by omega)
    have hden : x1 * n0 - x0 * n1 ≤ 0 := by
      have h' : ¬ 0 < Sp.monthDen s := of_decide_eq_false h
      unfold Sp.monthDen at h'
      rw [hx1, hn0, hx0, hn1] at h'
      omega
    have HE := Lib.hid (hE.trans hE1)
    clear hn0 hx0 hn1 hx1 hE hE1 b0 b1 h
    go_wp2
    go_quiet (fail)
    go_wp2
    exact ⟨rfl, rfl, HE.out.drewN _⟩
end Go.Proofs.YtlcddcnmoajpjaaGreatDoor

namespace Go.Proofs.YtlcddcnmoajpjaaGreatDoor
open Go.RowKit
open Sp (rd)
/-- A type switch on the panic's value. -/
theorem ta_nothing (k : Int) (w : World) : (Instr.typeAssert (.iface 152 (.agg #[.int .i64 k])) 20 152 true).run Tryz.prog w = .ok (.tuple #[.agg #[.int .i64 k], .bool true]) w := by kernel_rfl

theorem catch_nothing (p : Nat) (x k : Int) (older : List PanicEntry) (w : World) (hr : Row w p 32 #[.int .i64 x]) :
    CallsD Tryz.prog 154 #[.pointer (some ⟨p, 0, none⟩)] (.panicking ({ v := .iface 152 (.agg #[.int .i64 k]), recovered := false } :: older)) w fun e u' w' =>
      e = .returned (.tuple #[]) ∧ u' = .panicking ({ v := .iface 152 (.agg #[.int .i64 k]), recovered := true } :: older) ∧ w' = (w.setCell ⟨p, 0, none⟩ (.int .i64 k)).alloc (.cells #[.int .i64 k] 152) := by
  refine callsD_of_wpS Tryz.func154 rfl fun c₀ cs hu => ?_
  have hc := hr.cell
  have hf := hr.free
  have j0 := lts hr.lt
  have hT := ta_nothing k
  have he : ∀ w, (binOp .eql 20 (.iface 152 (.agg #[.int .i64 k])) .nilIface).run Tryz.prog w = .ok (.bool false) w := fun _ => by kernel_rfl
  simp only [Tryz.ntmps154, List.size_toArray, List.length_cons, List.length_nil, Nat.reduceAdd, Nat.reduceSub, Array.replicate_succ, Array.replicate_zero, List.push_toArray, List.append_toArray, List.nil_append, List.cons_append]
  apply wpS_seq
  apply wpS_region
  simp [wpOpsS, go_sem, recoverD, hu, Exit.thenS]
  refine wpS_of_wp ?_
  generalize hQ : (fun (e : Exit) (a' : Act) (w' : World) => bodyPostS Tryz.prog Tryz.f154 c₀ cs _ e a' _ w') = Q
  go_wp2
  subst hQ
  simp [bodyPostS, results, Tryz.results154]

theorem catch_idle (p : Value) (w : World) :
    CallsD Tryz.prog 154 #[p] .returning w fun e u' w' => e = .returned (.tuple #[]) ∧ u' = .returning ∧ w' = w := by
  refine callsD_of_wpS Tryz.func154 rfl fun c₀ cs hu => ?_
  have he : ∀ w, (binOp .eql 20 .nilIface .nilIface).run Tryz.prog w = .ok (.bool true) w := fun _ => by kernel_rfl
  simp only [Tryz.ntmps154, List.size_toArray, List.length_cons, List.length_nil, Nat.reduceAdd, Nat.reduceSub, Array.replicate_succ, Array.replicate_zero, List.push_toArray, List.append_toArray, List.nil_append, List.cons_append]
  apply wpS_seq
  apply wpS_region
  simp [wpOpsS, go_sem, recoverD, hu, Exit.thenS]
  refine wpS_of_wp ?_
  generalize hQ : (fun (e : Exit) (a' : Act) (w' : World) => bodyPostS Tryz.prog Tryz.f154 c₀ cs _ e a' _ w') = Q
  go_wp2
  subst hQ
  cases c₀
  simp_all [bodyPostS, results, Tryz.results154]

/-- What a closure that is tried may do. -/
def Tried (w : World) (k : Int) (Q1 Q2 : World → Prop) (e : Ending) (w' : World) : Prop := Row w' w.heap.size 32 #[.int .i64 0] ∧
  ((e = .returned (.tuple #[]) ∧ Q1 w') ∨ (e = .panicked [{ v := .iface 152 (.agg #[.int .i64 k]), recovered := false }] ∧ Q2 w'))
theorem try_any (f : Nat) (cap : Array Value) (k : Int) (w : World) (Q1 Q2 : World → Prop) (he : ∀ (args : Array Value) (w : World), (callFunc f args).run Tryz.prog w = .ok (.enter f args) w)
    (hc : Calls Tryz.prog f cap (w.alloc (.cells #[.int .i64 0] 32)) (Tried w k Q1 Q2)) :
    Calls Tryz.prog 100 #[.func (.func f) #[] cap] w fun e w' => ∃ w1, (Q1 w1 ∧ e = .returned (.int .i64 0) ∧ w' = w1.setCell ⟨w.heap.size, 0, none⟩ (.int .i64 0)) ∨
      (Q2 w1 ∧ e = .returned (.int .i64 k) ∧ w' = (w1.setCell ⟨w.heap.size, 0, none⟩ (.int .i64 k)).alloc (.cells #[.int .i64 k] 152)) := by
  have hmf : ∀ (fn : Fn) (first cap : Array Value) (w : World), (Instr.makeFunc fn first cap).run Tryz.prog w = .ok (.func fn first cap) w := fun _ _ _ _ => rfl
  go_enter_defers Tryz.func100, Tryz.ntmps100
  go_wp2
  refine hc.mono ?_
  rintro e w1 ⟨hR, ⟨rfl, h1⟩ | ⟨rfl, h2⟩⟩
  · have cR := hR.cell
    have fR := hR.free
    go_wp2
    refine leaves_cons (f := 154) (args := #[.pointer (some ⟨w.heap.size, 0, none⟩)]) (by simp) (by simp [go_sem]) ?_
    refine (catch_idle _ _).mono ?_
    rintro e u' w'' ⟨rfl, rfl, rfl⟩
    have r2 := (hR.set_ 0 (.int .i64 0)).cell 0
    simp only [List.setIfInBounds_toArray, List.set_cons_zero, List.getElem?_toArray, List.getElem?_cons_zero] at r2
    simp [Leaves, settle, results, Tryz.results100, go_sem, r2]
    exact ⟨w1, .inl ⟨h1, rfl⟩⟩
  · refine leaves_cons (f := 154) (args := #[.pointer (some ⟨w.heap.size, 0, none⟩)]) (by simp) (by simp [go_sem]) ?_
    refine (catch_nothing w.heap.size 0 k [] w1 hR).mono ?_
    rintro e u' w'' ⟨rfl, rfl, rfl⟩
    have r2 := ((hR.set_ 0 (.int .i64 k)).alloc (.cells #[.int .i64 k] 152)).cell 0
    simp only [List.setIfInBounds_toArray, List.set_cons_zero, List.getElem?_toArray, List.getElem?_cons_zero] at r2
    simp [Leaves, settle, results, Tryz.results100, go_sem, r2]
    exact ⟨w1, .inr ⟨h2, rfl⟩⟩
end Go.Proofs.YtlcddcnmoajpjaaGreatDoor

namespace Go.Proofs.YtlcddcnmoajpjaaGreatDoor
open Go.RowKit
open Sp (rd)

theorem gcd_step {a b : Int} (h1 : 0 ≤ a) (h2 : 0 ≤ b) : Int.gcd b (a % b) = Int.gcd a b := by
  obtain ⟨m, rfl⟩ := Int.eq_ofNat_of_zero_le h1
  obtain ⟨n, rfl⟩ := Int.eq_ofNat_of_zero_le h2
  rw [show ((m : Int) % (n : Int)) = ((m % n : Nat) : Int) by rfl]
  show Nat.gcd n (m % n) = Nat.gcd m n
  rw [Nat.gcd_comm n, ← Nat.gcd_rec, Nat.gcd_comm]
theorem gcd_end {a : Int} (h1 : 0 ≤ a) : (Int.gcd a 0 : Int) = a := by
  obtain ⟨m, rfl⟩ := Int.eq_ofNat_of_zero_le h1
  show ((Nat.gcd m 0 : Nat) : Int) = m
  rw [Nat.gcd_zero_right]
theorem gcd_any (a b : Int) (w : World) (h1 : 0 ≤ a) (h2 : a ≤ 1000000000000) (h3 : 0 ≤ b) (h4 : b ≤ 1000000000000) :
    Calls Tryz.prog 133 #[.int .i64 a, .int .i64 b] w fun e w' => e = .returned (.int .i64 (Int.gcd a b)) ∧ Ext w w' := by
  go_enter Tryz.func133, Tryz.ntmps133
  go_wp2_with fail
  go_loopw [0, 1] (fun x y wr => ∃ a' b' : Int, x = .int .i64 a' ∧ y = .int .i64 b' ∧ 0 ≤ a' ∧ a' ≤ 1000000000000 ∧ 0 ≤ b' ∧ b' ≤ 1000000000000 ∧ Int.gcd a' b' = Int.gcd a b ∧ Ext w wr) (fun _ y _ => (intOf y).toNat)
  case atStart => exact ⟨a, b, rfl, rfl, h1, h2, h3, h4, rfl, Ext.refl _⟩
  case round =>
    obtain ⟨a', b', rfl, rfl, k1, k2, k3, k4, hg, hE⟩ := hrel
    by_cases hb : 0 < b'
    · have hb0 : ¬ b' = 0 := by omega
      have ht : a'.tmod b' = a' % b' := Int.tmod_eq_emod_of_nonneg k1
      have hm1 := Int.emod_nonneg a' hb0
      have hm2 := Int.emod_lt_of_pos a' hb
      go_wp2_with fail
      go_quiet (fail)
      go_wp2
      go_roundw
      case rel => exact ⟨b', a' % b', rfl, rfl, by omega, by omega, by omega, by omega, (gcd_step k1 k3).trans hg, hE.drewN _⟩
      case measure => simp [intOf]; omega
    · obtain rfl : b' = 0 := by omega
      go_wp2_with fail
      go_ret
      refine ⟨?_, hE⟩
      rw [← hg]
      exact ret_int (gcd_end k1).symm

theorem month1_ok (s : Sp.Sky) (A : Option Addr) (c : Nat) (bS bN bD : Nat) (n d : Int) (W : World) (hs : SkyOk s) (hm : Bodies W A s.bodies) (h : Sp.isMonth s = true) (rS : Row W bS 28 #[.slice A s.bodies.length c, .int .i64 s.nnum, .int .i64 s.nden, .int .i64 s.nstart])
    (rN : Row W bN 3 #[.int .i64 n]) (rD : Row W bD 3 #[.int .i64 d]) (hne : bN ≠ bD) :
    Calls Tryz.prog 131 #[.pointer (some ⟨bS, 0, none⟩), .pointer (some ⟨bN, 0, none⟩), .pointer (some ⟨bD, 0, none⟩)] W fun e w' => e = .returned (.tuple #[]) ∧ ∃ W1, Ext W W1 ∧ w' = (W1.setCell ⟨bN, 0, none⟩ (.int .i64 (Sp.monthNum s))).setCell ⟨bD, 0, none⟩ (.int .i64 (Sp.monthDen s)) := by
  have cS := rS.cell
  go_enter Tryz.func131, Tryz.ntmps131
  go_wp2_with fail
  refine (month_ok s A c W hs hm h).mono ?_
  rintro e W1 ⟨rfl, hE⟩
  have cN := (rN.ext hE).cell
  have cD := (rD.ext hE).cell
  have fN := (rN.ext hE).free
  have fD := (rD.ext hE).free
  clear cS
  go_wp2_with fail
  go_end0
  exact ⟨rfl, W1, hE, rfl⟩
theorem month1_no (s : Sp.Sky) (A : Option Addr) (c : Nat) (bS : Nat) (p q : Value) (W : World) (hs : SkyOk s) (hm : Bodies W A s.bodies) (h : Sp.isMonth s = false) (rS : Row W bS 28 #[.slice A s.bodies.length c, .int .i64 s.nnum, .int .i64 s.nden, .int .i64 s.nstart]) :
    Calls Tryz.prog 131 #[.pointer (some ⟨bS, 0, none⟩), p, q] W fun e w' => e = .panicked [{ v := .iface 152 (.agg #[.int .i64 7]), recovered := false }] ∧ Ext W w' := by
  have cS := rS.cell
  go_enter Tryz.func131, Tryz.ntmps131
  go_wp2_with fail
  refine (month_no s A c W hs hm h).mono ?_
  rintro e W1 ⟨rfl, hE⟩
  exact ⟨rfl, rfl, hE⟩
theorem month_bounds {s : Sp.Sky} (hs : SkyOk s) (h : Sp.isMonth s = true) : 1 ≤ Sp.monthNum s ∧ Sp.monthNum s ≤ 100000000 ∧ 1 ≤ Sp.monthDen s ∧ Sp.monthDen s ≤ 100000000 := by
  have n2 := hs.n2
  have g0 : BodyOk (Sp.body s 0) := hs.body (by omega) (by omega)
  have g1 : BodyOk (Sp.body s 1) := hs.body (by omega) (by omega)
  have h' : 0 < Sp.monthDen s := of_decide_eq_true h
  obtain ⟨u1, u2, u3, u4, _, _, _, _, _⟩ := g0
  obtain ⟨v1, v2, v3, v4, _, _, _, _, _⟩ := g1
  have t1 := mul_bounds (a := (Sp.body s 1).num) (b := (Sp.body s 0).num) (A := 10000) (B := 10000) (by omega) (by omega) (by omega) (by omega)
  have t2 := mul_bounds (a := (Sp.body s 1).den) (b := (Sp.body s 0).num) (A := 10000) (B := 10000) (by omega) (by omega) (by omega) (by omega)
  have t3 : 0 ≤ (Sp.body s 0).den * (Sp.body s 1).num := Int.mul_nonneg (by omega) (by omega)
  have t4 : 0 < (Sp.body s 1).num * (Sp.body s 0).num := Int.mul_pos (by omega) (by omega)
  unfold Sp.monthNum
  unfold Sp.monthDen at h' ⊢
  omega
/-- The month, reduced. -/
def monthG (s : Sp.Sky) : Int := Int.gcd (Sp.monthNum s) (Sp.monthDen s)
theorem monthG_bounds {s : Sp.Sky} (hs : SkyOk s) (h : Sp.isMonth s = true) : 1 ≤ monthG s ∧ monthG s ≤ 100000000 := by
  have hb := month_bounds hs h
  have h1 : 0 < Int.gcd (Sp.monthNum s) (Sp.monthDen s) := Int.gcd_pos_of_ne_zero_left _ (by omega)
  have h2 : monthG s ∣ Sp.monthNum s := Int.gcd_dvd_left ..
  have := Int.le_of_dvd (by omega) h2
  unfold monthG at *
  omega
theorem Month_err (s : Sp.Sky) (A : Option Addr) (c : Nat) (w : World) (hm : Bodies w A s.bodies) (hl : Short s.bodies) (h : (Sp.skyOk s) = false) :
    Calls Tryz.prog 68 #[.agg #[.slice A s.bodies.length c, .int .i64 s.nnum, .int .i64 s.nden, .int .i64 s.nstart]] w fun e w' => e = .returned (.tuple #[.int .i64 0, .int .i64 0, .int .i64 2]) ∧ Ext w w' := by
  have hl1 := hl.1
  have HL := Lib.hid hl
  have HM := Lib.hid hm
  clear hm hl
  cases c0 : Sp.skyOk s
  · clear h
    go_enter Tryz.func68, Tryz.ntmps68
    go_wp2_with fail
    refine (isSky_any s A c _ (HM.out.ext ((Ext.refl w).alloc _)) HL.out).mono ?_
    rintro e w1 ⟨rfl, hE1⟩
    have hE := ((Ext.refl w).alloc _).trans hE1
    have hr : Row w1 w.heap.size 28 _ := (Row.new w _ _).ext hE1
    have b0 := hr.cell
    clear hE1
    go_wp2_with fail
    go_ret3
    exact ⟨rfl, hE⟩
  · simp [c0] at h

theorem Month_ok (s : Sp.Sky) (A : Option Addr) (c : Nat) (w : World) (hm : Bodies w A s.bodies) (hl : Short s.bodies) (hmn : Sp.isMonth s = true) (c0 : Sp.skyOk s = true) :
    Calls Tryz.prog 68 #[.agg #[.slice A s.bodies.length c, .int .i64 s.nnum, .int .i64 s.nden, .int .i64 s.nstart]] w fun e w' => e = .returned (.tuple #[.int .i64 (Sp.monthNum s / monthG s), .int .i64 (Sp.monthDen s / monthG s), .int .i64 0]) ∧ Ext w w' := by
  have hl1 := hl.1
  have HL := Lib.hid hl
  have HM := Lib.hid hm
  clear hm hl
  go_enter Tryz.func68, Tryz.ntmps68
  go_wp2_with fail
  refine (isSky_any s A c _ (HM.out.ext ((Ext.refl w).alloc _)) HL.out).mono ?_
  rintro e w1 ⟨rfl, hE1⟩
  have hE := ((Ext.refl w).alloc _).trans hE1
  have hr : Row w1 w.heap.size 28 _ := (Row.new w _ _).ext hE1
  have b0 := hr.cell
  clear hE1
  have hmf : ∀ (fn : Fn) (first cap : Array Value) (w : World), (Instr.makeFunc fn first cap).run Tryz.prog w = .ok (.func fn first cap) w := fun _ _ _ _ => rfl
  have HK := Lib.hid (skyOk_iff.1 c0)
  have hE3 : Ext w1 (((w1.alloc (.cells #[.int .i64 0] 3)).alloc (.cells #[.int .i64 1] 3)).alloc (.cells #[.int .i64 0] 32)) := (((Ext.refl w1).alloc _).alloc _).alloc _
  have rN : Row (((w1.alloc (.cells #[.int .i64 0] 3)).alloc (.cells #[.int .i64 1] 3)).alloc (.cells #[.int .i64 0] 32)) w1.heap.size 3 #[.int .i64 0] := (blocks3 w1 _ _ _).1
  have rD : Row (((w1.alloc (.cells #[.int .i64 0] 3)).alloc (.cells #[.int .i64 1] 3)).alloc (.cells #[.int .i64 0] 32)) (w1.heap.size + 1) 3 #[.int .i64 1] := (blocks3 w1 _ _ _).2.1
  have rR : Row (((w1.alloc (.cells #[.int .i64 0] 3)).alloc (.cells #[.int .i64 1] 3)).alloc (.cells #[.int .i64 0] 32)) (w1.heap.size + 2) 32 #[.int .i64 0] := (blocks3 w1 _ _ _).2.2
  have hz := hr.lt
  have hb := month_bounds HK.out hmn
  have hg := monthG_bounds HK.out hmn
  go_wp2_with fail
  refine (try_any 131 _ 7 _ (fun w' => ∃ W1, Ext (((w1.alloc (.cells #[.int .i64 0] 3)).alloc (.cells #[.int .i64 1] 3)).alloc (.cells #[.int .i64 0] 32)) W1 ∧ w' = (W1.setCell ⟨w1.heap.size, 0, none⟩ (.int .i64 (Sp.monthNum s))).setCell ⟨w1.heap.size + 1, 0, none⟩ (.int .i64 (Sp.monthDen s))) (fun _ => False) (enters_of Tryz.func131 (by kernel_rfl) rfl)
    ((month1_ok s A c w.heap.size w1.heap.size (w1.heap.size + 1) 0 1 _ HK.out (HM.out.ext (hE.trans hE3)) hmn (hr.ext hE3) rN rD (by omega)).mono ?_)).mono ?_
  · rintro e w' ⟨rfl, W1, hEE, rfl⟩
    refine ⟨?_, .inl ⟨rfl, W1, hEE, rfl⟩⟩
    simpa using ((rR.ext hEE).far (p := ⟨w1.heap.size, 0, none⟩) (by simp) _).far (p := ⟨w1.heap.size + 1, 0, none⟩) (by simp) _
  · rintro e w' ⟨W2, ⟨⟨W1, hEE, rfl⟩, rfl, rfl⟩ | ⟨h0, _⟩⟩
    · simp only [World.size_alloc]
      have sN : Row (((W1.setCell ⟨w1.heap.size, 0, none⟩ (.int .i64 (Sp.monthNum s))).setCell ⟨w1.heap.size + 1, 0, none⟩ (.int .i64 (Sp.monthDen s))).setCell ⟨w1.heap.size + 1 + 1, 0, none⟩ (.int .i64 0)) w1.heap.size 3 #[.int .i64 (Sp.monthNum s)] := by
        simpa using (((rN.ext hEE).set_ 0 (.int .i64 (Sp.monthNum s))).far (p := ⟨w1.heap.size + 1, 0, none⟩) (by simp) (.int .i64 (Sp.monthDen s))).far (p := ⟨w1.heap.size + 1 + 1, 0, none⟩) (by simp <;> omega) (.int .i64 0)
      have sD : Row (((W1.setCell ⟨w1.heap.size, 0, none⟩ (.int .i64 (Sp.monthNum s))).setCell ⟨w1.heap.size + 1, 0, none⟩ (.int .i64 (Sp.monthDen s))).setCell ⟨w1.heap.size + 1 + 1, 0, none⟩ (.int .i64 0)) (w1.heap.size + 1) 3 #[.int .i64 (Sp.monthDen s)] := by
        simpa using (((rD.ext hEE).far (p := ⟨w1.heap.size, 0, none⟩) (by simp) (.int .i64 (Sp.monthNum s))).set_ 0 (.int .i64 (Sp.monthDen s))).far (p := ⟨w1.heap.size + 1 + 1, 0, none⟩) (by simp <;> omega) (.int .i64 0)
      have hE4 : Ext w1 (((W1.setCell ⟨w1.heap.size, 0, none⟩ (.int .i64 (Sp.monthNum s))).setCell ⟨w1.heap.size + 1, 0, none⟩ (.int .i64 (Sp.monthDen s))).setCell ⟨w1.heap.size + 1 + 1, 0, none⟩ (.int .i64 0)) :=
        (((hE3.trans hEE).setCell (by simp) _).setCell (by simp) _).setCell (by simp; omega) _
      obtain ⟨W3, hW3⟩ : ∃ W3, ((W1.setCell ⟨w1.heap.size, 0, none⟩ (.int .i64 (Sp.monthNum s))).setCell ⟨w1.heap.size + 1, 0, none⟩ (.int .i64 (Sp.monthDen s))).setCell ⟨w1.heap.size + 1 + 1, 0, none⟩ (.int .i64 0) = W3 := ⟨_, rfl⟩
      rw [hW3] at sN sD hE4 ⊢
      have cN := sN.cell
      have cD := sD.cell
      have HE := Lib.hid (hE.trans hE4)
      clear hW3 hE3 rN rD rR hEE hE hE4 b0 W1
      obtain ⟨n, hn⟩ : ∃ n, Sp.monthNum s = n := ⟨_, rfl⟩
      obtain ⟨d, hd⟩ : ∃ d, Sp.monthDen s = d := ⟨_, rfl⟩
      obtain ⟨g, hgg⟩ : ∃ g, monthG s = g := ⟨_, rfl⟩
      have hgg' : ((Int.gcd n d : Nat) : Int) = g := by rw [← hn, ← hd]; exact hgg
      rw [hn, hd] at hb
      rw [hgg] at hg
      rw [hn] at cN
      rw [hd] at cD
      have HN := Lib.hid hn
      have HD := Lib.hid hd
      have HG := Lib.hid hgg
      have HG' := Lib.hid hgg'
      clear hn hd hgg hgg'
      have g0 : ¬ g = 0 := by omega
      have t1 : n.tdiv g = n / g := Int.tdiv_eq_ediv_of_nonneg (by omega)
      have t2 : d.tdiv g = d / g := Int.tdiv_eq_ediv_of_nonneg (by omega)
      have q1 : 0 ≤ n / g := Int.ediv_nonneg (by omega) (by omega)
      have q2 : 0 ≤ d / g := Int.ediv_nonneg (by omega) (by omega)
      have q3 : n / g ≤ n := Int.ediv_le_self _ (by omega)
      have q4 : d / g ≤ d := Int.ediv_le_self _ (by omega)
      go_wp2_with fail
      refine (gcd_any n d W3 (by omega) (by omega) (by omega) (by omega)).mono ?_
      rintro e W4 ⟨rfl, hE5⟩
      rw [HG'.out]
      replace cN := (sN.ext hE5).cell
      replace cD := (sD.ext hE5).cell
      rw [HN.out] at cN
      rw [HD.out] at cD
      go_wp2_with fail
      go_quiet (fail)
      go_wp2
      go_ret3
      exact ⟨by rw [HN.out, HD.out, HG.out]; rfl, (HE.out.trans hE5).drewN _⟩
    · exact h0.elim

theorem MonthNo_ok (s : Sp.Sky) (A : Option Addr) (c : Nat) (w : World) (hm : Bodies w A s.bodies) (hl : Short s.bodies) (hmn : Sp.isMonth s = false) (c0 : Sp.skyOk s = true) :
    Calls Tryz.prog 68 #[.agg #[.slice A s.bodies.length c, .int .i64 s.nnum, .int .i64 s.nden, .int .i64 s.nstart]] w fun e w' => e = .returned (.tuple #[.int .i64 0, .int .i64 0, .int .i64 7]) ∧ Ext w w' := by
  have hl1 := hl.1
  have HL := Lib.hid hl
  have HM := Lib.hid hm
  clear hm hl
  go_enter Tryz.func68, Tryz.ntmps68
  go_wp2_with fail
  refine (isSky_any s A c _ (HM.out.ext ((Ext.refl w).alloc _)) HL.out).mono ?_
  rintro e w1 ⟨rfl, hE1⟩
  have hE := ((Ext.refl w).alloc _).trans hE1
  have hr : Row w1 w.heap.size 28 _ := (Row.new w _ _).ext hE1
  have b0 := hr.cell
  clear hE1
  have hmf : ∀ (fn : Fn) (first cap : Array Value) (w : World), (Instr.makeFunc fn first cap).run Tryz.prog w = .ok (.func fn first cap) w := fun _ _ _ _ => rfl
  have HK := Lib.hid (skyOk_iff.1 c0)
  have hE3 : Ext w1 (((w1.alloc (.cells #[.int .i64 0] 3)).alloc (.cells #[.int .i64 1] 3)).alloc (.cells #[.int .i64 0] 32)) := (((Ext.refl w1).alloc _).alloc _).alloc _
  have rN : Row (((w1.alloc (.cells #[.int .i64 0] 3)).alloc (.cells #[.int .i64 1] 3)).alloc (.cells #[.int .i64 0] 32)) w1.heap.size 3 #[.int .i64 0] := (blocks3 w1 _ _ _).1
  have rD : Row (((w1.alloc (.cells #[.int .i64 0] 3)).alloc (.cells #[.int .i64 1] 3)).alloc (.cells #[.int .i64 0] 32)) (w1.heap.size + 1) 3 #[.int .i64 1] := (blocks3 w1 _ _ _).2.1
  have rR : Row (((w1.alloc (.cells #[.int .i64 0] 3)).alloc (.cells #[.int .i64 1] 3)).alloc (.cells #[.int .i64 0] 32)) (w1.heap.size + 2) 32 #[.int .i64 0] := (blocks3 w1 _ _ _).2.2
  have hz := hr.lt
  go_wp2_with fail
  refine (try_any 131 _ 7 _ (fun _ => False) (fun w' => Ext (((w1.alloc (.cells #[.int .i64 0] 3)).alloc (.cells #[.int .i64 1] 3)).alloc (.cells #[.int .i64 0] 32)) w') (enters_of Tryz.func131 (by kernel_rfl) rfl)
    ((month1_no s A c w.heap.size _ _ _ HK.out (HM.out.ext (hE.trans hE3)) hmn (hr.ext hE3)).mono ?_)).mono ?_
  · rintro e w' ⟨rfl, hEE⟩
    exact ⟨by simpa using rR.ext hEE, .inr ⟨rfl, hEE⟩⟩
  · rintro e w' ⟨W1, ⟨h0, _⟩ | ⟨hEE, rfl, rfl⟩⟩
    · exact h0.elim
    · have HE := Lib.hid (hE.trans (((hE3.trans hEE).setCell (p := ⟨w1.heap.size + 1 + 1, 0, none⟩) (by simp; omega) (.int .i64 7)).alloc (.cells #[.int .i64 7] 152)))
      simp only [World.size_alloc]
      clear hE3 rN rD rR hEE hE b0
      go_wp2_with fail
      go_ret3
      exact ⟨rfl, HE.out⟩

end Go.Proofs.YtlcddcnmoajpjaaGreatDoor
