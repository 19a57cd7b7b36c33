/- RefEq: Comparisons of structs: moons, eclipses, spans, periods, nodes.
RefSame: The walks of the reference's comparisons of lists. (Printed by wip/mksame.py.)
RefSky: The walk of the reference's Sky: which skies are as defined.
RefDec: The walk of the reference's Decimal and row.
RefPrint: The walk of the reference's Print. (Printed by wip/mkrprint.py out of Text3.) -/
import Derived.Laws.StructEq
import Derived.Laws.IdiomStrings
import Derived.Test.YtlcddcnmoajpjaaGreatDoorV18
import Derived.Test.YtlcddcnmoajpjaaGreatDoorV06
import Derived.Test.YtlcddcnmoajpjaaGreatDoorV03
import Derived.Test.YtlcddcnmoajpjaaGreatDoorV15
namespace Go.Proofs.YtlcddcnmoajpjaaGreatDoor
open Go.RowKit

theorem map_one {α β : Type} {g : α → β} {l : List α} {a : β} (h : l.map g = [a]) : ∃ x, l = [x] ∧ g x = a := by
  cases l with
  | nil => simp at h
  | cons x l =>
    simp only [List.map_cons, List.cons.injEq, List.map_eq_nil_iff] at h
    exact ⟨x, by rw [h.2], h.1⟩
theorem map_two {α β : Type} {g : α → β} {l : List α} {a b : β} (h : l.map g = [a, b]) : ∃ x y, l = [x, y] ∧ g x = a ∧ g y = b := by
  cases l with
  | nil => simp at h
  | cons x l =>
    simp only [List.map_cons, List.cons.injEq] at h
    obtain ⟨y, rfl, hy⟩ := map_one h.2
    exact ⟨x, y, rfl, h.1, hy⟩
theorem map_three {α β : Type} {g : α → β} {l : List α} {a b c : β} (h : l.map g = [a, b, c]) : ∃ x y z, l = [x, y, z] ∧ g x = a ∧ g y = b ∧ g z = c := by
  cases l with
  | nil => simp at h
  | cons x l =>
    simp only [List.map_cons, List.cons.injEq] at h
    obtain ⟨y, z, rfl, hy, hz⟩ := map_two h.2
    exact ⟨x, y, z, rfl, h.1, hy, hz⟩
theorem field_parts {f : Field} {a : String} {b : TypeId} {c : Nat} (h : (fun f : Field => (f.name, f.type, f.offset)) f = (a, b, c)) : f.name = a ∧ f.type = b ∧ f.offset = c := by
  simpa using h

theorem neq_moon (a b : Int) (x y : Bool) (w : World) : (binOp .neq 40 (.agg #[.int .i64 a, .bool x]) (.agg #[.int .i64 b, .bool y])).run Tryz.prog w = .ok (.bool (!((a == b) && (x == y)))) w := by
  have hf : (Tryz.prog.fieldsOf 40).toList.map (fun f => (f.name, f.type, f.offset)) = [("Day", 3, 0), ("Full", 4, 1)] := by kernel_rfl
  obtain ⟨f1, f2, hfs, p1, p2⟩ := map_two hf
  obtain ⟨n1, t1, o1⟩ := field_parts p1
  obtain ⟨n2, t2, o2⟩ := field_parts p2
  rw [run_neq_struct, run_equalIn_agg w 9999 _ _ _ (by kernel_rfl) (by kernel_rfl), hfs]
  simp [Op.eqFields, n1, t1, o1, n2, t2, o2, part, go_sem]
  by_cases h : a = b <;> by_cases h2 : x = y <;> simp [h, h2]
theorem neq_ecl (a b c d : Int) (x y : Bool) (w : World) : (binOp .neq 56 (.agg #[.int .i64 a, .bool x, .int .i64 c]) (.agg #[.int .i64 b, .bool y, .int .i64 d])).run Tryz.prog w = .ok (.bool (!((a == b) && (x == y) && (c == d)))) w := by
  have hf : (Tryz.prog.fieldsOf 56).toList.map (fun f => (f.name, f.type, f.offset)) = [("Day", 3, 0), ("Full", 4, 1), ("Far", 3, 2)] := by kernel_rfl
  obtain ⟨f1, f2, f3, hfs, p1, p2, p3⟩ := map_three hf
  obtain ⟨n1, t1, o1⟩ := field_parts p1
  obtain ⟨n2, t2, o2⟩ := field_parts p2
  obtain ⟨n3, t3, o3⟩ := field_parts p3
  rw [run_neq_struct, run_equalIn_agg w 9999 _ _ _ (by kernel_rfl) (by kernel_rfl), hfs]
  simp [Op.eqFields, n1, t1, o1, n2, t2, o2, n3, t3, o3, part, go_sem]
  by_cases h : a = b <;> by_cases h2 : x = y <;> by_cases h3 : c = d <;> simp [h, h2, h3]
theorem eql_span (a b c d : Int) (w : World) : (binOp .eql 61 (.agg #[.int .i64 a, .int .i64 b]) (.agg #[.int .i64 c, .int .i64 d])).run Tryz.prog w = .ok (.bool ((a == c) && (b == d))) w := by
  have hf : (Tryz.prog.fieldsOf 61).toList.map (fun f => (f.name, f.type, f.offset)) = [("Low", 3, 0), ("High", 3, 1)] := by kernel_rfl
  obtain ⟨f1, f2, hfs, p1, p2⟩ := map_two hf
  obtain ⟨n1, t1, o1⟩ := field_parts p1
  obtain ⟨n2, t2, o2⟩ := field_parts p2
  rw [run_eql_struct, run_equalIn_agg w 9999 _ _ _ (by kernel_rfl) (by kernel_rfl), hfs]
  simp [Op.eqFields, n1, t1, o1, n2, t2, o2, part, go_sem]
  by_cases h : a = c <;> by_cases h2 : b = d <;> simp [h, h2]
end Go.Proofs.YtlcddcnmoajpjaaGreatDoor

namespace Go.Proofs.YtlcddcnmoajpjaaGreatDoor
open Go.RowKit
open Sp (rd)

deriving instance DecidableEq for Sp.Ecl
theorem take_eq_succ {α : Type} {l m : List α} {k : Nat} (h : l.take k = m.take k) (h1 : k < l.length) (h2 : k < m.length) (he : l[k] = m[k]) : l.take (k + 1) = m.take (k + 1) := by
  rw [List.take_succ_eq_append_getElem h1, List.take_succ_eq_append_getElem h2, h, he]

theorem getrd {l : List Int} {k : Nat} (h : k < l.length) : l[k] = rd l k := by
  unfold Sp.rd
  rw [List.getD_eq_getElem?_getD, List.getElem?_eq_getElem h]
  rfl

set_option maxRecDepth 100000 in
theorem r_SameMoons_any (v1 v2 : Value) (l1 l2 : List (Int × Bool)) (w : World) (h1 : MoonsVal w v1 l1) (h2 : MoonsVal w v2 l2) (n1 : l1.length ≤ 100000) (n2 : l2.length ≤ 100000) :
    Calls Tryz.prog 29 #[v1, v2] w fun e w' => e = .returned (.bool (decide (l1 = l2))) ∧ Ext w w' := by
  obtain ⟨A1, c1, rfl, q1⟩ := h1
  obtain ⟨A2, c2, rfl, q2⟩ := h2
  by_cases hl : l1.length = l2.length
  · have HQ1 := Lib.hid q1
    have HQ2 := Lib.hid q2
    clear q1 q2
    rw [← hl]
    go_enter Tryz.func29, Tryz.ntmps29
    go_wp2_with fail
    go_loopw [5] (fun i wr => ∃ k : Nat, k ≤ l1.length ∧ i = .int .i64 k ∧ l1.take k = l2.take k ∧ Ext w wr) (fun i _ => l1.length - (intOf i).toNat)
    case atStart => exact ⟨0, Nat.zero_le _, rfl, rfl, Ext.refl _⟩
    case round =>
      obtain ⟨k, hk, rfl, htk, hE⟩ := hrel
      by_cases hlt : k < l1.length
      · obtain ⟨b1, o1, rfl, p1⟩ := HQ1.out (by omega)
        obtain ⟨b2, o2, rfl, p2⟩ := HQ2.out (by omega)
        have hlt2 : k < l2.length := by omega
        have a0 := hE.cell (p1 k hlt).1
        have d0 := hE.cell (p2 k hlt2).1
        have a1 := hE.cell (p1 k hlt).2
        have d1 := hE.cell (p2 k hlt2).2
        have HNX := Lib.hid (fun he => take_eq_succ htk hlt hlt2 he)
        have HNE := Lib.hid (fun (he : ¬ l1[k] = l2[k]) (hh : l1 = l2) => he (by subst hh; rfl))
        clear p1 p2 htk
        by_cases he : l1[k] = l2[k]
        · have HX := Lib.hid (HNX.out he)
          generalize l1[k] = m1 at *
          generalize l2[k] = m2 at *
          subst he
          have hcmp : ∀ w, (binOp .neq 40 (.agg #[.int .i64 m1.1, .bool m1.2]) (.agg #[.int .i64 m1.1, .bool m1.2])).run Tryz.prog w = .ok (.bool false) w := fun w => by rw [neq_moon]; simp
          clear HNX HNE
          go_wp2_with fail
          go_quiet (fail)
          go_wp2_with fail
          refine ⟨⟨k + 1, by omega, by go_num, HX.out, hE.drewN _⟩, by simp [intOf]; omega⟩
        · have HN2 : Hid (¬ l1 = l2) := Lib.hid (HNE.out he)
          generalize l1[k] = m1 at *
          generalize l2[k] = m2 at *
          have hcmp : ∀ w, (binOp .neq 40 (.agg #[.int .i64 m1.1, .bool m1.2]) (.agg #[.int .i64 m2.1, .bool m2.2])).run Tryz.prog w = .ok (.bool true) w := fun w => by
            rw [neq_moon]
            cases m1
            cases m2
            simp at he
            simp
            grind
          clear HNX HNE he
          go_wp2_with fail
          go_quiet (fail)
          go_wp2_with fail
          go_ret
          exact ⟨ret_bool (by simp [HN2.out]), hE.drewN _⟩
      · obtain rfl : k = l1.length := by omega
        have HE := Lib.hid hE
        have HEQ : Hid (l1 = l2) := Lib.hid (by rw [List.take_length] at htk; rw [htk, hl, List.take_length])
        clear htk hE hl
        go_wp2_with fail
        go_ret
        exact ⟨ret_bool (by simp [HEQ.out]), HE.out⟩
  · have HNE : Hid (¬ l1 = l2) := Lib.hid (fun h => hl (by rw [h]))
    have hl' : ¬ ((l1.length : Int) = (l2.length : Int)) := by omega
    clear q1 q2 hl
    go_enter Tryz.func29, Tryz.ntmps29
    go_wp2_with fail
    go_ret
    exact ⟨ret_bool (by simp [HNE.out]), Ext.refl _⟩

set_option maxRecDepth 100000 in
theorem r_SameEclipses_any (v1 v2 : Value) (l1 l2 : List Sp.Ecl) (w : World) (h1 : EclVal w v1 l1) (h2 : EclVal w v2 l2) (n1 : l1.length ≤ 100000) (n2 : l2.length ≤ 100000) :
    Calls Tryz.prog 35 #[v1, v2] w fun e w' => e = .returned (.bool (decide (l1 = l2))) ∧ Ext w w' := by
  obtain ⟨A1, c1, rfl, q1⟩ := h1
  obtain ⟨A2, c2, rfl, q2⟩ := h2
  by_cases hl : l1.length = l2.length
  · have HQ1 := Lib.hid q1
    have HQ2 := Lib.hid q2
    clear q1 q2
    rw [← hl]
    go_enter Tryz.func35, Tryz.ntmps35
    go_wp2_with fail
    go_loopw [5] (fun i wr => ∃ k : Nat, k ≤ l1.length ∧ i = .int .i64 k ∧ l1.take k = l2.take k ∧ Ext w wr) (fun i _ => l1.length - (intOf i).toNat)
    case atStart => exact ⟨0, Nat.zero_le _, rfl, rfl, Ext.refl _⟩
    case round =>
      obtain ⟨k, hk, rfl, htk, hE⟩ := hrel
      by_cases hlt : k < l1.length
      · obtain ⟨b1, o1, rfl, p1⟩ := HQ1.out (by omega)
        obtain ⟨b2, o2, rfl, p2⟩ := HQ2.out (by omega)
        have hlt2 : k < l2.length := by omega
        have a0 := hE.cell (p1 k hlt).1
        have d0 := hE.cell (p2 k hlt2).1
        have a1 := hE.cell (p1 k hlt).2.1
        have d1 := hE.cell (p2 k hlt2).2.1
        have a2 := hE.cell (p1 k hlt).2.2
        have d2 := hE.cell (p2 k hlt2).2.2
        have HNX := Lib.hid (fun he => take_eq_succ htk hlt hlt2 he)
        have HNE := Lib.hid (fun (he : ¬ l1[k] = l2[k]) (hh : l1 = l2) => he (by subst hh; rfl))
        clear p1 p2 htk
        by_cases he : l1[k] = l2[k]
        · have HX := Lib.hid (HNX.out he)
          generalize l1[k] = m1 at *
          generalize l2[k] = m2 at *
          subst he
          have hcmp : ∀ w, (binOp .neq 56 (.agg #[.int .i64 m1.day, .bool m1.full, .int .i64 m1.far]) (.agg #[.int .i64 m1.day, .bool m1.full, .int .i64 m1.far])).run Tryz.prog w = .ok (.bool false) w := fun w => by rw [neq_ecl]; simp
          clear HNX HNE
          go_wp2_with fail
          go_quiet (fail)
          go_wp2_with fail
          refine ⟨⟨k + 1, by omega, by go_num, HX.out, hE.drewN _⟩, by simp [intOf]; omega⟩
        · have HN2 : Hid (¬ l1 = l2) := Lib.hid (HNE.out he)
          generalize l1[k] = m1 at *
          generalize l2[k] = m2 at *
          have hcmp : ∀ w, (binOp .neq 56 (.agg #[.int .i64 m1.day, .bool m1.full, .int .i64 m1.far]) (.agg #[.int .i64 m2.day, .bool m2.full, .int .i64 m2.far])).run Tryz.prog w = .ok (.bool true) w := fun w => by
            rw [neq_ecl]
            cases m1
            cases m2
            simp at he
            simp
            grind
          clear HNX HNE he
          go_wp2_with fail
          go_quiet (fail)
          go_wp2_with fail
          go_ret
          exact ⟨ret_bool (by simp [HN2.out]), hE.drewN _⟩
      · obtain rfl : k = l1.length := by omega
        have HE := Lib.hid hE
        have HEQ : Hid (l1 = l2) := Lib.hid (by rw [List.take_length] at htk; rw [htk, hl, List.take_length])
        clear htk hE hl
        go_wp2_with fail
        go_ret
        exact ⟨ret_bool (by simp [HEQ.out]), HE.out⟩
  · have HNE : Hid (¬ l1 = l2) := Lib.hid (fun h => hl (by rw [h]))
    have hl' : ¬ ((l1.length : Int) = (l2.length : Int)) := by omega
    clear q1 q2 hl
    go_enter Tryz.func35, Tryz.ntmps35
    go_wp2_with fail
    go_ret
    exact ⟨ret_bool (by simp [HNE.out]), Ext.refl _⟩

set_option maxRecDepth 100000 in
theorem r_Same_any (v1 v2 : Value) (l1 l2 : List Int) (w : World) (h1 : IntsVal w v1 l1) (h2 : IntsVal w v2 l2) (n1 : l1.length ≤ 100000) (n2 : l2.length ≤ 100000) :
    Calls Tryz.prog 53 #[v1, v2] w fun e w' => e = .returned (.bool (decide (l1 = l2))) ∧ Ext w w' := by
  obtain ⟨A1, c1, rfl, q1⟩ := h1
  obtain ⟨A2, c2, rfl, q2⟩ := h2
  by_cases hl : l1.length = l2.length
  · have HQ1 := Lib.hid q1
    have HQ2 := Lib.hid q2
    clear q1 q2
    rw [← hl]
    go_enter Tryz.func53, Tryz.ntmps53
    go_wp2_with fail
    go_loopw [5] (fun i wr => ∃ k : Nat, k ≤ l1.length ∧ i = .int .i64 k ∧ l1.take k = l2.take k ∧ Ext w wr) (fun i _ => l1.length - (intOf i).toNat)
    case atStart => exact ⟨0, Nat.zero_le _, rfl, rfl, Ext.refl _⟩
    case round =>
      obtain ⟨k, hk, rfl, htk, hE⟩ := hrel
      by_cases hlt : k < l1.length
      · obtain ⟨b1, o1, rfl, p1⟩ := HQ1.out (by omega)
        obtain ⟨b2, o2, rfl, p2⟩ := HQ2.out (by omega)
        have hlt2 : k < l2.length := by omega
        have a0 := hE.cell (p1 k hlt)
        have d0 := hE.cell (p2 k hlt2)
        have HNX := Lib.hid (fun he => take_eq_succ htk hlt hlt2 he)
        have HNE := Lib.hid (fun (he : ¬ l1[k] = l2[k]) (hh : l1 = l2) => he (by subst hh; rfl))
        clear p1 p2 htk
        by_cases he : l1[k] = l2[k]
        · have HX := Lib.hid (HNX.out he)
          rw [getrd hlt] at he HNE HNX
          rw [getrd hlt2] at he HNE HNX
          clear HNX HNE
          rw [he] at a0
          go_wp2_with fail
          go_quiet (fail)
          go_wp2_with fail
          refine ⟨⟨k + 1, by omega, by go_num, HX.out, hE.drewN _⟩, by simp [intOf]; omega⟩
        · have HN2 : Hid (¬ l1 = l2) := Lib.hid (HNE.out he)
          rw [getrd hlt, getrd hlt2] at he
          clear HNX HNE
          go_wp2_with fail
          go_quiet (fail)
          go_wp2_with fail
          go_ret
          exact ⟨ret_bool (by simp [HN2.out]), hE.drewN _⟩
      · obtain rfl : k = l1.length := by omega
        have HE := Lib.hid hE
        have HEQ : Hid (l1 = l2) := Lib.hid (by rw [List.take_length] at htk; rw [htk, hl, List.take_length])
        clear htk hE hl
        go_wp2_with fail
        go_ret
        exact ⟨ret_bool (by simp [HEQ.out]), HE.out⟩
  · have HNE : Hid (¬ l1 = l2) := Lib.hid (fun h => hl (by rw [h]))
    have hl' : ¬ ((l1.length : Int) = (l2.length : Int)) := by omega
    clear q1 q2 hl
    go_enter Tryz.func53, Tryz.ntmps53
    go_wp2_with fail
    go_ret
    exact ⟨ret_bool (by simp [HNE.out]), Ext.refl _⟩
end Go.Proofs.YtlcddcnmoajpjaaGreatDoor

namespace Go.Proofs.YtlcddcnmoajpjaaGreatDoor
open Go.RowKit
open Sp (rd)

theorem skyOk_no {s : Sp.Sky} {k : Nat} (hk : k < s.bodies.length) (h : Sp.bodyOk (bd s.bodies k) = false) : Sp.skyOk s = false := by
  have hm : bd s.bodies k ∈ s.bodies := by
    unfold bd
    rw [List.getD_eq_getElem?_getD, List.getElem?_eq_getElem hk]
    exact List.getElem_mem hk
  have ha : s.bodies.all Sp.bodyOk = false := by
    rw [List.all_eq_false]
    exact ⟨_, hm, by rw [h]; simp⟩
  simp [Sp.skyOk, ha]
theorem bodies_take_succ {l : List Sp.Body} {k : Nat} (hk : k < l.length) (h : (l.take k).all Sp.bodyOk = true) (hb : Sp.bodyOk (bd l k) = true) : (l.take (k + 1)).all Sp.bodyOk = true := by
  have e : bd l k = l[k] := by
    unfold bd
    rw [List.getD_eq_getElem?_getD, List.getElem?_eq_getElem hk]
    rfl
  rw [List.take_succ_eq_append_getElem hk, List.all_append, h, ← e]
  simp [hb]
theorem road_no {l : List Int} {k : Nat} (hk : k < l.length) (h : Sp.inR (rd l k) (-600) 600 = false) : Sp.roadOk l = false := by
  have e : rd l k = l[k] := by
    unfold Sp.rd
    rw [List.getD_eq_getElem?_getD, List.getElem?_eq_getElem hk]
    rfl
  unfold Sp.roadOk
  rw [List.all_eq_false]
  exact ⟨_, List.getElem_mem hk, by rw [← e, h]; simp⟩
theorem road_take_succ {l : List Int} {k : Nat} (hk : k < l.length) (h : Sp.roadOk (l.take k) = true) (hb : Sp.inR (rd l k) (-600) 600 = true) : Sp.roadOk (l.take (k + 1)) = true := by
  have e : rd l k = l[k] := by
    unfold Sp.rd
    rw [List.getD_eq_getElem?_getD, List.getElem?_eq_getElem hk]
    rfl
  unfold Sp.roadOk at h ⊢
  rw [List.take_succ_eq_append_getElem hk, List.all_append, h, ← e]
  simp [hb]

set_option maxRecDepth 100000 in
set_option maxHeartbeats 1000000 in
theorem r_Sky_any (s : Sp.Sky) (A : Option Addr) (c : Nat) (w : World) (hm : Bodies w A s.bodies) (hl : Short s.bodies) :
    Calls Tryz.prog 27 #[.agg #[.slice A s.bodies.length c, .int .i64 s.nnum, .int .i64 s.nden, .int .i64 s.nstart]] w fun e w' => e = .returned (.bool (Sp.skyOk s)) ∧ Ext w w' := by
  have hl1 := hl.1
  have HL := Lib.hid hl
  have HM := Lib.hid hm
  clear hm hl
  go_enter Tryz.func27, Tryz.ntmps27
  go_wp2_with fail
  have hr0 := Row.new w 28 #[.slice A s.bodies.length c, .int .i64 s.nnum, .int .i64 s.nden, .int .i64 s.nstart]
  have hE0 : Ext w (w.alloc (.cells #[.slice A s.bodies.length c, .int .i64 s.nnum, .int .i64 s.nden, .int .i64 s.nstart] 28)) := (Ext.refl w).alloc _
  generalize w.alloc (.cells #[.slice A s.bodies.length c, .int .i64 s.nnum, .int .i64 s.nden, .int .i64 s.nstart] 28) = w1 at *
  go_loopw [3] (fun i wr => ∃ k : Nat, k ≤ s.bodies.length ∧ i = .int .i64 k ∧ (s.bodies.take k).all Sp.bodyOk = true ∧ Ext w1 wr) (fun i _ => s.bodies.length - (intOf i).toNat)
  case atStart => exact ⟨0, Nat.zero_le _, rfl, rfl, Ext.refl _⟩
  case round =>
    obtain ⟨k, hk, rfl, hall, hE⟩ := hrel
    have b0 := (hr0.ext hE).cell
    have HE := Lib.hid hE
    by_cases hlt : k < s.bodies.length
    · obtain ⟨b, o, rfl, hB⟩ := HM.out (by omega)
      have HB := (hB k hlt).ext (hE0.trans hE)
      have HNX := Lib.hid (fun h => bodies_take_succ hlt hall h)
      have HNO := Lib.hid (fun h => skyOk_no (s := s) hlt h)
      have hrl := HL.out.2 k hlt
      clear hall hE hB
      generalize bd s.bodies k = B at *
      obtain ⟨A1, r1, hr1, I1⟩ := HB.road
      have HI := Lib.hid I1
      have q0 := HB.num
      have q1 := HB.den
      have q2 := HB.start
      have hbo : (0 : Int) ≤ (k : Int) ∧ (k : Int) < (s.bodies.length : Int) := by omega
      clear HB I1
      go_wp2_with fail
      have hrb := Row.new wr 80 #[.int .i64 B.num, .int .i64 B.den, .int .i64 B.start, .slice A1 B.road.length r1]
      refine (r_period_any _ _ _).mono ?_
      rintro e w3 ⟨rfl, hE3⟩
      have rB := hrb.ext hE3
      have cB := rB.cell
      have I3 := Lib.hid (HI.out.ext (((Ext.refl wr).alloc _).trans hE3))
      have HE3 := Lib.hid (HE.out.trans (((Ext.refl wr).alloc _).trans hE3))
      clear hE3 hrb q0 q1 q2 hr1 b0
      cases p1 : Sp.period B.num B.den
      · have HN := Lib.hid (HNO.out (by simp [Sp.bodyOk, p1]))
        go_wp2_with fail
        go_ret
        exact ⟨ret_bool HN.out.symm, hE0.trans HE3.out⟩
      · cases p2 : Sp.spot B.start
        · have HN := Lib.hid (HNO.out (by simp [Sp.bodyOk, p2]))
          go_wp2_with (go_at_call 39; refine (r_Spot_any _ _).mono ?_; rintro e w' ⟨rfl, rfl⟩)
          go_ret
          exact ⟨ret_bool HN.out.symm, hE0.trans HE3.out⟩
        · cases p3 : Sp.inR (B.road.length : Int) 1 8
          · have HN := Lib.hid (HNO.out (by simp [Sp.bodyOk, p3]))
            go_wp2_with (first | (go_at_call 39; refine (r_Spot_any _ _).mono ?_; rintro e w' ⟨rfl, rfl⟩) | (go_at_call 89; refine (r_in_any _ _ _ _).mono ?_; rintro e w' ⟨rfl, rfl⟩))
            go_ret
            exact ⟨ret_bool HN.out.symm, hE0.trans HE3.out⟩
          · have HBK : Hid (Sp.bodyOk B = Sp.roadOk B.road) := Lib.hid (by simp [Sp.bodyOk, p1, p2, p3])
            go_wp2_with (first | (go_at_call 39; refine (r_Spot_any _ _).mono ?_; rintro e w' ⟨rfl, rfl⟩) | (go_at_call 89; refine (r_in_any _ _ _ _).mono ?_; rintro e w' ⟨rfl, rfl⟩))
            clear cB p1 p2 p3
            go_loopw [5] (fun j ws => ∃ m : Nat, m ≤ B.road.length ∧ j = .int .i64 m ∧ Sp.roadOk (B.road.take m) = true ∧ Ext w3 ws) (fun j _ => B.road.length - (intOf j).toNat)
            case atStart => exact ⟨0, Nat.zero_le _, rfl, rfl, Ext.refl _⟩
            case round =>
              obtain ⟨m, hmm, rfl, hal2, hEs⟩ := hrel
              have cB := (rB.ext hEs).cell
              by_cases hlt2 : m < B.road.length
              · obtain ⟨g, q, rfl, hI⟩ := I3.out (by omega)
                have x1 := hEs.cell (hI m hlt2)
                have HX := Lib.hid (fun h => road_take_succ hlt2 hal2 h)
                have HY := Lib.hid (fun h => road_no hlt2 h)
                have HES := Lib.hid hEs
                clear hal2 hEs hI
                cases p4 : Sp.inR (rd B.road m) (-600) 600
                · have HN := Lib.hid (HNO.out (by rw [HBK.out]; exact HY.out p4))
                  go_wp2_with (go_at_call 89; refine (r_in_any _ _ _ _).mono ?_; rintro e w' ⟨rfl, rfl⟩)
                  go_ret
                  exact ⟨ret_bool HN.out.symm, hE0.trans (HE3.out.trans HES.out)⟩
                · have HN := Lib.hid (HX.out p4)
                  go_wp2_with (go_at_call 89; refine (r_in_any _ _ _ _).mono ?_; rintro e w' ⟨rfl, rfl⟩)
                  refine ⟨⟨m + 1, by omega, by go_num, HN.out, HES.out⟩, by simp [intOf]; omega⟩
              · obtain rfl : m = B.road.length := by omega
                rw [List.take_length] at hal2
                have HN := Lib.hid (HNX.out (by rw [HBK.out]; exact hal2))
                have HES := Lib.hid (HE3.out.trans hEs)
                clear hal2 hEs
                go_wp2_with fail
                refine ⟨⟨k + 1, by omega, by go_num, HN.out, HES.out⟩, by simp [intOf]; omega⟩
    · obtain rfl : k = s.bodies.length := by omega
      rw [List.take_length] at hall
      have HSO : Hid (Sp.skyOk s = (Sp.inR s.bodies.length 2 4 && (Sp.period s.nnum s.nden && Sp.spot s.nstart))) := Lib.hid (by simp [Sp.skyOk, hall])
      clear hall hE
      cases p1 : Sp.inR (s.bodies.length : Int) 2 4
      · go_wp2_with (go_at_call 89; refine (r_in_any _ _ _ _).mono ?_; rintro e w' ⟨rfl, rfl⟩)
        go_ret
        exact ⟨ret_bool (by rw [HSO.out]; simp_all), hE0.trans HE.out⟩
      · cases p2 : Sp.period s.nnum s.nden
        · go_wp2_with (first | (go_at_call 89; refine (r_in_any _ _ _ _).mono ?_; rintro e w' ⟨rfl, rfl⟩) | (go_at_call 88; refine (r_period_any _ _ _).mono ?_; rintro e w3 ⟨rfl, hE3⟩; have b3 := (hr0.ext (HE.out.trans hE3)).cell))
          go_ret
          exact ⟨ret_bool (by rw [HSO.out]; simp_all), hE0.trans (HE.out.trans ‹_›)⟩
        · go_wp2_with (first | (go_at_call 89; refine (r_in_any _ _ _ _).mono ?_; rintro e w' ⟨rfl, rfl⟩) | (go_at_call 88; refine (r_period_any _ _ _).mono ?_; rintro e w3 ⟨rfl, hE3⟩; have b3 := (hr0.ext (HE.out.trans hE3)).cell) | (go_at_call 39; refine (r_Spot_any _ _).mono ?_; rintro e w' ⟨rfl, rfl⟩))
          go_ret
          exact ⟨ret_bool (by rw [HSO.out]; simp_all), hE0.trans (HE.out.trans ‹_›)⟩
end Go.Proofs.YtlcddcnmoajpjaaGreatDoor

namespace Go.Proofs.YtlcddcnmoajpjaaGreatDoor
open Go.RowKit
open Sp (rd)

theorem conv1 (b : Nat) (k : Int) (h0 : 0 ≤ k) (h1 : k < 256) (w : World) (h : w.cell? ⟨b, 0, none⟩ = some (.int .u8 k)) : (convert 98 9 (.slice (some ⟨b, 0, none⟩) 1 1)).run Tryz.prog w = .ok (.string (bs [UInt8.ofNat k.toNat])) w :=
  run_convert_bytes_back (P := Tryz.prog) w 98 9 5 ⟨b, 0, none⟩ 1 [UInt8.ofNat k.toNat] Tryz.underlying98 Tryz.underlying5 Tryz.underlying9 (fun j hj => by
    have : j = 0 := by simpa using hj
    subst this
    rw [add0, h]
    simp
    omega)

/-- The digits that are still to come. -/
def front (m : Nat) : Bs := if m < 10 then [] else Lib.decDigits (m / 10)
theorem front_dec (m : Nat) : Lib.decDigits m = front m ++ [UInt8.ofNat (48 + m % 10)] := by
  unfold front
  by_cases h : m < 10
  · rw [Lib.decDigits, dif_pos h, if_pos h, Nat.mod_eq_of_lt h]
    rfl
  · rw [Lib.decDigits, dif_neg h, if_neg h]

set_option maxRecDepth 100000 in
theorem r_Decimal_nat (n : Nat) (w : World) (hn : n ≤ 1000000000000000000) :
    Calls Tryz.prog 123 #[.int .i64 (n : Int)] w fun e w' => e = .returned (.string (bs (Lib.decDigits n))) ∧ Ext w w' := by
  obtain ⟨d, hd0⟩ : ∃ d : UInt8, UInt8.ofNat (48 + n % 10) = d := ⟨_, rfl⟩
  have hch : UInt8.ofNat (48 + (n : Int) % 10).toNat = d := by rw [← hd0]; congr 1
  have HD0 := Lib.hid hd0
  clear hd0
  have hcv := conv1 w.heap.size (48 + (n : Int) % 10) (by omega) (by omega) (w.alloc (.cells #[.int .u8 (48 + (n : Int) % 10)] 5)) (by simp)
  rw [hch] at hcv
  clear hch
  go_enter Tryz.func123, Tryz.ntmps123
  go_wp2_with fail
  clear hcv
  have hE1 : Ext w (w.alloc (.cells #[.int .u8 (48 + (n : Int) % 10)] 5)) := (Ext.refl w).alloc _
  generalize w.alloc (.cells #[.int .u8 (48 + (n : Int) % 10)] 5) = w1 at *
  go_loopw [0, 3] (fun m v wr => ∃ (k : Nat) (r : Bs), m = .int .i64 (k : Int) ∧ k ≤ n ∧ v = .string (bs r) ∧ Lib.decDigits n = front k ++ r ∧ Ext w1 wr) (fun m _ _ => (intOf m).toNat)
  case atStart => exact ⟨n, _, rfl, Nat.le_refl _, rfl, by rw [front_dec, HD0.out], Ext.refl _⟩
  case round =>
    obtain ⟨k, r, rfl, hk, rfl, hd, hE⟩ := hrel
    have HD := Lib.hid hd
    have HE := Lib.hid hE
    clear hd hE
    by_cases hlt : 10 ≤ k
    · have hq : ((k : Int)).tdiv 10 = ((k / 10 : Nat) : Int) := by rw [Int.tdiv_eq_ediv_of_nonneg (by omega)]; omega
      obtain ⟨d2, hd2⟩ : ∃ d : UInt8, UInt8.ofNat (48 + k / 10 % 10) = d := ⟨_, rfl⟩
      have hch : UInt8.ofNat (48 + (k : Int) / 10 % 10).toNat = d2 := by rw [← hd2]; congr 1
      have HN : Hid (Lib.decDigits n = front (k / 10) ++ ([d2] ++ r)) := Lib.hid (by
        rw [HD.out, show front k = Lib.decDigits (k / 10) from if_neg (by omega), front_dec, List.append_assoc, hd2])
      clear hd2
      have hcv := conv1 wr.heap.size (48 + (k : Int) / 10 % 10) (by omega) (by omega) (wr.alloc (.cells #[.int .u8 (48 + (k : Int) / 10 % 10)] 5)) (by simp)
      rw [hch] at hcv
      clear hch
      have hrl : r.length ≤ 21 := by
        have h1 := Lib.itoa_length_le (n : Int) (by omega) (by omega)
        rw [Lib.itoa_nonneg, HD.out, List.length_append] at h1
        omega
      have hadd := add_str [d2] r (by simp; omega)
      go_wp2_with fail
      refine ⟨⟨k / 10, _, by go_num, by omega, rfl, HN.out, HE.out.alloc _⟩, by simp [intOf]; omega⟩
    · have HN : Hid (Lib.decDigits n = r) := Lib.hid (by rw [HD.out, show front k = [] from if_pos (by omega)]; rfl)
      go_wp2_with fail
      go_ret
      exact ⟨by rw [HN.out]; rfl, hE1.trans HE.out⟩
theorem r_Decimal_any (n : Int) (w : World) (h1 : -1000000000000000000 ≤ n) (h2 : n ≤ 1000000000000000000) :
    Calls Tryz.prog 123 #[.int .i64 n] w fun e w' => e = .returned (.string (bs (Lib.itoa n))) ∧ Ext w w' := by
  by_cases h0 : 0 ≤ n
  · obtain ⟨u, rfl⟩ := Int.eq_ofNat_of_zero_le h0
    rw [Lib.itoa_nonneg]
    exact r_Decimal_nat u w (by omega)
  · obtain ⟨u, hu⟩ := Int.eq_ofNat_of_zero_le (show 0 ≤ -n by omega)
    have hn : n = -(u : Int) := by omega
    have hl := Lib.itoa_length_le (u : Int) (by omega) (by omega)
    rw [Lib.itoa_nonneg] at hl
    rw [hn, Lib.itoa_neg u (by omega)]
    have hadd : ∀ W : World, (Op.stringOp .add ⟨#[45]⟩ (bs (Lib.decDigits u))).run Tryz.prog W = .ok (.string (bs (45 :: Lib.decDigits u))) W := add_str [45] (Lib.decDigits u) (by simp; omega)
    have hu1 : 1 ≤ u := by omega
    have hu2 : u ≤ 1000000000000000000 := by omega
    clear hu hn h0 h1 h2
    go_enter Tryz.func123, Tryz.ntmps123
    go_wp2_with fail
    refine (r_Decimal_nat u _ (by omega)).mono ?_
    rintro e w1 ⟨rfl, hE⟩
    go_wp2_with fail
    go_ret
    exact ⟨rfl, hE⟩

def RRowRel (w : World) (name : Bs) (l : List Int) (v i : Value) (wr : World) : Prop :=
  ∃ k : Nat, k ≤ l.length ∧ i = .int .i64 k ∧ v = .string (bs (lineL name (l.take k))) ∧ Ext w wr
set_option maxRecDepth 100000 in
theorem r_row_any (name : Bs) (l : List Int) (A : Option Addr) (c : Nat) (w : World) (hm : Ints w A l) (hn : name.length ≤ 100) (hl : l.length ≤ 100000) (hb : ∀ n ∈ l, -1000000000000000000 ≤ n ∧ n ≤ 1000000000000000000) :
    Calls Tryz.prog 122 #[.string (bs name), .slice A l.length c] w fun e w' => e = .returned (.string (bs (lineL name l))) ∧ Ext w w' := by
  have HM := Lib.hid hm
  have HB := Lib.hid hb
  clear hm hb
  go_enter Tryz.func122, Tryz.ntmps122
  go_wp2_with fail
  go_loopw [0, 5] (fun v i wr => RRowRel w name l v i wr) (fun _ i _ => l.length - (intOf i).toNat)
  case atStart => exact ⟨0, Nat.zero_le _, rfl, by simp [lineL], Ext.refl _⟩
  case round =>
    obtain ⟨k, hk, rfl, rfl, hE⟩ := hrel
    by_cases hlt : k < l.length
    · obtain ⟨b, o, rfl, hc⟩ := (HM.out.ext hE) (by omega)
      have c0 := hc k hlt
      obtain ⟨v1, v2⟩ := HB.out (rd l k) (by unfold rd; rw [List.getD_eq_getElem?_getD, List.getElem?_eq_getElem hlt]; exact List.getElem_mem hlt)
      have hlen := lineL_length name (l.take k) (fun n hn => by have := HB.out n (List.mem_of_mem_take hn); omega)
      have hzl := Lib.itoa_length_le (rd l k) (by omega) (by omega)
      have HT : Hid (lineL name (l.take (k + 1)) = lineL name (l.take k) ++ [32] ++ Lib.itoa (rd l k)) := Lib.hid (by rw [take_snoc_rd l k hlt, lineL_snoc])
      obtain ⟨v, hv⟩ : ∃ v, rd l k = v := ⟨_, rfl⟩
      rw [hv] at c0 v1 v2 HT hzl
      obtain ⟨s, hs⟩ : ∃ s, lineL name (l.take k) = s := ⟨_, rfl⟩
      rw [hs] at HT hlen ⊢
      have htl : (l.take k).length ≤ 100000 := by rw [List.length_take]; omega
      have f1 : ∀ W : World, (Op.stringOp .add (bs s) ⟨#[32]⟩).run Tryz.prog W = .ok (.string (bs (s ++ [32]))) W := add_str s [32] (by simp; omega)
      have f2 : ∀ W : World, (Op.stringOp .add (bs (s ++ [32])) (bs (Lib.itoa v))).run Tryz.prog W = .ok (.string (bs (s ++ [32] ++ Lib.itoa v))) W := add_str _ _ (by simp; omega)
      have hlt' : (k : Int) < (l.length : Int) := by omega
      have HE := Lib.hid hE
      clear hc hv hs hE hlen hzl htl hn
      go_wp2_with fail
      refine (r_Decimal_any v _ v1 v2).mono ?_
      rintro e w1 ⟨rfl, hE1⟩
      have HE1 := Lib.hid (HE.out.trans hE1)
      clear hE1
      go_wp2_with fail
      go_roundw
      case rel => exact ⟨k + 1, by omega, by go_num, by rw [HT.out]; simp, HE1.out⟩
      case measure => simp [intOf]; omega
    · obtain rfl : k = l.length := by omega
      rw [List.take_length]
      have HE := Lib.hid hE
      clear hE
      go_wp2_with fail
      go_ret
      exact ⟨rfl, HE.out⟩
end Go.Proofs.YtlcddcnmoajpjaaGreatDoor

namespace Go.Proofs.YtlcddcnmoajpjaaGreatDoor
open Go.RowKit
open Sp (rd)

theorem num_18 {n : Int} (h : numOk n) : -1000000000000000000 ≤ n ∧ n ≤ 1000000000000000000 := by have := h.1; have := h.2; omega
/-- The first lines, each with its end. -/
def outL (L : List Bs) : Nat → Bs
  | 0 => []
  | k + 1 => outL L k ++ L.getD k [] ++ [10]
theorem outL_length (L : List Bs) (k : Nat) (h : ∀ x ∈ L, x.length ≤ 23000) (hk : k ≤ L.length) : (outL L k).length ≤ k * 23001 := by
  induction k with
  | zero => simp [outL]
  | succ k ih =>
    have h1 := ih (by omega)
    have h2 := h (L.getD k []) (by rw [List.getD_eq_getElem?_getD, List.getElem?_eq_getElem (by omega)]; exact List.getElem_mem _)
    simp only [outL, List.length_append, List.length_cons, List.length_nil]
    omega
theorem outL_flat (L : List Bs) (k : Nat) (hk : k ≤ L.length) : outL L k = ((L.take k).map (· ++ [10])).flatten := by
  induction k with
  | zero => simp [outL]
  | succ k ih =>
    rw [outL, ih (by omega), List.take_succ_eq_append_getElem (by omega), List.map_append, List.flatten_append, List.getD_eq_getElem?_getD, List.getElem?_eq_getElem (by omega), List.append_assoc]
    simp only [List.map_cons, List.map_nil, List.flatten_cons, List.flatten_nil, List.append_nil, Option.getD_some]
theorem flat_ends (r : List Bs) : (r.map ([10] ++ ·)).flatten ++ [10] = [10] ++ (r.map (· ++ [(10 : UInt8)])).flatten := by
  induction r with
  | nil => rfl
  | cons x r ih =>
    simp only [List.map_cons, List.flatten_cons, List.append_assoc] at ih ⊢
    rw [ih]
theorem outL_join (L : List Bs) (h : L ≠ []) : outL L L.length = Lib.join L [10] ++ [10] := by
  rw [outL_flat L _ (Nat.le_refl _), List.take_length]
  cases L with
  | nil => exact absurd rfl h
  | cons x r =>
    rw [Lib.join_cons, Lib.joinTail, List.append_assoc, flat_ends]
    simp

set_option maxRecDepth 100000 in
set_option maxHeartbeats 1000000 in
theorem r_Print_any (s : Sp.Sky) (A : Option Addr) (c : Nat) (w : World) (hm : Bodies w A s.bodies) (hR : RoadsIn w A s.bodies) (h : SkyText s) :
    Calls Tryz.prog 61 #[.agg #[.slice A s.bodies.length c, .int .i64 s.nnum, .int .i64 s.nden, .int .i64 s.nstart]] w fun e w' => e = .returned (.string (bs (textL s))) ∧ Ext w w' := by
  have HM := Lib.hid hm
  have HR := Lib.hid hR
  have HS := Lib.hid h
  have hfew := h.few
  clear hm hR h
  obtain ⟨i0, hi0, hz0, hz1, hz2⟩ := info_parts info_string
  obtain ⟨j0, hj0, hy0, hy1, hy2⟩ := info_parts info_int
  go_enter Tryz.func61, Tryz.ntmps61
  go_wp2_with fail
  have hE0 : Ext w ((w.alloc (.cells #[.slice A s.bodies.length c, .int .i64 s.nnum, .int .i64 s.nden, .int .i64 s.nstart] 28)).alloc (.cells #[.int .i64 s.bodies.length] 3)) := ((Ext.refl w).alloc _).alloc _
  refine (r_row_any wSky [(s.bodies.length : Int)] (some ⟨w.heap.size + 1, 0, none⟩) 1 _ (ints_row (blocks2 w _ _).2 fun k hk => ?_) (by decide) (by simp) (fun n hn => ?_)).mono ?_
  · obtain rfl : k = 0 := by simpa using hk
    rfl
  · obtain rfl : n = _ := List.mem_singleton.1 hn
    omega
  rintro e w1 ⟨rfl, hE1⟩
  have rS : Row w1 w.heap.size 28 _ := Row.ext (blocks2 w _ _).1 hE1
  have hE := hE0.trans hE1
  have cS := rS.cell
  have HRS := Lib.hid rS
  have HE := Lib.hid hE
  have hzz := rS.lt
  clear hE0 hE1 rS hE
  go_wp2_with fail
  go_loopw [3, 4] (fun v i wr => TextRel1 w1 s v i wr) (fun _ i _ => s.bodies.length - (intOf i).toNat)
  case atStart => exact ⟨0, Nat.zero_le _, rfl, ownsRow_new w1 9 #[.string (bs (lineL wSky [(s.bodies.length : Int)]))] 1 _ rfl (by decide) (Nat.le_refl _), (Ext.refl w1).alloc _⟩
  case round =>
    obtain ⟨k, hk, rfl, hown, hX⟩ := hrel
    clear cS
    have cS := (HRS.out.ext hX).cell
    by_cases hlt : k < s.bodies.length
    · obtain ⟨b, o, hA, hc⟩ := (HM.out.ext (HE.out.trans hX)) (by omega)
      have hB := hc k hlt
      obtain ⟨rb, ro, rc, c3, hroad⟩ := road_cells hA hlt hB (HR.out.ext (HE.out.trans hX))
      obtain ⟨c0, c1, c2, _⟩ := hB
      subst hA
      have hmem := bd_mem hlt
      have hrl := HS.out.roads _ hmem
      have hsz := hX.size
      have HSUCC := Lib.hid (linesK_succ s k hlt)
      have HLEN := Lib.hid (linesK_length s k hk)
      have HNUM := Lib.hid (HS.out.body _ hmem)
      have HROAD := Lib.hid hroad
      have HX := Lib.hid hX
      have HOW := Lib.hid hown
      obtain ⟨B, hBq⟩ : ∃ B, bd s.bodies k = B := ⟨_, rfl⟩
      rw [hBq] at c0 c1 c2 c3 HSUCC HNUM HROAD hrl
      have hlt' : (k : Int) < (s.bodies.length : Int) := by omega
      have z1 := lts (lt_of_cell c0)
      simp only at z1
      clear hc hBq hroad hX hown hmem
      have hE3 : Ext wr ((wr.alloc (.cells #[.int .i64 B.num, .int .i64 B.den, .int .i64 B.start, .slice (some ⟨rb, ro, none⟩) B.road.length rc] 80)).alloc (.cells #[.int .i64 B.num, .int .i64 B.den, .int .i64 B.start] 3)) := ((Ext.refl wr).alloc _).alloc _
      have hnewrow := ownsRow_new (wr.alloc (.cells #[.int .i64 B.num, .int .i64 B.den, .int .i64 B.start, .slice (some ⟨rb, ro, none⟩) B.road.length rc] 80)) 3 #[.int .i64 B.num, .int .i64 B.den, .int .i64 B.start] 3 wr.heap.size rfl (by decide) (by simp)
      have hN := fun j u hu => news_ints (fun j hj => hE3.cell (HROAD.out j hj)) j u hu
      have HNR := Lib.hid hnewrow
      have HN := Lib.hid hN
      have HE3 := Lib.hid hE3
      clear hnewrow hN hE3
      go_wp2_with (at_builtin; refine wpList_append_own_at _ rfl (.tmp 37) (.tmp 39) 64 rfl wr.heap.size 3 j0 _ 1 8 Tryz.underlying64 hj0 hy0 hy1 hy2 rfl (by decide) (.slice (some ⟨wr.heap.size + 1, 0, none⟩) 3 3) 3 [.int .i64 B.num, .int .i64 B.den, .int .i64 B.start] rfl (by simpa using HNR.out) ⟨rb, ro, none⟩ B.road.length rc (intCells B.road) rfl (by simp [intCells]) HN.out (intCells_one _) (by simp only [maxLen]; omega) (by omega) (by simp; omega) ?_; intro v' w3 hown3 hgrow _ _; have HO3 := Lib.hid hown3; have HG3 := Lib.hid hgrow; clear hown3 hgrow)
      have hEw3 : Ext wr w3 := HE3.out.grown HG3.out (fun q hq => (HNR.out.lt q (by simpa using hq)).1)
      have hown4 : w3.ownsRow wr.heap.size 3 1 v' (bodyNums B).length (intCells (bodyNums B)) := by
        rw [bodyNums_length]
        have := HO3.out
        simpa [intCells, bodyNums] using this
      obtain ⟨A', c', rfl, hI⟩ := IntsVal.of_own hown4
      have hblen := bodyNums_length B
      refine (r_row_any wBody (bodyNums B) A' c' _ hI (by decide) (by omega) (fun n hn => num_18 (HNUM.out n hn))).mono ?_
      rintro e w4 ⟨rfl, hE4⟩
      have HX4 := Lib.hid (hEw3.trans hE4)
      have hown5 := ownsRow_of_block HOW.out (fun q hq' => HX4.out.block q (HOW.out.lt q hq').2)
      have hsz4 := HX4.out.size
      obtain ⟨x, hx⟩ : ∃ x, lineL wBody (bodyNums B) = x := ⟨_, rfl⟩
      have HSUCC2 : Hid (linesK s (k + 1) = linesK s k ++ [x]) := Lib.hid (by rw [← hx]; exact HSUCC.out)
      rw [hx]
      clear hown4 hI hE4 hEw3 hx hblen HO3 HG3 HNR HN HE3 HSUCC c0 c1 c2 c3 cS
      go_wp2_with (at_builtin; refine wpList_append_own_at _ rfl (.tmp 28) (.tmp 42) 140 rfl w1.heap.size 9 i0 _ 1 16 Tryz.underlying140 hi0 hz0 hz1 hz2 rfl (by decide) _ (k + 1) (strCells1 (linesK s k)) rfl (hown5.alloc (.cells #[.string (bs x)] 9)) ⟨w4.heap.size, 0, none⟩ 1 1 [.string (bs x)] rfl rfl (World.news_of_block (cs := #[.string (bs x)]) (t := 9) (fr := (0, 0)) (heap_alloc_new _ _)) (by simp [Value.oneCell']) (by simp only [maxLen]; omega) (by omega) (by simp; omega) ?_; intro v5 w5 hown6 hgrow6 _ _; have HO6 := Lib.hid hown6; have HG6 := Lib.hid hgrow6; clear hown6 hgrow6)
      go_roundw
      case measure => simp [intOf]; omega
      case rel =>
        refine ⟨k + 1, by omega, by go_num, ?_, ((HX.out.trans HX4.out).alloc _).grown HG6.out (fun q hq' => (hown5.lt q hq').1)⟩
        rw [HSUCC2.out]
        simpa [strCells1] using HO6.out
    · obtain rfl : k = s.bodies.length := by omega
      have hsz := hX.size
      have HX := Lib.hid hX
      have HOW := Lib.hid hown
      have hE2 : Ext w1 (wr.alloc (.cells #[.int .i64 s.nnum, .int .i64 s.nden, .int .i64 s.nstart] 3)) := HX.out.alloc _
      have HE2 := Lib.hid hE2
      clear hX hown hlt hE2
      go_wp2_with fail
      refine (r_row_any wNode [s.nnum, s.nden, s.nstart] (some ⟨wr.heap.size, 0, none⟩) 3 _ (ints_row (Row.new wr _ _) fun k hk => ?_) (by decide) (by simp) (fun n hn => ?_)).mono ?_
      · match k, hk with
        | 0, _ => rfl
        | 1, _ => rfl
        | 2, _ => rfl
      · have h := HS.out
        simp only [List.mem_cons, List.not_mem_nil, or_false] at hn
        rcases hn with rfl | rfl | rfl
        · exact num_18 h.num
        · exact num_18 h.den
        · exact num_18 h.start
      rintro e w4 ⟨rfl, hE4⟩
      have hEr4 := ((Ext.refl wr).alloc (.cells #[.int .i64 s.nnum, .int .i64 s.nden, .int .i64 s.nstart] 3)).trans hE4
      have hown5 := ownsRow_of_block HOW.out (fun q hq' => hEr4.block q (HOW.out.lt q hq').2)
      have hsz4 := hEr4.size
      have HX4 := Lib.hid (HX.out.trans hEr4)
      obtain ⟨x, hx⟩ : ∃ x, lineL wNode [s.nnum, s.nden, s.nstart] = x := ⟨_, rfl⟩
      have HALL : Hid (linesK s s.bodies.length ++ [x] = tabLines s) := Lib.hid (by rw [← hx]; exact linesK_all s)
      rw [hx]
      clear hE4 hEr4 hx cS
      go_wp2_with (at_builtin; refine wpList_append_own_at _ rfl (.tmp 44) (.tmp 58) 140 rfl w1.heap.size 9 i0 _ 1 16 Tryz.underlying140 hi0 hz0 hz1 hz2 rfl (by decide) _ (s.bodies.length + 1) (strCells1 (linesK s s.bodies.length)) rfl (hown5.alloc (.cells #[.string (bs x)] 9)) ⟨w4.heap.size, 0, none⟩ 1 1 [.string (bs x)] rfl rfl (World.news_of_block (cs := #[.string (bs x)]) (t := 9) (fr := (0, 0)) (heap_alloc_new _ _)) (by simp [Value.oneCell']) (by simp only [maxLen]; omega) (by omega) (by simp; omega) ?_; intro v5 w5 hown6 hgrow6 _ _; have hown7 : w5.ownsRow w1.heap.size 9 1 v5 (tabLines s).length (strCells1 (tabLines s)) := (by have e := HALL.out; rw [← e, List.length_append, linesK_length s _ (Nat.le_refl _)]; simpa [strCells1] using hown6); have HO6 := Lib.hid hown7; have HG6 := Lib.hid hgrow6; obtain ⟨A5, c5, rfl, hc5, hI5⟩ := Strs.of_own hown7; have HI5 := Lib.hid hI5; clear hown6 hgrow6 hown7 hI5)
      have hshort := tabLines_short HS.out
      have hlenL := tabLines_length s
      have HTX : Hid (textL s = Lib.join (tabLines s) [10] ++ [10] ++ endL (checkL (tabLines s)) ++ [10]) := Lib.hid rfl
      obtain ⟨L, hL⟩ : ∃ L, tabLines s = L := ⟨_, rfl⟩
      rw [hL] at hshort hlenL HTX HI5 hc5 ⊢
      have hLl : L.length ≤ 1002 := by omega
      have hL1 : 1 ≤ L.length := by omega
      have HSH := Lib.hid hshort
      have HEW := Lib.hid ((HX4.out.alloc (.cells #[.string (bs x)] 9)).grown HG6.out (fun q hq' => (hown5.lt q hq').1))
      clear hshort hlenL HALL HO6 HG6 HX4 hown5 hsz4 HOW HE2 hsz
      have hL64 : (L.length : Int) ≤ 1002 := by omega
      go_loop [6, 7, 8] (fun o v i => ∃ k : Nat, k ≤ L.length ∧ i = .int .i64 k ∧ v = .int .i64 (checkN L k) ∧ o = .string (bs (outL L k))) (fun _ _ i => L.length - (intOf i).toNat)
      case atStart => exact ⟨0, Nat.zero_le _, rfl, rfl, rfl⟩
      case round =>
        obtain ⟨k, hk, rfl, rfl, rfl⟩ := hrel
        by_cases hlt : k < L.length
        · obtain ⟨b, o, rfl, hc⟩ := HI5.out (by omega)
          have c0 := hc k hlt
          have hxs := HSH.out (L.getD k []) (by rw [List.getD_eq_getElem?_getD, List.getElem?_eq_getElem hlt]; exact List.getElem_mem hlt)
          have hcb := checkN_bound L k HSH.out hk hLl
          have HSTEP : Hid (checkN L (k + 1) = checkN L k + sumN (L.getD k []) k (L.getD k []).length) := Lib.hid rfl
          have HSB : Hid (∀ j, j ≤ (L.getD k []).length → sumN (L.getD k []) k j ≤ 136000000000000) := Lib.hid (fun j hj => sumN_bound _ k j hxs hj (by omega))
          have hol := outL_length L k HSH.out (by omega)
          have HOUT : Hid (outL L (k + 1) = outL L k ++ L.getD k [] ++ [10]) := Lib.hid rfl
          obtain ⟨y, hy⟩ : ∃ y, L.getD k [] = y := ⟨_, rfl⟩
          rw [hy] at c0 hxs HSTEP HSB HOUT
          obtain ⟨O, hO⟩ : ∃ O, outL L k = O := ⟨_, rfl⟩
          rw [hO] at hol HOUT ⊢
          have g1 := add_str O y (by omega)
          have g2 : ∀ W : World, (Op.stringOp .add (bs (O ++ y)) ⟨#[10]⟩).run Tryz.prog W = .ok (.string (bs (O ++ y ++ [10]))) W := add_str (O ++ y) [10] (by simp; omega)
          clear hO
          obtain ⟨C, hC⟩ : ∃ C, checkN L k = C := ⟨_, rfl⟩
          rw [hC] at hcb HSTEP ⊢
          have hC9 : (C : Int) ≤ 137000000000000000 := by omega
          have hlt' : (k : Int) < (L.length : Int) := by omega
          have hxs' : (y.length : Int) ≤ 23000 := by omega
          have hsz : (bs y).size = y.length := bs_size y
          clear hc hy hC hcb hxs hlt
          go_wp2_with fail
          go_loop [7, 9] (fun v i => ∃ j : Nat, j ≤ y.length ∧ i = .int .i64 j ∧ v = .int .i64 ((C + sumN y k j : Nat) : Int)) (fun _ i => y.length - (intOf i).toNat)
          case atStart => exact ⟨0, Nat.zero_le _, rfl, rfl⟩
          case round =>
            obtain ⟨j, hj, rfl, rfl⟩ := hrel
            by_cases hlt2 : j < y.length
            · have hix := index_bs y j hlt2
              have hcc : ((y.getD j 0).toNat : Int) ≤ 255 := by have := (y.getD j 0).toNat_lt; omega
              have HST2 : Hid (sumN y k (j + 1) = sumN y k j + (y.getD j 0).toNat * (j + 1) * (k + 1)) := Lib.hid rfl
              have hsb := HSB.out j hj
              obtain ⟨q, hq⟩ : ∃ q, (y.getD j 0).toNat = q := ⟨_, rfl⟩
              rw [hq] at hix hcc HST2
              obtain ⟨D, hD⟩ : ∃ D, C + sumN y k j = D := ⟨_, rfl⟩
              have HD := Lib.hid hD
              rw [hD]
              have hD9 : (D : Int) ≤ 138000000000000000 := by omega
              have p1 : 0 ≤ (q : Int) * ((j : Int) + 1) := Int.mul_nonneg (by omega) (by omega)
              have p2 := mul_bounds (a := (q : Int)) (b := (j : Int) + 1) (A := 255) (B := 23000) (by omega) (by omega) (by omega) (by omega)
              have p3 : 0 ≤ (q : Int) * ((j : Int) + 1) * ((k : Int) + 1) := Int.mul_nonneg p1 (by omega)
              have p4 := mul_bounds (a := (q : Int) * ((j : Int) + 1)) (b := (k : Int) + 1) (A := 5865000) (B := 1003) (by omega) (by omega) (by omega) (by omega)
              have p5 : (q : Int) * ((j : Int) + 1) ≤ 5865000 := by omega
              have p6 : (q : Int) * ((j : Int) + 1) * ((k : Int) + 1) ≤ 5882595000 := by omega
              have hlt3 : (j : Int) < (y.length : Int) := by omega
              have HLT2 := Lib.hid hlt2
              clear hsb hq hD p2 p4 hlt2 hj
              go_wp2_with fail
              go_round
              case rel =>
                refine ⟨j + 1, by have := HLT2.out; omega, by go_num, congrArg (Value.int .i64) ?_⟩
                rw [HST2.out, ← Nat.add_assoc, HD.out]
                simp
              case measure => have := HLT2.out; simp [intOf]; omega
            · obtain rfl : j = y.length := by omega
              rw [← HSTEP.out]
              clear hlt2 hj
              go_wp2_with fail
              go_round
              case rel => exact ⟨k + 1, by omega, by go_num, rfl, by rw [HOUT.out]; simp⟩
              case measure => simp [intOf]; omega
        · obtain rfl : k = L.length := by omega
          clear hlt hk
          have hcb := checkN_bound L L.length HSH.out (Nat.le_refl _) hLl
          have hol := outL_length L L.length HSH.out (Nat.le_refl _)
          have hjl2 : L.length * (23000 + 1) ≤ 1002 * 23001 := Nat.mul_le_mul hLl (Nat.le_refl _)
          have hJ9 : (outL L L.length).length ≤ 23047002 := by omega
          have HOJ := Lib.hid (outL_join L (by intro h; rw [h] at hL1; simp at hL1))
          obtain ⟨ck, hck⟩ : ∃ ck : Nat, ((checkN L L.length : Nat) : Int) % 137 = (ck : Int) := ⟨checkN L L.length % 137, by omega⟩
          have hck2 : checkL L = ck := by unfold checkL; omega
          have HCK := Lib.hid hck2
          have hck9 : (ck : Int) < 137 := by omega
          have hck0 : (0 : Int) ≤ (ck : Int) := by omega
          have hcb9 : ((checkN L L.length : Nat) : Int) ≤ 137000000000000000 := by omega
          have ht9 : ((checkN L L.length : Nat) : Int).tmod 137 = (ck : Int) := by rw [Int.tmod_eq_emod_of_nonneg (by omega)]; exact hck
          clear hcb hjl2 hol hck2
          have hl1 := Lib.itoa_length_le ((ck : Int) / 100) (by omega) (by omega)
          have hl2 := Lib.itoa_length_le ((ck : Int) / 10 % 10) (by omega) (by omega)
          have hl3 := Lib.itoa_length_le ((ck : Int) % 10) (by omega) (by omega)
          have HJT : Hid (textL s = outL L L.length ++ [101, 110, 100, 32] ++ Lib.itoa ((ck : Int) / 100) ++ Lib.itoa ((ck : Int) / 10 % 10) ++ Lib.itoa ((ck : Int) % 10) ++ [10]) := Lib.hid (by
            rw [HTX.out, HCK.out, HOJ.out]
            unfold endL
            have e1 : ((ck / 100 : Nat) : Int) = (ck : Int) / 100 := by omega
            have e2 : ((ck / 10 % 10 : Nat) : Int) = (ck : Int) / 10 % 10 := by omega
            have e3 : ((ck % 10 : Nat) : Int) = (ck : Int) % 10 := by omega
            rw [e1, e2, e3]
            simp)
          have hI1 := fun W => r_Decimal_any ((ck : Int) / 100) W (by omega) (by omega)
          have hI2 := fun W => r_Decimal_any ((ck : Int) / 10 % 10) W (by omega) (by omega)
          have hI3 := fun W => r_Decimal_any ((ck : Int) % 10) W (by omega) (by omega)
          generalize outL L L.length = J at *
          generalize Lib.itoa ((ck : Int) / 100) = I1 at *
          generalize Lib.itoa ((ck : Int) / 10 % 10) = I2 at *
          generalize Lib.itoa ((ck : Int) % 10) = I3 at *
          have f1 : ∀ W : World, (Op.stringOp .add (bs J) ⟨#[101, 110, 100, 32]⟩).run Tryz.prog W = .ok (.string (bs (J ++ [101, 110, 100, 32]))) W := add_str J [101, 110, 100, 32] (by simp; omega)
          have f2 : ∀ W : World, (Op.stringOp .add (bs (J ++ [101, 110, 100, 32])) (bs I1)).run Tryz.prog W = .ok (.string (bs (J ++ [101, 110, 100, 32] ++ I1))) W := add_str _ _ (by simp; omega)
          have f3 : ∀ W : World, (Op.stringOp .add (bs (J ++ [101, 110, 100, 32] ++ I1)) (bs I2)).run Tryz.prog W = .ok (.string (bs (J ++ [101, 110, 100, 32] ++ I1 ++ I2))) W := add_str _ _ (by simp; omega)
          have f4 : ∀ W : World, (Op.stringOp .add (bs (J ++ [101, 110, 100, 32] ++ I1 ++ I2)) (bs I3)).run Tryz.prog W = .ok (.string (bs (J ++ [101, 110, 100, 32] ++ I1 ++ I2 ++ I3))) W := add_str _ _ (by simp; omega)
          have f5 : ∀ W : World, (Op.stringOp .add (bs (J ++ [101, 110, 100, 32] ++ I1 ++ I2 ++ I3)) ⟨#[10]⟩).run Tryz.prog W = .ok (.string (bs (J ++ [101, 110, 100, 32] ++ I1 ++ I2 ++ I3 ++ [10]))) W := add_str _ [10] (by simp; omega)
          generalize J ++ [101, 110, 100, 32] = T1 at *
          generalize T1 ++ I1 = T2 at *
          generalize T2 ++ I2 = T3 at *
          generalize T3 ++ I3 = T4 at *
          generalize T4 ++ [10] = T5 at *
          have K1 := Lib.hid hI1
          have K2 := Lib.hid hI2
          have K3 := Lib.hid hI3
          have HE6 := Lib.hid (HE.out.trans HEW.out)
          clear hI1 hI2 hI3 hJ9
          go_wp2_with fail
          refine (K1.out _).mono ?_
          rintro e w7 ⟨rfl, hE7⟩
          have HE7 := Lib.hid (HE6.out.trans hE7)
          clear hE7
          go_wp2_with fail
          refine (K2.out _).mono ?_
          rintro e w8 ⟨rfl, hE8⟩
          have HE8 := Lib.hid (HE7.out.trans hE8)
          clear hE8
          go_wp2_with fail
          refine (K3.out _).mono ?_
          rintro e w9 ⟨rfl, hE9⟩
          have HE9 := Lib.hid (HE8.out.trans hE9)
          clear hE9
          go_wp2_with fail
          go_ret
          exact ⟨by rw [HJT.out]; rfl, HE9.out⟩
end Go.Proofs.YtlcddcnmoajpjaaGreatDoor
