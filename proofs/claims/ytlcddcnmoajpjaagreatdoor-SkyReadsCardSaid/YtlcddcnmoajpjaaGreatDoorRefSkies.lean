/- The walk of the reference's SameSkies, for equal skies. -/
import Derived.Test.YtlcddcnmoajpjaaGreatDoorV19
namespace Go.Proofs.YtlcddcnmoajpjaaGreatDoor
open Go.RowKit
open Sp (rd)
set_option linter.unusedSimpArgs false
set_option linter.unusedVariables false

theorem neq_period (a b c d : Int) (w : World) : (binOp .neq 24 (.agg #[.int .i64 a, .int .i64 b]) (.agg #[.int .i64 c, .int .i64 d])).run Tryz.prog w = .ok (.bool (!((a == c) && (b == d)))) w := by
  have hf : (Tryz.prog.fieldsOf 24).toList.map (fun f => (f.name, f.type, f.offset)) = [("Num", 3, 0), ("Den", 3, 1)] := by kernel_rfl
  obtain ⟨f1, f2, hfs, p1, p2⟩ := map_two hf
  obtain ⟨n1, t1, o1⟩ := field_parts p1
  obtain ⟨n2, t2, o2⟩ := field_parts p2
  rw [run_neq_struct, run_equalIn_agg w 9999 _ _ _ (by kernel_rfl) (by kernel_rfl), hfs]
  simp [Op.eqFields, n1, t1, o1, n2, t2, o2, part, go_sem]
  by_cases h : a = c <;> by_cases h2 : b = d <;> simp [h, h2]
theorem neq_node (a b c : Int) (w : World) : (binOp .neq 26 (.agg #[.int .i64 a, .int .i64 b, .int .i64 c]) (.agg #[.int .i64 a, .int .i64 b, .int .i64 c])).run Tryz.prog w = .ok (.bool false) w := by
  have hf : (Tryz.prog.fieldsOf 26).toList.map (fun f => (f.name, f.type, f.offset)) = [("Period", 24, 0), ("Start", 3, 2)] := by kernel_rfl
  have hg : (Tryz.prog.fieldsOf 24).toList.map (fun f => (f.name, f.type, f.offset)) = [("Num", 3, 0), ("Den", 3, 1)] := by kernel_rfl
  obtain ⟨f1, f2, hfs, p1, p2⟩ := map_two hf
  obtain ⟨n1, t1, o1⟩ := field_parts p1
  obtain ⟨n2, t2, o2⟩ := field_parts p2
  obtain ⟨g1, g2, hgs, q1, q2⟩ := map_two hg
  obtain ⟨n3, t3, o3⟩ := field_parts q1
  obtain ⟨n4, t4, o4⟩ := field_parts q2
  rw [run_neq_struct, run_equalIn_agg w 9999 _ _ _ (by kernel_rfl) (by kernel_rfl), hfs]
  simp [Op.eqFields, n1, t1, o1, n2, t2, o2, part, go_sem]

set_option maxRecDepth 100000 in
set_option maxHeartbeats 1000000 in
theorem r_SameSkies_eq (s : Sp.Sky) (A A2 : Option Addr) (c c2 : Nat) (w : World) (hm : Bodies w A s.bodies) (hm2 : Bodies w A2 s.bodies) (hl : Short s.bodies) :
    Calls Tryz.prog 62 #[.agg #[.slice A s.bodies.length c, .int .i64 s.nnum, .int .i64 s.nden, .int .i64 s.nstart], .agg #[.slice A2 s.bodies.length c2, .int .i64 s.nnum, .int .i64 s.nden, .int .i64 s.nstart]] w fun e w' => e = .returned (.bool true) ∧ Ext w w' := by
  have hl1 := hl.1
  have HL := Lib.hid hl
  have HM := Lib.hid hm
  have HM2 := Lib.hid hm2
  clear hm hm2 hl
  have hcmp := neq_node s.nnum s.nden s.nstart
  go_enter Tryz.func62, Tryz.ntmps62
  go_wp2_with fail
  have hr1 : Row ((w.alloc (.cells #[.slice A s.bodies.length c, .int .i64 s.nnum, .int .i64 s.nden, .int .i64 s.nstart] 28)).alloc (.cells #[.slice A2 s.bodies.length c2, .int .i64 s.nnum, .int .i64 s.nden, .int .i64 s.nstart] 28)) w.heap.size 28 #[.slice A s.bodies.length c, .int .i64 s.nnum, .int .i64 s.nden, .int .i64 s.nstart] := (blocks2 w _ _).1
  have hr2 : Row ((w.alloc (.cells #[.slice A s.bodies.length c, .int .i64 s.nnum, .int .i64 s.nden, .int .i64 s.nstart] 28)).alloc (.cells #[.slice A2 s.bodies.length c2, .int .i64 s.nnum, .int .i64 s.nden, .int .i64 s.nstart] 28)) (w.heap.size + 1) 28 #[.slice A2 s.bodies.length c2, .int .i64 s.nnum, .int .i64 s.nden, .int .i64 s.nstart] := (blocks2 w _ _).2
  have hE0 : Ext w ((w.alloc (.cells #[.slice A s.bodies.length c, .int .i64 s.nnum, .int .i64 s.nden, .int .i64 s.nstart] 28)).alloc (.cells #[.slice A2 s.bodies.length c2, .int .i64 s.nnum, .int .i64 s.nden, .int .i64 s.nstart] 28)) := ((Ext.refl w).alloc _).alloc _
  have hz0 : w.heap.size + 2 ≤ ((w.alloc (.cells #[.slice A s.bodies.length c, .int .i64 s.nnum, .int .i64 s.nden, .int .i64 s.nstart] 28)).alloc (.cells #[.slice A2 s.bodies.length c2, .int .i64 s.nnum, .int .i64 s.nden, .int .i64 s.nstart] 28)).heap.size := by simp
  generalize (w.alloc (.cells #[.slice A s.bodies.length c, .int .i64 s.nnum, .int .i64 s.nden, .int .i64 s.nstart] 28)).alloc (.cells #[.slice A2 s.bodies.length c2, .int .i64 s.nnum, .int .i64 s.nden, .int .i64 s.nstart] 28) = w1 at *
  clear hcmp
  go_loopw [5] (fun i wr => ∃ k : Nat, k ≤ s.bodies.length ∧ i = .int .i64 k ∧ Ext w1 wr) (fun i _ => s.bodies.length - (intOf i).toNat)
  case atStart => exact ⟨0, Nat.zero_le _, rfl, Ext.refl _⟩
  case round =>
    obtain ⟨k, hk, rfl, hE⟩ := hrel
    have b1 := (hr1.ext hE).cell
    have b2 := (hr2.ext hE).cell
    have hz1 := hE.size
    have HE := Lib.hid hE
    by_cases hlt : k < s.bodies.length
    · obtain ⟨b, o, rfl, hB⟩ := HM.out (by omega)
      obtain ⟨b', o', rfl, hB'⟩ := HM2.out (by omega)
      have HB := (hB k hlt).ext (hE0.trans hE)
      have HB' := (hB' k hlt).ext (hE0.trans hE)
      have hrl := HL.out.2 k hlt
      have hbo : (0 : Int) ≤ (k : Int) ∧ (k : Int) < (s.bodies.length : Int) := by omega
      clear hB hB' hE
      generalize bd s.bodies k = B at *
      obtain ⟨R1, r1, hr1', I1⟩ := HB.road
      obtain ⟨R2, r2, hr2', I2⟩ := HB'.road
      have q0 := HB.num
      have q1 := HB.den
      have q2 := HB.start
      have p0 := HB'.num
      have p1 := HB'.den
      have p2 := HB'.start
      have HI1 := Lib.hid I1
      have HI2 := Lib.hid I2
      clear HB HB' I1 I2
      have c1 := b1 0
      have c2' := b2 0
      simp only [List.getElem?_toArray, List.getElem?_cons_zero] at c1 c2'
      have m0 := World.new_ne wr _ c1
      have m1 := World.new_ne wr _ c2'
      have m2 := World.new_ne wr _ q0
      have m3 := World.new_ne wr _ p0
      have k0 := lts (lt_of_cell c1)
      have k1 := lts (lt_of_cell c2')
      have k2 := lts (lt_of_cell q0)
      have k3 := lts (lt_of_cell p0)
      simp only at m0 m1 m2 m3 k0 k1 k2 k3
      go_wp2_with fail
      clear b1 b2
      refine Code.wp_mono (Q := fun e a' w' => e = .normal ∧ ∃ b6 b7, wr.heap.size ≤ b6 ∧ wr.heap.size ≤ b7 ∧ b6 ≠ b7 ∧ Ext wr w' ∧ Row w' b6 80 #[.int .i64 B.num, .int .i64 B.den, .int .i64 B.start, .slice R1 B.road.length r1] ∧ Row w' b7 80 #[.int .i64 B.num, .int .i64 B.den, .int .i64 B.start, .slice R2 B.road.length r2] ∧ a' = (⟨#[.agg #[.slice (some ⟨b, o, none⟩) s.bodies.length c, .int .i64 s.nnum, .int .i64 s.nden, .int .i64 s.nstart], .agg #[.slice (some ⟨b', o', none⟩) s.bodies.length c2, .int .i64 s.nnum, .int .i64 s.nden, .int .i64 s.nstart], .pointer (some ⟨w.heap.size, 0, none⟩), .pointer (some ⟨w.heap.size + 1, 0, none⟩), u4, .int .i64 (k : Int), .pointer (some ⟨b6, 0, none⟩), .pointer (some ⟨b7, 0, none⟩), .pointer (some ⟨w.heap.size, 0, none⟩), .slice (some ⟨b, o, none⟩) s.bodies.length c, .int .i64 (s.bodies.length : Int), .pointer (some ⟨w.heap.size + 1, 0, none⟩), .slice (some ⟨b', o', none⟩) s.bodies.length c2, .int .i64 (s.bodies.length : Int), .bool false, .bool false, .pointer (some ⟨w.heap.size, 1, none⟩), .agg #[.int .i64 s.nnum, .int .i64 s.nden, .int .i64 s.nstart], .pointer (some ⟨w.heap.size + 1, 1, none⟩), .agg #[.int .i64 s.nnum, .int .i64 s.nden, .int .i64 s.nstart], .bool false, .bool false, .int .i64 (k : Int), .pointer (some ⟨w.heap.size, 0, none⟩), .slice (some ⟨b, o, none⟩) s.bodies.length c, .int .i64 (s.bodies.length : Int), .bool true, u27, u28, .pointer (some ⟨w.heap.size, 0, none⟩), .slice (some ⟨b, o, none⟩) s.bodies.length c, .int .i64 (k : Int), .pointer (some ⟨b, o + k * 4, none⟩), .agg #[.int .i64 B.num, .int .i64 B.den, .int .i64 B.start, .slice R1 B.road.length r1], .pointer (some ⟨w.heap.size + 1, 0, none⟩), .slice (some ⟨b', o', none⟩) s.bodies.length c2, .int .i64 (k : Int), .pointer (some ⟨b', o' + k * 4, none⟩), .agg #[.int .i64 B.num, .int .i64 B.den, .int .i64 B.start, .slice R2 B.road.length r2], u39, u40, u41, u42, u43, u44, u45, u46, u47, u48, u49, u50, u51, u52, u53, u54, u55, u56, u57, u58], []⟩ : Act)) ?hq ?hr
      case hr =>
        go_region_held3 (fun w' => w'.cell? ⟨w.heap.size, 0, none⟩ = some (.slice (some ⟨b, o, none⟩) s.bodies.length c) ∧ w'.cell? ⟨w.heap.size + 1, 0, none⟩ = some (.slice (some ⟨b', o', none⟩) s.bodies.length c2) ∧ w'.cell? ⟨b, o + k * 4, none⟩ = some (.int .i64 B.num) ∧ w'.cell? ⟨b, o + k * 4 + 1, none⟩ = some (.int .i64 B.den) ∧ w'.cell? ⟨b, o + k * 4 + 2, none⟩ = some (.int .i64 B.start) ∧ w'.cell? ⟨b, o + k * 4 + 3, none⟩ = some (.slice R1 B.road.length r1) ∧ w'.cell? ⟨b', o' + k * 4, none⟩ = some (.int .i64 B.num) ∧ w'.cell? ⟨b', o' + k * 4 + 1, none⟩ = some (.int .i64 B.den) ∧ w'.cell? ⟨b', o' + k * 4 + 2, none⟩ = some (.int .i64 B.start) ∧ w'.cell? ⟨b', o' + k * 4 + 3, none⟩ = some (.slice R2 B.road.length r2)) (go_keep) (fail)
        · exact ⟨rfl, wr.heap.size, wr.heap.size + 1, by omega, by omega, by omega, (((Ext.refl wr).alloc _).alloc _).drew, (blocks2 wr _ _).1, (blocks2 wr _ _).2, rfl⟩
        · exact ⟨rfl, wr.heap.size + 1, wr.heap.size, by omega, by omega, by omega, (((Ext.refl wr).alloc _).alloc _).drew, (blocks2 wr _ _).2, (blocks2 wr _ _).1, rfl⟩
      case hq =>
        rintro e a' w2 ⟨rfl, b6, b7, hb6, hb7, hne, hE1, r6, r7, rfl⟩
        have c6 := r6.cell
        have c7 := r7.cell
        have HE1 := Lib.hid (HE.out.trans hE1)
        have HJ1 := Lib.hid (HI1.out.ext hE1)
        have HJ2 := Lib.hid (HI2.out.ext hE1)
        have hcp : ∀ w, (binOp .neq 24 (.agg #[.int .i64 B.num, .int .i64 B.den]) (.agg #[.int .i64 B.num, .int .i64 B.den])).run Tryz.prog w = .ok (.bool false) w := fun w => by rw [neq_period]; simp
        clear hE1 q0 q1 q2 hr1' p0 p1 p2 hr2' c1 c2' m0 m1 m2 m3 k0 k1 k2 k3
        go_wp2_with fail
        refine (r_Same_any _ _ B.road B.road w2 ⟨R1, r1, rfl, HJ1.out⟩ ⟨R2, r2, rfl, HJ2.out⟩ (by omega) (by omega)).mono ?_
        rintro e w3 ⟨rfl, hE3⟩
        have HE3 := Lib.hid (HE1.out.trans hE3)
        clear hE3 c6 c7
        simp only [decide_true]
        go_wp2_with fail
        refine ⟨⟨k + 1, by omega, by go_num, HE3.out⟩, by simp [intOf]; omega⟩
    · obtain rfl : k = s.bodies.length := by omega
      clear hE
      go_wp2_with fail
      go_ret
      exact ⟨rfl, hE0.trans HE.out⟩
end Go.Proofs.YtlcddcnmoajpjaaGreatDoor
