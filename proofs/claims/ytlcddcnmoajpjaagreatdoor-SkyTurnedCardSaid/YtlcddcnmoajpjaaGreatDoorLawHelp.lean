/- The walks of the laws' helpers listed, met, has, crossed, few. -/
import Derived.Test.YtlcddcnmoajpjaaGreatDoorV21
import Derived.Test.YtlcddcnmoajpjaaGreatDoorV13
namespace Go.Proofs.YtlcddcnmoajpjaaGreatDoor
open Go.RowKit
open Sp (rd)
set_option linter.unusedSimpArgs false
set_option linter.unusedVariables false

theorem not_take_succ {α : Type} {l : List α} {k : Nat} {x : α} (hk : k < l.length) (h : ¬ x ∈ l.take k) (he : ¬ l[k] = x) : ¬ x ∈ l.take (k + 1) := by
  rw [List.take_succ_eq_append_getElem hk, List.mem_append]
  rintro (h1 | h1)
  · exact h h1
  · exact he (List.mem_singleton.1 h1).symm
theorem mem_at {α : Type} {l : List α} {k : Nat} {x : α} (hk : k < l.length) (he : l[k] = x) : x ∈ l := by
  rw [← he]
  exact List.getElem_mem hk
theorem eql_ecl (a b c d : Int) (x y : Bool) (w : World) : (binOp .eql 56 (.agg #[.int .i64 a, .bool x, .int .i64 c]) (.agg #[.int .i64 b, .bool y, .int .i64 d])).run Tryz.prog w = .ok (.bool ((a == b) && (x == y) && (c == d))) w := by
  have hf : (Tryz.prog.fieldsOf 56).toList.map (fun f => (f.name, f.type, f.offset)) = [("Day", 3, 0), ("Full", 4, 1), ("Far", 3, 2)] := by kernel_rfl
  obtain ⟨f1, f2, f3, hfs, p1, p2, p3⟩ := map_three hf
  obtain ⟨n1, t1, o1⟩ := field_parts p1
  obtain ⟨n2, t2, o2⟩ := field_parts p2
  obtain ⟨n3, t3, o3⟩ := field_parts p3
  rw [run_eql_struct, run_equalIn_agg w 9999 _ _ _ (by kernel_rfl) (by kernel_rfl), hfs]
  simp [Op.eqFields, n1, t1, o1, n2, t2, o2, n3, t3, o3, part, go_sem]
  by_cases h : a = b <;> by_cases h2 : x = y <;> by_cases h3 : c = d <;> simp [h, h2, h3]

set_option maxRecDepth 100000 in
set_option maxHeartbeats 1000000 in
theorem listed_any (v : Value) (l : List (Int × Bool)) (day : Int) (full : Bool) (w : World) (hv : MoonsVal w v l) (hl : l.length ≤ 100000) :
    Calls Tryz.prog 31 #[v, .int .i64 day, .bool full] w fun e w' => e = .returned (.bool (decide ((day, full) ∈ l))) ∧ Ext w w' := by
  obtain ⟨A1, c1, rfl, q1⟩ := hv
  have HQ1 := Lib.hid q1
  clear q1
  go_enter Tryz.func31, Tryz.ntmps31
  go_wp2_with fail
  go_loopw [7] (fun i wr => ∃ k : Nat, k ≤ l.length ∧ i = .int .i64 k ∧ ¬ (day, full) ∈ l.take k ∧ Ext w wr) (fun i _ => l.length - (intOf i).toNat)
  case atStart => exact ⟨0, Nat.zero_le _, rfl, by simp, Ext.refl _⟩
  case round =>
    obtain ⟨k, hk, rfl, htk, hE⟩ := hrel
    by_cases hlt : k < l.length
    · obtain ⟨b1, o1, rfl, p1⟩ := HQ1.out (by omega)
      have a0 := hE.cell (p1 k hlt).1
      have a1 := hE.cell (p1 k hlt).2
      have HNX := Lib.hid (fun he : ¬ l[k] = (day, full) => not_take_succ hlt htk he)
      have HIN := Lib.hid (fun he : l[k] = (day, full) => mem_at hlt he)
      have HE := Lib.hid hE
      clear p1 htk hE
      generalize l[k] = m1 at *
      obtain ⟨md, mf⟩ := m1
      simp only at a0 a1
      by_cases hd : md = day
      · subst hd
        by_cases hf : mf = full
        · have HX : Hid ((md, full) ∈ l) := Lib.hid (HIN.out (by rw [hf]))
          subst hf
          clear HNX HIN
          go_wp2_with fail
          go_ret
          exact ⟨ret_bool (by simp [HX.out]), HE.out⟩
        · have HX := Lib.hid (HNX.out (fun h => hf (by simpa using h)))
          clear HNX HIN
          cases mf <;> cases full <;> simp only [not_true_eq_false, Bool.false_eq_true, Bool.true_eq_false, reduceCtorEq, not_false_eq_true] at hf
          all_goals
            go_wp2_with fail
            refine ⟨⟨k + 1, by omega, by go_num, HX.out, HE.out⟩, by simp [intOf]; omega⟩
      · have HX := Lib.hid (HNX.out (fun h => hd (by simp at h; exact h.1)))
        clear HNX HIN
        go_wp2_with fail
        refine ⟨⟨k + 1, by omega, by go_num, HX.out, HE.out⟩, by simp [intOf]; omega⟩
    · obtain rfl : k = l.length := by omega
      rw [List.take_length] at htk
      have HE := Lib.hid hE
      have HX := Lib.hid htk
      clear hE htk
      go_wp2_with fail
      go_ret
      exact ⟨ret_bool (by simp [HX.out]), HE.out⟩

set_option maxRecDepth 100000 in
set_option maxHeartbeats 1000000 in
theorem hasN_any (v : Value) (l : List Int) (n : Int) (w : World) (hv : IntsVal w v l) (hl : l.length ≤ 100000) :
    Calls Tryz.prog 67 #[v, .int .i64 n] w fun e w' => e = .returned (.bool (decide (n ∈ l))) ∧ Ext w w' := by
  obtain ⟨A1, c1, rfl, q1⟩ := hv
  have HQ1 := Lib.hid q1
  clear q1
  go_enter Tryz.func67, Tryz.ntmps67
  go_wp2_with fail
  go_loopw [5] (fun i wr => ∃ k : Nat, k ≤ l.length ∧ i = .int .i64 k ∧ ¬ n ∈ l.take k ∧ Ext w wr) (fun i _ => l.length - (intOf i).toNat)
  case atStart => exact ⟨0, Nat.zero_le _, rfl, by simp, Ext.refl _⟩
  case round =>
    obtain ⟨k, hk, rfl, htk, hE⟩ := hrel
    by_cases hlt : k < l.length
    · obtain ⟨b1, o1, rfl, p1⟩ := HQ1.out (by omega)
      have a0 := hE.cell (p1 k hlt)
      have HNX := Lib.hid (fun he : ¬ l[k] = n => not_take_succ hlt htk he)
      have HIN := Lib.hid (fun he : l[k] = n => mem_at hlt he)
      have HE := Lib.hid hE
      clear p1 htk hE
      rw [getrd hlt] at HNX HIN
      generalize rd l k = m1 at *
      by_cases he : m1 = n
      · have HX := Lib.hid (HIN.out he)
        subst he
        clear HNX HIN
        go_wp2_with fail
        go_ret
        exact ⟨ret_bool (by simp [HX.out]), HE.out⟩
      · have HX := Lib.hid (HNX.out he)
        clear HNX HIN
        go_wp2_with fail
        refine ⟨⟨k + 1, by omega, by go_num, HX.out, HE.out⟩, by simp [intOf]; omega⟩
    · obtain rfl : k = l.length := by omega
      rw [List.take_length] at htk
      have HE := Lib.hid hE
      have HX := Lib.hid htk
      clear hE htk
      go_wp2_with fail
      go_ret
      exact ⟨ret_bool (by simp [HX.out]), HE.out⟩

set_option maxRecDepth 100000 in
set_option maxHeartbeats 1000000 in
theorem met_any (v : Value) (l : List Sp.Ecl) (x : Sp.Ecl) (w : World) (hv : EclVal w v l) (hl : l.length ≤ 100000) :
    Calls Tryz.prog 41 #[v, .agg #[.int .i64 x.day, .bool x.full, .int .i64 x.far]] w fun e w' => e = .returned (.bool (decide (x ∈ l))) ∧ Ext w w' := by
  obtain ⟨A1, c1, rfl, q1⟩ := hv
  have HQ1 := Lib.hid q1
  clear q1
  go_enter Tryz.func41, Tryz.ntmps41
  go_wp2_with fail
  have hrx := Row.new w 56 #[.int .i64 x.day, .bool x.full, .int .i64 x.far]
  have hE0 : Ext w (w.alloc (.cells #[.int .i64 x.day, .bool x.full, .int .i64 x.far] 56)) := (Ext.refl w).alloc _
  generalize w.alloc (.cells #[.int .i64 x.day, .bool x.full, .int .i64 x.far] 56) = w1 at *
  go_loopw [5] (fun i wr => ∃ k : Nat, k ≤ l.length ∧ i = .int .i64 k ∧ ¬ x ∈ l.take k ∧ Ext w1 wr) (fun i _ => l.length - (intOf i).toNat)
  case atStart => exact ⟨0, Nat.zero_le _, rfl, by simp, Ext.refl _⟩
  case round =>
    obtain ⟨k, hk, rfl, htk, hE⟩ := hrel
    have cx := (hrx.ext hE).cell
    by_cases hlt : k < l.length
    · obtain ⟨b1, o1, rfl, p1⟩ := HQ1.out (by omega)
      have a0 := (hE0.trans hE).cell (p1 k hlt).1
      have a1 := (hE0.trans hE).cell (p1 k hlt).2.1
      have a2 := (hE0.trans hE).cell (p1 k hlt).2.2
      have HNX := Lib.hid (fun he : ¬ l[k] = x => not_take_succ hlt htk he)
      have HIN := Lib.hid (fun he : l[k] = x => mem_at hlt he)
      have HE := Lib.hid hE
      clear p1 htk hE
      generalize l[k] = m1 at *
      by_cases he : m1 = x
      · have HX := Lib.hid (HIN.out he)
        subst he
        clear HNX HIN
        have hcmp : ∀ w, (binOp .eql 56 (.agg #[.int .i64 m1.day, .bool m1.full, .int .i64 m1.far]) (.agg #[.int .i64 m1.day, .bool m1.full, .int .i64 m1.far])).run Tryz.prog w = .ok (.bool true) w := fun w => by rw [eql_ecl]; simp
        go_wp2_with fail
        go_quiet (fail)
        go_wp2_with fail
        go_ret
        exact ⟨ret_bool (by simp [HX.out]), hE0.trans (HE.out.drewN _)⟩
      · have HX := Lib.hid (HNX.out he)
        clear HNX HIN
        have hcmp : ∀ w, (binOp .eql 56 (.agg #[.int .i64 m1.day, .bool m1.full, .int .i64 m1.far]) (.agg #[.int .i64 x.day, .bool x.full, .int .i64 x.far])).run Tryz.prog w = .ok (.bool false) w := fun w => by
          rw [eql_ecl]
          cases m1
          cases x
          simp at he
          simp
          grind
        clear he
        go_wp2_with fail
        go_quiet (fail)
        go_wp2_with fail
        refine ⟨⟨k + 1, by omega, by go_num, HX.out, HE.out.drewN _⟩, by simp [intOf]; omega⟩
    · obtain rfl : k = l.length := by omega
      rw [List.take_length] at htk
      have HE := Lib.hid hE
      have HX := Lib.hid htk
      clear hE htk
      go_wp2_with fail
      go_ret
      exact ⟨ret_bool (by simp [HX.out]), hE0.trans HE.out⟩

theorem bodyOk_at {s : Sp.Sky} (hs : SkyOk s) {i : Int} (h0 : 0 ≤ i) (h1 : i < s.bodies.length) : BodyOk (Sp.body s i) := hs.all i.toNat (by omega)
set_option maxRecDepth 100000 in
set_option maxHeartbeats 1000000 in
theorem crossed_any (s : Sp.Sky) (A : Option Addr) (c : Nat) (i j day half : Int) (w : World) (hm : Bodies w A s.bodies) (hl : Short s.bodies) (c0 : Sp.skyOk s = true) (c1 : (Sp.isBody s i && (Sp.isBody s j && (i != j))) = true) (h1 : 1 ≤ day) (h2 : day ≤ 20000) (hh : half = 0 ∨ half = 10800) :
    Calls Tryz.prog 32 #[.agg #[.slice A s.bodies.length c, .int .i64 s.nnum, .int .i64 s.nden, .int .i64 s.nstart], .int .i64 i, .int .i64 j, .int .i64 day, .int .i64 half] w fun e w' => e = .returned (.bool (Sp.passes (Sp.ahead s i j (day - 1) - half) (Sp.ahead s i j day - half))) ∧ Ext w w' := by
  have k1 : Sp.isDay (day - 1) = true := inR_iff.2 ⟨by omega, by omega⟩
  have k2 : Sp.isDay day = true := inR_iff.2 ⟨by omega, by omega⟩
  have HK := skyOk_iff.1 c0
  obtain ⟨i1, i2, j1, j2, _⟩ := two_of c1
  have hpace := ahead_pace (s := s) (one := i) (other := j) (bodyOk_at HK i1 i2) (bodyOk_at HK j1 j2) (day - 1)
  rw [show day - 1 + 1 = day by omega] at hpace
  have hx := cross_passes (Sp.ahead s i j (day - 1)) (Sp.ahead s i j day) half (by omega) (by omega) hh
  rw [← hx]
  clear hx hpace HK i1 i2 j1 j2
  obtain ⟨P, hP⟩ : ∃ P, Sp.ahead s i j (day - 1) % 21600 = P := ⟨_, rfl⟩
  obtain ⟨Q, hQ⟩ : ∃ Q, Sp.ahead s i j day % 21600 = Q := ⟨_, rfl⟩
  have hP1 := emod_bounds (Sp.ahead s i j (day - 1)) 21600 (by omega)
  have hQ1 := emod_bounds (Sp.ahead s i j day) 21600 (by omega)
  rw [hP] at hP1 ⊢
  rw [hQ] at hQ1 ⊢
  have s1 : Sp.spot P = true := inR_iff.2 ⟨by omega, by omega⟩
  have s2 : Sp.spot Q = true := inR_iff.2 ⟨by omega, by omega⟩
  have HL := Lib.hid hl
  have HM := Lib.hid hm
  clear hm hl
  have b1 := emod_bounds (P - half) 21600 (by omega)
  have b2 := emod_bounds (Q - half - (P - half) % 21600 + 10800) 21600 (by omega)
  unfold crossN
  dsimp only
  go_enter Tryz.func32, Tryz.ntmps32
  go_wp2_with fail
  have hr0 := Row.new w 28 #[.slice A s.bodies.length c, .int .i64 s.nnum, .int .i64 s.nden, .int .i64 s.nstart]
  have hE0 : Ext w (w.alloc (.cells #[.slice A s.bodies.length c, .int .i64 s.nnum, .int .i64 s.nden, .int .i64 s.nstart] 28)) := (Ext.refl w).alloc _
  generalize w.alloc (.cells #[.slice A s.bodies.length c, .int .i64 s.nnum, .int .i64 s.nden, .int .i64 s.nstart] 28) = w0 at *
  refine (Between_ok s A c i j (day - 1) w0 (HM.out.ext hE0) HL.out c0 c1 k1).mono ?_
  rintro e w1 ⟨rfl, hE1⟩
  rw [show Sp.between s i j (day - 1) = P from hP]
  have HE1 := Lib.hid (hE0.trans hE1)
  have hr1 := hr0.ext hE1
  clear hE1 hE0 hr0
  have c1' := hr1.cell
  go_wp2_with fail
  refine (Between_ok s A c i j day w1 (HM.out.ext HE1.out) HL.out c0 c1 k2).mono ?_
  rintro e w2 ⟨rfl, hE2⟩
  rw [show Sp.between s i j day = Q from hQ]
  have HE2 := Lib.hid (HE1.out.trans hE2)
  clear hE2 c1' hr1
  by_cases g1 : 0 < (Q - half - (P - half) % 21600 + 10800) % 21600 - 10800
  · by_cases g2 : 21600 ≤ (P - half) % 21600 + ((Q - half - (P - half) % 21600 + 10800) % 21600 - 10800)
    · go_wp2_with (first | (go_at_call 39; refine (r_Spot_any _ _).mono ?_; rintro e w' ⟨rfl, rfl⟩; first | rw [s1] | rw [s2]) | (go_at_call 58; refine (r_Less_any _ _ (by omega) (by omega)).mono ?_; rintro e w' ⟨rfl, rfl⟩))
      go_ret
      exact ⟨ret_bool (by simp [g1, g2] <;> omega), HE2.out⟩
    · go_wp2_with (first | (go_at_call 39; refine (r_Spot_any _ _).mono ?_; rintro e w' ⟨rfl, rfl⟩; first | rw [s1] | rw [s2]) | (go_at_call 58; refine (r_Less_any _ _ (by omega) (by omega)).mono ?_; rintro e w' ⟨rfl, rfl⟩))
      go_ret
      exact ⟨ret_bool (by simp [g2] <;> omega), HE2.out⟩
  · go_wp2_with (first | (go_at_call 39; refine (r_Spot_any _ _).mono ?_; rintro e w' ⟨rfl, rfl⟩; first | rw [s1] | rw [s2]) | (go_at_call 58; refine (r_Less_any _ _ (by omega) (by omega)).mono ?_; rintro e w' ⟨rfl, rfl⟩))
    go_ret
    exact ⟨ret_bool (by simp [g1] <;> omega), HE2.out⟩
theorem few_any (A : Option Addr) (n c : Nat) (w : World) (hl : n ≤ 9223372036854775807) :
    Calls Tryz.prog 42 #[.slice A n c] w fun e w' => e = .returned (.bool (decide ((n : Int) ≤ 8))) ∧ w = w' := by
  go_enter Tryz.func42, Tryz.ntmps42
  go_wp2
  go_ret
  exact ⟨rfl, rfl⟩
end Go.Proofs.YtlcddcnmoajpjaaGreatDoor
