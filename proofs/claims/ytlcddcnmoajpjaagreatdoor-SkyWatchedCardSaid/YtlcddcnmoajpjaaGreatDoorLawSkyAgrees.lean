/- The walk of the law SkyAgrees. (Printed by wip/mklaws1.py.) -/
import Derived.Test.YtlcddcnmoajpjaaGreatDoorLawSkySpeeds
namespace Go.Proofs.YtlcddcnmoajpjaaGreatDoor
open Go.RowKit
open Sp (rd)
set_option linter.unusedSimpArgs false
set_option linter.unusedVariables false

theorem range_of {low high : Int} (h : Sp.rangeOk low high = true) : 0 ≤ low ∧ low ≤ high ∧ high ≤ 1000000 ∧ high - low ≤ 5000 := by
  simp only [Sp.rangeOk, Bool.and_eq_true, decide_eq_true_eq] at h
  have a := inR_iff.1 h.1
  have b := inR_iff.1 h.2.1
  exact ⟨by omega, by omega, by omega, h.2.2⟩
theorem range_mk {low high : Int} (h1 : 0 ≤ low) (h2 : low ≤ high) (h3 : high ≤ 1000000) (h4 : high - low ≤ 5000) : Sp.rangeOk low high = true := by
  simp only [Sp.rangeOk, Bool.and_eq_true, decide_eq_true_eq]
  exact ⟨inR_iff.2 ⟨h1, by omega⟩, inR_iff.2 ⟨h2, h3⟩, h4⟩
theorem notesArg_mk {start : Int} {l : List Sp.Note} {low high : Int} (h1 : Sp.spot start = true) (h2 : Sp.notesOk l = true) (h3 : Sp.rangeOk low high = true) : notesArg start l low high = true := by rw [notesArg_eq, h1, h2, h3]; rfl
theorem notes_all {l : List Sp.Note} (h : Sp.notesOk l = true) : l.length ≤ 6 ∧ l.all Sp.noteOk = true := by
  simp only [Sp.notesOk, Bool.and_eq_true, decide_eq_true_eq] at h
  exact h
theorem ends_of {start : Int} {l : List Sp.Note} {low high : Int} (h : Sp.speedsL start l low high ≠ []) : (low ≤ (Sp.speedsL start l low high).headD 0 ∧ (Sp.speedsL start l low high).headD 0 ≤ high ∧ Sp.agrees start l ((Sp.speedsL start l low high).headD 0) = true) ∧ (low ≤ (Sp.speedsL start l low high).getLastD 0 ∧ (Sp.speedsL start l low high).getLastD 0 ≤ high ∧ Sp.agrees start l ((Sp.speedsL start l low high).getLastD 0) = true) ∧
    (Sp.speedsL start l low high).headD 0 ≤ (Sp.speedsL start l low high).getLastD 0 ∧ ∀ v, low ≤ v → v ≤ high → Sp.agrees start l v = true → (Sp.speedsL start l low high).headD 0 ≤ v ∧ v ≤ (Sp.speedsL start l low high).getLastD 0 := by
  have a := (speedsL_mem start l low high _).1 (headD_mem h)
  have b := (speedsL_mem start l low high _).1 (lastD_mem h)
  have hs := speedsL_sorted start l low high
  exact ⟨a, b, sorted_head hs _ (lastD_mem h), fun v h1 h2 h3 => ⟨sorted_head hs v ((speedsL_mem start l low high v).2 ⟨h1, h2, h3⟩), sorted_last hs v ((speedsL_mem start l low high v).2 ⟨h1, h2, h3⟩)⟩⟩

set_option maxRecDepth 100000 in
set_option maxHeartbeats 8000000 in
theorem law_SkyAgrees (start : Int) (l : List Sp.Note) (A : Option Addr) (c : Nat) (low high speed : Int) (w : World) (hV : Env w) (hm : Notes w A l) (hl : l.length ≤ maxLen) :
    Calls Tryz.prog 8 #[.int .i64 start, .slice A l.length c, .int .i64 low, .int .i64 high, .int .i64 speed] w fun e w' => e = .returned (.bool true) ∧ Ext w w' := by
  have HM := Lib.hid hm
  have HV := Lib.hid hV
  have hmx : (maxLen : Nat) ≤ 9223372036854775807 := by decide
  have HE0 : Hid (Ext w w) := Lib.hid (Ext.refl w)
  clear hm hV
  go_enter Tryz.func8, Tryz.ntmps8
  cases hfew : decide ((l.length : Int) ≤ 8) with
  | false =>
    go_wp2_with fail
    refine (few_any A l.length c _ (by omega)).mono ?_
    rintro e w' ⟨rfl, rfl⟩
    rw [hfew]
    go_wp2_with fail
    refine (known_any w (HV.out.ext HE0.out)).mono ?_
    rintro e w1 ⟨rfl, hE1⟩
    go_wp2_with fail
    go_ret
    exact ⟨rfl, HE0.out.trans hE1⟩
  | true =>
    have hl8 : l.length ≤ 8 := by have := of_decide_eq_true hfew; omega
    go_wp2_with fail
    refine (few_any A l.length c _ (by omega)).mono ?_
    rintro e w' ⟨rfl, rfl⟩
    rw [hfew]
    cases h1 : Sp.spot start with
    | false =>
      go_wp2_with fail
      refine (r_Spot_any _ _).mono ?_
      rintro e w' ⟨rfl, rfl⟩
      rw [h1]
      go_wp2_with fail
      refine (known_any w (HV.out.ext HE0.out)).mono ?_
      rintro e w1 ⟨rfl, hE1⟩
      go_wp2_with fail
      go_ret
      exact ⟨rfl, HE0.out.trans hE1⟩
    | true =>
      cases h2 : Sp.notesOk l with
      | false =>
        go_wp2_with fail
        refine (r_Spot_any _ _).mono ?_
        rintro e w' ⟨rfl, rfl⟩
        rw [h1]
        go_wp2_with fail
        refine (r_Notes_any l A c w (HM.out.ext HE0.out) (by omega)).mono ?_
        rintro e w1 ⟨rfl, hE1⟩
        have HE1 := Lib.hid (HE0.out.trans hE1)
        clear hE1
        rw [h2]
        go_wp2_with fail
        refine (known_any w1 (HV.out.ext HE1.out)).mono ?_
        rintro e w2 ⟨rfl, hE2⟩
        go_wp2_with fail
        go_ret
        exact ⟨rfl, HE1.out.trans hE2⟩
      | true =>
        cases h3 : Sp.rangeOk low high with
        | false =>
          go_wp2_with fail
          refine (r_Spot_any _ _).mono ?_
          rintro e w' ⟨rfl, rfl⟩
          rw [h1]
          go_wp2_with fail
          refine (r_Notes_any l A c w (HM.out.ext HE0.out) (by omega)).mono ?_
          rintro e w1 ⟨rfl, hE1⟩
          have HE1 := Lib.hid (HE0.out.trans hE1)
          clear hE1
          rw [h2]
          go_wp2_with fail
          refine (r_Range_any _ _ _).mono ?_
          rintro e w' ⟨rfl, rfl⟩
          rw [h3]
          go_wp2_with fail
          refine (known_any w1 (HV.out.ext HE1.out)).mono ?_
          rintro e w2 ⟨rfl, hE2⟩
          go_wp2_with fail
          go_ret
          exact ⟨rfl, HE1.out.trans hE2⟩
        | true =>
          obtain ⟨r1, r2, r3, r4⟩ := range_of h3
          obtain ⟨n1, n2⟩ := notes_all h2
          obtain ⟨q1, q2⟩ := inR_iff.1 h1
          by_cases ha : speed < low
          case pos =>
            go_wp2_with fail
            refine (r_Spot_any _ _).mono ?_
            rintro e w' ⟨rfl, rfl⟩
            rw [h1]
            go_wp2_with fail
            refine (r_Notes_any l A c w (HM.out.ext HE0.out) (by omega)).mono ?_
            rintro e w1 ⟨rfl, hE1⟩
            have HE1 := Lib.hid (HE0.out.trans hE1)
            clear hE1
            rw [h2]
            go_wp2_with fail
            refine (r_Range_any _ _ _).mono ?_
            rintro e w' ⟨rfl, rfl⟩
            rw [h3]
            go_wp2_with fail
            refine (known_any w1 (HV.out.ext HE1.out)).mono ?_
            rintro e w2 ⟨rfl, hE2⟩
            go_wp2_with fail
            go_ret
            exact ⟨rfl, HE1.out.trans hE2⟩
          case neg =>
            by_cases hb : high ≤ speed
            case pos =>
              go_wp2_with fail
              refine (r_Spot_any _ _).mono ?_
              rintro e w' ⟨rfl, rfl⟩
              rw [h1]
              go_wp2_with fail
              refine (r_Notes_any l A c w (HM.out.ext HE0.out) (by omega)).mono ?_
              rintro e w1 ⟨rfl, hE1⟩
              have HE1 := Lib.hid (HE0.out.trans hE1)
              clear hE1
              rw [h2]
              go_wp2_with fail
              refine (r_Range_any _ _ _).mono ?_
              rintro e w' ⟨rfl, rfl⟩
              rw [h3]
              go_wp2_with fail
              refine (known_any w1 (HV.out.ext HE1.out)).mono ?_
              rintro e w2 ⟨rfl, hE2⟩
              go_wp2_with fail
              go_ret
              exact ⟨rfl, HE1.out.trans hE2⟩
            case neg =>
              have N0 := notesArg_mk h1 h2 h3
              have N1 := notesArg_mk h1 h2 (range_mk (low := low) (high := speed) r1 (by omega) (by omega) (by omega))
              have N2 := notesArg_mk h1 h2 (range_mk (low := speed + 1) (high := high) (by omega) (by omega) (by omega) (by omega))
              have N3 := notesArg_mk h1 h2 (range_mk (low := speed) (high := speed) (by omega) (by omega) (by omega) (by omega))
              have hpart := speedsL_part start l low high speed (by omega) (by omega)
              have hone := speedsL_one start l speed
              have hb1 := speedsL_length start l low speed
              have hb2 := speedsL_length start l (speed + 1) high
              have hmem : Sp.agrees start l speed = true → Sp.speedsL start l low speed ≠ [] := fun h e => by have := (speedsL_mem start l low speed speed).2 ⟨by omega, by omega, h⟩; rw [e] at this; cases this
              have hlens : (Sp.speedsL start l low high).length = (Sp.speedsL start l low speed).length + (Sp.speedsL start l (speed + 1) high).length := by rw [hpart, List.length_append]
              go_wp2_with fail
              refine (r_Spot_any _ _).mono ?_
              rintro e w' ⟨rfl, rfl⟩
              rw [h1]
              go_wp2_with fail
              refine (r_Notes_any l A c w (HM.out.ext HE0.out) (by omega)).mono ?_
              rintro e w1 ⟨rfl, hE1⟩
              have HE1 := Lib.hid (HE0.out.trans hE1)
              clear hE1
              rw [h2]
              go_wp2_with fail
              refine (r_Range_any _ _ _).mono ?_
              rintro e w' ⟨rfl, rfl⟩
              rw [h3]
              by_cases ha1 : Sp.speedsL start l low speed = []
              case pos =>
                by_cases hb1' : Sp.speedsL start l (speed + 1) high = []
                case pos =>
                  cases hag : Sp.agrees start l speed with
                  | false =>
                    have hL : Sp.speedsL start l low high = [] := by rw [hpart, ha1, hb1']; rfl
                    have hC : Sp.speedsL start l speed speed = [] := by rw [hone, hag]; simp
                    have hlc : (Sp.speedsL start l speed speed).length = 0 := by rw [hone, hag]; simp
                    rw [ha1] at hlens
                    simp only [List.length_nil, Nat.zero_add] at hlens
                    rw [hb1'] at hlens
                    simp only [List.length_nil, Nat.add_zero] at hlens
                    go_wp2_with fail
                    refine (Speeds_none start low high A c l w1 (HM.out.ext HE1.out) (by omega) N0 hL).mono ?_
                    rintro e w2 ⟨rfl, hE2⟩
                    have HE2 := Lib.hid (HE1.out.trans hE2)
                    clear hE2
                    go_wp2_with fail
                    have HR3 := Lib.hid (Row.new w2 61 #[.int .i64 0, .int .i64 0])
                    have HE3 : Hid (Ext w (w2.alloc (.cells #[.int .i64 0, .int .i64 0] 61))) := Lib.hid (HE2.out.alloc _)
                    generalize w2.alloc (.cells #[.int .i64 0, .int .i64 0] 61) = w3 at *
                    have b3 := HR3.out.cell
                    go_wp2_with fail
                    refine (Speeds_none start low speed A c l w3 (HM.out.ext HE3.out) (by omega) N1 ha1).mono ?_
                    rintro e w4 ⟨rfl, hE4⟩
                    have HE4 := Lib.hid (HE3.out.trans hE4)
                    have HR4 := Lib.hid (HR3.out.ext hE4)
                    clear b3
                    have b4 := HR4.out.cell
                    clear hE4
                    go_wp2_with fail
                    have HE5 : Hid (Ext w (w4.alloc (.cells #[.int .i64 0, .int .i64 0] 61))) := Lib.hid (HE4.out.alloc _)
                    have hX5 : Ext w4 (w4.alloc (.cells #[.int .i64 0, .int .i64 0] 61)) := (Ext.refl _).alloc _
                    generalize w4.alloc (.cells #[.int .i64 0, .int .i64 0] 61) = w5 at *
                    have HR5 := Lib.hid (HR4.out.ext hX5)
                    clear b4
                    have b5 := HR5.out.cell
                    clear hX5
                    go_wp2_with fail
                    refine (Speeds_none start (speed + 1) high A c l w5 (HM.out.ext HE5.out) (by omega) N2 hb1').mono ?_
                    rintro e w6 ⟨rfl, hE6⟩
                    have HE6 := Lib.hid (HE5.out.trans hE6)
                    have HR6 := Lib.hid (HR5.out.ext hE6)
                    clear b5
                    have b6 := HR6.out.cell
                    clear hE6
                    go_wp2_with fail
                    have HE7 : Hid (Ext w (w6.alloc (.cells #[.int .i64 0, .int .i64 0] 61))) := Lib.hid (HE6.out.alloc _)
                    have hX7 : Ext w6 (w6.alloc (.cells #[.int .i64 0, .int .i64 0] 61)) := (Ext.refl _).alloc _
                    generalize w6.alloc (.cells #[.int .i64 0, .int .i64 0] 61) = w7 at *
                    have HR7 := Lib.hid (HR6.out.ext hX7)
                    clear b6
                    have b7 := HR7.out.cell
                    clear hX7
                    go_wp2_with fail
                    refine (Speeds_none start speed speed A c l w7 (HM.out.ext HE7.out) (by omega) N3 hC).mono ?_
                    rintro e w8 ⟨rfl, hE8⟩
                    have HE8 := Lib.hid (HE7.out.trans hE8)
                    have HR8 := Lib.hid (HR7.out.ext hE8)
                    clear b7
                    have b8 := HR8.out.cell
                    clear hE8
                    go_wp2_with fail
                    have HE9 : Hid (Ext w (w8.alloc (.cells #[.int .i64 0, .int .i64 0] 61))) := Lib.hid (HE8.out.alloc _)
                    have hX9 : Ext w8 (w8.alloc (.cells #[.int .i64 0, .int .i64 0] 61)) := (Ext.refl _).alloc _
                    generalize w8.alloc (.cells #[.int .i64 0, .int .i64 0] 61) = w9 at *
                    have HR9 := Lib.hid (HR8.out.ext hX9)
                    clear b8
                    have b9 := HR9.out.cell
                    clear hX9
                    clear hpart hone hmem
                    go_wp2_with fail
                    refine (r_Agrees_any start speed l A c w9 (HM.out.ext HE9.out) (by omega) n2 q1 q2 (by omega) (by omega)).mono ?_
                    rintro e w10 ⟨rfl, hE10⟩
                    have HE10 := Lib.hid (HE9.out.trans hE10)
                    have HR10 := Lib.hid (HR9.out.ext hE10)
                    clear b9
                    have b10 := HR10.out.cell
                    clear hE10
                    rw [hag]
                    go_wp2_with fail
                    refine (known_any w10 (HV.out.ext HE10.out)).mono ?_
                    rintro e w11 ⟨rfl, hE11⟩
                    go_wp2_with fail
                    go_ret
                    exact ⟨rfl, HE10.out.trans hE11⟩
                  | true =>
                    exact absurd ha1 (hmem hag)
                case neg =>
                  cases hag : Sp.agrees start l speed with
                  | false =>
                    have hL : Sp.speedsL start l low high ≠ [] := fun e => by rw [hpart, List.append_eq_nil_iff] at e; exact hb1' e.2
                    have hC : Sp.speedsL start l speed speed = [] := by rw [hone, hag]; simp
                    have HENDS := Lib.hid (ends_of hL)
                    have hlc : (Sp.speedsL start l speed speed).length = 0 := by rw [hone, hag]; simp
                    rw [ha1] at hlens
                    simp only [List.length_nil, Nat.zero_add] at hlens
                    go_wp2_with fail
                    refine (Speeds_ok start low high A c l w1 (HM.out.ext HE1.out) (by omega) N0 hL).mono ?_
                    rintro e w2 ⟨rfl, hE2⟩
                    have HE2 := Lib.hid (HE1.out.trans hE2)
                    clear hE2
                    obtain ⟨x0, hx0⟩ : ∃ q, (Sp.speedsL start l low high).headD 0 = q := ⟨_, rfl⟩
                    obtain ⟨x1, hx1⟩ : ∃ q, (Sp.speedsL start l low high).getLastD 0 = q := ⟨_, rfl⟩
                    rw [hx0, hx1]
                    rw [hx0, hx1] at HENDS
                    clear hx0 hx1
                    go_wp2_with fail
                    have HR3 := Lib.hid (Row.new w2 61 #[.int .i64 x0, .int .i64 x1])
                    have HE3 : Hid (Ext w (w2.alloc (.cells #[.int .i64 x0, .int .i64 x1] 61))) := Lib.hid (HE2.out.alloc _)
                    generalize w2.alloc (.cells #[.int .i64 x0, .int .i64 x1] 61) = w3 at *
                    have b3 := HR3.out.cell
                    go_wp2_with fail
                    refine (Speeds_none start low speed A c l w3 (HM.out.ext HE3.out) (by omega) N1 ha1).mono ?_
                    rintro e w4 ⟨rfl, hE4⟩
                    have HE4 := Lib.hid (HE3.out.trans hE4)
                    have HR4 := Lib.hid (HR3.out.ext hE4)
                    clear b3
                    have b4 := HR4.out.cell
                    clear hE4
                    go_wp2_with fail
                    have HE5 : Hid (Ext w (w4.alloc (.cells #[.int .i64 0, .int .i64 0] 61))) := Lib.hid (HE4.out.alloc _)
                    have hX5 : Ext w4 (w4.alloc (.cells #[.int .i64 0, .int .i64 0] 61)) := (Ext.refl _).alloc _
                    generalize w4.alloc (.cells #[.int .i64 0, .int .i64 0] 61) = w5 at *
                    have HR5 := Lib.hid (HR4.out.ext hX5)
                    clear b4
                    have b5 := HR5.out.cell
                    clear hX5
                    go_wp2_with fail
                    refine (Speeds_ok start (speed + 1) high A c l w5 (HM.out.ext HE5.out) (by omega) N2 hb1').mono ?_
                    rintro e w6 ⟨rfl, hE6⟩
                    have HE6 := Lib.hid (HE5.out.trans hE6)
                    have HR6 := Lib.hid (HR5.out.ext hE6)
                    clear b5
                    have b6 := HR6.out.cell
                    clear hE6
                    obtain ⟨z5, hx0⟩ : ∃ q, (Sp.speedsL start l (speed + 1) high).headD 0 = q := ⟨_, rfl⟩
                    obtain ⟨y5', hx1⟩ : ∃ q, (Sp.speedsL start l (speed + 1) high).getLastD 0 = q := ⟨_, rfl⟩
                    rw [hx0, hx1]
                    clear hx0 hx1
                    go_wp2_with fail
                    have HE7 : Hid (Ext w (w6.alloc (.cells #[.int .i64 z5, .int .i64 y5'] 61))) := Lib.hid (HE6.out.alloc _)
                    have hX7 : Ext w6 (w6.alloc (.cells #[.int .i64 z5, .int .i64 y5'] 61)) := (Ext.refl _).alloc _
                    generalize w6.alloc (.cells #[.int .i64 z5, .int .i64 y5'] 61) = w7 at *
                    have HR7 := Lib.hid (HR6.out.ext hX7)
                    clear b6
                    have b7 := HR7.out.cell
                    clear hX7
                    go_wp2_with fail
                    refine (Speeds_none start speed speed A c l w7 (HM.out.ext HE7.out) (by omega) N3 hC).mono ?_
                    rintro e w8 ⟨rfl, hE8⟩
                    have HE8 := Lib.hid (HE7.out.trans hE8)
                    have HR8 := Lib.hid (HR7.out.ext hE8)
                    clear b7
                    have b8 := HR8.out.cell
                    clear hE8
                    go_wp2_with fail
                    have HE9 : Hid (Ext w (w8.alloc (.cells #[.int .i64 0, .int .i64 0] 61))) := Lib.hid (HE8.out.alloc _)
                    have hX9 : Ext w8 (w8.alloc (.cells #[.int .i64 0, .int .i64 0] 61)) := (Ext.refl _).alloc _
                    generalize w8.alloc (.cells #[.int .i64 0, .int .i64 0] 61) = w9 at *
                    have HR9 := Lib.hid (HR8.out.ext hX9)
                    clear b8
                    have b9 := HR9.out.cell
                    clear hX9
                    clear hpart hone hmem
                    go_wp2_with fail
                    refine (r_Agrees_any start speed l A c w9 (HM.out.ext HE9.out) (by omega) n2 q1 q2 (by omega) (by omega)).mono ?_
                    rintro e w10 ⟨rfl, hE10⟩
                    have HE10 := Lib.hid (HE9.out.trans hE10)
                    have HR10 := Lib.hid (HR9.out.ext hE10)
                    clear b9
                    have b10 := HR10.out.cell
                    clear hE10
                    rw [hag]
                    obtain ⟨⟨y1, y2, y3⟩, ⟨y4, y5, y6⟩, y7, y8⟩ := HENDS.out
                    clear HENDS
                    clear y8
                    go_wp2_with fail
                    refine (r_Agrees_any start x0 l A c w10 (HM.out.ext HE10.out) (by omega) n2 q1 q2 (by omega) (by omega)).mono ?_
                    rintro e w11 ⟨rfl, hE11⟩
                    have HE11 := Lib.hid (HE10.out.trans hE11)
                    have HR11 := Lib.hid (HR10.out.ext hE11)
                    clear b10
                    have b11 := HR11.out.cell
                    clear hE11
                    rw [y3]
                    go_wp2_with fail
                    refine (r_Agrees_any start x1 l A c w11 (HM.out.ext HE11.out) (by omega) n2 q1 q2 (by omega) (by omega)).mono ?_
                    rintro e w12 ⟨rfl, hE12⟩
                    have HE12 := Lib.hid (HE11.out.trans hE12)
                    have HR12 := Lib.hid (HR11.out.ext hE12)
                    clear b11
                    have b12 := HR12.out.cell
                    clear hE12
                    rw [y6]
                    go_wp2_with fail
                    refine (known_any w12 (HV.out.ext HE12.out)).mono ?_
                    rintro e w13 ⟨rfl, hE13⟩
                    go_wp2_with fail
                    go_ret
                    exact ⟨rfl, HE12.out.trans hE13⟩
                  | true =>
                    exact absurd ha1 (hmem hag)
              case neg =>
                by_cases hb1' : Sp.speedsL start l (speed + 1) high = []
                case pos =>
                  cases hag : Sp.agrees start l speed with
                  | false =>
                    have hL : Sp.speedsL start l low high ≠ [] := fun e => by rw [hpart, List.append_eq_nil_iff] at e; exact ha1 e.1
                    have hC : Sp.speedsL start l speed speed = [] := by rw [hone, hag]; simp
                    have HENDS := Lib.hid (ends_of hL)
                    have hlc : (Sp.speedsL start l speed speed).length = 0 := by rw [hone, hag]; simp
                    rw [hb1'] at hlens
                    simp only [List.length_nil, Nat.add_zero] at hlens
                    go_wp2_with fail
                    refine (Speeds_ok start low high A c l w1 (HM.out.ext HE1.out) (by omega) N0 hL).mono ?_
                    rintro e w2 ⟨rfl, hE2⟩
                    have HE2 := Lib.hid (HE1.out.trans hE2)
                    clear hE2
                    obtain ⟨x0, hx0⟩ : ∃ q, (Sp.speedsL start l low high).headD 0 = q := ⟨_, rfl⟩
                    obtain ⟨x1, hx1⟩ : ∃ q, (Sp.speedsL start l low high).getLastD 0 = q := ⟨_, rfl⟩
                    rw [hx0, hx1]
                    rw [hx0, hx1] at HENDS
                    clear hx0 hx1
                    go_wp2_with fail
                    have HR3 := Lib.hid (Row.new w2 61 #[.int .i64 x0, .int .i64 x1])
                    have HE3 : Hid (Ext w (w2.alloc (.cells #[.int .i64 x0, .int .i64 x1] 61))) := Lib.hid (HE2.out.alloc _)
                    generalize w2.alloc (.cells #[.int .i64 x0, .int .i64 x1] 61) = w3 at *
                    have b3 := HR3.out.cell
                    go_wp2_with fail
                    refine (Speeds_ok start low speed A c l w3 (HM.out.ext HE3.out) (by omega) N1 ha1).mono ?_
                    rintro e w4 ⟨rfl, hE4⟩
                    have HE4 := Lib.hid (HE3.out.trans hE4)
                    have HR4 := Lib.hid (HR3.out.ext hE4)
                    clear b3
                    have b4 := HR4.out.cell
                    clear hE4
                    obtain ⟨z3, hx0⟩ : ∃ q, (Sp.speedsL start l low speed).headD 0 = q := ⟨_, rfl⟩
                    obtain ⟨y3', hx1⟩ : ∃ q, (Sp.speedsL start l low speed).getLastD 0 = q := ⟨_, rfl⟩
                    rw [hx0, hx1]
                    clear hx0 hx1
                    go_wp2_with fail
                    have HE5 : Hid (Ext w (w4.alloc (.cells #[.int .i64 z3, .int .i64 y3'] 61))) := Lib.hid (HE4.out.alloc _)
                    have hX5 : Ext w4 (w4.alloc (.cells #[.int .i64 z3, .int .i64 y3'] 61)) := (Ext.refl _).alloc _
                    generalize w4.alloc (.cells #[.int .i64 z3, .int .i64 y3'] 61) = w5 at *
                    have HR5 := Lib.hid (HR4.out.ext hX5)
                    clear b4
                    have b5 := HR5.out.cell
                    clear hX5
                    go_wp2_with fail
                    refine (Speeds_none start (speed + 1) high A c l w5 (HM.out.ext HE5.out) (by omega) N2 hb1').mono ?_
                    rintro e w6 ⟨rfl, hE6⟩
                    have HE6 := Lib.hid (HE5.out.trans hE6)
                    have HR6 := Lib.hid (HR5.out.ext hE6)
                    clear b5
                    have b6 := HR6.out.cell
                    clear hE6
                    go_wp2_with fail
                    have HE7 : Hid (Ext w (w6.alloc (.cells #[.int .i64 0, .int .i64 0] 61))) := Lib.hid (HE6.out.alloc _)
                    have hX7 : Ext w6 (w6.alloc (.cells #[.int .i64 0, .int .i64 0] 61)) := (Ext.refl _).alloc _
                    generalize w6.alloc (.cells #[.int .i64 0, .int .i64 0] 61) = w7 at *
                    have HR7 := Lib.hid (HR6.out.ext hX7)
                    clear b6
                    have b7 := HR7.out.cell
                    clear hX7
                    go_wp2_with fail
                    refine (Speeds_none start speed speed A c l w7 (HM.out.ext HE7.out) (by omega) N3 hC).mono ?_
                    rintro e w8 ⟨rfl, hE8⟩
                    have HE8 := Lib.hid (HE7.out.trans hE8)
                    have HR8 := Lib.hid (HR7.out.ext hE8)
                    clear b7
                    have b8 := HR8.out.cell
                    clear hE8
                    go_wp2_with fail
                    have HE9 : Hid (Ext w (w8.alloc (.cells #[.int .i64 0, .int .i64 0] 61))) := Lib.hid (HE8.out.alloc _)
                    have hX9 : Ext w8 (w8.alloc (.cells #[.int .i64 0, .int .i64 0] 61)) := (Ext.refl _).alloc _
                    generalize w8.alloc (.cells #[.int .i64 0, .int .i64 0] 61) = w9 at *
                    have HR9 := Lib.hid (HR8.out.ext hX9)
                    clear b8
                    have b9 := HR9.out.cell
                    clear hX9
                    clear hpart hone hmem
                    go_wp2_with fail
                    refine (r_Agrees_any start speed l A c w9 (HM.out.ext HE9.out) (by omega) n2 q1 q2 (by omega) (by omega)).mono ?_
                    rintro e w10 ⟨rfl, hE10⟩
                    have HE10 := Lib.hid (HE9.out.trans hE10)
                    have HR10 := Lib.hid (HR9.out.ext hE10)
                    clear b9
                    have b10 := HR10.out.cell
                    clear hE10
                    rw [hag]
                    obtain ⟨⟨y1, y2, y3⟩, ⟨y4, y5, y6⟩, y7, y8⟩ := HENDS.out
                    clear HENDS
                    clear y8
                    go_wp2_with fail
                    refine (r_Agrees_any start x0 l A c w10 (HM.out.ext HE10.out) (by omega) n2 q1 q2 (by omega) (by omega)).mono ?_
                    rintro e w11 ⟨rfl, hE11⟩
                    have HE11 := Lib.hid (HE10.out.trans hE11)
                    have HR11 := Lib.hid (HR10.out.ext hE11)
                    clear b10
                    have b11 := HR11.out.cell
                    clear hE11
                    rw [y3]
                    go_wp2_with fail
                    refine (r_Agrees_any start x1 l A c w11 (HM.out.ext HE11.out) (by omega) n2 q1 q2 (by omega) (by omega)).mono ?_
                    rintro e w12 ⟨rfl, hE12⟩
                    have HE12 := Lib.hid (HE11.out.trans hE12)
                    have HR12 := Lib.hid (HR11.out.ext hE12)
                    clear b11
                    have b12 := HR12.out.cell
                    clear hE12
                    rw [y6]
                    go_wp2_with fail
                    refine (known_any w12 (HV.out.ext HE12.out)).mono ?_
                    rintro e w13 ⟨rfl, hE13⟩
                    go_wp2_with fail
                    go_ret
                    exact ⟨rfl, HE12.out.trans hE13⟩
                  | true =>
                    have hL : Sp.speedsL start l low high ≠ [] := fun e => by rw [hpart, List.append_eq_nil_iff] at e; exact ha1 e.1
                    have hC : Sp.speedsL start l speed speed ≠ [] := by rw [hone, hag]; simp
                    have HENDS := Lib.hid (ends_of hL)
                    have hlc : (Sp.speedsL start l speed speed).length = 1 := by rw [hone, hag]; simp
                    rw [hb1'] at hlens
                    simp only [List.length_nil, Nat.add_zero] at hlens
                    go_wp2_with fail
                    refine (Speeds_ok start low high A c l w1 (HM.out.ext HE1.out) (by omega) N0 hL).mono ?_
                    rintro e w2 ⟨rfl, hE2⟩
                    have HE2 := Lib.hid (HE1.out.trans hE2)
                    clear hE2
                    obtain ⟨x0, hx0⟩ : ∃ q, (Sp.speedsL start l low high).headD 0 = q := ⟨_, rfl⟩
                    obtain ⟨x1, hx1⟩ : ∃ q, (Sp.speedsL start l low high).getLastD 0 = q := ⟨_, rfl⟩
                    rw [hx0, hx1]
                    rw [hx0, hx1] at HENDS
                    clear hx0 hx1
                    go_wp2_with fail
                    have HR3 := Lib.hid (Row.new w2 61 #[.int .i64 x0, .int .i64 x1])
                    have HE3 : Hid (Ext w (w2.alloc (.cells #[.int .i64 x0, .int .i64 x1] 61))) := Lib.hid (HE2.out.alloc _)
                    generalize w2.alloc (.cells #[.int .i64 x0, .int .i64 x1] 61) = w3 at *
                    have b3 := HR3.out.cell
                    go_wp2_with fail
                    refine (Speeds_ok start low speed A c l w3 (HM.out.ext HE3.out) (by omega) N1 ha1).mono ?_
                    rintro e w4 ⟨rfl, hE4⟩
                    have HE4 := Lib.hid (HE3.out.trans hE4)
                    have HR4 := Lib.hid (HR3.out.ext hE4)
                    clear b3
                    have b4 := HR4.out.cell
                    clear hE4
                    obtain ⟨z3, hx0⟩ : ∃ q, (Sp.speedsL start l low speed).headD 0 = q := ⟨_, rfl⟩
                    obtain ⟨y3', hx1⟩ : ∃ q, (Sp.speedsL start l low speed).getLastD 0 = q := ⟨_, rfl⟩
                    rw [hx0, hx1]
                    clear hx0 hx1
                    go_wp2_with fail
                    have HE5 : Hid (Ext w (w4.alloc (.cells #[.int .i64 z3, .int .i64 y3'] 61))) := Lib.hid (HE4.out.alloc _)
                    have hX5 : Ext w4 (w4.alloc (.cells #[.int .i64 z3, .int .i64 y3'] 61)) := (Ext.refl _).alloc _
                    generalize w4.alloc (.cells #[.int .i64 z3, .int .i64 y3'] 61) = w5 at *
                    have HR5 := Lib.hid (HR4.out.ext hX5)
                    clear b4
                    have b5 := HR5.out.cell
                    clear hX5
                    go_wp2_with fail
                    refine (Speeds_none start (speed + 1) high A c l w5 (HM.out.ext HE5.out) (by omega) N2 hb1').mono ?_
                    rintro e w6 ⟨rfl, hE6⟩
                    have HE6 := Lib.hid (HE5.out.trans hE6)
                    have HR6 := Lib.hid (HR5.out.ext hE6)
                    clear b5
                    have b6 := HR6.out.cell
                    clear hE6
                    go_wp2_with fail
                    have HE7 : Hid (Ext w (w6.alloc (.cells #[.int .i64 0, .int .i64 0] 61))) := Lib.hid (HE6.out.alloc _)
                    have hX7 : Ext w6 (w6.alloc (.cells #[.int .i64 0, .int .i64 0] 61)) := (Ext.refl _).alloc _
                    generalize w6.alloc (.cells #[.int .i64 0, .int .i64 0] 61) = w7 at *
                    have HR7 := Lib.hid (HR6.out.ext hX7)
                    clear b6
                    have b7 := HR7.out.cell
                    clear hX7
                    go_wp2_with fail
                    refine (Speeds_ok start speed speed A c l w7 (HM.out.ext HE7.out) (by omega) N3 hC).mono ?_
                    rintro e w8 ⟨rfl, hE8⟩
                    have HE8 := Lib.hid (HE7.out.trans hE8)
                    have HR8 := Lib.hid (HR7.out.ext hE8)
                    clear b7
                    have b8 := HR8.out.cell
                    clear hE8
                    obtain ⟨z7, hx0⟩ : ∃ q, (Sp.speedsL start l speed speed).headD 0 = q := ⟨_, rfl⟩
                    obtain ⟨y7', hx1⟩ : ∃ q, (Sp.speedsL start l speed speed).getLastD 0 = q := ⟨_, rfl⟩
                    rw [hx0, hx1]
                    clear hx0 hx1
                    go_wp2_with fail
                    have HE9 : Hid (Ext w (w8.alloc (.cells #[.int .i64 z7, .int .i64 y7'] 61))) := Lib.hid (HE8.out.alloc _)
                    have hX9 : Ext w8 (w8.alloc (.cells #[.int .i64 z7, .int .i64 y7'] 61)) := (Ext.refl _).alloc _
                    generalize w8.alloc (.cells #[.int .i64 z7, .int .i64 y7'] 61) = w9 at *
                    have HR9 := Lib.hid (HR8.out.ext hX9)
                    clear b8
                    have b9 := HR9.out.cell
                    clear hX9
                    try rw [hlc]
                    clear hpart hone hmem
                    go_wp2_with fail
                    refine (r_Agrees_any start speed l A c w9 (HM.out.ext HE9.out) (by omega) n2 q1 q2 (by omega) (by omega)).mono ?_
                    rintro e w10 ⟨rfl, hE10⟩
                    have HE10 := Lib.hid (HE9.out.trans hE10)
                    have HR10 := Lib.hid (HR9.out.ext hE10)
                    clear b9
                    have b10 := HR10.out.cell
                    clear hE10
                    rw [hag]
                    obtain ⟨⟨y1, y2, y3⟩, ⟨y4, y5, y6⟩, y7, y8⟩ := HENDS.out
                    clear HENDS
                    obtain ⟨y9, y10⟩ := y8 speed (by omega) (by omega) hag
                    clear y8
                    go_wp2_with fail
                    refine (r_Agrees_any start x0 l A c w10 (HM.out.ext HE10.out) (by omega) n2 q1 q2 (by omega) (by omega)).mono ?_
                    rintro e w11 ⟨rfl, hE11⟩
                    have HE11 := Lib.hid (HE10.out.trans hE11)
                    have HR11 := Lib.hid (HR10.out.ext hE11)
                    clear b10
                    have b11 := HR11.out.cell
                    clear hE11
                    rw [y3]
                    go_wp2_with fail
                    refine (r_Agrees_any start x1 l A c w11 (HM.out.ext HE11.out) (by omega) n2 q1 q2 (by omega) (by omega)).mono ?_
                    rintro e w12 ⟨rfl, hE12⟩
                    have HE12 := Lib.hid (HE11.out.trans hE12)
                    have HR12 := Lib.hid (HR11.out.ext hE12)
                    clear b11
                    have b12 := HR12.out.cell
                    clear hE12
                    rw [y6]
                    go_wp2_with fail
                    refine (known_any w12 (HV.out.ext HE12.out)).mono ?_
                    rintro e w13 ⟨rfl, hE13⟩
                    go_wp2_with fail
                    go_ret
                    exact ⟨rfl, HE12.out.trans hE13⟩
                case neg =>
                  cases hag : Sp.agrees start l speed with
                  | false =>
                    have hL : Sp.speedsL start l low high ≠ [] := fun e => by rw [hpart, List.append_eq_nil_iff] at e; exact ha1 e.1
                    have hC : Sp.speedsL start l speed speed = [] := by rw [hone, hag]; simp
                    have HENDS := Lib.hid (ends_of hL)
                    have hlc : (Sp.speedsL start l speed speed).length = 0 := by rw [hone, hag]; simp
                    go_wp2_with fail
                    refine (Speeds_ok start low high A c l w1 (HM.out.ext HE1.out) (by omega) N0 hL).mono ?_
                    rintro e w2 ⟨rfl, hE2⟩
                    have HE2 := Lib.hid (HE1.out.trans hE2)
                    clear hE2
                    obtain ⟨x0, hx0⟩ : ∃ q, (Sp.speedsL start l low high).headD 0 = q := ⟨_, rfl⟩
                    obtain ⟨x1, hx1⟩ : ∃ q, (Sp.speedsL start l low high).getLastD 0 = q := ⟨_, rfl⟩
                    rw [hx0, hx1]
                    rw [hx0, hx1] at HENDS
                    clear hx0 hx1
                    go_wp2_with fail
                    have HR3 := Lib.hid (Row.new w2 61 #[.int .i64 x0, .int .i64 x1])
                    have HE3 : Hid (Ext w (w2.alloc (.cells #[.int .i64 x0, .int .i64 x1] 61))) := Lib.hid (HE2.out.alloc _)
                    generalize w2.alloc (.cells #[.int .i64 x0, .int .i64 x1] 61) = w3 at *
                    have b3 := HR3.out.cell
                    go_wp2_with fail
                    refine (Speeds_ok start low speed A c l w3 (HM.out.ext HE3.out) (by omega) N1 ha1).mono ?_
                    rintro e w4 ⟨rfl, hE4⟩
                    have HE4 := Lib.hid (HE3.out.trans hE4)
                    have HR4 := Lib.hid (HR3.out.ext hE4)
                    clear b3
                    have b4 := HR4.out.cell
                    clear hE4
                    obtain ⟨z3, hx0⟩ : ∃ q, (Sp.speedsL start l low speed).headD 0 = q := ⟨_, rfl⟩
                    obtain ⟨y3', hx1⟩ : ∃ q, (Sp.speedsL start l low speed).getLastD 0 = q := ⟨_, rfl⟩
                    rw [hx0, hx1]
                    clear hx0 hx1
                    go_wp2_with fail
                    have HE5 : Hid (Ext w (w4.alloc (.cells #[.int .i64 z3, .int .i64 y3'] 61))) := Lib.hid (HE4.out.alloc _)
                    have hX5 : Ext w4 (w4.alloc (.cells #[.int .i64 z3, .int .i64 y3'] 61)) := (Ext.refl _).alloc _
                    generalize w4.alloc (.cells #[.int .i64 z3, .int .i64 y3'] 61) = w5 at *
                    have HR5 := Lib.hid (HR4.out.ext hX5)
                    clear b4
                    have b5 := HR5.out.cell
                    clear hX5
                    go_wp2_with fail
                    refine (Speeds_ok start (speed + 1) high A c l w5 (HM.out.ext HE5.out) (by omega) N2 hb1').mono ?_
                    rintro e w6 ⟨rfl, hE6⟩
                    have HE6 := Lib.hid (HE5.out.trans hE6)
                    have HR6 := Lib.hid (HR5.out.ext hE6)
                    clear b5
                    have b6 := HR6.out.cell
                    clear hE6
                    obtain ⟨z5, hx0⟩ : ∃ q, (Sp.speedsL start l (speed + 1) high).headD 0 = q := ⟨_, rfl⟩
                    obtain ⟨y5', hx1⟩ : ∃ q, (Sp.speedsL start l (speed + 1) high).getLastD 0 = q := ⟨_, rfl⟩
                    rw [hx0, hx1]
                    clear hx0 hx1
                    go_wp2_with fail
                    have HE7 : Hid (Ext w (w6.alloc (.cells #[.int .i64 z5, .int .i64 y5'] 61))) := Lib.hid (HE6.out.alloc _)
                    have hX7 : Ext w6 (w6.alloc (.cells #[.int .i64 z5, .int .i64 y5'] 61)) := (Ext.refl _).alloc _
                    generalize w6.alloc (.cells #[.int .i64 z5, .int .i64 y5'] 61) = w7 at *
                    have HR7 := Lib.hid (HR6.out.ext hX7)
                    clear b6
                    have b7 := HR7.out.cell
                    clear hX7
                    go_wp2_with fail
                    refine (Speeds_none start speed speed A c l w7 (HM.out.ext HE7.out) (by omega) N3 hC).mono ?_
                    rintro e w8 ⟨rfl, hE8⟩
                    have HE8 := Lib.hid (HE7.out.trans hE8)
                    have HR8 := Lib.hid (HR7.out.ext hE8)
                    clear b7
                    have b8 := HR8.out.cell
                    clear hE8
                    go_wp2_with fail
                    have HE9 : Hid (Ext w (w8.alloc (.cells #[.int .i64 0, .int .i64 0] 61))) := Lib.hid (HE8.out.alloc _)
                    have hX9 : Ext w8 (w8.alloc (.cells #[.int .i64 0, .int .i64 0] 61)) := (Ext.refl _).alloc _
                    generalize w8.alloc (.cells #[.int .i64 0, .int .i64 0] 61) = w9 at *
                    have HR9 := Lib.hid (HR8.out.ext hX9)
                    clear b8
                    have b9 := HR9.out.cell
                    clear hX9
                    clear hpart hone hmem
                    go_wp2_with fail
                    refine (r_Agrees_any start speed l A c w9 (HM.out.ext HE9.out) (by omega) n2 q1 q2 (by omega) (by omega)).mono ?_
                    rintro e w10 ⟨rfl, hE10⟩
                    have HE10 := Lib.hid (HE9.out.trans hE10)
                    have HR10 := Lib.hid (HR9.out.ext hE10)
                    clear b9
                    have b10 := HR10.out.cell
                    clear hE10
                    rw [hag]
                    obtain ⟨⟨y1, y2, y3⟩, ⟨y4, y5, y6⟩, y7, y8⟩ := HENDS.out
                    clear HENDS
                    clear y8
                    go_wp2_with fail
                    refine (r_Agrees_any start x0 l A c w10 (HM.out.ext HE10.out) (by omega) n2 q1 q2 (by omega) (by omega)).mono ?_
                    rintro e w11 ⟨rfl, hE11⟩
                    have HE11 := Lib.hid (HE10.out.trans hE11)
                    have HR11 := Lib.hid (HR10.out.ext hE11)
                    clear b10
                    have b11 := HR11.out.cell
                    clear hE11
                    rw [y3]
                    go_wp2_with fail
                    refine (r_Agrees_any start x1 l A c w11 (HM.out.ext HE11.out) (by omega) n2 q1 q2 (by omega) (by omega)).mono ?_
                    rintro e w12 ⟨rfl, hE12⟩
                    have HE12 := Lib.hid (HE11.out.trans hE12)
                    have HR12 := Lib.hid (HR11.out.ext hE12)
                    clear b11
                    have b12 := HR12.out.cell
                    clear hE12
                    rw [y6]
                    go_wp2_with fail
                    refine (known_any w12 (HV.out.ext HE12.out)).mono ?_
                    rintro e w13 ⟨rfl, hE13⟩
                    go_wp2_with fail
                    go_ret
                    exact ⟨rfl, HE12.out.trans hE13⟩
                  | true =>
                    have hL : Sp.speedsL start l low high ≠ [] := fun e => by rw [hpart, List.append_eq_nil_iff] at e; exact ha1 e.1
                    have hC : Sp.speedsL start l speed speed ≠ [] := by rw [hone, hag]; simp
                    have HENDS := Lib.hid (ends_of hL)
                    have hlc : (Sp.speedsL start l speed speed).length = 1 := by rw [hone, hag]; simp
                    go_wp2_with fail
                    refine (Speeds_ok start low high A c l w1 (HM.out.ext HE1.out) (by omega) N0 hL).mono ?_
                    rintro e w2 ⟨rfl, hE2⟩
                    have HE2 := Lib.hid (HE1.out.trans hE2)
                    clear hE2
                    obtain ⟨x0, hx0⟩ : ∃ q, (Sp.speedsL start l low high).headD 0 = q := ⟨_, rfl⟩
                    obtain ⟨x1, hx1⟩ : ∃ q, (Sp.speedsL start l low high).getLastD 0 = q := ⟨_, rfl⟩
                    rw [hx0, hx1]
                    rw [hx0, hx1] at HENDS
                    clear hx0 hx1
                    go_wp2_with fail
                    have HR3 := Lib.hid (Row.new w2 61 #[.int .i64 x0, .int .i64 x1])
                    have HE3 : Hid (Ext w (w2.alloc (.cells #[.int .i64 x0, .int .i64 x1] 61))) := Lib.hid (HE2.out.alloc _)
                    generalize w2.alloc (.cells #[.int .i64 x0, .int .i64 x1] 61) = w3 at *
                    have b3 := HR3.out.cell
                    go_wp2_with fail
                    refine (Speeds_ok start low speed A c l w3 (HM.out.ext HE3.out) (by omega) N1 ha1).mono ?_
                    rintro e w4 ⟨rfl, hE4⟩
                    have HE4 := Lib.hid (HE3.out.trans hE4)
                    have HR4 := Lib.hid (HR3.out.ext hE4)
                    clear b3
                    have b4 := HR4.out.cell
                    clear hE4
                    obtain ⟨z3, hx0⟩ : ∃ q, (Sp.speedsL start l low speed).headD 0 = q := ⟨_, rfl⟩
                    obtain ⟨y3', hx1⟩ : ∃ q, (Sp.speedsL start l low speed).getLastD 0 = q := ⟨_, rfl⟩
                    rw [hx0, hx1]
                    clear hx0 hx1
                    go_wp2_with fail
                    have HE5 : Hid (Ext w (w4.alloc (.cells #[.int .i64 z3, .int .i64 y3'] 61))) := Lib.hid (HE4.out.alloc _)
                    have hX5 : Ext w4 (w4.alloc (.cells #[.int .i64 z3, .int .i64 y3'] 61)) := (Ext.refl _).alloc _
                    generalize w4.alloc (.cells #[.int .i64 z3, .int .i64 y3'] 61) = w5 at *
                    have HR5 := Lib.hid (HR4.out.ext hX5)
                    clear b4
                    have b5 := HR5.out.cell
                    clear hX5
                    go_wp2_with fail
                    refine (Speeds_ok start (speed + 1) high A c l w5 (HM.out.ext HE5.out) (by omega) N2 hb1').mono ?_
                    rintro e w6 ⟨rfl, hE6⟩
                    have HE6 := Lib.hid (HE5.out.trans hE6)
                    have HR6 := Lib.hid (HR5.out.ext hE6)
                    clear b5
                    have b6 := HR6.out.cell
                    clear hE6
                    obtain ⟨z5, hx0⟩ : ∃ q, (Sp.speedsL start l (speed + 1) high).headD 0 = q := ⟨_, rfl⟩
                    obtain ⟨y5', hx1⟩ : ∃ q, (Sp.speedsL start l (speed + 1) high).getLastD 0 = q := ⟨_, rfl⟩
                    rw [hx0, hx1]
                    clear hx0 hx1
                    go_wp2_with fail
                    have HE7 : Hid (Ext w (w6.alloc (.cells #[.int .i64 z5, .int .i64 y5'] 61))) := Lib.hid (HE6.out.alloc _)
                    have hX7 : Ext w6 (w6.alloc (.cells #[.int .i64 z5, .int .i64 y5'] 61)) := (Ext.refl _).alloc _
                    generalize w6.alloc (.cells #[.int .i64 z5, .int .i64 y5'] 61) = w7 at *
                    have HR7 := Lib.hid (HR6.out.ext hX7)
                    clear b6
                    have b7 := HR7.out.cell
                    clear hX7
                    go_wp2_with fail
                    refine (Speeds_ok start speed speed A c l w7 (HM.out.ext HE7.out) (by omega) N3 hC).mono ?_
                    rintro e w8 ⟨rfl, hE8⟩
                    have HE8 := Lib.hid (HE7.out.trans hE8)
                    have HR8 := Lib.hid (HR7.out.ext hE8)
                    clear b7
                    have b8 := HR8.out.cell
                    clear hE8
                    obtain ⟨z7, hx0⟩ : ∃ q, (Sp.speedsL start l speed speed).headD 0 = q := ⟨_, rfl⟩
                    obtain ⟨y7', hx1⟩ : ∃ q, (Sp.speedsL start l speed speed).getLastD 0 = q := ⟨_, rfl⟩
                    rw [hx0, hx1]
                    clear hx0 hx1
                    go_wp2_with fail
                    have HE9 : Hid (Ext w (w8.alloc (.cells #[.int .i64 z7, .int .i64 y7'] 61))) := Lib.hid (HE8.out.alloc _)
                    have hX9 : Ext w8 (w8.alloc (.cells #[.int .i64 z7, .int .i64 y7'] 61)) := (Ext.refl _).alloc _
                    generalize w8.alloc (.cells #[.int .i64 z7, .int .i64 y7'] 61) = w9 at *
                    have HR9 := Lib.hid (HR8.out.ext hX9)
                    clear b8
                    have b9 := HR9.out.cell
                    clear hX9
                    try rw [hlc]
                    clear hpart hone hmem
                    go_wp2_with fail
                    refine (r_Agrees_any start speed l A c w9 (HM.out.ext HE9.out) (by omega) n2 q1 q2 (by omega) (by omega)).mono ?_
                    rintro e w10 ⟨rfl, hE10⟩
                    have HE10 := Lib.hid (HE9.out.trans hE10)
                    have HR10 := Lib.hid (HR9.out.ext hE10)
                    clear b9
                    have b10 := HR10.out.cell
                    clear hE10
                    rw [hag]
                    obtain ⟨⟨y1, y2, y3⟩, ⟨y4, y5, y6⟩, y7, y8⟩ := HENDS.out
                    clear HENDS
                    obtain ⟨y9, y10⟩ := y8 speed (by omega) (by omega) hag
                    clear y8
                    go_wp2_with fail
                    refine (r_Agrees_any start x0 l A c w10 (HM.out.ext HE10.out) (by omega) n2 q1 q2 (by omega) (by omega)).mono ?_
                    rintro e w11 ⟨rfl, hE11⟩
                    have HE11 := Lib.hid (HE10.out.trans hE11)
                    have HR11 := Lib.hid (HR10.out.ext hE11)
                    clear b10
                    have b11 := HR11.out.cell
                    clear hE11
                    rw [y3]
                    go_wp2_with fail
                    refine (r_Agrees_any start x1 l A c w11 (HM.out.ext HE11.out) (by omega) n2 q1 q2 (by omega) (by omega)).mono ?_
                    rintro e w12 ⟨rfl, hE12⟩
                    have HE12 := Lib.hid (HE11.out.trans hE12)
                    have HR12 := Lib.hid (HR11.out.ext hE12)
                    clear b11
                    have b12 := HR12.out.cell
                    clear hE12
                    rw [y6]
                    go_wp2_with fail
                    refine (known_any w12 (HV.out.ext HE12.out)).mono ?_
                    rintro e w13 ⟨rfl, hE13⟩
                    go_wp2_with fail
                    go_ret
                    exact ⟨rfl, HE12.out.trans hE13⟩
end Go.Proofs.YtlcddcnmoajpjaaGreatDoor
