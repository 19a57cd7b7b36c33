/- The walk of the law SkyPlaces. (Printed by wip/mklaws1.py.) -/
import Derived.Test.YtlcddcnmoajpjaaGreatDoorV21
namespace Go.Proofs.YtlcddcnmoajpjaaGreatDoor
open Go.RowKit
open Sp (rd)
set_option linter.unusedSimpArgs false
set_option linter.unusedVariables false

set_option maxRecDepth 100000 in
set_option maxHeartbeats 8000000 in
theorem law_SkyPlaces (s : Sp.Sky) (A : Option Addr) (c : Nat) (i j day : Int) (w : World) (hV : Env w) (hm : Bodies w A s.bodies) (hl : Long s.bodies) :
    Calls Tryz.prog 21 #[.agg #[.slice A s.bodies.length c, .int .i64 s.nnum, .int .i64 s.nden, .int .i64 s.nstart], .int .i64 i, .int .i64 j, .int .i64 day] w fun e w' => e = .returned (.bool true) ∧ Ext w w' := by
  have HL := Lib.hid hl
  have HM := Lib.hid hm
  have HV := Lib.hid hV
  clear hm hl hV
  go_enter Tryz.func21, Tryz.ntmps21
  go_wp2_with fail
  have HR0 := Lib.hid (Row.new w 28 #[.slice A s.bodies.length c, .int .i64 s.nnum, .int .i64 s.nden, .int .i64 s.nstart])
  have HE0 : Hid (Ext w (w.alloc (.cells #[.slice A s.bodies.length c, .int .i64 s.nnum, .int .i64 s.nden, .int .i64 s.nstart] 28))) := Lib.hid ((Ext.refl w).alloc _)
  generalize w.alloc (.cells #[.slice A s.bodies.length c, .int .i64 s.nnum, .int .i64 s.nden, .int .i64 s.nstart] 28) = w0 at *
  have b0 := HR0.out.cell
  refine (short_any s A c w0 (HM.out.ext HE0.out) HL.out).mono ?_
  rintro e w1 ⟨rfl, hE1⟩
  have HE1 := Lib.hid (HE0.out.trans hE1)
  have HR1 := Lib.hid (HR0.out.ext hE1)
  clear b0
  have b1 := HR1.out.cell
  clear hE1
  cases hsh : shortB s.bodies with
  | false =>
    go_wp2_with fail
    refine (known_any w1 (HV.out.ext HE1.out)).mono ?_
    rintro e w2 ⟨rfl, hE2⟩
    go_wp2_with fail
    go_ret
    exact ⟨rfl, HE1.out.trans hE2⟩
  | true =>
    have hS := Lib.hid (short_of hsh)
    have hfew := few_of hsh
    clear hsh
    go_wp2_with fail
    refine (Check_any s A c w1 (HM.out.ext HE1.out) hS.out).mono ?_
    rintro e w2 ⟨rfl, hE2⟩
    have HE2 := Lib.hid (HE1.out.trans hE2)
    have HR2 := Lib.hid (HR1.out.ext hE2)
    clear b1
    have b2 := HR2.out.cell
    clear hE2
    cases h1 : Sp.skyOk s with
    | false =>
      simp only [if_true, if_false, Bool.false_eq_true]
      have herr : (Sp.skyOk s && ((Sp.isBody s i && (Sp.isBody s j && (i != j))) && (Sp.isDay day))) = false := by simp [h1]
      go_wp2_with fail
      refine (Mean_err s A c i day w2 (HM.out.ext HE2.out) hS.out (by simp [h1])).mono ?_
      rintro e w3 ⟨rfl, hE3⟩
      have HE3 := Lib.hid (HE2.out.trans hE3)
      have HR3 := Lib.hid (HR2.out.ext hE3)
      clear b2
      have b3 := HR3.out.cell
      clear hE3
      go_wp2_with fail
      refine (Place_err s A c i day w3 (HM.out.ext HE3.out) hS.out (by simp [h1])).mono ?_
      rintro e w4 ⟨rfl, hE4⟩
      have HE4 := Lib.hid (HE3.out.trans hE4)
      have HR4 := Lib.hid (HR3.out.ext hE4)
      clear b3
      have b4 := HR4.out.cell
      clear hE4
      go_wp2_with fail
      refine (Node_err s A c day w4 (HM.out.ext HE4.out) hS.out (by simp [h1])).mono ?_
      rintro e w5 ⟨rfl, hE5⟩
      have HE5 := Lib.hid (HE4.out.trans hE5)
      have HR5 := Lib.hid (HR4.out.ext hE5)
      clear b4
      have b5 := HR5.out.cell
      clear hE5
      go_wp2_with fail
      refine (Between_err s A c i j day w5 (HM.out.ext HE5.out) hS.out herr).mono ?_
      rintro e w6 ⟨rfl, hE6⟩
      have HE6 := Lib.hid (HE5.out.trans hE6)
      have HR6 := Lib.hid (HR5.out.ext hE6)
      clear b5
      have b6 := HR6.out.cell
      clear hE6
      go_wp2_with fail
      refine (r_Sky_any s A c w6 (HM.out.ext HE6.out) hS.out).mono ?_
      rintro e w7 ⟨rfl, hE7⟩
      have HE7 := Lib.hid (HE6.out.trans hE7)
      have HR7 := Lib.hid (HR6.out.ext hE7)
      clear b6
      have b7 := HR7.out.cell
      clear hE7
      rw [h1]
      go_wp2_with fail
      refine (known_any w7 (HV.out.ext HE7.out)).mono ?_
      rintro e w8 ⟨rfl, hE8⟩
      go_wp2_with fail
      go_ret
      exact ⟨rfl, HE7.out.trans hE8⟩
    | true =>
      cases h2 : Sp.isDay day with
      | false =>
        simp only [if_true, if_false, Bool.false_eq_true]
        have herr : (Sp.skyOk s && ((Sp.isBody s i && (Sp.isBody s j && (i != j))) && (Sp.isDay day))) = false := by simp [h1, h2]
        go_wp2_with fail
        refine (Mean_err s A c i day w2 (HM.out.ext HE2.out) hS.out (by simp [h1, h2])).mono ?_
        rintro e w3 ⟨rfl, hE3⟩
        have HE3 := Lib.hid (HE2.out.trans hE3)
        have HR3 := Lib.hid (HR2.out.ext hE3)
        clear b2
        have b3 := HR3.out.cell
        clear hE3
        go_wp2_with fail
        refine (Place_err s A c i day w3 (HM.out.ext HE3.out) hS.out (by simp [h1, h2])).mono ?_
        rintro e w4 ⟨rfl, hE4⟩
        have HE4 := Lib.hid (HE3.out.trans hE4)
        have HR4 := Lib.hid (HR3.out.ext hE4)
        clear b3
        have b4 := HR4.out.cell
        clear hE4
        go_wp2_with fail
        refine (Node_err s A c day w4 (HM.out.ext HE4.out) hS.out (by simp [h1, h2])).mono ?_
        rintro e w5 ⟨rfl, hE5⟩
        have HE5 := Lib.hid (HE4.out.trans hE5)
        have HR5 := Lib.hid (HR4.out.ext hE5)
        clear b4
        have b5 := HR5.out.cell
        clear hE5
        go_wp2_with fail
        refine (Between_err s A c i j day w5 (HM.out.ext HE5.out) hS.out herr).mono ?_
        rintro e w6 ⟨rfl, hE6⟩
        have HE6 := Lib.hid (HE5.out.trans hE6)
        have HR6 := Lib.hid (HR5.out.ext hE6)
        clear b5
        have b6 := HR6.out.cell
        clear hE6
        go_wp2_with fail
        refine (r_Sky_any s A c w6 (HM.out.ext HE6.out) hS.out).mono ?_
        rintro e w7 ⟨rfl, hE7⟩
        have HE7 := Lib.hid (HE6.out.trans hE7)
        have HR7 := Lib.hid (HR6.out.ext hE7)
        clear b6
        have b7 := HR7.out.cell
        clear hE7
        rw [h1]
        go_wp2_with fail
        refine (r_Day_any _ _).mono ?_
        rintro e w' ⟨rfl, rfl⟩
        rw [h2]
        go_wp2_with fail
        refine (known_any w7 (HV.out.ext HE7.out)).mono ?_
        rintro e w8 ⟨rfl, hE8⟩
        go_wp2_with fail
        go_ret
        exact ⟨rfl, HE7.out.trans hE8⟩
      | true =>
        cases h3 : Sp.isBody s i with
        | false =>
          simp only [if_true, if_false, Bool.false_eq_true]
          have HD := Lib.hid (inR_iff.1 h2)
          have HK := Lib.hid (skyOk_iff.1 h1)
          have herr : (Sp.skyOk s && ((Sp.isBody s i && (Sp.isBody s j && (i != j))) && (Sp.isDay day))) = false := by simp [h1, h2, h3]
          go_wp2_with fail
          refine (Mean_err s A c i day w2 (HM.out.ext HE2.out) hS.out (by simp [h1, h2, h3])).mono ?_
          rintro e w3 ⟨rfl, hE3⟩
          have HE3 := Lib.hid (HE2.out.trans hE3)
          have HR3 := Lib.hid (HR2.out.ext hE3)
          clear b2
          have b3 := HR3.out.cell
          clear hE3
          go_wp2_with fail
          refine (Place_err s A c i day w3 (HM.out.ext HE3.out) hS.out (by simp [h1, h2, h3])).mono ?_
          rintro e w4 ⟨rfl, hE4⟩
          have HE4 := Lib.hid (HE3.out.trans hE4)
          have HR4 := Lib.hid (HR3.out.ext hE4)
          clear b3
          have b4 := HR4.out.cell
          clear hE4
          go_wp2_with fail
          refine (Node_ok s A c day w4 (HM.out.ext HE4.out) hS.out h1 h2).mono ?_
          rintro e w5 ⟨rfl, hE5⟩
          have HE5 := Lib.hid (HE4.out.trans hE5)
          have HR5 := Lib.hid (HR4.out.ext hE5)
          clear b4
          have b5 := HR5.out.cell
          clear hE5
          go_wp2_with fail
          refine (Between_err s A c i j day w5 (HM.out.ext HE5.out) hS.out herr).mono ?_
          rintro e w6 ⟨rfl, hE6⟩
          have HE6 := Lib.hid (HE5.out.trans hE6)
          have HR6 := Lib.hid (HR5.out.ext hE6)
          clear b5
          have b6 := HR6.out.cell
          clear hE6
          go_wp2_with fail
          refine (r_Sky_any s A c w6 (HM.out.ext HE6.out) hS.out).mono ?_
          rintro e w7 ⟨rfl, hE7⟩
          have HE7 := Lib.hid (HE6.out.trans hE7)
          have HR7 := Lib.hid (HR6.out.ext hE7)
          clear b6
          have b7 := HR7.out.cell
          clear hE7
          rw [h1]
          go_wp2_with fail
          refine (r_Day_any _ _).mono ?_
          rintro e w' ⟨rfl, rfl⟩
          rw [h2]
          go_wp2_with fail
          refine (r_Node_any s day w7 HK.out HD.out.1 HD.out.2).mono ?_
          rintro e w8 ⟨rfl, hE8⟩
          have HE8 := Lib.hid (HE7.out.trans hE8)
          have HR8 := Lib.hid (HR7.out.ext hE8)
          clear b7
          have b8 := HR8.out.cell
          clear hE8
          go_wp2_with fail
          refine (r_Body_any s A c _ _ _ i w8 (by omega)).mono ?_
          rintro e w9 ⟨rfl, hE9⟩
          have HE9 := Lib.hid (HE8.out.trans hE9)
          have HR9 := Lib.hid (HR8.out.ext hE9)
          clear b8
          have b9 := HR9.out.cell
          clear hE9
          rw [h3]
          go_wp2_with fail
          refine (known_any w9 (HV.out.ext HE9.out)).mono ?_
          rintro e w10 ⟨rfl, hE10⟩
          go_wp2_with fail
          go_ret
          exact ⟨rfl, HE9.out.trans hE10⟩
        | true =>
          cases h4 : (i != j) with
          | false =>
            simp only [if_true, if_false, Bool.false_eq_true]
            have HD := Lib.hid (inR_iff.1 h2)
            have HK := Lib.hid (skyOk_iff.1 h1)
            have herr : (Sp.skyOk s && ((Sp.isBody s i && (Sp.isBody s j && (i != j))) && (Sp.isDay day))) = false := by simp [h1, h2, h3, h4]
            obtain ⟨i1, i2⟩ := isBody_of h3
            obtain ⟨ii, rfl⟩ := Int.eq_ofNat_of_zero_le i1
            have hlen := HK.out.n4
            have hii : ii < s.bodies.length := by omega
            obtain rfl : j = (ii : Int) := by have := h4; simp at this; exact this.symm
            clear h4
            go_wp2_with fail
            refine (Mean_ok s A c (ii : Int) day w2 (HM.out.ext HE2.out) hS.out h1 h3 h2).mono ?_
            rintro e w3 ⟨rfl, hE3⟩
            have HE3 := Lib.hid (HE2.out.trans hE3)
            have HR3 := Lib.hid (HR2.out.ext hE3)
            clear b2
            have b3 := HR3.out.cell
            clear hE3
            go_wp2_with fail
            refine (Place_ok s A c (ii : Int) day w3 (HM.out.ext HE3.out) hS.out h1 h3 h2).mono ?_
            rintro e w4 ⟨rfl, hE4⟩
            have HE4 := Lib.hid (HE3.out.trans hE4)
            have HR4 := Lib.hid (HR3.out.ext hE4)
            clear b3
            have b4 := HR4.out.cell
            clear hE4
            go_wp2_with fail
            refine (Node_ok s A c day w4 (HM.out.ext HE4.out) hS.out h1 h2).mono ?_
            rintro e w5 ⟨rfl, hE5⟩
            have HE5 := Lib.hid (HE4.out.trans hE5)
            have HR5 := Lib.hid (HR4.out.ext hE5)
            clear b4
            have b5 := HR5.out.cell
            clear hE5
            go_wp2_with fail
            refine (Between_err s A c (ii : Int) (ii : Int) day w5 (HM.out.ext HE5.out) hS.out herr).mono ?_
            rintro e w6 ⟨rfl, hE6⟩
            have HE6 := Lib.hid (HE5.out.trans hE6)
            have HR6 := Lib.hid (HR5.out.ext hE6)
            clear b5
            have b6 := HR6.out.cell
            clear hE6
            go_wp2_with fail
            refine (r_Sky_any s A c w6 (HM.out.ext HE6.out) hS.out).mono ?_
            rintro e w7 ⟨rfl, hE7⟩
            have HE7 := Lib.hid (HE6.out.trans hE7)
            have HR7 := Lib.hid (HR6.out.ext hE7)
            clear b6
            have b7 := HR7.out.cell
            clear hE7
            rw [h1]
            go_wp2_with fail
            refine (r_Day_any _ _).mono ?_
            rintro e w' ⟨rfl, rfl⟩
            rw [h2]
            go_wp2_with fail
            refine (r_Node_any s day w7 HK.out HD.out.1 HD.out.2).mono ?_
            rintro e w8 ⟨rfl, hE8⟩
            have HE8 := Lib.hid (HE7.out.trans hE8)
            have HR8 := Lib.hid (HR7.out.ext hE8)
            clear b7
            have b8 := HR8.out.cell
            clear hE8
            go_wp2_with fail
            refine (r_Body_any s A c _ _ _ (ii : Int) w8 (by omega)).mono ?_
            rintro e w9 ⟨rfl, hE9⟩
            have HE9 := Lib.hid (HE8.out.trans hE9)
            have HR9 := Lib.hid (HR8.out.ext hE9)
            clear b8
            have b9 := HR9.out.cell
            clear hE9
            rw [h3]
            obtain ⟨bb, oo, rfl, hB⟩ := HM.out (by omega)
            have HBI := Lib.hid (hB ii hii)
            clear hB
            have HKI := Lib.hid (HK.out.all ii hii)
            obtain ⟨A1, r1, hr1, I1⟩ := HBI.out.road
            have HI1 := Lib.hid I1
            have HR1' := Lib.hid hr1
            clear hr1 I1
            have hbe : Sp.body s (ii : Int) = bd s.bodies ii := rfl
            rw [hbe]
            have hi' : (0 : Int) ≤ (ii : Int) ∧ (ii : Int) < (s.bodies.length : Int) := by omega
            have n1 := HE9.out.cell HBI.out.num
            have d1 := HE9.out.cell HBI.out.den
            have s1 := HE9.out.cell HBI.out.start
            have g1 := HE9.out.cell HR1'.out
            go_wp2_with fail
            refine (r_Mean_any (bd s.bodies ii) _ _ _ day w9 HD.out.1 HD.out.2 HKI.out).mono ?_
            rintro e w10 ⟨rfl, hE10⟩
            have HE10 := Lib.hid (HE9.out.trans hE10)
            have HR10 := Lib.hid (HR9.out.ext hE10)
            clear b9
            have b10 := HR10.out.cell
            clear hE10
            clear n1 d1 s1 g1
            have n1 := HE10.out.cell HBI.out.num
            have d1 := HE10.out.cell HBI.out.den
            have s1 := HE10.out.cell HBI.out.start
            have g1 := HE10.out.cell HR1'.out
            go_wp2_with fail
            refine (r_Place_any (bd s.bodies ii) _ _ day w10 HD.out.1 HD.out.2 HKI.out (HI1.out.ext HE10.out)).mono ?_
            rintro e w11 ⟨rfl, hE11⟩
            have HE11 := Lib.hid (HE10.out.trans hE11)
            have HR11 := Lib.hid (HR10.out.ext hE11)
            clear b10
            have b11 := HR11.out.cell
            clear hE11
            clear n1 d1 s1 g1
            go_wp2_with fail
            refine (r_Body_any s _ c _ _ _ (ii : Int) w11 (by omega)).mono ?_
            rintro e w12 ⟨rfl, hE12⟩
            have HE12 := Lib.hid (HE11.out.trans hE12)
            have HR12 := Lib.hid (HR11.out.ext hE12)
            clear b11
            have b12 := HR12.out.cell
            clear hE12
            rw [h3]
            go_wp2_with fail
            refine (known_any w12 (HV.out.ext HE12.out)).mono ?_
            rintro e w13 ⟨rfl, hE13⟩
            go_wp2_with fail
            go_ret
            exact ⟨rfl, HE12.out.trans hE13⟩
          | true =>
            cases h5 : Sp.isBody s j with
            | false =>
              simp only [if_true, if_false, Bool.false_eq_true]
              have HD := Lib.hid (inR_iff.1 h2)
              have HK := Lib.hid (skyOk_iff.1 h1)
              have herr : (Sp.skyOk s && ((Sp.isBody s i && (Sp.isBody s j && (i != j))) && (Sp.isDay day))) = false := by simp [h1, h2, h3, h4, h5]
              obtain ⟨i1, i2⟩ := isBody_of h3
              obtain ⟨ii, rfl⟩ := Int.eq_ofNat_of_zero_le i1
              have hlen := HK.out.n4
              have hii : ii < s.bodies.length := by omega
              have hij : ¬ (ii : Int) = j := by simpa using h4
              clear h4
              go_wp2_with fail
              refine (Mean_ok s A c (ii : Int) day w2 (HM.out.ext HE2.out) hS.out h1 h3 h2).mono ?_
              rintro e w3 ⟨rfl, hE3⟩
              have HE3 := Lib.hid (HE2.out.trans hE3)
              have HR3 := Lib.hid (HR2.out.ext hE3)
              clear b2
              have b3 := HR3.out.cell
              clear hE3
              go_wp2_with fail
              refine (Place_ok s A c (ii : Int) day w3 (HM.out.ext HE3.out) hS.out h1 h3 h2).mono ?_
              rintro e w4 ⟨rfl, hE4⟩
              have HE4 := Lib.hid (HE3.out.trans hE4)
              have HR4 := Lib.hid (HR3.out.ext hE4)
              clear b3
              have b4 := HR4.out.cell
              clear hE4
              go_wp2_with fail
              refine (Node_ok s A c day w4 (HM.out.ext HE4.out) hS.out h1 h2).mono ?_
              rintro e w5 ⟨rfl, hE5⟩
              have HE5 := Lib.hid (HE4.out.trans hE5)
              have HR5 := Lib.hid (HR4.out.ext hE5)
              clear b4
              have b5 := HR5.out.cell
              clear hE5
              go_wp2_with fail
              refine (Between_err s A c (ii : Int) j day w5 (HM.out.ext HE5.out) hS.out herr).mono ?_
              rintro e w6 ⟨rfl, hE6⟩
              have HE6 := Lib.hid (HE5.out.trans hE6)
              have HR6 := Lib.hid (HR5.out.ext hE6)
              clear b5
              have b6 := HR6.out.cell
              clear hE6
              go_wp2_with fail
              refine (r_Sky_any s A c w6 (HM.out.ext HE6.out) hS.out).mono ?_
              rintro e w7 ⟨rfl, hE7⟩
              have HE7 := Lib.hid (HE6.out.trans hE7)
              have HR7 := Lib.hid (HR6.out.ext hE7)
              clear b6
              have b7 := HR7.out.cell
              clear hE7
              rw [h1]
              go_wp2_with fail
              refine (r_Day_any _ _).mono ?_
              rintro e w' ⟨rfl, rfl⟩
              rw [h2]
              go_wp2_with fail
              refine (r_Node_any s day w7 HK.out HD.out.1 HD.out.2).mono ?_
              rintro e w8 ⟨rfl, hE8⟩
              have HE8 := Lib.hid (HE7.out.trans hE8)
              have HR8 := Lib.hid (HR7.out.ext hE8)
              clear b7
              have b8 := HR8.out.cell
              clear hE8
              go_wp2_with fail
              refine (r_Body_any s A c _ _ _ (ii : Int) w8 (by omega)).mono ?_
              rintro e w9 ⟨rfl, hE9⟩
              have HE9 := Lib.hid (HE8.out.trans hE9)
              have HR9 := Lib.hid (HR8.out.ext hE9)
              clear b8
              have b9 := HR9.out.cell
              clear hE9
              rw [h3]
              obtain ⟨bb, oo, rfl, hB⟩ := HM.out (by omega)
              have HBI := Lib.hid (hB ii hii)
              clear hB
              have HKI := Lib.hid (HK.out.all ii hii)
              obtain ⟨A1, r1, hr1, I1⟩ := HBI.out.road
              have HI1 := Lib.hid I1
              have HR1' := Lib.hid hr1
              clear hr1 I1
              have hbe : Sp.body s (ii : Int) = bd s.bodies ii := rfl
              rw [hbe]
              have hi' : (0 : Int) ≤ (ii : Int) ∧ (ii : Int) < (s.bodies.length : Int) := by omega
              have n1 := HE9.out.cell HBI.out.num
              have d1 := HE9.out.cell HBI.out.den
              have s1 := HE9.out.cell HBI.out.start
              have g1 := HE9.out.cell HR1'.out
              go_wp2_with fail
              refine (r_Mean_any (bd s.bodies ii) _ _ _ day w9 HD.out.1 HD.out.2 HKI.out).mono ?_
              rintro e w10 ⟨rfl, hE10⟩
              have HE10 := Lib.hid (HE9.out.trans hE10)
              have HR10 := Lib.hid (HR9.out.ext hE10)
              clear b9
              have b10 := HR10.out.cell
              clear hE10
              clear n1 d1 s1 g1
              have n1 := HE10.out.cell HBI.out.num
              have d1 := HE10.out.cell HBI.out.den
              have s1 := HE10.out.cell HBI.out.start
              have g1 := HE10.out.cell HR1'.out
              go_wp2_with fail
              refine (r_Place_any (bd s.bodies ii) _ _ day w10 HD.out.1 HD.out.2 HKI.out (HI1.out.ext HE10.out)).mono ?_
              rintro e w11 ⟨rfl, hE11⟩
              have HE11 := Lib.hid (HE10.out.trans hE11)
              have HR11 := Lib.hid (HR10.out.ext hE11)
              clear b10
              have b11 := HR11.out.cell
              clear hE11
              clear n1 d1 s1 g1
              go_wp2_with fail
              refine (r_Body_any s _ c _ _ _ j w11 (by omega)).mono ?_
              rintro e w12 ⟨rfl, hE12⟩
              have HE12 := Lib.hid (HE11.out.trans hE12)
              have HR12 := Lib.hid (HR11.out.ext hE12)
              clear b11
              have b12 := HR12.out.cell
              clear hE12
              rw [h5]
              go_wp2_with fail
              refine (known_any w12 (HV.out.ext HE12.out)).mono ?_
              rintro e w13 ⟨rfl, hE13⟩
              go_wp2_with fail
              go_ret
              exact ⟨rfl, HE12.out.trans hE13⟩
            | true =>
              simp only [if_true, if_false, Bool.false_eq_true]
              have HD := Lib.hid (inR_iff.1 h2)
              have HK := Lib.hid (skyOk_iff.1 h1)
              have c1 : (Sp.isBody s i && (Sp.isBody s j && (i != j))) = true := by simp [h3, h4, h5]
              obtain ⟨i1, i2⟩ := isBody_of h3
              obtain ⟨ii, rfl⟩ := Int.eq_ofNat_of_zero_le i1
              have hlen := HK.out.n4
              have hii : ii < s.bodies.length := by omega
              have hij : ¬ (ii : Int) = j := by simpa using h4
              clear h4
              go_wp2_with fail
              refine (Mean_ok s A c (ii : Int) day w2 (HM.out.ext HE2.out) hS.out h1 h3 h2).mono ?_
              rintro e w3 ⟨rfl, hE3⟩
              have HE3 := Lib.hid (HE2.out.trans hE3)
              have HR3 := Lib.hid (HR2.out.ext hE3)
              clear b2
              have b3 := HR3.out.cell
              clear hE3
              go_wp2_with fail
              refine (Place_ok s A c (ii : Int) day w3 (HM.out.ext HE3.out) hS.out h1 h3 h2).mono ?_
              rintro e w4 ⟨rfl, hE4⟩
              have HE4 := Lib.hid (HE3.out.trans hE4)
              have HR4 := Lib.hid (HR3.out.ext hE4)
              clear b3
              have b4 := HR4.out.cell
              clear hE4
              go_wp2_with fail
              refine (Node_ok s A c day w4 (HM.out.ext HE4.out) hS.out h1 h2).mono ?_
              rintro e w5 ⟨rfl, hE5⟩
              have HE5 := Lib.hid (HE4.out.trans hE5)
              have HR5 := Lib.hid (HR4.out.ext hE5)
              clear b4
              have b5 := HR5.out.cell
              clear hE5
              go_wp2_with fail
              refine (Between_ok s A c (ii : Int) j day w5 (HM.out.ext HE5.out) hS.out h1 c1 h2).mono ?_
              rintro e w6 ⟨rfl, hE6⟩
              have HE6 := Lib.hid (HE5.out.trans hE6)
              have HR6 := Lib.hid (HR5.out.ext hE6)
              clear b5
              have b6 := HR6.out.cell
              clear hE6
              go_wp2_with fail
              refine (r_Sky_any s A c w6 (HM.out.ext HE6.out) hS.out).mono ?_
              rintro e w7 ⟨rfl, hE7⟩
              have HE7 := Lib.hid (HE6.out.trans hE7)
              have HR7 := Lib.hid (HR6.out.ext hE7)
              clear b6
              have b7 := HR7.out.cell
              clear hE7
              rw [h1]
              go_wp2_with fail
              refine (r_Day_any _ _).mono ?_
              rintro e w' ⟨rfl, rfl⟩
              rw [h2]
              go_wp2_with fail
              refine (r_Node_any s day w7 HK.out HD.out.1 HD.out.2).mono ?_
              rintro e w8 ⟨rfl, hE8⟩
              have HE8 := Lib.hid (HE7.out.trans hE8)
              have HR8 := Lib.hid (HR7.out.ext hE8)
              clear b7
              have b8 := HR8.out.cell
              clear hE8
              go_wp2_with fail
              refine (r_Body_any s A c _ _ _ (ii : Int) w8 (by omega)).mono ?_
              rintro e w9 ⟨rfl, hE9⟩
              have HE9 := Lib.hid (HE8.out.trans hE9)
              have HR9 := Lib.hid (HR8.out.ext hE9)
              clear b8
              have b9 := HR9.out.cell
              clear hE9
              rw [h3]
              obtain ⟨bb, oo, rfl, hB⟩ := HM.out (by omega)
              have HBI := Lib.hid (hB ii hii)
              clear hB
              have HKI := Lib.hid (HK.out.all ii hii)
              obtain ⟨A1, r1, hr1, I1⟩ := HBI.out.road
              have HI1 := Lib.hid I1
              have HR1' := Lib.hid hr1
              clear hr1 I1
              have hbe : Sp.body s (ii : Int) = bd s.bodies ii := rfl
              rw [hbe]
              have hi' : (0 : Int) ≤ (ii : Int) ∧ (ii : Int) < (s.bodies.length : Int) := by omega
              have n1 := HE9.out.cell HBI.out.num
              have d1 := HE9.out.cell HBI.out.den
              have s1 := HE9.out.cell HBI.out.start
              have g1 := HE9.out.cell HR1'.out
              go_wp2_with fail
              refine (r_Mean_any (bd s.bodies ii) _ _ _ day w9 HD.out.1 HD.out.2 HKI.out).mono ?_
              rintro e w10 ⟨rfl, hE10⟩
              have HE10 := Lib.hid (HE9.out.trans hE10)
              have HR10 := Lib.hid (HR9.out.ext hE10)
              clear b9
              have b10 := HR10.out.cell
              clear hE10
              clear n1 d1 s1 g1
              have n1 := HE10.out.cell HBI.out.num
              have d1 := HE10.out.cell HBI.out.den
              have s1 := HE10.out.cell HBI.out.start
              have g1 := HE10.out.cell HR1'.out
              go_wp2_with fail
              refine (r_Place_any (bd s.bodies ii) _ _ day w10 HD.out.1 HD.out.2 HKI.out (HI1.out.ext HE10.out)).mono ?_
              rintro e w11 ⟨rfl, hE11⟩
              have HE11 := Lib.hid (HE10.out.trans hE11)
              have HR11 := Lib.hid (HR10.out.ext hE11)
              clear b10
              have b11 := HR11.out.cell
              clear hE11
              clear n1 d1 s1 g1
              go_wp2_with fail
              refine (r_Body_any s _ c _ _ _ j w11 (by omega)).mono ?_
              rintro e w12 ⟨rfl, hE12⟩
              have HE12 := Lib.hid (HE11.out.trans hE12)
              have HR12 := Lib.hid (HR11.out.ext hE12)
              clear b11
              have b12 := HR12.out.cell
              clear hE12
              rw [h5]
              obtain ⟨j1, j2⟩ := isBody_of h5
              go_wp2_with fail
              refine (r_Between_any s _ c _ _ _ day (ii : Int) j w12 HK.out (HM.out.ext HE12.out) (by omega) (by omega) j1 j2 HD.out.1 HD.out.2).mono ?_
              rintro e w13 ⟨rfl, hE13⟩
              have HE13 := Lib.hid (HE12.out.trans hE13)
              have HR13 := Lib.hid (HR12.out.ext hE13)
              clear b12
              have b13 := HR13.out.cell
              clear hE13
              go_wp2_with fail
              refine (known_any w13 (HV.out.ext HE13.out)).mono ?_
              rintro e w14 ⟨rfl, hE14⟩
              go_wp2_with fail
              go_ret
              exact ⟨rfl, HE13.out.trans hE14⟩
end Go.Proofs.YtlcddcnmoajpjaaGreatDoor
