/- The walk of the law SkyMonths. (Printed by wip/mklaws1.py.) -/
import Derived.Test.YtlcddcnmoajpjaaGreatDoorLawSkyCycles
import Derived.Test.YtlcddcnmoajpjaaGreatDoorRefMonth
namespace Go.Proofs.YtlcddcnmoajpjaaGreatDoor
open Go.RowKit
open Sp (rd)
set_option linter.unusedSimpArgs false
set_option linter.unusedVariables false

set_option maxRecDepth 100000 in
set_option maxHeartbeats 8000000 in
theorem law_SkyMonths (s : Sp.Sky) (A : Option Addr) (c : Nat) (months limit : Int) (w : World) (hV : Env w) (hm : Bodies w A s.bodies) (hl : Long s.bodies) :
    Calls Tryz.prog 19 #[.agg #[.slice A s.bodies.length c, .int .i64 s.nnum, .int .i64 s.nden, .int .i64 s.nstart], .int .i64 months, .int .i64 limit] w fun e w' => e = .returned (.bool true) ∧ Ext w w' := by
  have HL := Lib.hid hl
  have HM := Lib.hid hm
  have HV := Lib.hid hV
  clear hm hl hV
  go_enter Tryz.func19, Tryz.ntmps19
  go_wp2_with fail
  have HR0 := Lib.hid (Row.new w 28 #[.slice A s.bodies.length c, .int .i64 s.nnum, .int .i64 s.nden, .int .i64 s.nstart])
  have HE0 : Hid (Ext w (w.alloc (.cells #[.slice A s.bodies.length c, .int .i64 s.nnum, .int .i64 s.nden, .int .i64 s.nstart] 28))) := Lib.hid ((Ext.refl w).alloc _)
  generalize w.alloc (.cells #[.slice A s.bodies.length c, .int .i64 s.nnum, .int .i64 s.nden, .int .i64 s.nstart] 28) = w0 at *
  have b0 := HR0.out.cell
  refine (short_any s A c w0 (HM.out.ext HE0.out) HL.out).mono ?_
  rintro e w1 ⟨rfl, hE1⟩
  have HE1 := Lib.hid (HE0.out.trans hE1)
  have HR1 := Lib.hid (HR0.out.ext hE1)
  clear b0
  have b1 := HR1.out.cell
  clear hE1
  cases hsh : shortB s.bodies with
  | false =>
    go_wp2_with fail
    refine (known_any w1 (HV.out.ext HE1.out)).mono ?_
    rintro e w2 ⟨rfl, hE2⟩
    go_wp2_with fail
    go_ret
    exact ⟨rfl, HE1.out.trans hE2⟩
  | true =>
    have hS := Lib.hid (short_of hsh)
    have hfew := few_of hsh
    clear hsh
    cases h1 : Sp.skyOk s with
    | false =>
      go_wp2_with fail
      refine (Month_err s A c w1 (HM.out.ext HE1.out) hS.out h1).mono ?_
      rintro e w2 ⟨rfl, hE2⟩
      have HE2 := Lib.hid (HE1.out.trans hE2)
      have HR2 := Lib.hid (HR1.out.ext hE2)
      clear b1
      have b2 := HR2.out.cell
      clear hE2
      go_wp2_with fail
      refine (Drift_err s A c months w2 (HM.out.ext HE2.out) hS.out (by simp [h1])).mono ?_
      rintro e w3 ⟨rfl, hE3⟩
      have HE3 := Lib.hid (HE2.out.trans hE3)
      have HR3 := Lib.hid (HR2.out.ext hE3)
      clear b2
      have b3 := HR3.out.cell
      clear hE3
      go_wp2_with fail
      refine (Cycle_err s A c limit w3 (HM.out.ext HE3.out) hS.out (by simp [h1])).mono ?_
      rintro e w4 ⟨rfl, hE4⟩
      have HE4 := Lib.hid (HE3.out.trans hE4)
      have HR4 := Lib.hid (HR3.out.ext hE4)
      clear b3
      have b4 := HR4.out.cell
      clear hE4
      go_wp2_with fail
      refine (r_Sky_any s A c w4 (HM.out.ext HE4.out) hS.out).mono ?_
      rintro e w5 ⟨rfl, hE5⟩
      have HE5 := Lib.hid (HE4.out.trans hE5)
      have HR5 := Lib.hid (HR4.out.ext hE5)
      clear b4
      have b5 := HR5.out.cell
      clear hE5
      rw [h1]
      go_wp2_with fail
      refine (known_any w5 (HV.out.ext HE5.out)).mono ?_
      rintro e w6 ⟨rfl, hE6⟩
      go_wp2_with fail
      go_ret
      exact ⟨rfl, HE5.out.trans hE6⟩
    | true =>
      have HK := Lib.hid (skyOk_iff.1 h1)
      cases h2 : Sp.isMonth s with
      | false =>
        cases h3 : Sp.areMonths months with
        | false =>
          cases h4 : Sp.isLimit limit with
          | false =>
            go_wp2_with fail
            refine (MonthNo_ok s A c w1 (HM.out.ext HE1.out) hS.out h2 h1).mono ?_
            rintro e w2 ⟨rfl, hE2⟩
            have HE2 := Lib.hid (HE1.out.trans hE2)
            have HR2 := Lib.hid (HR1.out.ext hE2)
            clear b1
            have b2 := HR2.out.cell
            clear hE2
            go_wp2_with fail
            refine (Drift_err s A c months w2 (HM.out.ext HE2.out) hS.out (by simp [h1, h3])).mono ?_
            rintro e w3 ⟨rfl, hE3⟩
            have HE3 := Lib.hid (HE2.out.trans hE3)
            have HR3 := Lib.hid (HR2.out.ext hE3)
            clear b2
            have b3 := HR3.out.cell
            clear hE3
            go_wp2_with fail
            refine (Cycle_err s A c limit w3 (HM.out.ext HE3.out) hS.out (by simp [h1, h4])).mono ?_
            rintro e w4 ⟨rfl, hE4⟩
            have HE4 := Lib.hid (HE3.out.trans hE4)
            have HR4 := Lib.hid (HR3.out.ext hE4)
            clear b3
            have b4 := HR4.out.cell
            clear hE4
            go_wp2_with fail
            refine (r_Sky_any s A c w4 (HM.out.ext HE4.out) hS.out).mono ?_
            rintro e w5 ⟨rfl, hE5⟩
            have HE5 := Lib.hid (HE4.out.trans hE5)
            have HR5 := Lib.hid (HR4.out.ext hE5)
            clear b4
            have b5 := HR5.out.cell
            clear hE5
            rw [h1]
            go_wp2_with fail
            refine (r_Month_no s A c w5 HK.out (HM.out.ext HE5.out) h2).mono ?_
            rintro e w6 ⟨rfl, hE6⟩
            have HE6 := Lib.hid (HE5.out.trans hE6)
            have HR6 := Lib.hid (HR5.out.ext hE6)
            clear b5
            have b6 := HR6.out.cell
            clear hE6
            go_wp2_with fail
            refine (r_Months_any _ _).mono ?_
            rintro e w' ⟨rfl, rfl⟩
            rw [h3]
            go_wp2_with fail
            refine (r_Limit_any _ _).mono ?_
            rintro e w' ⟨rfl, rfl⟩
            rw [h4]
            go_wp2_with fail
            refine (known_any w6 (HV.out.ext HE6.out)).mono ?_
            rintro e w7 ⟨rfl, hE7⟩
            go_wp2_with fail
            go_ret
            exact ⟨rfl, HE6.out.trans hE7⟩
          | true =>
            go_wp2_with fail
            refine (MonthNo_ok s A c w1 (HM.out.ext HE1.out) hS.out h2 h1).mono ?_
            rintro e w2 ⟨rfl, hE2⟩
            have HE2 := Lib.hid (HE1.out.trans hE2)
            have HR2 := Lib.hid (HR1.out.ext hE2)
            clear b1
            have b2 := HR2.out.cell
            clear hE2
            go_wp2_with fail
            refine (Drift_err s A c months w2 (HM.out.ext HE2.out) hS.out (by simp [h1, h3])).mono ?_
            rintro e w3 ⟨rfl, hE3⟩
            have HE3 := Lib.hid (HE2.out.trans hE3)
            have HR3 := Lib.hid (HR2.out.ext hE3)
            clear b2
            have b3 := HR3.out.cell
            clear hE3
            go_wp2_with fail
            refine (CycleNo_ok s A c limit w3 (HM.out.ext HE3.out) hS.out h2 h1 h4).mono ?_
            rintro e w4 ⟨rfl, hE4⟩
            have HE4 := Lib.hid (HE3.out.trans hE4)
            have HR4 := Lib.hid (HR3.out.ext hE4)
            clear b3
            have b4 := HR4.out.cell
            clear hE4
            go_wp2_with fail
            refine (r_Sky_any s A c w4 (HM.out.ext HE4.out) hS.out).mono ?_
            rintro e w5 ⟨rfl, hE5⟩
            have HE5 := Lib.hid (HE4.out.trans hE5)
            have HR5 := Lib.hid (HR4.out.ext hE5)
            clear b4
            have b5 := HR5.out.cell
            clear hE5
            rw [h1]
            go_wp2_with fail
            refine (r_Month_no s A c w5 HK.out (HM.out.ext HE5.out) h2).mono ?_
            rintro e w6 ⟨rfl, hE6⟩
            have HE6 := Lib.hid (HE5.out.trans hE6)
            have HR6 := Lib.hid (HR5.out.ext hE6)
            clear b5
            have b6 := HR6.out.cell
            clear hE6
            go_wp2_with fail
            refine (r_Months_any _ _).mono ?_
            rintro e w' ⟨rfl, rfl⟩
            rw [h3]
            go_wp2_with fail
            refine (r_Limit_any _ _).mono ?_
            rintro e w' ⟨rfl, rfl⟩
            rw [h4]
            go_wp2_with fail
            refine (known_any w6 (HV.out.ext HE6.out)).mono ?_
            rintro e w7 ⟨rfl, hE7⟩
            go_wp2_with fail
            go_ret
            exact ⟨rfl, HE6.out.trans hE7⟩
        | true =>
          cases h4 : Sp.isLimit limit with
          | false =>
            have hmm := Lib.hid (monthsR_of h3)
            go_wp2_with fail
            refine (MonthNo_ok s A c w1 (HM.out.ext HE1.out) hS.out h2 h1).mono ?_
            rintro e w2 ⟨rfl, hE2⟩
            have HE2 := Lib.hid (HE1.out.trans hE2)
            have HR2 := Lib.hid (HR1.out.ext hE2)
            clear b1
            have b2 := HR2.out.cell
            clear hE2
            go_wp2_with fail
            refine (DriftNo_ok s A c months w2 (HM.out.ext HE2.out) hS.out h2 h1 h3).mono ?_
            rintro e w3 ⟨rfl, hE3⟩
            have HE3 := Lib.hid (HE2.out.trans hE3)
            have HR3 := Lib.hid (HR2.out.ext hE3)
            clear b2
            have b3 := HR3.out.cell
            clear hE3
            go_wp2_with fail
            refine (Cycle_err s A c limit w3 (HM.out.ext HE3.out) hS.out (by simp [h1, h4])).mono ?_
            rintro e w4 ⟨rfl, hE4⟩
            have HE4 := Lib.hid (HE3.out.trans hE4)
            have HR4 := Lib.hid (HR3.out.ext hE4)
            clear b3
            have b4 := HR4.out.cell
            clear hE4
            go_wp2_with fail
            refine (r_Sky_any s A c w4 (HM.out.ext HE4.out) hS.out).mono ?_
            rintro e w5 ⟨rfl, hE5⟩
            have HE5 := Lib.hid (HE4.out.trans hE5)
            have HR5 := Lib.hid (HR4.out.ext hE5)
            clear b4
            have b5 := HR5.out.cell
            clear hE5
            rw [h1]
            go_wp2_with fail
            refine (r_Month_no s A c w5 HK.out (HM.out.ext HE5.out) h2).mono ?_
            rintro e w6 ⟨rfl, hE6⟩
            have HE6 := Lib.hid (HE5.out.trans hE6)
            have HR6 := Lib.hid (HR5.out.ext hE6)
            clear b5
            have b6 := HR6.out.cell
            clear hE6
            go_wp2_with fail
            refine (r_Months_any _ _).mono ?_
            rintro e w' ⟨rfl, rfl⟩
            rw [h3]
            go_wp2_with fail
            refine (r_Limit_any _ _).mono ?_
            rintro e w' ⟨rfl, rfl⟩
            rw [h4]
            go_wp2_with fail
            refine (known_any w6 (HV.out.ext HE6.out)).mono ?_
            rintro e w7 ⟨rfl, hE7⟩
            go_wp2_with fail
            go_ret
            exact ⟨rfl, HE6.out.trans hE7⟩
          | true =>
            have hmm := Lib.hid (monthsR_of h3)
            go_wp2_with fail
            refine (MonthNo_ok s A c w1 (HM.out.ext HE1.out) hS.out h2 h1).mono ?_
            rintro e w2 ⟨rfl, hE2⟩
            have HE2 := Lib.hid (HE1.out.trans hE2)
            have HR2 := Lib.hid (HR1.out.ext hE2)
            clear b1
            have b2 := HR2.out.cell
            clear hE2
            go_wp2_with fail
            refine (DriftNo_ok s A c months w2 (HM.out.ext HE2.out) hS.out h2 h1 h3).mono ?_
            rintro e w3 ⟨rfl, hE3⟩
            have HE3 := Lib.hid (HE2.out.trans hE3)
            have HR3 := Lib.hid (HR2.out.ext hE3)
            clear b2
            have b3 := HR3.out.cell
            clear hE3
            go_wp2_with fail
            refine (CycleNo_ok s A c limit w3 (HM.out.ext HE3.out) hS.out h2 h1 h4).mono ?_
            rintro e w4 ⟨rfl, hE4⟩
            have HE4 := Lib.hid (HE3.out.trans hE4)
            have HR4 := Lib.hid (HR3.out.ext hE4)
            clear b3
            have b4 := HR4.out.cell
            clear hE4
            go_wp2_with fail
            refine (r_Sky_any s A c w4 (HM.out.ext HE4.out) hS.out).mono ?_
            rintro e w5 ⟨rfl, hE5⟩
            have HE5 := Lib.hid (HE4.out.trans hE5)
            have HR5 := Lib.hid (HR4.out.ext hE5)
            clear b4
            have b5 := HR5.out.cell
            clear hE5
            rw [h1]
            go_wp2_with fail
            refine (r_Month_no s A c w5 HK.out (HM.out.ext HE5.out) h2).mono ?_
            rintro e w6 ⟨rfl, hE6⟩
            have HE6 := Lib.hid (HE5.out.trans hE6)
            have HR6 := Lib.hid (HR5.out.ext hE6)
            clear b5
            have b6 := HR6.out.cell
            clear hE6
            go_wp2_with fail
            refine (r_Months_any _ _).mono ?_
            rintro e w' ⟨rfl, rfl⟩
            rw [h3]
            go_wp2_with fail
            refine (r_Limit_any _ _).mono ?_
            rintro e w' ⟨rfl, rfl⟩
            rw [h4]
            go_wp2_with fail
            refine (known_any w6 (HV.out.ext HE6.out)).mono ?_
            rintro e w7 ⟨rfl, hE7⟩
            go_wp2_with fail
            go_ret
            exact ⟨rfl, HE6.out.trans hE7⟩
      | true =>
        cases h3 : Sp.areMonths months with
        | false =>
          cases h4 : Sp.isLimit limit with
          | false =>
            go_wp2_with fail
            refine (Month_ok s A c w1 (HM.out.ext HE1.out) hS.out h2 h1).mono ?_
            rintro e w2 ⟨rfl, hE2⟩
            have HE2 := Lib.hid (HE1.out.trans hE2)
            have HR2 := Lib.hid (HR1.out.ext hE2)
            clear b1
            have b2 := HR2.out.cell
            clear hE2
            go_wp2_with fail
            refine (Drift_err s A c months w2 (HM.out.ext HE2.out) hS.out (by simp [h1, h3])).mono ?_
            rintro e w3 ⟨rfl, hE3⟩
            have HE3 := Lib.hid (HE2.out.trans hE3)
            have HR3 := Lib.hid (HR2.out.ext hE3)
            clear b2
            have b3 := HR3.out.cell
            clear hE3
            go_wp2_with fail
            refine (Cycle_err s A c limit w3 (HM.out.ext HE3.out) hS.out (by simp [h1, h4])).mono ?_
            rintro e w4 ⟨rfl, hE4⟩
            have HE4 := Lib.hid (HE3.out.trans hE4)
            have HR4 := Lib.hid (HR3.out.ext hE4)
            clear b3
            have b4 := HR4.out.cell
            clear hE4
            go_wp2_with fail
            refine (r_Sky_any s A c w4 (HM.out.ext HE4.out) hS.out).mono ?_
            rintro e w5 ⟨rfl, hE5⟩
            have HE5 := Lib.hid (HE4.out.trans hE5)
            have HR5 := Lib.hid (HR4.out.ext hE5)
            clear b4
            have b5 := HR5.out.cell
            clear hE5
            rw [h1]
            go_wp2_with fail
            refine (r_Month_ok s A c w5 HK.out (HM.out.ext HE5.out) h2).mono ?_
            rintro e w6 ⟨rfl, hE6⟩
            have HE6 := Lib.hid (HE5.out.trans hE6)
            have HR6 := Lib.hid (HR5.out.ext hE6)
            clear b5
            have b6 := HR6.out.cell
            clear hE6
            go_wp2_with fail
            refine (r_Months_any _ _).mono ?_
            rintro e w' ⟨rfl, rfl⟩
            rw [h3]
            go_wp2_with fail
            refine (r_Limit_any _ _).mono ?_
            rintro e w' ⟨rfl, rfl⟩
            rw [h4]
            go_wp2_with fail
            refine (known_any w6 (HV.out.ext HE6.out)).mono ?_
            rintro e w7 ⟨rfl, hE7⟩
            go_wp2_with fail
            go_ret
            exact ⟨rfl, HE6.out.trans hE7⟩
          | true =>
            cases hO : Sp.cycleO s limit with
            | none =>
              go_wp2_with fail
              refine (Month_ok s A c w1 (HM.out.ext HE1.out) hS.out h2 h1).mono ?_
              rintro e w2 ⟨rfl, hE2⟩
              have HE2 := Lib.hid (HE1.out.trans hE2)
              have HR2 := Lib.hid (HR1.out.ext hE2)
              clear b1
              have b2 := HR2.out.cell
              clear hE2
              go_wp2_with fail
              refine (Drift_err s A c months w2 (HM.out.ext HE2.out) hS.out (by simp [h1, h3])).mono ?_
              rintro e w3 ⟨rfl, hE3⟩
              have HE3 := Lib.hid (HE2.out.trans hE3)
              have HR3 := Lib.hid (HR2.out.ext hE3)
              clear b2
              have b3 := HR3.out.cell
              clear hE3
              go_wp2_with fail
              refine (Cycle_ok s A c limit w3 (HM.out.ext HE3.out) hS.out h2 h1 h4).mono ?_
              rintro e w4 ⟨rfl, hE4⟩
              have HE4 := Lib.hid (HE3.out.trans hE4)
              have HR4 := Lib.hid (HR3.out.ext hE4)
              clear b3
              have b4 := HR4.out.cell
              clear hE4
              rw [cycleV_none hO]
              go_wp2_with fail
              refine (r_Sky_any s A c w4 (HM.out.ext HE4.out) hS.out).mono ?_
              rintro e w5 ⟨rfl, hE5⟩
              have HE5 := Lib.hid (HE4.out.trans hE5)
              have HR5 := Lib.hid (HR4.out.ext hE5)
              clear b4
              have b5 := HR5.out.cell
              clear hE5
              rw [h1]
              go_wp2_with fail
              refine (r_Month_ok s A c w5 HK.out (HM.out.ext HE5.out) h2).mono ?_
              rintro e w6 ⟨rfl, hE6⟩
              have HE6 := Lib.hid (HE5.out.trans hE6)
              have HR6 := Lib.hid (HR5.out.ext hE6)
              clear b5
              have b6 := HR6.out.cell
              clear hE6
              go_wp2_with fail
              refine (r_Months_any _ _).mono ?_
              rintro e w' ⟨rfl, rfl⟩
              rw [h3]
              go_wp2_with fail
              refine (r_Limit_any _ _).mono ?_
              rintro e w' ⟨rfl, rfl⟩
              rw [h4]
              go_wp2_with fail
              refine (r_Cycle_any s A c limit w6 HK.out (HM.out.ext HE6.out) h2).mono ?_
              rintro e w7 ⟨rfl, hE7⟩
              have HE7 := Lib.hid (HE6.out.trans hE7)
              have HR7 := Lib.hid (HR6.out.ext hE7)
              clear b6
              have b7 := HR7.out.cell
              clear hE7
              rw [hO]
              simp only [Option.getD_none, Option.getD_some]
              go_wp2_with fail
              refine (known_any w7 (HV.out.ext HE7.out)).mono ?_
              rintro e w8 ⟨rfl, hE8⟩
              go_wp2_with fail
              go_ret
              exact ⟨rfl, HE7.out.trans hE8⟩
            | some m =>
              have hm1 := (cycleN_is_some s limit 1 400 m hO).1
              go_wp2_with fail
              refine (Month_ok s A c w1 (HM.out.ext HE1.out) hS.out h2 h1).mono ?_
              rintro e w2 ⟨rfl, hE2⟩
              have HE2 := Lib.hid (HE1.out.trans hE2)
              have HR2 := Lib.hid (HR1.out.ext hE2)
              clear b1
              have b2 := HR2.out.cell
              clear hE2
              go_wp2_with fail
              refine (Drift_err s A c months w2 (HM.out.ext HE2.out) hS.out (by simp [h1, h3])).mono ?_
              rintro e w3 ⟨rfl, hE3⟩
              have HE3 := Lib.hid (HE2.out.trans hE3)
              have HR3 := Lib.hid (HR2.out.ext hE3)
              clear b2
              have b3 := HR3.out.cell
              clear hE3
              go_wp2_with fail
              refine (Cycle_ok s A c limit w3 (HM.out.ext HE3.out) hS.out h2 h1 h4).mono ?_
              rintro e w4 ⟨rfl, hE4⟩
              have HE4 := Lib.hid (HE3.out.trans hE4)
              have HR4 := Lib.hid (HR3.out.ext hE4)
              clear b3
              have b4 := HR4.out.cell
              clear hE4
              rw [cycleV_some hO]
              go_wp2_with fail
              refine (r_Sky_any s A c w4 (HM.out.ext HE4.out) hS.out).mono ?_
              rintro e w5 ⟨rfl, hE5⟩
              have HE5 := Lib.hid (HE4.out.trans hE5)
              have HR5 := Lib.hid (HR4.out.ext hE5)
              clear b4
              have b5 := HR5.out.cell
              clear hE5
              rw [h1]
              go_wp2_with fail
              refine (r_Month_ok s A c w5 HK.out (HM.out.ext HE5.out) h2).mono ?_
              rintro e w6 ⟨rfl, hE6⟩
              have HE6 := Lib.hid (HE5.out.trans hE6)
              have HR6 := Lib.hid (HR5.out.ext hE6)
              clear b5
              have b6 := HR6.out.cell
              clear hE6
              go_wp2_with fail
              refine (r_Months_any _ _).mono ?_
              rintro e w' ⟨rfl, rfl⟩
              rw [h3]
              go_wp2_with fail
              refine (r_Limit_any _ _).mono ?_
              rintro e w' ⟨rfl, rfl⟩
              rw [h4]
              go_wp2_with fail
              refine (r_Cycle_any s A c limit w6 HK.out (HM.out.ext HE6.out) h2).mono ?_
              rintro e w7 ⟨rfl, hE7⟩
              have HE7 := Lib.hid (HE6.out.trans hE7)
              have HR7 := Lib.hid (HR6.out.ext hE7)
              clear b6
              have b7 := HR7.out.cell
              clear hE7
              rw [hO]
              simp only [Option.getD_none, Option.getD_some]
              go_wp2_with fail
              refine (known_any w7 (HV.out.ext HE7.out)).mono ?_
              rintro e w8 ⟨rfl, hE8⟩
              go_wp2_with fail
              go_ret
              exact ⟨rfl, HE7.out.trans hE8⟩
        | true =>
          cases h4 : Sp.isLimit limit with
          | false =>
            have hmm := Lib.hid (monthsR_of h3)
            go_wp2_with fail
            refine (Month_ok s A c w1 (HM.out.ext HE1.out) hS.out h2 h1).mono ?_
            rintro e w2 ⟨rfl, hE2⟩
            have HE2 := Lib.hid (HE1.out.trans hE2)
            have HR2 := Lib.hid (HR1.out.ext hE2)
            clear b1
            have b2 := HR2.out.cell
            clear hE2
            go_wp2_with fail
            refine (Drift_ok s A c months w2 (HM.out.ext HE2.out) hS.out h2 h1 h3).mono ?_
            rintro e w3 ⟨rfl, hE3⟩
            have HE3 := Lib.hid (HE2.out.trans hE3)
            have HR3 := Lib.hid (HR2.out.ext hE3)
            clear b2
            have b3 := HR3.out.cell
            clear hE3
            go_wp2_with fail
            refine (Cycle_err s A c limit w3 (HM.out.ext HE3.out) hS.out (by simp [h1, h4])).mono ?_
            rintro e w4 ⟨rfl, hE4⟩
            have HE4 := Lib.hid (HE3.out.trans hE4)
            have HR4 := Lib.hid (HR3.out.ext hE4)
            clear b3
            have b4 := HR4.out.cell
            clear hE4
            go_wp2_with fail
            refine (r_Sky_any s A c w4 (HM.out.ext HE4.out) hS.out).mono ?_
            rintro e w5 ⟨rfl, hE5⟩
            have HE5 := Lib.hid (HE4.out.trans hE5)
            have HR5 := Lib.hid (HR4.out.ext hE5)
            clear b4
            have b5 := HR5.out.cell
            clear hE5
            rw [h1]
            go_wp2_with fail
            refine (r_Month_ok s A c w5 HK.out (HM.out.ext HE5.out) h2).mono ?_
            rintro e w6 ⟨rfl, hE6⟩
            have HE6 := Lib.hid (HE5.out.trans hE6)
            have HR6 := Lib.hid (HR5.out.ext hE6)
            clear b5
            have b6 := HR6.out.cell
            clear hE6
            go_wp2_with fail
            refine (r_Months_any _ _).mono ?_
            rintro e w' ⟨rfl, rfl⟩
            rw [h3]
            go_wp2_with fail
            refine (r_Limit_any _ _).mono ?_
            rintro e w' ⟨rfl, rfl⟩
            rw [h4]
            go_wp2_with fail
            refine (r_Drift_any s A c months w6 HK.out (HM.out.ext HE6.out) h2 hmm.out.1 hmm.out.2).mono ?_
            rintro e w7 ⟨rfl, hE7⟩
            have HE7 := Lib.hid (HE6.out.trans hE7)
            have HR7 := Lib.hid (HR6.out.ext hE7)
            clear b6
            have b7 := HR7.out.cell
            clear hE7
            go_wp2_with fail
            refine (known_any w7 (HV.out.ext HE7.out)).mono ?_
            rintro e w8 ⟨rfl, hE8⟩
            go_wp2_with fail
            go_ret
            exact ⟨rfl, HE7.out.trans hE8⟩
          | true =>
            cases hO : Sp.cycleO s limit with
            | none =>
              have hmm := Lib.hid (monthsR_of h3)
              go_wp2_with fail
              refine (Month_ok s A c w1 (HM.out.ext HE1.out) hS.out h2 h1).mono ?_
              rintro e w2 ⟨rfl, hE2⟩
              have HE2 := Lib.hid (HE1.out.trans hE2)
              have HR2 := Lib.hid (HR1.out.ext hE2)
              clear b1
              have b2 := HR2.out.cell
              clear hE2
              go_wp2_with fail
              refine (Drift_ok s A c months w2 (HM.out.ext HE2.out) hS.out h2 h1 h3).mono ?_
              rintro e w3 ⟨rfl, hE3⟩
              have HE3 := Lib.hid (HE2.out.trans hE3)
              have HR3 := Lib.hid (HR2.out.ext hE3)
              clear b2
              have b3 := HR3.out.cell
              clear hE3
              go_wp2_with fail
              refine (Cycle_ok s A c limit w3 (HM.out.ext HE3.out) hS.out h2 h1 h4).mono ?_
              rintro e w4 ⟨rfl, hE4⟩
              have HE4 := Lib.hid (HE3.out.trans hE4)
              have HR4 := Lib.hid (HR3.out.ext hE4)
              clear b3
              have b4 := HR4.out.cell
              clear hE4
              rw [cycleV_none hO]
              go_wp2_with fail
              refine (r_Sky_any s A c w4 (HM.out.ext HE4.out) hS.out).mono ?_
              rintro e w5 ⟨rfl, hE5⟩
              have HE5 := Lib.hid (HE4.out.trans hE5)
              have HR5 := Lib.hid (HR4.out.ext hE5)
              clear b4
              have b5 := HR5.out.cell
              clear hE5
              rw [h1]
              go_wp2_with fail
              refine (r_Month_ok s A c w5 HK.out (HM.out.ext HE5.out) h2).mono ?_
              rintro e w6 ⟨rfl, hE6⟩
              have HE6 := Lib.hid (HE5.out.trans hE6)
              have HR6 := Lib.hid (HR5.out.ext hE6)
              clear b5
              have b6 := HR6.out.cell
              clear hE6
              go_wp2_with fail
              refine (r_Months_any _ _).mono ?_
              rintro e w' ⟨rfl, rfl⟩
              rw [h3]
              go_wp2_with fail
              refine (r_Limit_any _ _).mono ?_
              rintro e w' ⟨rfl, rfl⟩
              rw [h4]
              go_wp2_with fail
              refine (r_Cycle_any s A c limit w6 HK.out (HM.out.ext HE6.out) h2).mono ?_
              rintro e w7 ⟨rfl, hE7⟩
              have HE7 := Lib.hid (HE6.out.trans hE7)
              have HR7 := Lib.hid (HR6.out.ext hE7)
              clear b6
              have b7 := HR7.out.cell
              clear hE7
              rw [hO]
              simp only [Option.getD_none, Option.getD_some]
              go_wp2_with fail
              refine (r_Drift_any s A c months w7 HK.out (HM.out.ext HE7.out) h2 hmm.out.1 hmm.out.2).mono ?_
              rintro e w8 ⟨rfl, hE8⟩
              have HE8 := Lib.hid (HE7.out.trans hE8)
              have HR8 := Lib.hid (HR7.out.ext hE8)
              clear b7
              have b8 := HR8.out.cell
              clear hE8
              go_wp2_with fail
              refine (known_any w8 (HV.out.ext HE8.out)).mono ?_
              rintro e w9 ⟨rfl, hE9⟩
              go_wp2_with fail
              go_ret
              exact ⟨rfl, HE8.out.trans hE9⟩
            | some m =>
              have hm1 := (cycleN_is_some s limit 1 400 m hO).1
              have hmm := Lib.hid (monthsR_of h3)
              go_wp2_with fail
              refine (Month_ok s A c w1 (HM.out.ext HE1.out) hS.out h2 h1).mono ?_
              rintro e w2 ⟨rfl, hE2⟩
              have HE2 := Lib.hid (HE1.out.trans hE2)
              have HR2 := Lib.hid (HR1.out.ext hE2)
              clear b1
              have b2 := HR2.out.cell
              clear hE2
              go_wp2_with fail
              refine (Drift_ok s A c months w2 (HM.out.ext HE2.out) hS.out h2 h1 h3).mono ?_
              rintro e w3 ⟨rfl, hE3⟩
              have HE3 := Lib.hid (HE2.out.trans hE3)
              have HR3 := Lib.hid (HR2.out.ext hE3)
              clear b2
              have b3 := HR3.out.cell
              clear hE3
              go_wp2_with fail
              refine (Cycle_ok s A c limit w3 (HM.out.ext HE3.out) hS.out h2 h1 h4).mono ?_
              rintro e w4 ⟨rfl, hE4⟩
              have HE4 := Lib.hid (HE3.out.trans hE4)
              have HR4 := Lib.hid (HR3.out.ext hE4)
              clear b3
              have b4 := HR4.out.cell
              clear hE4
              rw [cycleV_some hO]
              go_wp2_with fail
              refine (r_Sky_any s A c w4 (HM.out.ext HE4.out) hS.out).mono ?_
              rintro e w5 ⟨rfl, hE5⟩
              have HE5 := Lib.hid (HE4.out.trans hE5)
              have HR5 := Lib.hid (HR4.out.ext hE5)
              clear b4
              have b5 := HR5.out.cell
              clear hE5
              rw [h1]
              go_wp2_with fail
              refine (r_Month_ok s A c w5 HK.out (HM.out.ext HE5.out) h2).mono ?_
              rintro e w6 ⟨rfl, hE6⟩
              have HE6 := Lib.hid (HE5.out.trans hE6)
              have HR6 := Lib.hid (HR5.out.ext hE6)
              clear b5
              have b6 := HR6.out.cell
              clear hE6
              go_wp2_with fail
              refine (r_Months_any _ _).mono ?_
              rintro e w' ⟨rfl, rfl⟩
              rw [h3]
              go_wp2_with fail
              refine (r_Limit_any _ _).mono ?_
              rintro e w' ⟨rfl, rfl⟩
              rw [h4]
              go_wp2_with fail
              refine (r_Cycle_any s A c limit w6 HK.out (HM.out.ext HE6.out) h2).mono ?_
              rintro e w7 ⟨rfl, hE7⟩
              have HE7 := Lib.hid (HE6.out.trans hE7)
              have HR7 := Lib.hid (HR6.out.ext hE7)
              clear b6
              have b7 := HR7.out.cell
              clear hE7
              rw [hO]
              simp only [Option.getD_none, Option.getD_some]
              go_wp2_with fail
              refine (r_Drift_any s A c months w7 HK.out (HM.out.ext HE7.out) h2 hmm.out.1 hmm.out.2).mono ?_
              rintro e w8 ⟨rfl, hE8⟩
              have HE8 := Lib.hid (HE7.out.trans hE8)
              have HR8 := Lib.hid (HR7.out.ext hE8)
              clear b7
              have b8 := HR8.out.cell
              clear hE8
              go_wp2_with fail
              refine (known_any w8 (HV.out.ext HE8.out)).mono ?_
              rintro e w9 ⟨rfl, hE9⟩
              go_wp2_with fail
              go_ret
              exact ⟨rfl, HE8.out.trans hE9⟩
end Go.Proofs.YtlcddcnmoajpjaaGreatDoor
