/- The walk of the law SkyCycles. (Printed by wip/mklaws1.py.) -/
import Derived.Test.YtlcddcnmoajpjaaGreatDoorV21
import Derived.Test.YtlcddcnmoajpjaaGreatDoorV13
namespace Go.Proofs.YtlcddcnmoajpjaaGreatDoor
open Go.RowKit
open Sp (rd)
set_option linter.unusedSimpArgs false
set_option linter.unusedVariables false

theorem monthsR_of {n : Int} (h : Sp.areMonths n = true) : 0 ≤ n ∧ n ≤ 400 := inR_iff.1 h
theorem drift_laws {s : Sp.Sky} (hs : SkyOk s) (hm : Sp.isMonth s = true) : (∀ n, 0 ≤ Sp.drift s n ∧ Sp.drift s n ≤ 5400) ∧ Sp.drift s 0 = 0 ∧ ∀ a b, Sp.drift s (a + b) ≤ Sp.drift s a + Sp.drift s b + 1 := by
  have hd : 0 < Sp.monthDen s := of_decide_eq_true hm
  have hn := hs.num1
  have hD : 0 < Sp.monthDen s * s.nnum := Int.mul_pos hd (by omega)
  refine ⟨fun n => ?_, ?_, fun a b => ?_⟩
  · rw [drift_eq]; exact driftOf_bounds _ _ _ hD
  · rw [drift_eq]; exact driftOf_zero _ _ hD
  · rw [drift_eq, drift_eq, drift_eq]; exact driftOf_add _ _ _ _ hD
theorem cycleV_some {s : Sp.Sky} {m v : Int} (h : Sp.cycleO s m = some v) : cycleV s m = .tuple #[.int .i64 v, .int .i64 0] := by unfold cycleV; rw [h]
theorem cycleV_none {s : Sp.Sky} {m : Int} (h : Sp.cycleO s m = none) : cycleV s m = .tuple #[.int .i64 0, .int .i64 5] := by unfold cycleV; rw [h]

set_option maxRecDepth 100000 in
set_option maxHeartbeats 8000000 in
theorem law_SkyCycles (s : Sp.Sky) (A : Option Addr) (c : Nat) (limit one other : Int) (w : World) (hV : Env w) (hm : Bodies w A s.bodies) (hl : Long s.bodies) :
    Calls Tryz.prog 20 #[.agg #[.slice A s.bodies.length c, .int .i64 s.nnum, .int .i64 s.nden, .int .i64 s.nstart], .int .i64 limit, .int .i64 one, .int .i64 other] w fun e w' => e = .returned (.bool true) ∧ Ext w w' := by
  have HL := Lib.hid hl
  have HM := Lib.hid hm
  have HV := Lib.hid hV
  clear hm hl hV
  go_enter Tryz.func20, Tryz.ntmps20
  go_wp2_with fail
  have HR0 := Lib.hid (Row.new w 28 #[.slice A s.bodies.length c, .int .i64 s.nnum, .int .i64 s.nden, .int .i64 s.nstart])
  have HE0 : Hid (Ext w (w.alloc (.cells #[.slice A s.bodies.length c, .int .i64 s.nnum, .int .i64 s.nden, .int .i64 s.nstart] 28))) := Lib.hid ((Ext.refl w).alloc _)
  generalize w.alloc (.cells #[.slice A s.bodies.length c, .int .i64 s.nnum, .int .i64 s.nden, .int .i64 s.nstart] 28) = w0 at *
  have b0 := HR0.out.cell
  refine (short_any s A c w0 (HM.out.ext HE0.out) HL.out).mono ?_
  rintro e w1 ⟨rfl, hE1⟩
  have HE1 := Lib.hid (HE0.out.trans hE1)
  have HR1 := Lib.hid (HR0.out.ext hE1)
  clear b0
  have b1 := HR1.out.cell
  clear hE1
  cases hsh : shortB s.bodies with
  | false =>
    go_wp2_with fail
    refine (known_any w1 (HV.out.ext HE1.out)).mono ?_
    rintro e w2 ⟨rfl, hE2⟩
    go_wp2_with fail
    go_ret
    exact ⟨rfl, HE1.out.trans hE2⟩
  | true =>
    have hS := Lib.hid (short_of hsh)
    have hfew := few_of hsh
    clear hsh
    cases h1 : Sp.skyOk s with
    | false =>
      go_wp2_with fail
      refine (r_Sky_any s A c w1 (HM.out.ext HE1.out) hS.out).mono ?_
      rintro e w2 ⟨rfl, hE2⟩
      have HE2 := Lib.hid (HE1.out.trans hE2)
      have HR2 := Lib.hid (HR1.out.ext hE2)
      clear b1
      have b2 := HR2.out.cell
      clear hE2
      rw [h1]
      go_wp2_with fail
      refine (known_any w2 (HV.out.ext HE2.out)).mono ?_
      rintro e w3 ⟨rfl, hE3⟩
      go_wp2_with fail
      go_ret
      exact ⟨rfl, HE2.out.trans hE3⟩
    | true =>
      cases h2 : Sp.isLimit limit with
      | false =>
        go_wp2_with fail
        refine (r_Sky_any s A c w1 (HM.out.ext HE1.out) hS.out).mono ?_
        rintro e w2 ⟨rfl, hE2⟩
        have HE2 := Lib.hid (HE1.out.trans hE2)
        have HR2 := Lib.hid (HR1.out.ext hE2)
        clear b1
        have b2 := HR2.out.cell
        clear hE2
        rw [h1]
        go_wp2_with fail
        refine (r_Limit_any _ _).mono ?_
        rintro e w' ⟨rfl, rfl⟩
        rw [h2]
        go_wp2_with fail
        refine (known_any w2 (HV.out.ext HE2.out)).mono ?_
        rintro e w3 ⟨rfl, hE3⟩
        go_wp2_with fail
        go_ret
        exact ⟨rfl, HE2.out.trans hE3⟩
      | true =>
        cases h3 : Sp.areMonths one with
        | false =>
          go_wp2_with fail
          refine (r_Sky_any s A c w1 (HM.out.ext HE1.out) hS.out).mono ?_
          rintro e w2 ⟨rfl, hE2⟩
          have HE2 := Lib.hid (HE1.out.trans hE2)
          have HR2 := Lib.hid (HR1.out.ext hE2)
          clear b1
          have b2 := HR2.out.cell
          clear hE2
          rw [h1]
          go_wp2_with fail
          refine (r_Limit_any _ _).mono ?_
          rintro e w' ⟨rfl, rfl⟩
          rw [h2]
          go_wp2_with fail
          refine (r_Months_any _ _).mono ?_
          rintro e w' ⟨rfl, rfl⟩
          rw [h3]
          go_wp2_with fail
          refine (known_any w2 (HV.out.ext HE2.out)).mono ?_
          rintro e w3 ⟨rfl, hE3⟩
          go_wp2_with fail
          go_ret
          exact ⟨rfl, HE2.out.trans hE3⟩
        | true =>
          cases h4 : Sp.areMonths other with
          | false =>
            go_wp2_with fail
            refine (r_Sky_any s A c w1 (HM.out.ext HE1.out) hS.out).mono ?_
            rintro e w2 ⟨rfl, hE2⟩
            have HE2 := Lib.hid (HE1.out.trans hE2)
            have HR2 := Lib.hid (HR1.out.ext hE2)
            clear b1
            have b2 := HR2.out.cell
            clear hE2
            rw [h1]
            go_wp2_with fail
            refine (r_Limit_any _ _).mono ?_
            rintro e w' ⟨rfl, rfl⟩
            rw [h2]
            go_wp2_with fail
            refine (r_Months_any _ _).mono ?_
            rintro e w' ⟨rfl, rfl⟩
            rw [h3]
            go_wp2_with fail
            refine (r_Months_any _ _).mono ?_
            rintro e w' ⟨rfl, rfl⟩
            rw [h4]
            go_wp2_with fail
            refine (known_any w2 (HV.out.ext HE2.out)).mono ?_
            rintro e w3 ⟨rfl, hE3⟩
            go_wp2_with fail
            go_ret
            exact ⟨rfl, HE2.out.trans hE3⟩
          | true =>
            obtain ⟨l1, l2⟩ := limit_of h2
            obtain ⟨m1, m2⟩ := monthsR_of h3
            obtain ⟨m3, m4⟩ := monthsR_of h4
            by_cases hsum : 400 < one + other
            case pos =>
              go_wp2_with fail
              refine (r_Sky_any s A c w1 (HM.out.ext HE1.out) hS.out).mono ?_
              rintro e w2 ⟨rfl, hE2⟩
              have HE2 := Lib.hid (HE1.out.trans hE2)
              have HR2 := Lib.hid (HR1.out.ext hE2)
              clear b1
              have b2 := HR2.out.cell
              clear hE2
              rw [h1]
              go_wp2_with fail
              refine (r_Limit_any _ _).mono ?_
              rintro e w' ⟨rfl, rfl⟩
              rw [h2]
              go_wp2_with fail
              refine (r_Months_any _ _).mono ?_
              rintro e w' ⟨rfl, rfl⟩
              rw [h3]
              go_wp2_with fail
              refine (r_Months_any _ _).mono ?_
              rintro e w' ⟨rfl, rfl⟩
              rw [h4]
              go_wp2_with fail
              refine (known_any w2 (HV.out.ext HE2.out)).mono ?_
              rintro e w3 ⟨rfl, hE3⟩
              go_wp2_with fail
              go_ret
              exact ⟨rfl, HE2.out.trans hE3⟩
            case neg =>
              go_wp2_with fail
              refine (r_Sky_any s A c w1 (HM.out.ext HE1.out) hS.out).mono ?_
              rintro e w2 ⟨rfl, hE2⟩
              have HE2 := Lib.hid (HE1.out.trans hE2)
              have HR2 := Lib.hid (HR1.out.ext hE2)
              clear b1
              have b2 := HR2.out.cell
              clear hE2
              rw [h1]
              go_wp2_with fail
              refine (r_Limit_any _ _).mono ?_
              rintro e w' ⟨rfl, rfl⟩
              rw [h2]
              go_wp2_with fail
              refine (r_Months_any _ _).mono ?_
              rintro e w' ⟨rfl, rfl⟩
              rw [h3]
              go_wp2_with fail
              refine (r_Months_any _ _).mono ?_
              rintro e w' ⟨rfl, rfl⟩
              rw [h4]
              cases hmon : Sp.isMonth s with
              | false =>
                go_wp2_with fail
                refine (CycleNo_ok s A c limit w2 (HM.out.ext HE2.out) hS.out hmon h1 h2).mono ?_
                rintro e w3 ⟨rfl, hE3⟩
                have HE3 := Lib.hid (HE2.out.trans hE3)
                have HR3 := Lib.hid (HR2.out.ext hE3)
                clear b2
                have b3 := HR3.out.cell
                clear hE3
                go_wp2_with fail
                refine (MonthNo_ok s A c w3 (HM.out.ext HE3.out) hS.out hmon h1).mono ?_
                rintro e w4 ⟨rfl, hE4⟩
                have HE4 := Lib.hid (HE3.out.trans hE4)
                have HR4 := Lib.hid (HR3.out.ext hE4)
                clear b3
                have b4 := HR4.out.cell
                clear hE4
                go_wp2_with fail
                refine (known_any w4 (HV.out.ext HE4.out)).mono ?_
                rintro e w5 ⟨rfl, hE5⟩
                go_wp2_with fail
                go_ret
                exact ⟨rfl, HE4.out.trans hE5⟩
              | true =>
                obtain ⟨d1, d2, d3⟩ := drift_laws (skyOk_iff.1 h1) hmon
                have h5 : Sp.areMonths (one + other) = true := inR_iff.2 ⟨by omega, by omega⟩
                have h6 : Sp.areMonths 0 = true := rfl
                have d3' := d3 one other
                have da := d1 one
                have db := d1 other
                have dc := d1 (one + other)
                obtain ⟨a, ha⟩ : ∃ a, Sp.drift s one = a := ⟨_, rfl⟩
                obtain ⟨b, hb'⟩ : ∃ b, Sp.drift s other = b := ⟨_, rfl⟩
                obtain ⟨x, hx⟩ : ∃ x, Sp.drift s (one + other) = x := ⟨_, rfl⟩
                rw [ha, hb', hx] at d3'
                rw [ha] at da
                rw [hb'] at db
                rw [hx] at dc
                have HA := Lib.hid ha
                have HBB := Lib.hid hb'
                have HX := Lib.hid hx
                have HZ := Lib.hid d2
                clear ha hb' hx d1 d2 d3
                have s1 : Sp.isLimit a = true := inR_iff.2 da
                have s2 : Sp.isLimit b = true := inR_iff.2 db
                have s3 : Sp.isLimit x = true := inR_iff.2 dc
                cases hO : Sp.cycleO s limit with
                | none =>
                  have hno : one ≠ 0 → limit < a := fun h0 => by have := cycleN_is_none s limit 1 400 hO one (by omega) (by omega); rw [HA.out] at this; exact this
                  by_cases hz : one = 0
                  case pos =>
                    clear hno
                    subst hz
                    simp only [Int.zero_add] at HX h5
                    go_wp2_with fail
                    refine (Cycle_ok s A c limit w2 (HM.out.ext HE2.out) hS.out hmon h1 h2).mono ?_
                    rintro e w3 ⟨rfl, hE3⟩
                    have HE3 := Lib.hid (HE2.out.trans hE3)
                    have HR3 := Lib.hid (HR2.out.ext hE3)
                    clear b2
                    have b3 := HR3.out.cell
                    clear hE3
                    rw [cycleV_none hO]
                    go_wp2_with fail
                    refine (Drift_ok s A c 0 w3 (HM.out.ext HE3.out) hS.out hmon h1 h3).mono ?_
                    rintro e w4 ⟨rfl, hE4⟩
                    have HE4 := Lib.hid (HE3.out.trans hE4)
                    have HR4 := Lib.hid (HR3.out.ext hE4)
                    clear b3
                    have b4 := HR4.out.cell
                    clear hE4
                    rw [HA.out]
                    go_wp2_with fail
                    refine (Drift_ok s A c other w4 (HM.out.ext HE4.out) hS.out hmon h1 h4).mono ?_
                    rintro e w5 ⟨rfl, hE5⟩
                    have HE5 := Lib.hid (HE4.out.trans hE5)
                    have HR5 := Lib.hid (HR4.out.ext hE5)
                    clear b4
                    have b5 := HR5.out.cell
                    clear hE5
                    rw [HBB.out]
                    go_wp2_with fail
                    refine (Drift_ok s A c other w5 (HM.out.ext HE5.out) hS.out hmon h1 h5).mono ?_
                    rintro e w6 ⟨rfl, hE6⟩
                    have HE6 := Lib.hid (HE5.out.trans hE6)
                    have HR6 := Lib.hid (HR5.out.ext hE6)
                    clear b5
                    have b6 := HR6.out.cell
                    clear hE6
                    rw [HX.out]
                    go_wp2_with fail
                    refine (Drift_ok s A c 0 w6 (HM.out.ext HE6.out) hS.out hmon h1 h6).mono ?_
                    rintro e w7 ⟨rfl, hE7⟩
                    have HE7 := Lib.hid (HE6.out.trans hE7)
                    have HR7 := Lib.hid (HR6.out.ext hE7)
                    clear b6
                    have b7 := HR7.out.cell
                    clear hE7
                    rw [HZ.out]
                    go_wp2_with fail
                    refine (r_Limit_any _ _).mono ?_
                    rintro e w' ⟨rfl, rfl⟩
                    rw [s1]
                    go_wp2_with fail
                    refine (r_Limit_any _ _).mono ?_
                    rintro e w' ⟨rfl, rfl⟩
                    rw [s2]
                    go_wp2_with fail
                    refine (r_Limit_any _ _).mono ?_
                    rintro e w' ⟨rfl, rfl⟩
                    rw [s3]
                    go_wp2_with fail
                    refine (known_any w7 (HV.out.ext HE7.out)).mono ?_
                    rintro e w8 ⟨rfl, hE8⟩
                    go_wp2_with fail
                    go_ret
                    exact ⟨rfl, HE7.out.trans hE8⟩
                  case neg =>
                    have hze : (one == 0) = false := by simp [hz]
                    have hgt := hno hz
                    clear hno
                    go_wp2_with fail
                    refine (Cycle_ok s A c limit w2 (HM.out.ext HE2.out) hS.out hmon h1 h2).mono ?_
                    rintro e w3 ⟨rfl, hE3⟩
                    have HE3 := Lib.hid (HE2.out.trans hE3)
                    have HR3 := Lib.hid (HR2.out.ext hE3)
                    clear b2
                    have b3 := HR3.out.cell
                    clear hE3
                    rw [cycleV_none hO]
                    go_wp2_with fail
                    refine (Drift_ok s A c one w3 (HM.out.ext HE3.out) hS.out hmon h1 h3).mono ?_
                    rintro e w4 ⟨rfl, hE4⟩
                    have HE4 := Lib.hid (HE3.out.trans hE4)
                    have HR4 := Lib.hid (HR3.out.ext hE4)
                    clear b3
                    have b4 := HR4.out.cell
                    clear hE4
                    rw [HA.out]
                    go_wp2_with fail
                    refine (Drift_ok s A c other w4 (HM.out.ext HE4.out) hS.out hmon h1 h4).mono ?_
                    rintro e w5 ⟨rfl, hE5⟩
                    have HE5 := Lib.hid (HE4.out.trans hE5)
                    have HR5 := Lib.hid (HR4.out.ext hE5)
                    clear b4
                    have b5 := HR5.out.cell
                    clear hE5
                    rw [HBB.out]
                    go_wp2_with fail
                    refine (Drift_ok s A c (one + other) w5 (HM.out.ext HE5.out) hS.out hmon h1 h5).mono ?_
                    rintro e w6 ⟨rfl, hE6⟩
                    have HE6 := Lib.hid (HE5.out.trans hE6)
                    have HR6 := Lib.hid (HR5.out.ext hE6)
                    clear b5
                    have b6 := HR6.out.cell
                    clear hE6
                    rw [HX.out]
                    go_wp2_with fail
                    refine (Drift_ok s A c 0 w6 (HM.out.ext HE6.out) hS.out hmon h1 h6).mono ?_
                    rintro e w7 ⟨rfl, hE7⟩
                    have HE7 := Lib.hid (HE6.out.trans hE7)
                    have HR7 := Lib.hid (HR6.out.ext hE7)
                    clear b6
                    have b7 := HR7.out.cell
                    clear hE7
                    rw [HZ.out]
                    go_wp2_with fail
                    refine (r_Limit_any _ _).mono ?_
                    rintro e w' ⟨rfl, rfl⟩
                    rw [s1]
                    go_wp2_with fail
                    refine (r_Limit_any _ _).mono ?_
                    rintro e w' ⟨rfl, rfl⟩
                    rw [s2]
                    go_wp2_with fail
                    refine (r_Limit_any _ _).mono ?_
                    rintro e w' ⟨rfl, rfl⟩
                    rw [s3]
                    go_wp2_with fail
                    refine (known_any w7 (HV.out.ext HE7.out)).mono ?_
                    rintro e w8 ⟨rfl, hE8⟩
                    go_wp2_with fail
                    go_ret
                    exact ⟨rfl, HE7.out.trans hE8⟩
                | some m =>
                  obtain ⟨c1, c2, c3, c4⟩ := cycleN_is_some s limit 1 400 m hO
                  have h7 : Sp.areMonths m = true := inR_iff.2 ⟨by omega, by omega⟩
                  obtain ⟨y, hy⟩ : ∃ y, Sp.drift s m = y := ⟨_, rfl⟩
                  rw [hy] at c3
                  have HY := Lib.hid hy
                  have hno : one ≠ 0 → one < m → limit < a := fun h0 h8 => by have := c4 one (by omega) h8; rw [HA.out] at this; exact this
                  clear c4 hy
                  by_cases hz : one = 0
                  case pos =>
                    clear hno
                    subst hz
                    simp only [Int.zero_add] at HX h5
                    go_wp2_with fail
                    refine (Cycle_ok s A c limit w2 (HM.out.ext HE2.out) hS.out hmon h1 h2).mono ?_
                    rintro e w3 ⟨rfl, hE3⟩
                    have HE3 := Lib.hid (HE2.out.trans hE3)
                    have HR3 := Lib.hid (HR2.out.ext hE3)
                    clear b2
                    have b3 := HR3.out.cell
                    clear hE3
                    rw [cycleV_some hO]
                    go_wp2_with fail
                    refine (Drift_ok s A c 0 w3 (HM.out.ext HE3.out) hS.out hmon h1 h3).mono ?_
                    rintro e w4 ⟨rfl, hE4⟩
                    have HE4 := Lib.hid (HE3.out.trans hE4)
                    have HR4 := Lib.hid (HR3.out.ext hE4)
                    clear b3
                    have b4 := HR4.out.cell
                    clear hE4
                    rw [HA.out]
                    go_wp2_with fail
                    refine (Drift_ok s A c other w4 (HM.out.ext HE4.out) hS.out hmon h1 h4).mono ?_
                    rintro e w5 ⟨rfl, hE5⟩
                    have HE5 := Lib.hid (HE4.out.trans hE5)
                    have HR5 := Lib.hid (HR4.out.ext hE5)
                    clear b4
                    have b5 := HR5.out.cell
                    clear hE5
                    rw [HBB.out]
                    go_wp2_with fail
                    refine (Drift_ok s A c other w5 (HM.out.ext HE5.out) hS.out hmon h1 h5).mono ?_
                    rintro e w6 ⟨rfl, hE6⟩
                    have HE6 := Lib.hid (HE5.out.trans hE6)
                    have HR6 := Lib.hid (HR5.out.ext hE6)
                    clear b5
                    have b6 := HR6.out.cell
                    clear hE6
                    rw [HX.out]
                    go_wp2_with fail
                    refine (Drift_ok s A c 0 w6 (HM.out.ext HE6.out) hS.out hmon h1 h6).mono ?_
                    rintro e w7 ⟨rfl, hE7⟩
                    have HE7 := Lib.hid (HE6.out.trans hE7)
                    have HR7 := Lib.hid (HR6.out.ext hE7)
                    clear b6
                    have b7 := HR7.out.cell
                    clear hE7
                    rw [HZ.out]
                    go_wp2_with fail
                    refine (r_Limit_any _ _).mono ?_
                    rintro e w' ⟨rfl, rfl⟩
                    rw [s1]
                    go_wp2_with fail
                    refine (r_Limit_any _ _).mono ?_
                    rintro e w' ⟨rfl, rfl⟩
                    rw [s2]
                    go_wp2_with fail
                    refine (r_Limit_any _ _).mono ?_
                    rintro e w' ⟨rfl, rfl⟩
                    rw [s3]
                    go_wp2_with fail
                    refine (Drift_ok s A c m w7 (HM.out.ext HE7.out) hS.out hmon h1 h7).mono ?_
                    rintro e w8 ⟨rfl, hE8⟩
                    have HE8 := Lib.hid (HE7.out.trans hE8)
                    have HR8 := Lib.hid (HR7.out.ext hE8)
                    clear b7
                    have b8 := HR8.out.cell
                    clear hE8
                    rw [HY.out]
                    go_wp2_with fail
                    refine (known_any w8 (HV.out.ext HE8.out)).mono ?_
                    rintro e w9 ⟨rfl, hE9⟩
                    go_wp2_with fail
                    go_ret
                    exact ⟨rfl, HE8.out.trans hE9⟩
                  case neg =>
                    have hze : (one == 0) = false := by simp [hz]
                    by_cases hge : m ≤ one
                    case pos =>
                      clear hno
                      go_wp2_with fail
                      refine (Cycle_ok s A c limit w2 (HM.out.ext HE2.out) hS.out hmon h1 h2).mono ?_
                      rintro e w3 ⟨rfl, hE3⟩
                      have HE3 := Lib.hid (HE2.out.trans hE3)
                      have HR3 := Lib.hid (HR2.out.ext hE3)
                      clear b2
                      have b3 := HR3.out.cell
                      clear hE3
                      rw [cycleV_some hO]
                      go_wp2_with fail
                      refine (Drift_ok s A c one w3 (HM.out.ext HE3.out) hS.out hmon h1 h3).mono ?_
                      rintro e w4 ⟨rfl, hE4⟩
                      have HE4 := Lib.hid (HE3.out.trans hE4)
                      have HR4 := Lib.hid (HR3.out.ext hE4)
                      clear b3
                      have b4 := HR4.out.cell
                      clear hE4
                      rw [HA.out]
                      go_wp2_with fail
                      refine (Drift_ok s A c other w4 (HM.out.ext HE4.out) hS.out hmon h1 h4).mono ?_
                      rintro e w5 ⟨rfl, hE5⟩
                      have HE5 := Lib.hid (HE4.out.trans hE5)
                      have HR5 := Lib.hid (HR4.out.ext hE5)
                      clear b4
                      have b5 := HR5.out.cell
                      clear hE5
                      rw [HBB.out]
                      go_wp2_with fail
                      refine (Drift_ok s A c (one + other) w5 (HM.out.ext HE5.out) hS.out hmon h1 h5).mono ?_
                      rintro e w6 ⟨rfl, hE6⟩
                      have HE6 := Lib.hid (HE5.out.trans hE6)
                      have HR6 := Lib.hid (HR5.out.ext hE6)
                      clear b5
                      have b6 := HR6.out.cell
                      clear hE6
                      rw [HX.out]
                      go_wp2_with fail
                      refine (Drift_ok s A c 0 w6 (HM.out.ext HE6.out) hS.out hmon h1 h6).mono ?_
                      rintro e w7 ⟨rfl, hE7⟩
                      have HE7 := Lib.hid (HE6.out.trans hE7)
                      have HR7 := Lib.hid (HR6.out.ext hE7)
                      clear b6
                      have b7 := HR7.out.cell
                      clear hE7
                      rw [HZ.out]
                      go_wp2_with fail
                      refine (r_Limit_any _ _).mono ?_
                      rintro e w' ⟨rfl, rfl⟩
                      rw [s1]
                      go_wp2_with fail
                      refine (r_Limit_any _ _).mono ?_
                      rintro e w' ⟨rfl, rfl⟩
                      rw [s2]
                      go_wp2_with fail
                      refine (r_Limit_any _ _).mono ?_
                      rintro e w' ⟨rfl, rfl⟩
                      rw [s3]
                      go_wp2_with fail
                      refine (Drift_ok s A c m w7 (HM.out.ext HE7.out) hS.out hmon h1 h7).mono ?_
                      rintro e w8 ⟨rfl, hE8⟩
                      have HE8 := Lib.hid (HE7.out.trans hE8)
                      have HR8 := Lib.hid (HR7.out.ext hE8)
                      clear b7
                      have b8 := HR8.out.cell
                      clear hE8
                      rw [HY.out]
                      go_wp2_with fail
                      refine (known_any w8 (HV.out.ext HE8.out)).mono ?_
                      rintro e w9 ⟨rfl, hE9⟩
                      go_wp2_with fail
                      go_ret
                      exact ⟨rfl, HE8.out.trans hE9⟩
                    case neg =>
                      have hlt := hno hz (by omega)
                      clear hno
                      go_wp2_with fail
                      refine (Cycle_ok s A c limit w2 (HM.out.ext HE2.out) hS.out hmon h1 h2).mono ?_
                      rintro e w3 ⟨rfl, hE3⟩
                      have HE3 := Lib.hid (HE2.out.trans hE3)
                      have HR3 := Lib.hid (HR2.out.ext hE3)
                      clear b2
                      have b3 := HR3.out.cell
                      clear hE3
                      rw [cycleV_some hO]
                      go_wp2_with fail
                      refine (Drift_ok s A c one w3 (HM.out.ext HE3.out) hS.out hmon h1 h3).mono ?_
                      rintro e w4 ⟨rfl, hE4⟩
                      have HE4 := Lib.hid (HE3.out.trans hE4)
                      have HR4 := Lib.hid (HR3.out.ext hE4)
                      clear b3
                      have b4 := HR4.out.cell
                      clear hE4
                      rw [HA.out]
                      go_wp2_with fail
                      refine (Drift_ok s A c other w4 (HM.out.ext HE4.out) hS.out hmon h1 h4).mono ?_
                      rintro e w5 ⟨rfl, hE5⟩
                      have HE5 := Lib.hid (HE4.out.trans hE5)
                      have HR5 := Lib.hid (HR4.out.ext hE5)
                      clear b4
                      have b5 := HR5.out.cell
                      clear hE5
                      rw [HBB.out]
                      go_wp2_with fail
                      refine (Drift_ok s A c (one + other) w5 (HM.out.ext HE5.out) hS.out hmon h1 h5).mono ?_
                      rintro e w6 ⟨rfl, hE6⟩
                      have HE6 := Lib.hid (HE5.out.trans hE6)
                      have HR6 := Lib.hid (HR5.out.ext hE6)
                      clear b5
                      have b6 := HR6.out.cell
                      clear hE6
                      rw [HX.out]
                      go_wp2_with fail
                      refine (Drift_ok s A c 0 w6 (HM.out.ext HE6.out) hS.out hmon h1 h6).mono ?_
                      rintro e w7 ⟨rfl, hE7⟩
                      have HE7 := Lib.hid (HE6.out.trans hE7)
                      have HR7 := Lib.hid (HR6.out.ext hE7)
                      clear b6
                      have b7 := HR7.out.cell
                      clear hE7
                      rw [HZ.out]
                      go_wp2_with fail
                      refine (r_Limit_any _ _).mono ?_
                      rintro e w' ⟨rfl, rfl⟩
                      rw [s1]
                      go_wp2_with fail
                      refine (r_Limit_any _ _).mono ?_
                      rintro e w' ⟨rfl, rfl⟩
                      rw [s2]
                      go_wp2_with fail
                      refine (r_Limit_any _ _).mono ?_
                      rintro e w' ⟨rfl, rfl⟩
                      rw [s3]
                      go_wp2_with fail
                      refine (Drift_ok s A c m w7 (HM.out.ext HE7.out) hS.out hmon h1 h7).mono ?_
                      rintro e w8 ⟨rfl, hE8⟩
                      have HE8 := Lib.hid (HE7.out.trans hE8)
                      have HR8 := Lib.hid (HR7.out.ext hE8)
                      clear b7
                      have b8 := HR8.out.cell
                      clear hE8
                      rw [HY.out]
                      go_wp2_with fail
                      refine (known_any w8 (HV.out.ext HE8.out)).mono ?_
                      rintro e w9 ⟨rfl, hE9⟩
                      go_wp2_with fail
                      go_ret
                      exact ⟨rfl, HE8.out.trans hE9⟩
end Go.Proofs.YtlcddcnmoajpjaaGreatDoor
