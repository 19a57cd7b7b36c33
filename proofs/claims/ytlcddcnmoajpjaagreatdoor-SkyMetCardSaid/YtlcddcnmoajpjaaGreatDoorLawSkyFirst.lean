/- The walk of the law SkyFirst. (Printed by wip/mklaws1.py.) -/
import Derived.Test.YtlcddcnmoajpjaaGreatDoorLawSkyNexts
import Derived.Test.YtlcddcnmoajpjaaGreatDoorLawHelp
namespace Go.Proofs.YtlcddcnmoajpjaaGreatDoor
open Go.RowKit
open Sp (rd)
set_option linter.unusedSimpArgs false
set_option linter.unusedVariables false

theorem moons_one (s : Sp.Sky) (d : Int) (f : Bool) : decide ((d, f) ∈ Sp.moonsL s d d) = Sp.moonB s d f := by
  rw [Bool.eq_iff_iff, decide_eq_true_eq, moonsL_mem]
  simp
theorem moons_two (s : Sp.Sky) (d : Int) : (Sp.moonsL s d d).length ≤ 2 := by
  have := moonsL_length s d d
  omega

set_option maxRecDepth 100000 in
set_option maxHeartbeats 4000000 in
theorem law_SkyFirst (s : Sp.Sky) (A : Option Addr) (c : Nat) (day : Int) (full : Bool) (other : Int) (w : World) (hV : Env w) (hm : Bodies w A s.bodies) (hl : Long s.bodies) :
    Calls Tryz.prog 23 #[.agg #[.slice A s.bodies.length c, .int .i64 s.nnum, .int .i64 s.nden, .int .i64 s.nstart], .int .i64 day, .bool full, .int .i64 other] w fun e w' => e = .returned (.bool true) ∧ Ext w w' := by
  have HL := Lib.hid hl
  have HM := Lib.hid hm
  have HV := Lib.hid hV
  clear hm hl hV
  go_enter Tryz.func23, Tryz.ntmps23
  go_wp2_with fail
  have HR0 := Lib.hid (Row.new w 28 #[.slice A s.bodies.length c, .int .i64 s.nnum, .int .i64 s.nden, .int .i64 s.nstart])
  have HE0 : Hid (Ext w (w.alloc (.cells #[.slice A s.bodies.length c, .int .i64 s.nnum, .int .i64 s.nden, .int .i64 s.nstart] 28))) := Lib.hid ((Ext.refl w).alloc _)
  generalize w.alloc (.cells #[.slice A s.bodies.length c, .int .i64 s.nnum, .int .i64 s.nden, .int .i64 s.nstart] 28) = w0 at *
  have b0 := HR0.out.cell
  refine (short_any s A c w0 (HM.out.ext HE0.out) HL.out).mono ?_
  rintro e w1 ⟨rfl, hE1⟩
  have HE1 := Lib.hid (HE0.out.trans hE1)
  have HR1 := Lib.hid (HR0.out.ext hE1)
  clear b0
  have b1 := HR1.out.cell
  clear hE1
  cases hsh : shortB s.bodies with
  | false =>
    go_wp2_with fail
    refine (known_any w1 (HV.out.ext HE1.out)).mono ?_
    rintro e w2 ⟨rfl, hE2⟩
    go_wp2_with fail
    go_ret
    exact ⟨rfl, HE1.out.trans hE2⟩
  | true =>
    have hS := Lib.hid (short_of hsh)
    have hfew := few_of hsh
    clear hsh
    cases h1 : Sp.skyOk s with
    | false =>
      go_wp2_with fail
      refine (r_Sky_any s A c w1 (HM.out.ext HE1.out) hS.out).mono ?_
      rintro e w2 ⟨rfl, hE2⟩
      have HE2 := Lib.hid (HE1.out.trans hE2)
      have HR2 := Lib.hid (HR1.out.ext hE2)
      clear b1
      have b2 := HR2.out.cell
      clear hE2
      rw [h1]
      go_wp2_with fail
      refine (known_any w2 (HV.out.ext HE2.out)).mono ?_
      rintro e w3 ⟨rfl, hE3⟩
      go_wp2_with fail
      go_ret
      exact ⟨rfl, HE2.out.trans hE3⟩
    | true =>
      cases h2 : Sp.isDay day with
      | false =>
        go_wp2_with fail
        refine (r_Sky_any s A c w1 (HM.out.ext HE1.out) hS.out).mono ?_
        rintro e w2 ⟨rfl, hE2⟩
        have HE2 := Lib.hid (HE1.out.trans hE2)
        have HR2 := Lib.hid (HR1.out.ext hE2)
        clear b1
        have b2 := HR2.out.cell
        clear hE2
        rw [h1]
        go_wp2_with fail
        refine (r_Day_any _ _).mono ?_
        rintro e w' ⟨rfl, rfl⟩
        rw [h2]
        go_wp2_with fail
        refine (known_any w2 (HV.out.ext HE2.out)).mono ?_
        rintro e w3 ⟨rfl, hE3⟩
        go_wp2_with fail
        go_ret
        exact ⟨rfl, HE2.out.trans hE3⟩
      | true =>
        cases h3 : Sp.isDay other with
        | false =>
          go_wp2_with fail
          refine (r_Sky_any s A c w1 (HM.out.ext HE1.out) hS.out).mono ?_
          rintro e w2 ⟨rfl, hE2⟩
          have HE2 := Lib.hid (HE1.out.trans hE2)
          have HR2 := Lib.hid (HR1.out.ext hE2)
          clear b1
          have b2 := HR2.out.cell
          clear hE2
          rw [h1]
          go_wp2_with fail
          refine (r_Day_any _ _).mono ?_
          rintro e w' ⟨rfl, rfl⟩
          rw [h2]
          go_wp2_with fail
          refine (r_Day_any _ _).mono ?_
          rintro e w' ⟨rfl, rfl⟩
          rw [h3]
          go_wp2_with fail
          refine (known_any w2 (HV.out.ext HE2.out)).mono ?_
          rintro e w3 ⟨rfl, hE3⟩
          go_wp2_with fail
          go_ret
          exact ⟨rfl, HE2.out.trans hE3⟩
        | true =>
          have HD := Lib.hid (inR_iff.1 h2)
          have hd3 := inR_iff.1 h3
          by_cases hone : other < 1
          case pos =>
            go_wp2_with fail
            refine (r_Sky_any s A c w1 (HM.out.ext HE1.out) hS.out).mono ?_
            rintro e w2 ⟨rfl, hE2⟩
            have HE2 := Lib.hid (HE1.out.trans hE2)
            have HR2 := Lib.hid (HR1.out.ext hE2)
            clear b1
            have b2 := HR2.out.cell
            clear hE2
            rw [h1]
            go_wp2_with fail
            refine (r_Day_any _ _).mono ?_
            rintro e w' ⟨rfl, rfl⟩
            rw [h2]
            go_wp2_with fail
            refine (r_Day_any _ _).mono ?_
            rintro e w' ⟨rfl, rfl⟩
            rw [h3]
            go_wp2_with fail
            refine (known_any w2 (HV.out.ext HE2.out)).mono ?_
            rintro e w3 ⟨rfl, hE3⟩
            go_wp2_with fail
            go_ret
            exact ⟨rfl, HE2.out.trans hE3⟩
          case neg =>
            by_cases hlt : other < day
            case pos =>
              go_wp2_with fail
              refine (r_Sky_any s A c w1 (HM.out.ext HE1.out) hS.out).mono ?_
              rintro e w2 ⟨rfl, hE2⟩
              have HE2 := Lib.hid (HE1.out.trans hE2)
              have HR2 := Lib.hid (HR1.out.ext hE2)
              clear b1
              have b2 := HR2.out.cell
              clear hE2
              rw [h1]
              go_wp2_with fail
              refine (r_Day_any _ _).mono ?_
              rintro e w' ⟨rfl, rfl⟩
              rw [h2]
              go_wp2_with fail
              refine (r_Day_any _ _).mono ?_
              rintro e w' ⟨rfl, rfl⟩
              rw [h3]
              go_wp2_with fail
              refine (known_any w2 (HV.out.ext HE2.out)).mono ?_
              rintro e w3 ⟨rfl, hE3⟩
              go_wp2_with fail
              go_ret
              exact ⟨rfl, HE2.out.trans hE3⟩
            case neg =>
              have h4 : Sp.isSpan other other = true := by simp [Sp.isSpan, Sp.inR]; omega
              have HT2 := Lib.hid (moons_two s other)
              have HO1 := Lib.hid (moons_one s other full)
              cases hO : Sp.nextO s day full with
              | none =>
                have hno := nextO_none hO other (by omega) (by omega) (by omega)
                go_wp2_with fail
                refine (r_Sky_any s A c w1 (HM.out.ext HE1.out) hS.out).mono ?_
                rintro e w2 ⟨rfl, hE2⟩
                have HE2 := Lib.hid (HE1.out.trans hE2)
                have HR2 := Lib.hid (HR1.out.ext hE2)
                clear b1
                have b2 := HR2.out.cell
                clear hE2
                rw [h1]
                go_wp2_with fail
                refine (r_Day_any _ _).mono ?_
                rintro e w' ⟨rfl, rfl⟩
                rw [h2]
                go_wp2_with fail
                refine (r_Day_any _ _).mono ?_
                rintro e w' ⟨rfl, rfl⟩
                rw [h3]
                go_wp2_with fail
                refine (Next_any s A c day full w2 (HM.out.ext HE2.out) hS.out h1 h2).mono ?_
                rintro e w3 ⟨rfl, hE3⟩
                have HE3 := Lib.hid (HE2.out.trans hE3)
                have HR3 := Lib.hid (HR2.out.ext hE3)
                clear b2
                have b3 := HR3.out.cell
                clear hE3
                rw [nextV_none hO]
                have ht := HT2.out
                go_wp2_with fail
                refine (Moons_ok s A c other other w3 (HM.out.ext HE3.out) hS.out h1 h4).mono ?_
                rintro e w4 ⟨v, rfl, hHV1, hE4⟩
                have HE4 := Lib.hid (HE3.out.trans hE4)
                have HR4 := Lib.hid (HR3.out.ext hE4)
                clear b3
                have b4 := HR4.out.cell
                clear hE4
                have HV1 := Lib.hid hHV1
                clear hHV1
                obtain ⟨A1, c1, rfl, _⟩ := HV1.out
                go_wp2_with fail
                refine (listed_any _ _ other full w4 HV1.out (by omega)).mono ?_
                rintro e w5 ⟨rfl, hE5⟩
                have HE5 := Lib.hid (HE4.out.trans hE5)
                have HR5 := Lib.hid (HR4.out.ext hE5)
                clear b4
                have b5 := HR5.out.cell
                replace HV1 := Lib.hid (HV1.out.ext hE5)
                clear hE5
                rw [HO1.out]
                rw [hno]
                go_wp2_with fail
                refine (known_any w5 (HV.out.ext HE5.out)).mono ?_
                rintro e w6 ⟨rfl, hE6⟩
                go_wp2_with fail
                go_ret
                exact ⟨rfl, HE5.out.trans hE6⟩
              | some m =>
                obtain ⟨m1, m2, m3, m4, m5⟩ := nextO_pos hO
                have HM5 := Lib.hid m5
                clear m5
                have h5 : Sp.isSpan m m = true := by simp [Sp.isSpan, Sp.inR]; omega
                have h6 : Sp.isDay m = true := inR_iff.2 ⟨by omega, by omega⟩
                have HT3 := Lib.hid (moons_two s m)
                have HO2 := Lib.hid (moons_one s m full)
                go_wp2_with fail
                refine (r_Sky_any s A c w1 (HM.out.ext HE1.out) hS.out).mono ?_
                rintro e w2 ⟨rfl, hE2⟩
                have HE2 := Lib.hid (HE1.out.trans hE2)
                have HR2 := Lib.hid (HR1.out.ext hE2)
                clear b1
                have b2 := HR2.out.cell
                clear hE2
                rw [h1]
                go_wp2_with fail
                refine (r_Day_any _ _).mono ?_
                rintro e w' ⟨rfl, rfl⟩
                rw [h2]
                go_wp2_with fail
                refine (r_Day_any _ _).mono ?_
                rintro e w' ⟨rfl, rfl⟩
                rw [h3]
                go_wp2_with fail
                refine (Next_any s A c day full w2 (HM.out.ext HE2.out) hS.out h1 h2).mono ?_
                rintro e w3 ⟨rfl, hE3⟩
                have HE3 := Lib.hid (HE2.out.trans hE3)
                have HR3 := Lib.hid (HR2.out.ext hE3)
                clear b2
                have b3 := HR3.out.cell
                clear hE3
                rw [nextV_some hO]
                have ht := HT2.out
                go_wp2_with fail
                refine (Moons_ok s A c other other w3 (HM.out.ext HE3.out) hS.out h1 h4).mono ?_
                rintro e w4 ⟨v, rfl, hHV1, hE4⟩
                have HE4 := Lib.hid (HE3.out.trans hE4)
                have HR4 := Lib.hid (HR3.out.ext hE4)
                clear b3
                have b4 := HR4.out.cell
                clear hE4
                have HV1 := Lib.hid hHV1
                clear hHV1
                obtain ⟨A1, c1, rfl, _⟩ := HV1.out
                go_wp2_with fail
                refine (listed_any _ _ other full w4 HV1.out (by omega)).mono ?_
                rintro e w5 ⟨rfl, hE5⟩
                have HE5 := Lib.hid (HE4.out.trans hE5)
                have HR5 := Lib.hid (HR4.out.ext hE5)
                clear b4
                have b5 := HR5.out.cell
                replace HV1 := Lib.hid (HV1.out.ext hE5)
                clear hE5
                rw [HO1.out]
                cases his : Sp.moonB s other full with
                | false =>
                  go_wp2_with fail
                  refine (r_Day_any _ _).mono ?_
                  rintro e w' ⟨rfl, rfl⟩
                  rw [h6]
                  have ht3 := HT3.out
                  go_wp2_with fail
                  refine (Moons_ok s A c m m w5 (HM.out.ext HE5.out) hS.out h1 h5).mono ?_
                  rintro e w6 ⟨v2, rfl, hHV2, hE6⟩
                  have HE6 := Lib.hid (HE5.out.trans hE6)
                  have HR6 := Lib.hid (HR5.out.ext hE6)
                  clear b5
                  have b6 := HR6.out.cell
                  replace HV1 := Lib.hid (HV1.out.ext hE6)
                  clear hE6
                  have HV2 := Lib.hid hHV2
                  clear hHV2
                  obtain ⟨A2, c2, rfl, _⟩ := HV2.out
                  go_wp2_with fail
                  refine (listed_any _ _ m full w6 HV2.out (by omega)).mono ?_
                  rintro e w7 ⟨rfl, hE7⟩
                  have HE7 := Lib.hid (HE6.out.trans hE7)
                  have HR7 := Lib.hid (HR6.out.ext hE7)
                  clear b6
                  have b7 := HR7.out.cell
                  replace HV1 := Lib.hid (HV1.out.ext hE7)
                  replace HV2 := Lib.hid (HV2.out.ext hE7)
                  clear hE7
                  rw [HO2.out, m4]
                  go_wp2_with fail
                  refine (known_any w7 (HV.out.ext HE7.out)).mono ?_
                  rintro e w8 ⟨rfl, hE8⟩
                  go_wp2_with fail
                  go_ret
                  exact ⟨rfl, HE7.out.trans hE8⟩
                | true =>
                  have hge : m ≤ other := by
                    rcases Int.lt_or_le other m with hl | hl
                    · have := HM5.out other (by omega) (by omega) hl
                      rw [this] at his
                      cases his
                    · exact hl
                  go_wp2_with fail
                  refine (r_Day_any _ _).mono ?_
                  rintro e w' ⟨rfl, rfl⟩
                  rw [h6]
                  have ht3 := HT3.out
                  go_wp2_with fail
                  refine (Moons_ok s A c m m w5 (HM.out.ext HE5.out) hS.out h1 h5).mono ?_
                  rintro e w6 ⟨v2, rfl, hHV2, hE6⟩
                  have HE6 := Lib.hid (HE5.out.trans hE6)
                  have HR6 := Lib.hid (HR5.out.ext hE6)
                  clear b5
                  have b6 := HR6.out.cell
                  replace HV1 := Lib.hid (HV1.out.ext hE6)
                  clear hE6
                  have HV2 := Lib.hid hHV2
                  clear hHV2
                  obtain ⟨A2, c2, rfl, _⟩ := HV2.out
                  go_wp2_with fail
                  refine (listed_any _ _ m full w6 HV2.out (by omega)).mono ?_
                  rintro e w7 ⟨rfl, hE7⟩
                  have HE7 := Lib.hid (HE6.out.trans hE7)
                  have HR7 := Lib.hid (HR6.out.ext hE7)
                  clear b6
                  have b7 := HR7.out.cell
                  replace HV1 := Lib.hid (HV1.out.ext hE7)
                  replace HV2 := Lib.hid (HV2.out.ext hE7)
                  clear hE7
                  rw [HO2.out, m4]
                  go_wp2_with fail
                  refine (known_any w7 (HV.out.ext HE7.out)).mono ?_
                  rintro e w8 ⟨rfl, hE8⟩
                  go_wp2_with fail
                  go_ret
                  exact ⟨rfl, HE7.out.trans hE8⟩
end Go.Proofs.YtlcddcnmoajpjaaGreatDoor
