/- The walk of the law SkyEven. (Printed by wip/mklaws1.py.) -/
import Derived.Test.YtlcddcnmoajpjaaGreatDoorV21
import Derived.Test.YtlcddcnmoajpjaaGreatDoorV13
import Derived.Test.YtlcddcnmoajpjaaGreatDoorLawHelp
namespace Go.Proofs.YtlcddcnmoajpjaaGreatDoor
open Go.RowKit
open Sp (rd)
set_option linter.unusedSimpArgs false
set_option linter.unusedVariables false

theorem even_laws {s : Sp.Sky} (hs : SkyOk s) {i : Int} (h0 : 0 ≤ i) (h1 : i < s.bodies.length) (day : Int) :
    Sp.apart (Sp.mean (Sp.body s i) day % 21600) (Sp.place (Sp.body s i) day) ≤ 600 ∧ (Sp.place (Sp.body s i) (day + 1) - Sp.place (Sp.body s i) day) % 21600 < 10800 := by
  have hk := bodyOk_at hs h0 h1
  have hp := way_pace hk day
  have he := errOf_in hk.road (Sp.mean (Sp.body s i) day % 21600)
  have hw : Sp.way (Sp.body s i) day = Sp.mean (Sp.body s i) day + Sp.errOf (Sp.body s i).road (Sp.mean (Sp.body s i) day % 21600) := rfl
  unfold Sp.apart Sp.round Sp.place
  omega
theorem between_places (s : Sp.Sky) (i j day : Int) : Sp.between s i j day = (Sp.place (Sp.body s i) day - Sp.place (Sp.body s j) day) % 21600 := by
  unfold Sp.between Sp.ahead Sp.place
  omega

set_option maxRecDepth 100000 in
set_option maxHeartbeats 4000000 in
theorem law_SkyEven (s : Sp.Sky) (A : Option Addr) (c : Nat) (i j day : Int) (w : World) (hV : Env w) (hm : Bodies w A s.bodies) (hl : Long s.bodies) :
    Calls Tryz.prog 13 #[.agg #[.slice A s.bodies.length c, .int .i64 s.nnum, .int .i64 s.nden, .int .i64 s.nstart], .int .i64 i, .int .i64 j, .int .i64 day] w fun e w' => e = .returned (.bool true) ∧ Ext w w' := by
  have HL := Lib.hid hl
  have HM := Lib.hid hm
  have HV := Lib.hid hV
  clear hm hl hV
  go_enter Tryz.func13, Tryz.ntmps13
  go_wp2_with fail
  have HR0 := Lib.hid (Row.new w 28 #[.slice A s.bodies.length c, .int .i64 s.nnum, .int .i64 s.nden, .int .i64 s.nstart])
  have HE0 : Hid (Ext w (w.alloc (.cells #[.slice A s.bodies.length c, .int .i64 s.nnum, .int .i64 s.nden, .int .i64 s.nstart] 28))) := Lib.hid ((Ext.refl w).alloc _)
  generalize w.alloc (.cells #[.slice A s.bodies.length c, .int .i64 s.nnum, .int .i64 s.nden, .int .i64 s.nstart] 28) = w0 at *
  have b0 := HR0.out.cell
  refine (short_any s A c w0 (HM.out.ext HE0.out) HL.out).mono ?_
  rintro e w1 ⟨rfl, hE1⟩
  have HE1 := Lib.hid (HE0.out.trans hE1)
  have HR1 := Lib.hid (HR0.out.ext hE1)
  clear b0
  have b1 := HR1.out.cell
  clear hE1
  cases hsh : shortB s.bodies with
  | false =>
    go_wp2_with fail
    refine (known_any w1 (HV.out.ext HE1.out)).mono ?_
    rintro e w2 ⟨rfl, hE2⟩
    go_wp2_with fail
    go_ret
    exact ⟨rfl, HE1.out.trans hE2⟩
  | true =>
    have hS := Lib.hid (short_of hsh)
    have hfew := few_of hsh
    clear hsh
    cases h1 : Sp.skyOk s with
    | false =>
      go_wp2_with fail
      refine (r_Sky_any s A c w1 (HM.out.ext HE1.out) hS.out).mono ?_
      rintro e w2 ⟨rfl, hE2⟩
      have HE2 := Lib.hid (HE1.out.trans hE2)
      have HR2 := Lib.hid (HR1.out.ext hE2)
      clear b1
      have b2 := HR2.out.cell
      clear hE2
      rw [h1]
      go_wp2_with fail
      refine (known_any w2 (HV.out.ext HE2.out)).mono ?_
      rintro e w3 ⟨rfl, hE3⟩
      go_wp2_with fail
      go_ret
      exact ⟨rfl, HE2.out.trans hE3⟩
    | true =>
      cases h2 : Sp.isBody s i with
      | false =>
        go_wp2_with fail
        refine (r_Sky_any s A c w1 (HM.out.ext HE1.out) hS.out).mono ?_
        rintro e w2 ⟨rfl, hE2⟩
        have HE2 := Lib.hid (HE1.out.trans hE2)
        have HR2 := Lib.hid (HR1.out.ext hE2)
        clear b1
        have b2 := HR2.out.cell
        clear hE2
        rw [h1]
        go_wp2_with fail
        refine (r_Body_any s A c _ _ _ i w2 (by omega)).mono ?_
        rintro e w3 ⟨rfl, hE3⟩
        have HE3 := Lib.hid (HE2.out.trans hE3)
        have HR3 := Lib.hid (HR2.out.ext hE3)
        clear b2
        have b3 := HR3.out.cell
        clear hE3
        rw [h2]
        go_wp2_with fail
        refine (known_any w3 (HV.out.ext HE3.out)).mono ?_
        rintro e w4 ⟨rfl, hE4⟩
        go_wp2_with fail
        go_ret
        exact ⟨rfl, HE3.out.trans hE4⟩
      | true =>
        cases h3 : Sp.isBody s j with
        | false =>
          go_wp2_with fail
          refine (r_Sky_any s A c w1 (HM.out.ext HE1.out) hS.out).mono ?_
          rintro e w2 ⟨rfl, hE2⟩
          have HE2 := Lib.hid (HE1.out.trans hE2)
          have HR2 := Lib.hid (HR1.out.ext hE2)
          clear b1
          have b2 := HR2.out.cell
          clear hE2
          rw [h1]
          go_wp2_with fail
          refine (r_Body_any s A c _ _ _ i w2 (by omega)).mono ?_
          rintro e w3 ⟨rfl, hE3⟩
          have HE3 := Lib.hid (HE2.out.trans hE3)
          have HR3 := Lib.hid (HR2.out.ext hE3)
          clear b2
          have b3 := HR3.out.cell
          clear hE3
          rw [h2]
          go_wp2_with fail
          refine (r_Body_any s A c _ _ _ j w3 (by omega)).mono ?_
          rintro e w4 ⟨rfl, hE4⟩
          have HE4 := Lib.hid (HE3.out.trans hE4)
          have HR4 := Lib.hid (HR3.out.ext hE4)
          clear b3
          have b4 := HR4.out.cell
          clear hE4
          rw [h3]
          go_wp2_with fail
          refine (known_any w4 (HV.out.ext HE4.out)).mono ?_
          rintro e w5 ⟨rfl, hE5⟩
          go_wp2_with fail
          go_ret
          exact ⟨rfl, HE4.out.trans hE5⟩
        | true =>
          cases h4 : (i != j) with
          | false =>
            obtain rfl : i = j := by simpa using h4
            clear h4
            go_wp2_with fail
            refine (r_Sky_any s A c w1 (HM.out.ext HE1.out) hS.out).mono ?_
            rintro e w2 ⟨rfl, hE2⟩
            have HE2 := Lib.hid (HE1.out.trans hE2)
            have HR2 := Lib.hid (HR1.out.ext hE2)
            clear b1
            have b2 := HR2.out.cell
            clear hE2
            rw [h1]
            go_wp2_with fail
            refine (r_Body_any s A c _ _ _ i w2 (by omega)).mono ?_
            rintro e w3 ⟨rfl, hE3⟩
            have HE3 := Lib.hid (HE2.out.trans hE3)
            have HR3 := Lib.hid (HR2.out.ext hE3)
            clear b2
            have b3 := HR3.out.cell
            clear hE3
            rw [h2]
            go_wp2_with fail
            refine (r_Body_any s A c _ _ _ i w3 (by omega)).mono ?_
            rintro e w4 ⟨rfl, hE4⟩
            have HE4 := Lib.hid (HE3.out.trans hE4)
            have HR4 := Lib.hid (HR3.out.ext hE4)
            clear b3
            have b4 := HR4.out.cell
            clear hE4
            rw [h3]
            go_wp2_with fail
            refine (known_any w4 (HV.out.ext HE4.out)).mono ?_
            rintro e w5 ⟨rfl, hE5⟩
            go_wp2_with fail
            go_ret
            exact ⟨rfl, HE4.out.trans hE5⟩
          | true =>
            cases h5 : Sp.isDay day with
            | false =>
              have hij : ¬ i = j := by simpa using h4
              have hije : (i == j) = false := by simpa using hij
              clear h4
              go_wp2_with fail
              refine (r_Sky_any s A c w1 (HM.out.ext HE1.out) hS.out).mono ?_
              rintro e w2 ⟨rfl, hE2⟩
              have HE2 := Lib.hid (HE1.out.trans hE2)
              have HR2 := Lib.hid (HR1.out.ext hE2)
              clear b1
              have b2 := HR2.out.cell
              clear hE2
              rw [h1]
              go_wp2_with fail
              refine (r_Body_any s A c _ _ _ i w2 (by omega)).mono ?_
              rintro e w3 ⟨rfl, hE3⟩
              have HE3 := Lib.hid (HE2.out.trans hE3)
              have HR3 := Lib.hid (HR2.out.ext hE3)
              clear b2
              have b3 := HR3.out.cell
              clear hE3
              rw [h2]
              go_wp2_with fail
              refine (r_Body_any s A c _ _ _ j w3 (by omega)).mono ?_
              rintro e w4 ⟨rfl, hE4⟩
              have HE4 := Lib.hid (HE3.out.trans hE4)
              have HR4 := Lib.hid (HR3.out.ext hE4)
              clear b3
              have b4 := HR4.out.cell
              clear hE4
              rw [h3]
              go_wp2_with fail
              refine (r_Day_any _ _).mono ?_
              rintro e w' ⟨rfl, rfl⟩
              rw [h5]
              go_wp2_with fail
              refine (known_any w4 (HV.out.ext HE4.out)).mono ?_
              rintro e w5 ⟨rfl, hE5⟩
              go_wp2_with fail
              go_ret
              exact ⟨rfl, HE4.out.trans hE5⟩
            | true =>
              have c1 : (Sp.isBody s i && (Sp.isBody s j && (i != j))) = true := by simp [h2, h3, h4]
              have HB2 := Lib.hid (two_of c1)
              have hij : ¬ i = j := by simpa using h4
              have hije : (i == j) = false := by simpa using hij
              have hd := inR_iff.1 h5
              clear h4
              by_cases hlast : day = 20000
              case pos =>
                subst hlast
                go_wp2_with fail
                refine (r_Sky_any s A c w1 (HM.out.ext HE1.out) hS.out).mono ?_
                rintro e w2 ⟨rfl, hE2⟩
                have HE2 := Lib.hid (HE1.out.trans hE2)
                have HR2 := Lib.hid (HR1.out.ext hE2)
                clear b1
                have b2 := HR2.out.cell
                clear hE2
                rw [h1]
                go_wp2_with fail
                refine (r_Body_any s A c _ _ _ i w2 (by omega)).mono ?_
                rintro e w3 ⟨rfl, hE3⟩
                have HE3 := Lib.hid (HE2.out.trans hE3)
                have HR3 := Lib.hid (HR2.out.ext hE3)
                clear b2
                have b3 := HR3.out.cell
                clear hE3
                rw [h2]
                go_wp2_with fail
                refine (r_Body_any s A c _ _ _ j w3 (by omega)).mono ?_
                rintro e w4 ⟨rfl, hE4⟩
                have HE4 := Lib.hid (HE3.out.trans hE4)
                have HR4 := Lib.hid (HR3.out.ext hE4)
                clear b3
                have b4 := HR4.out.cell
                clear hE4
                rw [h3]
                go_wp2_with fail
                refine (r_Day_any _ _).mono ?_
                rintro e w' ⟨rfl, rfl⟩
                rw [h5]
                go_wp2_with fail
                refine (known_any w4 (HV.out.ext HE4.out)).mono ?_
                rintro e w5 ⟨rfl, hE5⟩
                go_wp2_with fail
                go_ret
                exact ⟨rfl, HE4.out.trans hE5⟩
              case neg =>
                have hlaste : (day == 20000) = false := by simpa using hlast
                have h6 : Sp.isDay (day + 1) = true := inR_iff.2 ⟨by omega, by omega⟩
                have HK := Lib.hid (skyOk_iff.1 h1)
                obtain ⟨fa, fb⟩ := even_laws HK.out HB2.out.1 HB2.out.2.1 day
                have fc := between_places s i j day
                obtain ⟨p, hp⟩ : ∃ p, Sp.mean (Sp.body s i) day % 21600 = p := ⟨_, rfl⟩
                obtain ⟨q, hq⟩ : ∃ q, Sp.place (Sp.body s i) day = q := ⟨_, rfl⟩
                obtain ⟨r, hr⟩ : ∃ r, Sp.place (Sp.body s i) (day + 1) = r := ⟨_, rfl⟩
                obtain ⟨t, ht⟩ : ∃ t, Sp.place (Sp.body s j) day = t := ⟨_, rfl⟩
                have bp : 0 ≤ p ∧ p < 21600 := hp ▸ emod_bounds _ 21600 (by omega)
                have bq : 0 ≤ q ∧ q < 21600 := hq ▸ emod_bounds _ 21600 (by omega)
                have br : 0 ≤ r ∧ r < 21600 := hr ▸ emod_bounds _ 21600 (by omega)
                have bt : 0 ≤ t ∧ t < 21600 := ht ▸ emod_bounds _ 21600 (by omega)
                rw [hp, hq] at fa
                rw [hr, hq] at fb
                rw [hq, ht] at fc
                have HP := Lib.hid hp
                have HQ := Lib.hid hq
                have HRR := Lib.hid hr
                have HT := Lib.hid ht
                have HC := Lib.hid fc
                clear hp hq hr ht fc
                have s1 : Sp.spot p = true := inR_iff.2 ⟨by omega, by omega⟩
                have s2 : Sp.spot q = true := inR_iff.2 ⟨by omega, by omega⟩
                have s3 : Sp.spot r = true := inR_iff.2 ⟨by omega, by omega⟩
                have s4 : Sp.spot t = true := inR_iff.2 ⟨by omega, by omega⟩
                go_wp2_with fail
                refine (r_Sky_any s A c w1 (HM.out.ext HE1.out) hS.out).mono ?_
                rintro e w2 ⟨rfl, hE2⟩
                have HE2 := Lib.hid (HE1.out.trans hE2)
                have HR2 := Lib.hid (HR1.out.ext hE2)
                clear b1
                have b2 := HR2.out.cell
                clear hE2
                rw [h1]
                go_wp2_with fail
                refine (r_Body_any s A c _ _ _ i w2 (by omega)).mono ?_
                rintro e w3 ⟨rfl, hE3⟩
                have HE3 := Lib.hid (HE2.out.trans hE3)
                have HR3 := Lib.hid (HR2.out.ext hE3)
                clear b2
                have b3 := HR3.out.cell
                clear hE3
                rw [h2]
                go_wp2_with fail
                refine (r_Body_any s A c _ _ _ j w3 (by omega)).mono ?_
                rintro e w4 ⟨rfl, hE4⟩
                have HE4 := Lib.hid (HE3.out.trans hE4)
                have HR4 := Lib.hid (HR3.out.ext hE4)
                clear b3
                have b4 := HR4.out.cell
                clear hE4
                rw [h3]
                go_wp2_with fail
                refine (r_Day_any _ _).mono ?_
                rintro e w' ⟨rfl, rfl⟩
                rw [h5]
                go_wp2_with fail
                refine (Mean_ok s A c i day w4 (HM.out.ext HE4.out) hS.out h1 h2 h5).mono ?_
                rintro e w5 ⟨rfl, hE5⟩
                have HE5 := Lib.hid (HE4.out.trans hE5)
                have HR5 := Lib.hid (HR4.out.ext hE5)
                clear b4
                have b5 := HR5.out.cell
                clear hE5
                rw [HP.out]
                go_wp2_with fail
                refine (Place_ok s A c i day w5 (HM.out.ext HE5.out) hS.out h1 h2 h5).mono ?_
                rintro e w6 ⟨rfl, hE6⟩
                have HE6 := Lib.hid (HE5.out.trans hE6)
                have HR6 := Lib.hid (HR5.out.ext hE6)
                clear b5
                have b6 := HR6.out.cell
                clear hE6
                rw [HQ.out]
                go_wp2_with fail
                refine (Place_ok s A c i (day + 1) w6 (HM.out.ext HE6.out) hS.out h1 h2 h6).mono ?_
                rintro e w7 ⟨rfl, hE7⟩
                have HE7 := Lib.hid (HE6.out.trans hE7)
                have HR7 := Lib.hid (HR6.out.ext hE7)
                clear b6
                have b7 := HR7.out.cell
                clear hE7
                rw [HRR.out]
                go_wp2_with fail
                refine (Place_ok s A c j day w7 (HM.out.ext HE7.out) hS.out h1 h3 h5).mono ?_
                rintro e w8 ⟨rfl, hE8⟩
                have HE8 := Lib.hid (HE7.out.trans hE8)
                have HR8 := Lib.hid (HR7.out.ext hE8)
                clear b7
                have b8 := HR8.out.cell
                clear hE8
                rw [HT.out]
                go_wp2_with fail
                refine (Between_ok s A c i j day w8 (HM.out.ext HE8.out) hS.out h1 c1 h5).mono ?_
                rintro e w9 ⟨rfl, hE9⟩
                have HE9 := Lib.hid (HE8.out.trans hE9)
                have HR9 := Lib.hid (HR8.out.ext hE9)
                clear b8
                have b9 := HR9.out.cell
                clear hE9
                rw [HC.out]
                go_wp2_with fail
                refine (r_Spot_any _ _).mono ?_
                rintro e w' ⟨rfl, rfl⟩
                rw [s1]
                go_wp2_with fail
                refine (r_Spot_any _ _).mono ?_
                rintro e w' ⟨rfl, rfl⟩
                rw [s2]
                go_wp2_with fail
                refine (r_Spot_any _ _).mono ?_
                rintro e w' ⟨rfl, rfl⟩
                rw [s3]
                go_wp2_with fail
                refine (r_Spot_any _ _).mono ?_
                rintro e w' ⟨rfl, rfl⟩
                rw [s4]
                go_wp2_with fail
                refine (r_Apart_any _ _ _ (by omega) (by omega) (by omega) (by omega)).mono ?_
                rintro e w' ⟨rfl, rfl⟩
                go_wp2_with fail
                refine (r_Less_any _ _ (by omega) (by omega)).mono ?_
                rintro e w' ⟨rfl, rfl⟩
                go_wp2_with fail
                refine (r_Less_any _ _ (by omega) (by omega)).mono ?_
                rintro e w' ⟨rfl, rfl⟩
                go_wp2_with fail
                refine (known_any w9 (HV.out.ext HE9.out)).mono ?_
                rintro e w10 ⟨rfl, hE10⟩
                go_wp2_with fail
                go_ret
                exact ⟨rfl, HE9.out.trans hE10⟩
end Go.Proofs.YtlcddcnmoajpjaaGreatDoor
