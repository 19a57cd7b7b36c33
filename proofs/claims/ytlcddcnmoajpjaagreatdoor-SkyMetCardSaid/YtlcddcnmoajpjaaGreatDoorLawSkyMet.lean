/- The walk of the law SkyMet. (Printed by wip/mklaws1.py.) -/
import Derived.Test.YtlcddcnmoajpjaaGreatDoorLawSkyFirst
import Derived.Test.YtlcddcnmoajpjaaGreatDoorRefMeet
namespace Go.Proofs.YtlcddcnmoajpjaaGreatDoor
open Go.RowKit
open Sp (rd)
set_option linter.unusedSimpArgs false
set_option linter.unusedVariables false

theorem meetsL_in (s : Sp.Sky) (i j lo hi d : Int) (h1 : lo ≤ d) (h2 : d ≤ hi) : decide (d ∈ Sp.meetsL s i j lo hi) = Sp.meetB s i j d := by
  rw [Bool.eq_iff_iff, decide_eq_true_eq, meetsL_mem]
  simp [h1, h2]
theorem meetsL_swap (s : Sp.Sky) (i j lo hi : Int) : Sp.meetsL s j i lo hi = Sp.meetsL s i j lo hi := meetsN_swap s i j lo _
theorem near_best (s : Sp.Sky) (i j lo hi d : Int) (h1 : lo ≤ d) (h2 : d ≤ hi) : (lo ≤ Sp.nearL s i j lo hi ∧ Sp.nearL s i j lo hi ≤ hi) ∧ Sp.nearD s i j (Sp.nearL s i j lo hi) ≤ Sp.nearD s i j d ∧ (Sp.nearD s i j d = Sp.nearD s i j (Sp.nearL s i j lo hi) → Sp.nearL s i j lo hi ≤ d) := by
  have a := nearN_le s i j lo (hi - lo).toNat
  have b := nearN_best s i j lo (hi - lo).toNat d h1 (by omega)
  unfold Sp.nearL
  exact ⟨⟨a.1, by omega⟩, b⟩

set_option maxRecDepth 100000 in
set_option maxHeartbeats 20000000 in
theorem law_SkyMet (s : Sp.Sky) (A : Option Addr) (c : Nat) (i j lo hi day : Int) (w : World) (hV : Env w) (hm : Bodies w A s.bodies) (hl : Long s.bodies) :
    Calls Tryz.prog 18 #[.agg #[.slice A s.bodies.length c, .int .i64 s.nnum, .int .i64 s.nden, .int .i64 s.nstart], .int .i64 i, .int .i64 j, .int .i64 lo, .int .i64 hi, .int .i64 day] w fun e w' => e = .returned (.bool true) ∧ Ext w w' := by
  have HL := Lib.hid hl
  have HM := Lib.hid hm
  have HV := Lib.hid hV
  clear hm hl hV
  go_enter Tryz.func18, Tryz.ntmps18
  go_wp2_with fail
  have HR0 := Lib.hid (Row.new w 28 #[.slice A s.bodies.length c, .int .i64 s.nnum, .int .i64 s.nden, .int .i64 s.nstart])
  have HE0 : Hid (Ext w (w.alloc (.cells #[.slice A s.bodies.length c, .int .i64 s.nnum, .int .i64 s.nden, .int .i64 s.nstart] 28))) := Lib.hid ((Ext.refl w).alloc _)
  generalize w.alloc (.cells #[.slice A s.bodies.length c, .int .i64 s.nnum, .int .i64 s.nden, .int .i64 s.nstart] 28) = w0 at *
  have b0 := HR0.out.cell
  refine (short_any s A c w0 (HM.out.ext HE0.out) HL.out).mono ?_
  rintro e w1 ⟨rfl, hE1⟩
  have HE1 := Lib.hid (HE0.out.trans hE1)
  have HR1 := Lib.hid (HR0.out.ext hE1)
  clear b0
  have b1 := HR1.out.cell
  clear hE1
  cases hsh : shortB s.bodies with
  | false =>
    go_wp2_with fail
    refine (known_any w1 (HV.out.ext HE1.out)).mono ?_
    rintro e w2 ⟨rfl, hE2⟩
    go_wp2_with fail
    go_ret
    exact ⟨rfl, HE1.out.trans hE2⟩
  | true =>
    have hS := Lib.hid (short_of hsh)
    have hfew := few_of hsh
    clear hsh
    cases h1 : Sp.skyOk s with
    | false =>
      go_wp2_with fail
      refine (r_Sky_any s A c w1 (HM.out.ext HE1.out) hS.out).mono ?_
      rintro e w2 ⟨rfl, hE2⟩
      have HE2 := Lib.hid (HE1.out.trans hE2)
      have HR2 := Lib.hid (HR1.out.ext hE2)
      clear b1
      have b2 := HR2.out.cell
      clear hE2
      rw [h1]
      go_wp2_with fail
      refine (known_any w2 (HV.out.ext HE2.out)).mono ?_
      rintro e w3 ⟨rfl, hE3⟩
      go_wp2_with fail
      go_ret
      exact ⟨rfl, HE2.out.trans hE3⟩
    | true =>
      cases h2 : Sp.isBody s i with
      | false =>
        go_wp2_with fail
        refine (r_Sky_any s A c w1 (HM.out.ext HE1.out) hS.out).mono ?_
        rintro e w2 ⟨rfl, hE2⟩
        have HE2 := Lib.hid (HE1.out.trans hE2)
        have HR2 := Lib.hid (HR1.out.ext hE2)
        clear b1
        have b2 := HR2.out.cell
        clear hE2
        rw [h1]
        go_wp2_with fail
        refine (r_Body_any s A c _ _ _ i w2 (by omega)).mono ?_
        rintro e w3 ⟨rfl, hE3⟩
        have HE3 := Lib.hid (HE2.out.trans hE3)
        have HR3 := Lib.hid (HR2.out.ext hE3)
        clear b2
        have b3 := HR3.out.cell
        clear hE3
        rw [h2]
        go_wp2_with fail
        refine (known_any w3 (HV.out.ext HE3.out)).mono ?_
        rintro e w4 ⟨rfl, hE4⟩
        go_wp2_with fail
        go_ret
        exact ⟨rfl, HE3.out.trans hE4⟩
      | true =>
        cases h3 : Sp.isBody s j with
        | false =>
          go_wp2_with fail
          refine (r_Sky_any s A c w1 (HM.out.ext HE1.out) hS.out).mono ?_
          rintro e w2 ⟨rfl, hE2⟩
          have HE2 := Lib.hid (HE1.out.trans hE2)
          have HR2 := Lib.hid (HR1.out.ext hE2)
          clear b1
          have b2 := HR2.out.cell
          clear hE2
          rw [h1]
          go_wp2_with fail
          refine (r_Body_any s A c _ _ _ i w2 (by omega)).mono ?_
          rintro e w3 ⟨rfl, hE3⟩
          have HE3 := Lib.hid (HE2.out.trans hE3)
          have HR3 := Lib.hid (HR2.out.ext hE3)
          clear b2
          have b3 := HR3.out.cell
          clear hE3
          rw [h2]
          go_wp2_with fail
          refine (r_Body_any s A c _ _ _ j w3 (by omega)).mono ?_
          rintro e w4 ⟨rfl, hE4⟩
          have HE4 := Lib.hid (HE3.out.trans hE4)
          have HR4 := Lib.hid (HR3.out.ext hE4)
          clear b3
          have b4 := HR4.out.cell
          clear hE4
          rw [h3]
          go_wp2_with fail
          refine (known_any w4 (HV.out.ext HE4.out)).mono ?_
          rintro e w5 ⟨rfl, hE5⟩
          go_wp2_with fail
          go_ret
          exact ⟨rfl, HE4.out.trans hE5⟩
        | true =>
          cases h4 : (i != j) with
          | false =>
            obtain rfl : i = j := by simpa using h4
            clear h4
            go_wp2_with fail
            refine (r_Sky_any s A c w1 (HM.out.ext HE1.out) hS.out).mono ?_
            rintro e w2 ⟨rfl, hE2⟩
            have HE2 := Lib.hid (HE1.out.trans hE2)
            have HR2 := Lib.hid (HR1.out.ext hE2)
            clear b1
            have b2 := HR2.out.cell
            clear hE2
            rw [h1]
            go_wp2_with fail
            refine (r_Body_any s A c _ _ _ i w2 (by omega)).mono ?_
            rintro e w3 ⟨rfl, hE3⟩
            have HE3 := Lib.hid (HE2.out.trans hE3)
            have HR3 := Lib.hid (HR2.out.ext hE3)
            clear b2
            have b3 := HR3.out.cell
            clear hE3
            rw [h2]
            go_wp2_with fail
            refine (r_Body_any s A c _ _ _ i w3 (by omega)).mono ?_
            rintro e w4 ⟨rfl, hE4⟩
            have HE4 := Lib.hid (HE3.out.trans hE4)
            have HR4 := Lib.hid (HR3.out.ext hE4)
            clear b3
            have b4 := HR4.out.cell
            clear hE4
            rw [h3]
            go_wp2_with fail
            refine (known_any w4 (HV.out.ext HE4.out)).mono ?_
            rintro e w5 ⟨rfl, hE5⟩
            go_wp2_with fail
            go_ret
            exact ⟨rfl, HE4.out.trans hE5⟩
          | true =>
            cases h5 : Sp.isSpan lo hi with
            | false =>
              have hij : ¬ i = j := by simpa using h4
              have hije : (i == j) = false := by simpa using hij
              clear h4
              go_wp2_with fail
              refine (r_Sky_any s A c w1 (HM.out.ext HE1.out) hS.out).mono ?_
              rintro e w2 ⟨rfl, hE2⟩
              have HE2 := Lib.hid (HE1.out.trans hE2)
              have HR2 := Lib.hid (HR1.out.ext hE2)
              clear b1
              have b2 := HR2.out.cell
              clear hE2
              rw [h1]
              go_wp2_with fail
              refine (r_Body_any s A c _ _ _ i w2 (by omega)).mono ?_
              rintro e w3 ⟨rfl, hE3⟩
              have HE3 := Lib.hid (HE2.out.trans hE3)
              have HR3 := Lib.hid (HR2.out.ext hE3)
              clear b2
              have b3 := HR3.out.cell
              clear hE3
              rw [h2]
              go_wp2_with fail
              refine (r_Body_any s A c _ _ _ j w3 (by omega)).mono ?_
              rintro e w4 ⟨rfl, hE4⟩
              have HE4 := Lib.hid (HE3.out.trans hE4)
              have HR4 := Lib.hid (HR3.out.ext hE4)
              clear b3
              have b4 := HR4.out.cell
              clear hE4
              rw [h3]
              go_wp2_with fail
              refine (r_Span_any _ _ _).mono ?_
              rintro e w' ⟨rfl, rfl⟩
              rw [h5]
              go_wp2_with fail
              refine (known_any w4 (HV.out.ext HE4.out)).mono ?_
              rintro e w5 ⟨rfl, hE5⟩
              go_wp2_with fail
              go_ret
              exact ⟨rfl, HE4.out.trans hE5⟩
            | true =>
              have c1 : (Sp.isBody s i && (Sp.isBody s j && (i != j))) = true := by simp [h2, h3, h4]
              have c2 : (Sp.isBody s j && (Sp.isBody s i && (j != i))) = true := by simp only [h2, h3, Bool.true_and]; rw [bne_comm]; exact h4
              have HB2 := Lib.hid (two_of c1)
              have hij : ¬ i = j := by simpa using h4
              have hije : (i == j) = false := by simpa using hij
              clear h4
              by_cases ha : day < lo
              case pos =>
                go_wp2_with fail
                refine (r_Sky_any s A c w1 (HM.out.ext HE1.out) hS.out).mono ?_
                rintro e w2 ⟨rfl, hE2⟩
                have HE2 := Lib.hid (HE1.out.trans hE2)
                have HR2 := Lib.hid (HR1.out.ext hE2)
                clear b1
                have b2 := HR2.out.cell
                clear hE2
                rw [h1]
                go_wp2_with fail
                refine (r_Body_any s A c _ _ _ i w2 (by omega)).mono ?_
                rintro e w3 ⟨rfl, hE3⟩
                have HE3 := Lib.hid (HE2.out.trans hE3)
                have HR3 := Lib.hid (HR2.out.ext hE3)
                clear b2
                have b3 := HR3.out.cell
                clear hE3
                rw [h2]
                go_wp2_with fail
                refine (r_Body_any s A c _ _ _ j w3 (by omega)).mono ?_
                rintro e w4 ⟨rfl, hE4⟩
                have HE4 := Lib.hid (HE3.out.trans hE4)
                have HR4 := Lib.hid (HR3.out.ext hE4)
                clear b3
                have b4 := HR4.out.cell
                clear hE4
                rw [h3]
                go_wp2_with fail
                refine (r_Span_any _ _ _).mono ?_
                rintro e w' ⟨rfl, rfl⟩
                rw [h5]
                go_wp2_with fail
                refine (known_any w4 (HV.out.ext HE4.out)).mono ?_
                rintro e w5 ⟨rfl, hE5⟩
                go_wp2_with fail
                go_ret
                exact ⟨rfl, HE4.out.trans hE5⟩
              case neg =>
                by_cases hb : hi < day
                case pos =>
                  go_wp2_with fail
                  refine (r_Sky_any s A c w1 (HM.out.ext HE1.out) hS.out).mono ?_
                  rintro e w2 ⟨rfl, hE2⟩
                  have HE2 := Lib.hid (HE1.out.trans hE2)
                  have HR2 := Lib.hid (HR1.out.ext hE2)
                  clear b1
                  have b2 := HR2.out.cell
                  clear hE2
                  rw [h1]
                  go_wp2_with fail
                  refine (r_Body_any s A c _ _ _ i w2 (by omega)).mono ?_
                  rintro e w3 ⟨rfl, hE3⟩
                  have HE3 := Lib.hid (HE2.out.trans hE3)
                  have HR3 := Lib.hid (HR2.out.ext hE3)
                  clear b2
                  have b3 := HR3.out.cell
                  clear hE3
                  rw [h2]
                  go_wp2_with fail
                  refine (r_Body_any s A c _ _ _ j w3 (by omega)).mono ?_
                  rintro e w4 ⟨rfl, hE4⟩
                  have HE4 := Lib.hid (HE3.out.trans hE4)
                  have HR4 := Lib.hid (HR3.out.ext hE4)
                  clear b3
                  have b4 := HR4.out.cell
                  clear hE4
                  rw [h3]
                  go_wp2_with fail
                  refine (r_Span_any _ _ _).mono ?_
                  rintro e w' ⟨rfl, rfl⟩
                  rw [h5]
                  go_wp2_with fail
                  refine (known_any w4 (HV.out.ext HE4.out)).mono ?_
                  rintro e w5 ⟨rfl, hE5⟩
                  go_wp2_with fail
                  go_ret
                  exact ⟨rfl, HE4.out.trans hE5⟩
                case neg =>
                  have hsp := span_of h5
                  have h6 : Sp.isDay day = true := inR_iff.2 ⟨by omega, by omega⟩
                  have HIN := Lib.hid (meetsL_in s i j lo hi day (by omega) (by omega))
                  have hlen := meetsN_length s i j lo (hi + 1 - lo).toNat
                  have hl8 : (Sp.meetsL s i j lo hi).length ≤ 801 := by unfold Sp.meetsL; omega
                  have HLEN : Hid ((Sp.meetsL s i j lo hi).length ≤ 100000) := Lib.hid (by omega)
                  clear hlen
                  obtain ⟨⟨n1, n2⟩, n3, n4⟩ := near_best s i j lo hi day (by omega) (by omega)
                  have hd0 := nearD_lim s i j day
                  have hd1 := nearD_lim s i j (Sp.nearL s i j lo hi)
                  have fap := near_apart s i j day
                  obtain ⟨q, hq⟩ : ∃ q, Sp.place (Sp.body s i) day = q := ⟨_, rfl⟩
                  obtain ⟨t, ht⟩ : ∃ t, Sp.place (Sp.body s j) day = t := ⟨_, rfl⟩
                  have bq : 0 ≤ q ∧ q < 21600 := hq ▸ emod_bounds _ 21600 (by omega)
                  have bt : 0 ≤ t ∧ t < 21600 := ht ▸ emod_bounds _ 21600 (by omega)
                  have s2 : Sp.spot q = true := inR_iff.2 ⟨by omega, by omega⟩
                  have s4 : Sp.spot t = true := inR_iff.2 ⟨by omega, by omega⟩
                  rw [hq, ht] at fap
                  have HQ := Lib.hid hq
                  have HT := Lib.hid ht
                  clear hq ht
                  obtain ⟨at0, hat⟩ : ∃ at0, Sp.nearL s i j lo hi = at0 := ⟨_, rfl⟩
                  rw [hat] at n1 n2 n3 n4 hd1
                  obtain ⟨df, hdf⟩ : ∃ df, Sp.nearD s i j at0 = df := ⟨_, rfl⟩
                  rw [hdf] at n3 n4 hd1
                  obtain ⟨dd, hdd⟩ : ∃ dd, Sp.nearD s i j day = dd := ⟨_, rfl⟩
                  rw [hdd] at n3 n4 hd0 fap
                  have hsame : day = at0 → dd = df := fun e => by rw [← hdd, ← hdf, e]
                  have HNR : Hid (Sp.nearL s i j lo hi = at0 ∧ Sp.nearD s i j (Sp.nearL s i j lo hi) = df) := Lib.hid ⟨hat, by rw [hat, hdf]⟩
                  have HAP := Lib.hid fap
                  clear fap hat hdf hdd
                  go_wp2_with fail
                  refine (r_Sky_any s A c w1 (HM.out.ext HE1.out) hS.out).mono ?_
                  rintro e w2 ⟨rfl, hE2⟩
                  have HE2 := Lib.hid (HE1.out.trans hE2)
                  have HR2 := Lib.hid (HR1.out.ext hE2)
                  clear b1
                  have b2 := HR2.out.cell
                  clear hE2
                  rw [h1]
                  go_wp2_with fail
                  refine (r_Body_any s A c _ _ _ i w2 (by omega)).mono ?_
                  rintro e w3 ⟨rfl, hE3⟩
                  have HE3 := Lib.hid (HE2.out.trans hE3)
                  have HR3 := Lib.hid (HR2.out.ext hE3)
                  clear b2
                  have b3 := HR3.out.cell
                  clear hE3
                  rw [h2]
                  go_wp2_with fail
                  refine (r_Body_any s A c _ _ _ j w3 (by omega)).mono ?_
                  rintro e w4 ⟨rfl, hE4⟩
                  have HE4 := Lib.hid (HE3.out.trans hE4)
                  have HR4 := Lib.hid (HR3.out.ext hE4)
                  clear b3
                  have b4 := HR4.out.cell
                  clear hE4
                  rw [h3]
                  go_wp2_with fail
                  refine (r_Span_any _ _ _).mono ?_
                  rintro e w' ⟨rfl, rfl⟩
                  rw [h5]
                  go_wp2_with fail
                  refine (Meets_ok s A c i j lo hi w4 (HM.out.ext HE4.out) hS.out h1 c1 h5).mono ?_
                  rintro e w5 ⟨v, rfl, hHV1, hE5⟩
                  have HE5 := Lib.hid (HE4.out.trans hE5)
                  have HR5 := Lib.hid (HR4.out.ext hE5)
                  clear b4
                  have b5 := HR5.out.cell
                  clear hE5
                  have HV1 := Lib.hid hHV1
                  clear hHV1
                  go_wp2_with fail
                  refine (Meets_ok s A c j i lo hi w5 (HM.out.ext HE5.out) hS.out h1 c2 h5).mono ?_
                  rintro e w6 ⟨v2, rfl, hHV2, hE6⟩
                  have HE6 := Lib.hid (HE5.out.trans hE6)
                  have HR6 := Lib.hid (HR5.out.ext hE6)
                  clear b5
                  have b6 := HR6.out.cell
                  replace HV1 := Lib.hid (HV1.out.ext hE6)
                  clear hE6
                  have HV2 := Lib.hid hHV2
                  clear hHV2
                  rw [meetsL_swap] at HV2
                  go_wp2_with fail
                  refine (Near_ok s A c i j lo hi w6 (HM.out.ext HE6.out) hS.out h1 c1 h5).mono ?_
                  rintro e w7 ⟨rfl, hE7⟩
                  have HE7 := Lib.hid (HE6.out.trans hE7)
                  have HR7 := Lib.hid (HR6.out.ext hE7)
                  clear b6
                  have b7 := HR7.out.cell
                  replace HV1 := Lib.hid (HV1.out.ext hE7)
                  replace HV2 := Lib.hid (HV2.out.ext hE7)
                  clear hE7
                  rw [HNR.out.2, HNR.out.1]
                  go_wp2_with fail
                  refine (Place_ok s A c i day w7 (HM.out.ext HE7.out) hS.out h1 h2 h6).mono ?_
                  rintro e w8 ⟨rfl, hE8⟩
                  have HE8 := Lib.hid (HE7.out.trans hE8)
                  have HR8 := Lib.hid (HR7.out.ext hE8)
                  clear b7
                  have b8 := HR8.out.cell
                  replace HV1 := Lib.hid (HV1.out.ext hE8)
                  replace HV2 := Lib.hid (HV2.out.ext hE8)
                  clear hE8
                  rw [HQ.out]
                  go_wp2_with fail
                  refine (Place_ok s A c j day w8 (HM.out.ext HE8.out) hS.out h1 h3 h6).mono ?_
                  rintro e w9 ⟨rfl, hE9⟩
                  have HE9 := Lib.hid (HE8.out.trans hE9)
                  have HR9 := Lib.hid (HR8.out.ext hE9)
                  clear b8
                  have b9 := HR9.out.cell
                  replace HV1 := Lib.hid (HV1.out.ext hE9)
                  replace HV2 := Lib.hid (HV2.out.ext hE9)
                  clear hE9
                  rw [HT.out]
                  obtain ⟨AM, cM, hveq, _⟩ := HV1.out
                  subst hveq
                  go_wp2_with fail
                  refine (r_Same_any _ v2 _ _ w9 HV1.out HV2.out HLEN.out HLEN.out).mono ?_
                  rintro e w10 ⟨rfl, hE10⟩
                  have HE10 := Lib.hid (HE9.out.trans hE10)
                  have HR10 := Lib.hid (HR9.out.ext hE10)
                  clear b9
                  have b10 := HR10.out.cell
                  replace HV1 := Lib.hid (HV1.out.ext hE10)
                  replace HV2 := Lib.hid (HV2.out.ext hE10)
                  clear hE10
                  simp only [decide_true]
                  go_wp2_with fail
                  refine (r_Spot_any _ _).mono ?_
                  rintro e w' ⟨rfl, rfl⟩
                  rw [s2]
                  go_wp2_with fail
                  refine (r_Spot_any _ _).mono ?_
                  rintro e w' ⟨rfl, rfl⟩
                  rw [s4]
                  cases p1 : Sp.passes (Sp.ahead s i j (day - 1) - 0) (Sp.ahead s i j day - 0)
                  · cases p2 : Sp.passes (Sp.ahead s j i (day - 1) - 0) (Sp.ahead s j i day - 0)
                    · have hB : Sp.meetB s i j day = false := by
                        unfold Sp.meetB
                        rw [ahead_swap s i j day, ahead_swap s i j (day - 1)] at p2
                        simp only [Int.sub_zero] at p1 p2
                        rw [p1, p2]; rfl
                      go_wp2_with fail
                      refine wp_region_later (by kernel_rfl) (by kernel_rfl) (fun W hW => ?_)
                      subst hW
                      have q1 := Later.block (w := W) HR10.out
                      have HVX := Lib.hid (fun X : Later W => HV1.out.ext X.ext)
                      have HBX := Lib.hid (fun X : Later W => HM.out.ext (HE10.out.trans X.ext))
                      repeat (go_big_quiet_step (fail))
                      go_big_quiet_step ((go_at_call 67; exact Later.call ((hasN_any _ (Sp.meetsL s i j lo hi) day _ (by exact HVX.out _) HLEN.out).mono fun _ _ h => ⟨by rw [h.1, HIN.out, hB], h.2⟩)))
                      repeat (go_big_quiet_step (fail))
                      go_big_quiet_step ((go_at_call 32; exact Later.call ((crossed_any s A c i j day 0 _ (by exact HBX.out _) hS.out h1 c1 (by omega) (by omega) (by omega)).mono fun _ _ h => ⟨by rw [h.1, p1], h.2⟩)))
                      repeat (go_big_quiet_step (fail))
                      go_big_quiet_step ((go_at_call 32; exact Later.call ((crossed_any s A c j i day 0 _ (by exact HBX.out _) hS.out h1 c2 (by omega) (by omega) (by omega)).mono fun _ _ h => ⟨by rw [h.1, p2], h.2⟩)))
                      repeat (go_big_quiet_step (fail))
                      refine wpQuiet_nil ?_
                      rintro ⟨w11, hE11⟩
                      dsimp only
                      clear q1
                      have HE11 := Lib.hid (HE10.out.trans hE11)
                      have HR11 := Lib.hid (HR10.out.ext hE11)
                      clear b10
                      have b11 := HR11.out.cell
                      replace HV1 := Lib.hid (HV1.out.ext hE11)
                      replace HV2 := Lib.hid (HV2.out.ext hE11)
                      clear hE11
                      go_wp2_with fail
                      refine (r_Apart_any _ _ _ (by omega) (by omega) (by omega) (by omega)).mono ?_
                      rintro e w' ⟨rfl, rfl⟩
                      rw [HAP.out]
                      by_cases e1 : dd = df
                      · have e2 := n4 e1
                        subst e1
                        clear n4 hsame
                        cases hda : (day == at0) with
                        | false =>
                          by_cases o1 : 1 < i
                          · skip
                            go_wp2_with fail
                            refine (known_any w11 (HV.out.ext HE11.out)).mono ?_
                            rintro e w12 ⟨rfl, hE12⟩
                            go_wp2_with fail
                            go_ret
                            exact ⟨rfl, HE11.out.trans hE12⟩
                          · by_cases o2 : 1 < j
                            · skip
                              go_wp2_with fail
                              refine (known_any w11 (HV.out.ext HE11.out)).mono ?_
                              rintro e w12 ⟨rfl, hE12⟩
                              go_wp2_with fail
                              go_ret
                              exact ⟨rfl, HE11.out.trans hE12⟩
                            · have h7 : Sp.isSpan day day = true := by simp [Sp.isSpan, Sp.inR]; omega
                              have HT2 := Lib.hid (moons_two s day)
                              have HO1 := Lib.hid (moons_one s day false)
                              have ht := HT2.out
                              go_wp2_with fail
                              refine (Moons_ok s A c day day w11 (HM.out.ext HE11.out) hS.out h1 h7).mono ?_
                              rintro e w12 ⟨v3, rfl, hHV3, hE12⟩
                              have HE12 := Lib.hid (HE11.out.trans hE12)
                              have HR12 := Lib.hid (HR11.out.ext hE12)
                              clear b11
                              have b12 := HR12.out.cell
                              replace HV1 := Lib.hid (HV1.out.ext hE12)
                              replace HV2 := Lib.hid (HV2.out.ext hE12)
                              clear hE12
                              have HV3 := Lib.hid hHV3
                              clear hHV3
                              obtain ⟨A1, c3, rfl, _⟩ := HV3.out
                              go_wp2_with fail
                              refine (listed_any _ _ day false w12 HV3.out (by omega)).mono ?_
                              rintro e w13 ⟨rfl, hE13⟩
                              have HE13 := Lib.hid (HE12.out.trans hE13)
                              have HR13 := Lib.hid (HR12.out.ext hE13)
                              clear b12
                              have b13 := HR13.out.cell
                              replace HV1 := Lib.hid (HV1.out.ext hE13)
                              replace HV2 := Lib.hid (HV2.out.ext hE13)
                              replace HV3 := Lib.hid (HV3.out.ext hE13)
                              clear hE13
                              rw [HO1.out]
                              have hmo : Sp.moonB s day false = false := by
                                cases hmo : Sp.moonB s day false
                                · rfl
                                · have h9 := moon_meets s day hmo
                                  have hh := HB2.out
                                  rcases (show (i = 1 ∧ j = 0) ∨ (i = 0 ∧ j = 1) by omega) with ⟨rfl, rfl⟩ | ⟨rfl, rfl⟩
                                  · rw [h9] at hB; cases hB
                                  · rw [meetB_swap, h9] at hB; cases hB
                              rw [hmo]
                              go_wp2_with fail
                              refine (known_any w13 (HV.out.ext HE13.out)).mono ?_
                              rintro e w14 ⟨rfl, hE14⟩
                              go_wp2_with fail
                              go_ret
                              exact ⟨rfl, HE13.out.trans hE14⟩
                        | true =>
                          by_cases o1 : 1 < i
                          · skip
                            go_wp2_with fail
                            refine (known_any w11 (HV.out.ext HE11.out)).mono ?_
                            rintro e w12 ⟨rfl, hE12⟩
                            go_wp2_with fail
                            go_ret
                            exact ⟨rfl, HE11.out.trans hE12⟩
                          · by_cases o2 : 1 < j
                            · skip
                              go_wp2_with fail
                              refine (known_any w11 (HV.out.ext HE11.out)).mono ?_
                              rintro e w12 ⟨rfl, hE12⟩
                              go_wp2_with fail
                              go_ret
                              exact ⟨rfl, HE11.out.trans hE12⟩
                            · have h7 : Sp.isSpan day day = true := by simp [Sp.isSpan, Sp.inR]; omega
                              have HT2 := Lib.hid (moons_two s day)
                              have HO1 := Lib.hid (moons_one s day false)
                              have ht := HT2.out
                              go_wp2_with fail
                              refine (Moons_ok s A c day day w11 (HM.out.ext HE11.out) hS.out h1 h7).mono ?_
                              rintro e w12 ⟨v3, rfl, hHV3, hE12⟩
                              have HE12 := Lib.hid (HE11.out.trans hE12)
                              have HR12 := Lib.hid (HR11.out.ext hE12)
                              clear b11
                              have b12 := HR12.out.cell
                              replace HV1 := Lib.hid (HV1.out.ext hE12)
                              replace HV2 := Lib.hid (HV2.out.ext hE12)
                              clear hE12
                              have HV3 := Lib.hid hHV3
                              clear hHV3
                              obtain ⟨A1, c3, rfl, _⟩ := HV3.out
                              go_wp2_with fail
                              refine (listed_any _ _ day false w12 HV3.out (by omega)).mono ?_
                              rintro e w13 ⟨rfl, hE13⟩
                              have HE13 := Lib.hid (HE12.out.trans hE13)
                              have HR13 := Lib.hid (HR12.out.ext hE13)
                              clear b12
                              have b13 := HR13.out.cell
                              replace HV1 := Lib.hid (HV1.out.ext hE13)
                              replace HV2 := Lib.hid (HV2.out.ext hE13)
                              replace HV3 := Lib.hid (HV3.out.ext hE13)
                              clear hE13
                              rw [HO1.out]
                              have hmo : Sp.moonB s day false = false := by
                                cases hmo : Sp.moonB s day false
                                · rfl
                                · have h9 := moon_meets s day hmo
                                  have hh := HB2.out
                                  rcases (show (i = 1 ∧ j = 0) ∨ (i = 0 ∧ j = 1) by omega) with ⟨rfl, rfl⟩ | ⟨rfl, rfl⟩
                                  · rw [h9] at hB; cases hB
                                  · rw [meetB_swap, h9] at hB; cases hB
                              rw [hmo]
                              go_wp2_with fail
                              refine (known_any w13 (HV.out.ext HE13.out)).mono ?_
                              rintro e w14 ⟨rfl, hE14⟩
                              go_wp2_with fail
                              go_ret
                              exact ⟨rfl, HE13.out.trans hE14⟩
                      · have hda : (day == at0) = false := by simpa using fun e => e1 (hsame e)
                        have hdf : (dd == df) = false := by simpa using e1
                        clear n4 hsame
                        by_cases o1 : 1 < i
                        · skip
                          go_wp2_with fail
                          refine (known_any w11 (HV.out.ext HE11.out)).mono ?_
                          rintro e w12 ⟨rfl, hE12⟩
                          go_wp2_with fail
                          go_ret
                          exact ⟨rfl, HE11.out.trans hE12⟩
                        · by_cases o2 : 1 < j
                          · skip
                            go_wp2_with fail
                            refine (known_any w11 (HV.out.ext HE11.out)).mono ?_
                            rintro e w12 ⟨rfl, hE12⟩
                            go_wp2_with fail
                            go_ret
                            exact ⟨rfl, HE11.out.trans hE12⟩
                          · have h7 : Sp.isSpan day day = true := by simp [Sp.isSpan, Sp.inR]; omega
                            have HT2 := Lib.hid (moons_two s day)
                            have HO1 := Lib.hid (moons_one s day false)
                            have ht := HT2.out
                            go_wp2_with fail
                            refine (Moons_ok s A c day day w11 (HM.out.ext HE11.out) hS.out h1 h7).mono ?_
                            rintro e w12 ⟨v3, rfl, hHV3, hE12⟩
                            have HE12 := Lib.hid (HE11.out.trans hE12)
                            have HR12 := Lib.hid (HR11.out.ext hE12)
                            clear b11
                            have b12 := HR12.out.cell
                            replace HV1 := Lib.hid (HV1.out.ext hE12)
                            replace HV2 := Lib.hid (HV2.out.ext hE12)
                            clear hE12
                            have HV3 := Lib.hid hHV3
                            clear hHV3
                            obtain ⟨A1, c3, rfl, _⟩ := HV3.out
                            go_wp2_with fail
                            refine (listed_any _ _ day false w12 HV3.out (by omega)).mono ?_
                            rintro e w13 ⟨rfl, hE13⟩
                            have HE13 := Lib.hid (HE12.out.trans hE13)
                            have HR13 := Lib.hid (HR12.out.ext hE13)
                            clear b12
                            have b13 := HR13.out.cell
                            replace HV1 := Lib.hid (HV1.out.ext hE13)
                            replace HV2 := Lib.hid (HV2.out.ext hE13)
                            replace HV3 := Lib.hid (HV3.out.ext hE13)
                            clear hE13
                            rw [HO1.out]
                            have hmo : Sp.moonB s day false = false := by
                              cases hmo : Sp.moonB s day false
                              · rfl
                              · have h9 := moon_meets s day hmo
                                have hh := HB2.out
                                rcases (show (i = 1 ∧ j = 0) ∨ (i = 0 ∧ j = 1) by omega) with ⟨rfl, rfl⟩ | ⟨rfl, rfl⟩
                                · rw [h9] at hB; cases hB
                                · rw [meetB_swap, h9] at hB; cases hB
                            rw [hmo]
                            go_wp2_with fail
                            refine (known_any w13 (HV.out.ext HE13.out)).mono ?_
                            rintro e w14 ⟨rfl, hE14⟩
                            go_wp2_with fail
                            go_ret
                            exact ⟨rfl, HE13.out.trans hE14⟩
                    · have hB : Sp.meetB s i j day = true := by
                        unfold Sp.meetB
                        rw [ahead_swap s i j day, ahead_swap s i j (day - 1)] at p2
                        simp only [Int.sub_zero] at p1 p2
                        rw [p1, p2]; rfl
                      go_wp2_with fail
                      refine wp_region_later (by kernel_rfl) (by kernel_rfl) (fun W hW => ?_)
                      subst hW
                      have q1 := Later.block (w := W) HR10.out
                      have HVX := Lib.hid (fun X : Later W => HV1.out.ext X.ext)
                      have HBX := Lib.hid (fun X : Later W => HM.out.ext (HE10.out.trans X.ext))
                      repeat (go_big_quiet_step (fail))
                      go_big_quiet_step ((go_at_call 67; exact Later.call ((hasN_any _ (Sp.meetsL s i j lo hi) day _ (by exact HVX.out _) HLEN.out).mono fun _ _ h => ⟨by rw [h.1, HIN.out, hB], h.2⟩)))
                      repeat (go_big_quiet_step (fail))
                      go_big_quiet_step ((go_at_call 32; exact Later.call ((crossed_any s A c i j day 0 _ (by exact HBX.out _) hS.out h1 c1 (by omega) (by omega) (by omega)).mono fun _ _ h => ⟨by rw [h.1, p1], h.2⟩)))
                      repeat (go_big_quiet_step (fail))
                      go_big_quiet_step ((go_at_call 32; exact Later.call ((crossed_any s A c j i day 0 _ (by exact HBX.out _) hS.out h1 c2 (by omega) (by omega) (by omega)).mono fun _ _ h => ⟨by rw [h.1, p2], h.2⟩)))
                      repeat (go_big_quiet_step (fail))
                      refine wpQuiet_nil ?_
                      rintro ⟨w11, hE11⟩
                      dsimp only
                      clear q1
                      have HE11 := Lib.hid (HE10.out.trans hE11)
                      have HR11 := Lib.hid (HR10.out.ext hE11)
                      clear b10
                      have b11 := HR11.out.cell
                      replace HV1 := Lib.hid (HV1.out.ext hE11)
                      replace HV2 := Lib.hid (HV2.out.ext hE11)
                      clear hE11
                      go_wp2_with fail
                      refine (r_Apart_any _ _ _ (by omega) (by omega) (by omega) (by omega)).mono ?_
                      rintro e w' ⟨rfl, rfl⟩
                      rw [HAP.out]
                      by_cases e1 : dd = df
                      · have e2 := n4 e1
                        subst e1
                        clear n4 hsame
                        cases hda : (day == at0) with
                        | false =>
                          by_cases o1 : 1 < i
                          · skip
                            go_wp2_with fail
                            refine (known_any w11 (HV.out.ext HE11.out)).mono ?_
                            rintro e w12 ⟨rfl, hE12⟩
                            go_wp2_with fail
                            go_ret
                            exact ⟨rfl, HE11.out.trans hE12⟩
                          · by_cases o2 : 1 < j
                            · skip
                              go_wp2_with fail
                              refine (known_any w11 (HV.out.ext HE11.out)).mono ?_
                              rintro e w12 ⟨rfl, hE12⟩
                              go_wp2_with fail
                              go_ret
                              exact ⟨rfl, HE11.out.trans hE12⟩
                            · have h7 : Sp.isSpan day day = true := by simp [Sp.isSpan, Sp.inR]; omega
                              have HT2 := Lib.hid (moons_two s day)
                              have HO1 := Lib.hid (moons_one s day false)
                              have ht := HT2.out
                              go_wp2_with fail
                              refine (Moons_ok s A c day day w11 (HM.out.ext HE11.out) hS.out h1 h7).mono ?_
                              rintro e w12 ⟨v3, rfl, hHV3, hE12⟩
                              have HE12 := Lib.hid (HE11.out.trans hE12)
                              have HR12 := Lib.hid (HR11.out.ext hE12)
                              clear b11
                              have b12 := HR12.out.cell
                              replace HV1 := Lib.hid (HV1.out.ext hE12)
                              replace HV2 := Lib.hid (HV2.out.ext hE12)
                              clear hE12
                              have HV3 := Lib.hid hHV3
                              clear hHV3
                              obtain ⟨A1, c3, rfl, _⟩ := HV3.out
                              go_wp2_with fail
                              refine (listed_any _ _ day false w12 HV3.out (by omega)).mono ?_
                              rintro e w13 ⟨rfl, hE13⟩
                              have HE13 := Lib.hid (HE12.out.trans hE13)
                              have HR13 := Lib.hid (HR12.out.ext hE13)
                              clear b12
                              have b13 := HR13.out.cell
                              replace HV1 := Lib.hid (HV1.out.ext hE13)
                              replace HV2 := Lib.hid (HV2.out.ext hE13)
                              replace HV3 := Lib.hid (HV3.out.ext hE13)
                              clear hE13
                              rw [HO1.out]
                              cases hmo : Sp.moonB s day false
                              · skip
                                go_wp2_with fail
                                refine (known_any w13 (HV.out.ext HE13.out)).mono ?_
                                rintro e w14 ⟨rfl, hE14⟩
                                go_wp2_with fail
                                go_ret
                                exact ⟨rfl, HE13.out.trans hE14⟩
                              · skip
                                go_wp2_with fail
                                refine (hasN_any _ _ day w13 HV1.out HLEN.out).mono ?_
                                rintro e w14 ⟨rfl, hE14⟩
                                have HE14 := Lib.hid (HE13.out.trans hE14)
                                have HR14 := Lib.hid (HR13.out.ext hE14)
                                clear b13
                                have b14 := HR14.out.cell
                                replace HV1 := Lib.hid (HV1.out.ext hE14)
                                replace HV2 := Lib.hid (HV2.out.ext hE14)
                                replace HV3 := Lib.hid (HV3.out.ext hE14)
                                clear hE14
                                rw [HIN.out, hB]
                                go_wp2_with fail
                                refine (known_any w14 (HV.out.ext HE14.out)).mono ?_
                                rintro e w15 ⟨rfl, hE15⟩
                                go_wp2_with fail
                                go_ret
                                exact ⟨rfl, HE14.out.trans hE15⟩
                        | true =>
                          by_cases o1 : 1 < i
                          · skip
                            go_wp2_with fail
                            refine (known_any w11 (HV.out.ext HE11.out)).mono ?_
                            rintro e w12 ⟨rfl, hE12⟩
                            go_wp2_with fail
                            go_ret
                            exact ⟨rfl, HE11.out.trans hE12⟩
                          · by_cases o2 : 1 < j
                            · skip
                              go_wp2_with fail
                              refine (known_any w11 (HV.out.ext HE11.out)).mono ?_
                              rintro e w12 ⟨rfl, hE12⟩
                              go_wp2_with fail
                              go_ret
                              exact ⟨rfl, HE11.out.trans hE12⟩
                            · have h7 : Sp.isSpan day day = true := by simp [Sp.isSpan, Sp.inR]; omega
                              have HT2 := Lib.hid (moons_two s day)
                              have HO1 := Lib.hid (moons_one s day false)
                              have ht := HT2.out
                              go_wp2_with fail
                              refine (Moons_ok s A c day day w11 (HM.out.ext HE11.out) hS.out h1 h7).mono ?_
                              rintro e w12 ⟨v3, rfl, hHV3, hE12⟩
                              have HE12 := Lib.hid (HE11.out.trans hE12)
                              have HR12 := Lib.hid (HR11.out.ext hE12)
                              clear b11
                              have b12 := HR12.out.cell
                              replace HV1 := Lib.hid (HV1.out.ext hE12)
                              replace HV2 := Lib.hid (HV2.out.ext hE12)
                              clear hE12
                              have HV3 := Lib.hid hHV3
                              clear hHV3
                              obtain ⟨A1, c3, rfl, _⟩ := HV3.out
                              go_wp2_with fail
                              refine (listed_any _ _ day false w12 HV3.out (by omega)).mono ?_
                              rintro e w13 ⟨rfl, hE13⟩
                              have HE13 := Lib.hid (HE12.out.trans hE13)
                              have HR13 := Lib.hid (HR12.out.ext hE13)
                              clear b12
                              have b13 := HR13.out.cell
                              replace HV1 := Lib.hid (HV1.out.ext hE13)
                              replace HV2 := Lib.hid (HV2.out.ext hE13)
                              replace HV3 := Lib.hid (HV3.out.ext hE13)
                              clear hE13
                              rw [HO1.out]
                              cases hmo : Sp.moonB s day false
                              · skip
                                go_wp2_with fail
                                refine (known_any w13 (HV.out.ext HE13.out)).mono ?_
                                rintro e w14 ⟨rfl, hE14⟩
                                go_wp2_with fail
                                go_ret
                                exact ⟨rfl, HE13.out.trans hE14⟩
                              · skip
                                go_wp2_with fail
                                refine (hasN_any _ _ day w13 HV1.out HLEN.out).mono ?_
                                rintro e w14 ⟨rfl, hE14⟩
                                have HE14 := Lib.hid (HE13.out.trans hE14)
                                have HR14 := Lib.hid (HR13.out.ext hE14)
                                clear b13
                                have b14 := HR14.out.cell
                                replace HV1 := Lib.hid (HV1.out.ext hE14)
                                replace HV2 := Lib.hid (HV2.out.ext hE14)
                                replace HV3 := Lib.hid (HV3.out.ext hE14)
                                clear hE14
                                rw [HIN.out, hB]
                                go_wp2_with fail
                                refine (known_any w14 (HV.out.ext HE14.out)).mono ?_
                                rintro e w15 ⟨rfl, hE15⟩
                                go_wp2_with fail
                                go_ret
                                exact ⟨rfl, HE14.out.trans hE15⟩
                      · have hda : (day == at0) = false := by simpa using fun e => e1 (hsame e)
                        have hdf : (dd == df) = false := by simpa using e1
                        clear n4 hsame
                        by_cases o1 : 1 < i
                        · skip
                          go_wp2_with fail
                          refine (known_any w11 (HV.out.ext HE11.out)).mono ?_
                          rintro e w12 ⟨rfl, hE12⟩
                          go_wp2_with fail
                          go_ret
                          exact ⟨rfl, HE11.out.trans hE12⟩
                        · by_cases o2 : 1 < j
                          · skip
                            go_wp2_with fail
                            refine (known_any w11 (HV.out.ext HE11.out)).mono ?_
                            rintro e w12 ⟨rfl, hE12⟩
                            go_wp2_with fail
                            go_ret
                            exact ⟨rfl, HE11.out.trans hE12⟩
                          · have h7 : Sp.isSpan day day = true := by simp [Sp.isSpan, Sp.inR]; omega
                            have HT2 := Lib.hid (moons_two s day)
                            have HO1 := Lib.hid (moons_one s day false)
                            have ht := HT2.out
                            go_wp2_with fail
                            refine (Moons_ok s A c day day w11 (HM.out.ext HE11.out) hS.out h1 h7).mono ?_
                            rintro e w12 ⟨v3, rfl, hHV3, hE12⟩
                            have HE12 := Lib.hid (HE11.out.trans hE12)
                            have HR12 := Lib.hid (HR11.out.ext hE12)
                            clear b11
                            have b12 := HR12.out.cell
                            replace HV1 := Lib.hid (HV1.out.ext hE12)
                            replace HV2 := Lib.hid (HV2.out.ext hE12)
                            clear hE12
                            have HV3 := Lib.hid hHV3
                            clear hHV3
                            obtain ⟨A1, c3, rfl, _⟩ := HV3.out
                            go_wp2_with fail
                            refine (listed_any _ _ day false w12 HV3.out (by omega)).mono ?_
                            rintro e w13 ⟨rfl, hE13⟩
                            have HE13 := Lib.hid (HE12.out.trans hE13)
                            have HR13 := Lib.hid (HR12.out.ext hE13)
                            clear b12
                            have b13 := HR13.out.cell
                            replace HV1 := Lib.hid (HV1.out.ext hE13)
                            replace HV2 := Lib.hid (HV2.out.ext hE13)
                            replace HV3 := Lib.hid (HV3.out.ext hE13)
                            clear hE13
                            rw [HO1.out]
                            cases hmo : Sp.moonB s day false
                            · skip
                              go_wp2_with fail
                              refine (known_any w13 (HV.out.ext HE13.out)).mono ?_
                              rintro e w14 ⟨rfl, hE14⟩
                              go_wp2_with fail
                              go_ret
                              exact ⟨rfl, HE13.out.trans hE14⟩
                            · skip
                              go_wp2_with fail
                              refine (hasN_any _ _ day w13 HV1.out HLEN.out).mono ?_
                              rintro e w14 ⟨rfl, hE14⟩
                              have HE14 := Lib.hid (HE13.out.trans hE14)
                              have HR14 := Lib.hid (HR13.out.ext hE14)
                              clear b13
                              have b14 := HR14.out.cell
                              replace HV1 := Lib.hid (HV1.out.ext hE14)
                              replace HV2 := Lib.hid (HV2.out.ext hE14)
                              replace HV3 := Lib.hid (HV3.out.ext hE14)
                              clear hE14
                              rw [HIN.out, hB]
                              go_wp2_with fail
                              refine (known_any w14 (HV.out.ext HE14.out)).mono ?_
                              rintro e w15 ⟨rfl, hE15⟩
                              go_wp2_with fail
                              go_ret
                              exact ⟨rfl, HE14.out.trans hE15⟩
                  · have hB : Sp.meetB s i j day = true := by
                      unfold Sp.meetB
                      simp only [Int.sub_zero] at p1
                      rw [p1]; rfl
                    go_wp2_with fail
                    refine wp_region_later (by kernel_rfl) (by kernel_rfl) (fun W hW => ?_)
                    subst hW
                    have q1 := Later.block (w := W) HR10.out
                    have HVX := Lib.hid (fun X : Later W => HV1.out.ext X.ext)
                    have HBX := Lib.hid (fun X : Later W => HM.out.ext (HE10.out.trans X.ext))
                    repeat (go_big_quiet_step (fail))
                    go_big_quiet_step ((go_at_call 67; exact Later.call ((hasN_any _ (Sp.meetsL s i j lo hi) day _ (by exact HVX.out _) HLEN.out).mono fun _ _ h => ⟨by rw [h.1, HIN.out, hB], h.2⟩)))
                    repeat (go_big_quiet_step (fail))
                    go_big_quiet_step ((go_at_call 32; exact Later.call ((crossed_any s A c i j day 0 _ (by exact HBX.out _) hS.out h1 c1 (by omega) (by omega) (by omega)).mono fun _ _ h => ⟨by rw [h.1, p1], h.2⟩)))
                    repeat (go_big_quiet_step (fail))
                    refine wpQuiet_nil ?_
                    rintro ⟨w11, hE11⟩
                    dsimp only
                    clear q1
                    have HE11 := Lib.hid (HE10.out.trans hE11)
                    have HR11 := Lib.hid (HR10.out.ext hE11)
                    clear b10
                    have b11 := HR11.out.cell
                    replace HV1 := Lib.hid (HV1.out.ext hE11)
                    replace HV2 := Lib.hid (HV2.out.ext hE11)
                    clear hE11
                    go_wp2_with fail
                    refine (r_Apart_any _ _ _ (by omega) (by omega) (by omega) (by omega)).mono ?_
                    rintro e w' ⟨rfl, rfl⟩
                    rw [HAP.out]
                    by_cases e1 : dd = df
                    · have e2 := n4 e1
                      subst e1
                      clear n4 hsame
                      cases hda : (day == at0) with
                      | false =>
                        by_cases o1 : 1 < i
                        · skip
                          go_wp2_with fail
                          refine (known_any w11 (HV.out.ext HE11.out)).mono ?_
                          rintro e w12 ⟨rfl, hE12⟩
                          go_wp2_with fail
                          go_ret
                          exact ⟨rfl, HE11.out.trans hE12⟩
                        · by_cases o2 : 1 < j
                          · skip
                            go_wp2_with fail
                            refine (known_any w11 (HV.out.ext HE11.out)).mono ?_
                            rintro e w12 ⟨rfl, hE12⟩
                            go_wp2_with fail
                            go_ret
                            exact ⟨rfl, HE11.out.trans hE12⟩
                          · have h7 : Sp.isSpan day day = true := by simp [Sp.isSpan, Sp.inR]; omega
                            have HT2 := Lib.hid (moons_two s day)
                            have HO1 := Lib.hid (moons_one s day false)
                            have ht := HT2.out
                            go_wp2_with fail
                            refine (Moons_ok s A c day day w11 (HM.out.ext HE11.out) hS.out h1 h7).mono ?_
                            rintro e w12 ⟨v3, rfl, hHV3, hE12⟩
                            have HE12 := Lib.hid (HE11.out.trans hE12)
                            have HR12 := Lib.hid (HR11.out.ext hE12)
                            clear b11
                            have b12 := HR12.out.cell
                            replace HV1 := Lib.hid (HV1.out.ext hE12)
                            replace HV2 := Lib.hid (HV2.out.ext hE12)
                            clear hE12
                            have HV3 := Lib.hid hHV3
                            clear hHV3
                            obtain ⟨A1, c3, rfl, _⟩ := HV3.out
                            go_wp2_with fail
                            refine (listed_any _ _ day false w12 HV3.out (by omega)).mono ?_
                            rintro e w13 ⟨rfl, hE13⟩
                            have HE13 := Lib.hid (HE12.out.trans hE13)
                            have HR13 := Lib.hid (HR12.out.ext hE13)
                            clear b12
                            have b13 := HR13.out.cell
                            replace HV1 := Lib.hid (HV1.out.ext hE13)
                            replace HV2 := Lib.hid (HV2.out.ext hE13)
                            replace HV3 := Lib.hid (HV3.out.ext hE13)
                            clear hE13
                            rw [HO1.out]
                            cases hmo : Sp.moonB s day false
                            · skip
                              go_wp2_with fail
                              refine (known_any w13 (HV.out.ext HE13.out)).mono ?_
                              rintro e w14 ⟨rfl, hE14⟩
                              go_wp2_with fail
                              go_ret
                              exact ⟨rfl, HE13.out.trans hE14⟩
                            · skip
                              go_wp2_with fail
                              refine (hasN_any _ _ day w13 HV1.out HLEN.out).mono ?_
                              rintro e w14 ⟨rfl, hE14⟩
                              have HE14 := Lib.hid (HE13.out.trans hE14)
                              have HR14 := Lib.hid (HR13.out.ext hE14)
                              clear b13
                              have b14 := HR14.out.cell
                              replace HV1 := Lib.hid (HV1.out.ext hE14)
                              replace HV2 := Lib.hid (HV2.out.ext hE14)
                              replace HV3 := Lib.hid (HV3.out.ext hE14)
                              clear hE14
                              rw [HIN.out, hB]
                              go_wp2_with fail
                              refine (known_any w14 (HV.out.ext HE14.out)).mono ?_
                              rintro e w15 ⟨rfl, hE15⟩
                              go_wp2_with fail
                              go_ret
                              exact ⟨rfl, HE14.out.trans hE15⟩
                      | true =>
                        by_cases o1 : 1 < i
                        · skip
                          go_wp2_with fail
                          refine (known_any w11 (HV.out.ext HE11.out)).mono ?_
                          rintro e w12 ⟨rfl, hE12⟩
                          go_wp2_with fail
                          go_ret
                          exact ⟨rfl, HE11.out.trans hE12⟩
                        · by_cases o2 : 1 < j
                          · skip
                            go_wp2_with fail
                            refine (known_any w11 (HV.out.ext HE11.out)).mono ?_
                            rintro e w12 ⟨rfl, hE12⟩
                            go_wp2_with fail
                            go_ret
                            exact ⟨rfl, HE11.out.trans hE12⟩
                          · have h7 : Sp.isSpan day day = true := by simp [Sp.isSpan, Sp.inR]; omega
                            have HT2 := Lib.hid (moons_two s day)
                            have HO1 := Lib.hid (moons_one s day false)
                            have ht := HT2.out
                            go_wp2_with fail
                            refine (Moons_ok s A c day day w11 (HM.out.ext HE11.out) hS.out h1 h7).mono ?_
                            rintro e w12 ⟨v3, rfl, hHV3, hE12⟩
                            have HE12 := Lib.hid (HE11.out.trans hE12)
                            have HR12 := Lib.hid (HR11.out.ext hE12)
                            clear b11
                            have b12 := HR12.out.cell
                            replace HV1 := Lib.hid (HV1.out.ext hE12)
                            replace HV2 := Lib.hid (HV2.out.ext hE12)
                            clear hE12
                            have HV3 := Lib.hid hHV3
                            clear hHV3
                            obtain ⟨A1, c3, rfl, _⟩ := HV3.out
                            go_wp2_with fail
                            refine (listed_any _ _ day false w12 HV3.out (by omega)).mono ?_
                            rintro e w13 ⟨rfl, hE13⟩
                            have HE13 := Lib.hid (HE12.out.trans hE13)
                            have HR13 := Lib.hid (HR12.out.ext hE13)
                            clear b12
                            have b13 := HR13.out.cell
                            replace HV1 := Lib.hid (HV1.out.ext hE13)
                            replace HV2 := Lib.hid (HV2.out.ext hE13)
                            replace HV3 := Lib.hid (HV3.out.ext hE13)
                            clear hE13
                            rw [HO1.out]
                            cases hmo : Sp.moonB s day false
                            · skip
                              go_wp2_with fail
                              refine (known_any w13 (HV.out.ext HE13.out)).mono ?_
                              rintro e w14 ⟨rfl, hE14⟩
                              go_wp2_with fail
                              go_ret
                              exact ⟨rfl, HE13.out.trans hE14⟩
                            · skip
                              go_wp2_with fail
                              refine (hasN_any _ _ day w13 HV1.out HLEN.out).mono ?_
                              rintro e w14 ⟨rfl, hE14⟩
                              have HE14 := Lib.hid (HE13.out.trans hE14)
                              have HR14 := Lib.hid (HR13.out.ext hE14)
                              clear b13
                              have b14 := HR14.out.cell
                              replace HV1 := Lib.hid (HV1.out.ext hE14)
                              replace HV2 := Lib.hid (HV2.out.ext hE14)
                              replace HV3 := Lib.hid (HV3.out.ext hE14)
                              clear hE14
                              rw [HIN.out, hB]
                              go_wp2_with fail
                              refine (known_any w14 (HV.out.ext HE14.out)).mono ?_
                              rintro e w15 ⟨rfl, hE15⟩
                              go_wp2_with fail
                              go_ret
                              exact ⟨rfl, HE14.out.trans hE15⟩
                    · have hda : (day == at0) = false := by simpa using fun e => e1 (hsame e)
                      have hdf : (dd == df) = false := by simpa using e1
                      clear n4 hsame
                      by_cases o1 : 1 < i
                      · skip
                        go_wp2_with fail
                        refine (known_any w11 (HV.out.ext HE11.out)).mono ?_
                        rintro e w12 ⟨rfl, hE12⟩
                        go_wp2_with fail
                        go_ret
                        exact ⟨rfl, HE11.out.trans hE12⟩
                      · by_cases o2 : 1 < j
                        · skip
                          go_wp2_with fail
                          refine (known_any w11 (HV.out.ext HE11.out)).mono ?_
                          rintro e w12 ⟨rfl, hE12⟩
                          go_wp2_with fail
                          go_ret
                          exact ⟨rfl, HE11.out.trans hE12⟩
                        · have h7 : Sp.isSpan day day = true := by simp [Sp.isSpan, Sp.inR]; omega
                          have HT2 := Lib.hid (moons_two s day)
                          have HO1 := Lib.hid (moons_one s day false)
                          have ht := HT2.out
                          go_wp2_with fail
                          refine (Moons_ok s A c day day w11 (HM.out.ext HE11.out) hS.out h1 h7).mono ?_
                          rintro e w12 ⟨v3, rfl, hHV3, hE12⟩
                          have HE12 := Lib.hid (HE11.out.trans hE12)
                          have HR12 := Lib.hid (HR11.out.ext hE12)
                          clear b11
                          have b12 := HR12.out.cell
                          replace HV1 := Lib.hid (HV1.out.ext hE12)
                          replace HV2 := Lib.hid (HV2.out.ext hE12)
                          clear hE12
                          have HV3 := Lib.hid hHV3
                          clear hHV3
                          obtain ⟨A1, c3, rfl, _⟩ := HV3.out
                          go_wp2_with fail
                          refine (listed_any _ _ day false w12 HV3.out (by omega)).mono ?_
                          rintro e w13 ⟨rfl, hE13⟩
                          have HE13 := Lib.hid (HE12.out.trans hE13)
                          have HR13 := Lib.hid (HR12.out.ext hE13)
                          clear b12
                          have b13 := HR13.out.cell
                          replace HV1 := Lib.hid (HV1.out.ext hE13)
                          replace HV2 := Lib.hid (HV2.out.ext hE13)
                          replace HV3 := Lib.hid (HV3.out.ext hE13)
                          clear hE13
                          rw [HO1.out]
                          cases hmo : Sp.moonB s day false
                          · skip
                            go_wp2_with fail
                            refine (known_any w13 (HV.out.ext HE13.out)).mono ?_
                            rintro e w14 ⟨rfl, hE14⟩
                            go_wp2_with fail
                            go_ret
                            exact ⟨rfl, HE13.out.trans hE14⟩
                          · skip
                            go_wp2_with fail
                            refine (hasN_any _ _ day w13 HV1.out HLEN.out).mono ?_
                            rintro e w14 ⟨rfl, hE14⟩
                            have HE14 := Lib.hid (HE13.out.trans hE14)
                            have HR14 := Lib.hid (HR13.out.ext hE14)
                            clear b13
                            have b14 := HR14.out.cell
                            replace HV1 := Lib.hid (HV1.out.ext hE14)
                            replace HV2 := Lib.hid (HV2.out.ext hE14)
                            replace HV3 := Lib.hid (HV3.out.ext hE14)
                            clear hE14
                            rw [HIN.out, hB]
                            go_wp2_with fail
                            refine (known_any w14 (HV.out.ext HE14.out)).mono ?_
                            rintro e w15 ⟨rfl, hE15⟩
                            go_wp2_with fail
                            go_ret
                            exact ⟨rfl, HE14.out.trans hE15⟩
end Go.Proofs.YtlcddcnmoajpjaaGreatDoor
