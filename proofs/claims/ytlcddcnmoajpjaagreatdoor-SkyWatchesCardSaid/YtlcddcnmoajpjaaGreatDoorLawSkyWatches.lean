/- The walk of the law SkyWatches. (Printed by wip/mklaws1.py.) -/
import Derived.Test.YtlcddcnmoajpjaaGreatDoorLawSkyAgrees
import Derived.Test.YtlcddcnmoajpjaaGreatDoorRefWatch
namespace Go.Proofs.YtlcddcnmoajpjaaGreatDoor
open Go.RowKit
open Sp (rd)
set_option linter.unusedSimpArgs false
set_option linter.unusedVariables false

attribute [local irreducible] Sp.left Sp.maxN
set_option maxRecDepth 100000 in
set_option maxHeartbeats 8000000 in
theorem law_SkyWatches (start : Int) (l : List Sp.Note) (A : Option Addr) (c : Nat) (low high : Int) (days : List Int) (A2 : Option Addr) (c2 : Nat) (off : Int) (w : World) (hV : Env w) (hm : Notes w A l) (hl : l.length ≤ maxLen) (hd : Ints w A2 days) (hdl : days.length ≤ maxLen) :
    Calls Tryz.prog 9 #[.int .i64 start, .slice A l.length c, .int .i64 low, .int .i64 high, .slice A2 days.length c2, .int .i64 off] w fun e w' => e = .returned (.bool true) ∧ Ext w w' := by
  have HM := Lib.hid hm
  have HV := Lib.hid hV
  have hmx : (maxLen : Nat) ≤ 9223372036854775807 := by decide
  have HE0 : Hid (Ext w w) := Lib.hid (Ext.refl w)
  clear hm hV
  go_enter Tryz.func9, Tryz.ntmps9
  have HD := Lib.hid hd
  clear hd
  go_wp2_with fail
  refine (few_any A l.length c _ (by omega)).mono ?_
  rintro e w' ⟨rfl, rfl⟩
  cases hfew : decide ((l.length : Int) ≤ 8) with
  | false =>
    go_wp2_with fail
    refine (known_any w (HV.out.ext HE0.out)).mono ?_
    rintro e w1 ⟨rfl, hE1⟩
    go_wp2_with fail
    go_ret
    exact ⟨rfl, HE0.out.trans hE1⟩
  | true =>
    have hl8 : l.length ≤ 8 := by have := of_decide_eq_true hfew; omega
    clear hfew
    by_cases hd8 : 8 < days.length
    case pos =>
      go_wp2_with fail
      refine (known_any w (HV.out.ext HE0.out)).mono ?_
      rintro e w1 ⟨rfl, hE1⟩
      go_wp2_with fail
      go_ret
      exact ⟨rfl, HE0.out.trans hE1⟩
    case neg =>
      cases h1 : Sp.spot start with
      | false =>
        have hwa : watchArg start l low high days off = false := by simp [watchArg, notesArg_eq, h1]
        go_wp2_with fail
        refine (Watch_err start low high off A A2 c c2 l days w (HM.out.ext HE0.out) (HD.out.ext HE0.out) (by omega) (by omega) hwa).mono ?_
        rintro e w1 ⟨rfl, hE1⟩
        have HE1 := Lib.hid (HE0.out.trans hE1)
        clear hE1
        go_wp2_with fail
        refine (r_Spot_any _ _).mono ?_
        rintro e w' ⟨rfl, rfl⟩
        rw [h1]
        go_wp2_with fail
        refine (known_any w1 (HV.out.ext HE1.out)).mono ?_
        rintro e w2 ⟨rfl, hE2⟩
        go_wp2_with fail
        go_ret
        exact ⟨rfl, HE1.out.trans hE2⟩
      | true =>
        cases h2 : Sp.notesOk l with
        | false =>
          have hwa : watchArg start l low high days off = false := by simp [watchArg, notesArg_eq, h1, h2]
          go_wp2_with fail
          refine (Watch_err start low high off A A2 c c2 l days w (HM.out.ext HE0.out) (HD.out.ext HE0.out) (by omega) (by omega) hwa).mono ?_
          rintro e w1 ⟨rfl, hE1⟩
          have HE1 := Lib.hid (HE0.out.trans hE1)
          clear hE1
          go_wp2_with fail
          refine (r_Spot_any _ _).mono ?_
          rintro e w' ⟨rfl, rfl⟩
          rw [h1]
          go_wp2_with fail
          refine (r_Notes_any l A c w1 (HM.out.ext HE1.out) (by omega)).mono ?_
          rintro e w2 ⟨rfl, hE2⟩
          have HE2 := Lib.hid (HE1.out.trans hE2)
          clear hE2
          rw [h2]
          go_wp2_with fail
          refine (known_any w2 (HV.out.ext HE2.out)).mono ?_
          rintro e w3 ⟨rfl, hE3⟩
          go_wp2_with fail
          go_ret
          exact ⟨rfl, HE2.out.trans hE3⟩
        | true =>
          cases h3 : Sp.rangeOk low high with
          | false =>
            have hwa : watchArg start l low high days off = false := by simp [watchArg, notesArg_eq, h1, h2, h3]
            go_wp2_with fail
            refine (Watch_err start low high off A A2 c c2 l days w (HM.out.ext HE0.out) (HD.out.ext HE0.out) (by omega) (by omega) hwa).mono ?_
            rintro e w1 ⟨rfl, hE1⟩
            have HE1 := Lib.hid (HE0.out.trans hE1)
            clear hE1
            go_wp2_with fail
            refine (r_Spot_any _ _).mono ?_
            rintro e w' ⟨rfl, rfl⟩
            rw [h1]
            go_wp2_with fail
            refine (r_Notes_any l A c w1 (HM.out.ext HE1.out) (by omega)).mono ?_
            rintro e w2 ⟨rfl, hE2⟩
            have HE2 := Lib.hid (HE1.out.trans hE2)
            clear hE2
            rw [h2]
            go_wp2_with fail
            refine (r_Range_any _ _ _).mono ?_
            rintro e w' ⟨rfl, rfl⟩
            rw [h3]
            go_wp2_with fail
            refine (known_any w2 (HV.out.ext HE2.out)).mono ?_
            rintro e w3 ⟨rfl, hE3⟩
            go_wp2_with fail
            go_ret
            exact ⟨rfl, HE2.out.trans hE3⟩
          | true =>
            cases h4 : Sp.daysOk days with
            | false =>
              have hwa : watchArg start l low high days off = false := by simp [watchArg, notesArg_eq, h1, h2, h3, h4]
              go_wp2_with fail
              refine (Watch_err start low high off A A2 c c2 l days w (HM.out.ext HE0.out) (HD.out.ext HE0.out) (by omega) (by omega) hwa).mono ?_
              rintro e w1 ⟨rfl, hE1⟩
              have HE1 := Lib.hid (HE0.out.trans hE1)
              clear hE1
              go_wp2_with fail
              refine (r_Spot_any _ _).mono ?_
              rintro e w' ⟨rfl, rfl⟩
              rw [h1]
              go_wp2_with fail
              refine (r_Notes_any l A c w1 (HM.out.ext HE1.out) (by omega)).mono ?_
              rintro e w2 ⟨rfl, hE2⟩
              have HE2 := Lib.hid (HE1.out.trans hE2)
              clear hE2
              rw [h2]
              go_wp2_with fail
              refine (r_Range_any _ _ _).mono ?_
              rintro e w' ⟨rfl, rfl⟩
              rw [h3]
              go_wp2_with fail
              refine (r_Days_any days A2 c2 w2 (HD.out.ext HE2.out) (by omega)).mono ?_
              rintro e w3 ⟨rfl, hE3⟩
              have HE3 := Lib.hid (HE2.out.trans hE3)
              clear hE3
              rw [h4]
              go_wp2_with fail
              refine (known_any w3 (HV.out.ext HE3.out)).mono ?_
              rintro e w4 ⟨rfl, hE4⟩
              go_wp2_with fail
              go_ret
              exact ⟨rfl, HE3.out.trans hE4⟩
            | true =>
              cases h5 : Sp.isOff off with
              | false =>
                have hwa : watchArg start l low high days off = false := by simp [watchArg, notesArg_eq, h1, h2, h3, h4, h5]
                go_wp2_with fail
                refine (Watch_err start low high off A A2 c c2 l days w (HM.out.ext HE0.out) (HD.out.ext HE0.out) (by omega) (by omega) hwa).mono ?_
                rintro e w1 ⟨rfl, hE1⟩
                have HE1 := Lib.hid (HE0.out.trans hE1)
                clear hE1
                go_wp2_with fail
                refine (r_Spot_any _ _).mono ?_
                rintro e w' ⟨rfl, rfl⟩
                rw [h1]
                go_wp2_with fail
                refine (r_Notes_any l A c w1 (HM.out.ext HE1.out) (by omega)).mono ?_
                rintro e w2 ⟨rfl, hE2⟩
                have HE2 := Lib.hid (HE1.out.trans hE2)
                clear hE2
                rw [h2]
                go_wp2_with fail
                refine (r_Range_any _ _ _).mono ?_
                rintro e w' ⟨rfl, rfl⟩
                rw [h3]
                go_wp2_with fail
                refine (r_Days_any days A2 c2 w2 (HD.out.ext HE2.out) (by omega)).mono ?_
                rintro e w3 ⟨rfl, hE3⟩
                have HE3 := Lib.hid (HE2.out.trans hE3)
                clear hE3
                rw [h4]
                go_wp2_with fail
                refine (r_Off_any _ _).mono ?_
                rintro e w' ⟨rfl, rfl⟩
                rw [h5]
                go_wp2_with fail
                refine (known_any w3 (HV.out.ext HE3.out)).mono ?_
                rintro e w4 ⟨rfl, hE4⟩
                go_wp2_with fail
                go_ret
                exact ⟨rfl, HE3.out.trans hE4⟩
              | true =>
                have hwa : watchArg start l low high days off = true := by simp [watchArg, notesArg_eq, h1, h2, h3, h4, h5]
                have hna : notesArg start l low high = true := by rw [notesArg_eq]; simp [h1, h2, h3]
                have hst := inR_iff.1 (show Sp.inR start 0 21599 = true from h1)
                have hof := inR_iff.1 (show Sp.inR off 0 10800 = true from h5)
                by_cases hn : Sp.speedsL start l low high = []
                case pos =>
                  go_wp2_with fail
                  refine (Watch_none start low high off A A2 c c2 l days w (HM.out.ext HE0.out) (HD.out.ext HE0.out) (by omega) (by omega) hwa hn).mono ?_
                  rintro e w1 ⟨rfl, hE1⟩
                  have HE1 := Lib.hid (HE0.out.trans hE1)
                  clear hE1
                  go_wp2_with fail
                  refine (r_Spot_any _ _).mono ?_
                  rintro e w' ⟨rfl, rfl⟩
                  rw [h1]
                  go_wp2_with fail
                  refine (r_Notes_any l A c w1 (HM.out.ext HE1.out) (by omega)).mono ?_
                  rintro e w2 ⟨rfl, hE2⟩
                  have HE2 := Lib.hid (HE1.out.trans hE2)
                  clear hE2
                  rw [h2]
                  go_wp2_with fail
                  refine (r_Range_any _ _ _).mono ?_
                  rintro e w' ⟨rfl, rfl⟩
                  rw [h3]
                  go_wp2_with fail
                  refine (r_Days_any days A2 c2 w2 (HD.out.ext HE2.out) (by omega)).mono ?_
                  rintro e w3 ⟨rfl, hE3⟩
                  have HE3 := Lib.hid (HE2.out.trans hE3)
                  clear hE3
                  rw [h4]
                  go_wp2_with fail
                  refine (r_Off_any _ _).mono ?_
                  rintro e w' ⟨rfl, rfl⟩
                  rw [h5]
                  go_wp2_with fail
                  refine (r_Speeds_any start low high l A c w3 (HM.out.ext HE3.out) hna).mono ?_
                  rintro e w4 ⟨v, rfl, hHV1, hE4⟩
                  have HE4 := Lib.hid (HE3.out.trans hE4)
                  clear hE4
                  have HV1 := Lib.hid hHV1
                  clear hHV1
                  rw [hn] at HV1
                  obtain ⟨A1, c1, hv, _⟩ := HV1.out
                  simp only [List.length_nil] at hv
                  subst hv
                  go_wp2_with fail
                  refine (known_any w4 (HV.out.ext HE4.out)).mono ?_
                  rintro e w5 ⟨rfl, hE5⟩
                  go_wp2_with fail
                  go_ret
                  exact ⟨rfl, HE4.out.trans hE5⟩
                case neg =>
                  have hn' : Sp.speedsL start l low high ≠ [] := hn
                  have hlen := speedsL_length start l low high
                  obtain ⟨r1, r2, r3, r4⟩ := range_of h3
                  have HMEM : Hid (∀ v ∈ Sp.speedsL start l low high, 0 ≤ v ∧ v ≤ 1000000) := Lib.hid (fun v hv => by have := (speedsL_mem start l low high v).1 hv; omega)
                  obtain ⟨L, hL⟩ : ∃ L, Sp.speedsL start l low high = L := ⟨_, rfl⟩
                  rw [hL] at HMEM hlen
                  have HLL := Lib.hid hL
                  obtain ⟨i, hi⟩ : ∃ i, Sp.watchI start L days off = i := ⟨_, rfl⟩
                  obtain ⟨day, hday⟩ : ∃ d, rd days i = d := ⟨_, rfl⟩
                  obtain ⟨nv, hnv⟩ : ∃ n, Sp.left start L day off = n := ⟨_, rfl⟩
                  have HI := Lib.hid hi
                  have HDY := Lib.hid hday
                  have HNV := Lib.hid hnv
                  have hl5 : L.length ≤ 5001 := by omega
                  have HNE := Lib.hid hn'
                  clear hi hday hnv hn hn' hlen hL
                  go_wp2_with fail
                  refine (Watch_ok start low high off A A2 c c2 l days w (HM.out.ext HE0.out) (HD.out.ext HE0.out) (by omega) (by omega) hwa HNE.out).mono ?_
                  rintro e w1 ⟨rfl, hE1⟩
                  have HE1 := Lib.hid (HE0.out.trans hE1)
                  clear hE1
                  rw [HLL.out, HI.out, HDY.out, HNV.out]
                  go_wp2_with fail
                  refine (r_Spot_any _ _).mono ?_
                  rintro e w' ⟨rfl, rfl⟩
                  rw [h1]
                  go_wp2_with fail
                  refine (r_Notes_any l A c w1 (HM.out.ext HE1.out) (by omega)).mono ?_
                  rintro e w2 ⟨rfl, hE2⟩
                  have HE2 := Lib.hid (HE1.out.trans hE2)
                  clear hE2
                  rw [h2]
                  go_wp2_with fail
                  refine (r_Range_any _ _ _).mono ?_
                  rintro e w' ⟨rfl, rfl⟩
                  rw [h3]
                  go_wp2_with fail
                  refine (r_Days_any days A2 c2 w2 (HD.out.ext HE2.out) (by omega)).mono ?_
                  rintro e w3 ⟨rfl, hE3⟩
                  have HE3 := Lib.hid (HE2.out.trans hE3)
                  clear hE3
                  rw [h4]
                  go_wp2_with fail
                  refine (r_Off_any _ _).mono ?_
                  rintro e w' ⟨rfl, rfl⟩
                  rw [h5]
                  go_wp2_with fail
                  refine (r_Speeds_any start low high l A c w3 (HM.out.ext HE3.out) hna).mono ?_
                  rintro e w4 ⟨v, rfl, hHV1, hE4⟩
                  have HE4 := Lib.hid (HE3.out.trans hE4)
                  clear hE4
                  have HV1 := Lib.hid hHV1
                  clear hHV1
                  rw [HLL.out] at HV1 HNE
                  obtain ⟨A1, c1, hv, hI⟩ := HV1.out
                  subst hv
                  have HI1 := Lib.hid hI
                  have hL0 : ¬ L.length = 0 := fun h => HNE.out (List.eq_nil_of_length_eq_zero h)
                  have hL1 : ((L.length : Int) == 0) = false := beq_eq_false_iff_ne.2 (by omega)
                  have hL2 : L ≠ [] := HNE.out
                  have hL3 : ¬ (L.length : Int) = 0 := by omega
                  clear HV1 hI
                  go_wp2_with fail
                  refine (r_Watch_any start off A1 A2 c1 c2 L days w4 HI1.out (HD.out.ext HE4.out) hl5 HMEM.out h4 hst.1 hst.2 hof.1 hof.2).mono ?_
                  rintro e w5 ⟨rfl, hE5⟩
                  have HE5 := Lib.hid (HE4.out.trans hE5)
                  replace HI1 := Lib.hid (HI1.out.ext hE5)
                  clear hE5
                  rw [HI.out, HDY.out, HNV.out]
                  go_wp2_with fail
                  refine (known_any w5 (HV.out.ext HE5.out)).mono ?_
                  rintro e w6 ⟨rfl, hE6⟩
                  go_wp2_with fail
                  go_ret
                  exact ⟨rfl, HE5.out.trans hE6⟩
end Go.Proofs.YtlcddcnmoajpjaaGreatDoor
