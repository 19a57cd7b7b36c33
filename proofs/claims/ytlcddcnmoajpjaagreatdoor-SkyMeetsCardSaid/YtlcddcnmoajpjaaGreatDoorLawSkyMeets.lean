/- The walk of the law SkyMeets. (Printed by wip/mklaws1.py.) -/
import Derived.Test.YtlcddcnmoajpjaaGreatDoorV21
import Derived.Test.YtlcddcnmoajpjaaGreatDoorRefMeet
namespace Go.Proofs.YtlcddcnmoajpjaaGreatDoor
open Go.RowKit
open Sp (rd)
set_option linter.unusedSimpArgs false
set_option linter.unusedVariables false

set_option maxRecDepth 100000 in
set_option maxHeartbeats 4000000 in
theorem law_SkyMeets (s : Sp.Sky) (A : Option Addr) (c : Nat) (i j lo hi : Int) (w : World) (hV : Env w) (hm : Bodies w A s.bodies) (hl : Long s.bodies) :
    Calls Tryz.prog 17 #[.agg #[.slice A s.bodies.length c, .int .i64 s.nnum, .int .i64 s.nden, .int .i64 s.nstart], .int .i64 i, .int .i64 j, .int .i64 lo, .int .i64 hi] w fun e w' => e = .returned (.bool true) ∧ Ext w w' := by
  have HL := Lib.hid hl
  have HM := Lib.hid hm
  have HV := Lib.hid hV
  clear hm hl hV
  go_enter Tryz.func17, Tryz.ntmps17
  go_wp2_with fail
  have HR0 := Lib.hid (Row.new w 28 #[.slice A s.bodies.length c, .int .i64 s.nnum, .int .i64 s.nden, .int .i64 s.nstart])
  have HE0 : Hid (Ext w (w.alloc (.cells #[.slice A s.bodies.length c, .int .i64 s.nnum, .int .i64 s.nden, .int .i64 s.nstart] 28))) := Lib.hid ((Ext.refl w).alloc _)
  generalize w.alloc (.cells #[.slice A s.bodies.length c, .int .i64 s.nnum, .int .i64 s.nden, .int .i64 s.nstart] 28) = w0 at *
  have b0 := HR0.out.cell
  refine (short_any s A c w0 (HM.out.ext HE0.out) HL.out).mono ?_
  rintro e w1 ⟨rfl, hE1⟩
  have HE1 := Lib.hid (HE0.out.trans hE1)
  have HR1 := Lib.hid (HR0.out.ext hE1)
  clear b0
  have b1 := HR1.out.cell
  clear hE1
  cases hsh : shortB s.bodies with
  | false =>
    go_wp2_with fail
    refine (known_any w1 (HV.out.ext HE1.out)).mono ?_
    rintro e w2 ⟨rfl, hE2⟩
    go_wp2_with fail
    go_ret
    exact ⟨rfl, HE1.out.trans hE2⟩
  | true =>
    have hS := Lib.hid (short_of hsh)
    have hfew := few_of hsh
    clear hsh
    cases h1 : Sp.skyOk s with
    | false =>
      have herr : (Sp.skyOk s && ((Sp.isBody s i && (Sp.isBody s j && (i != j))) && (Sp.isSpan lo hi))) = false := by simp [h1]
      go_wp2_with fail
      refine (Meets_err s A c i j lo hi w1 (HM.out.ext HE1.out) hS.out herr).mono ?_
      rintro e w2 ⟨rfl, hE2⟩
      have HE2 := Lib.hid (HE1.out.trans hE2)
      have HR2 := Lib.hid (HR1.out.ext hE2)
      clear b1
      have b2 := HR2.out.cell
      clear hE2
      go_wp2_with fail
      refine (Near_err s A c i j lo hi w2 (HM.out.ext HE2.out) hS.out herr).mono ?_
      rintro e w3 ⟨rfl, hE3⟩
      have HE3 := Lib.hid (HE2.out.trans hE3)
      have HR3 := Lib.hid (HR2.out.ext hE3)
      clear b2
      have b3 := HR3.out.cell
      clear hE3
      go_wp2_with fail
      refine (r_Sky_any s A c w3 (HM.out.ext HE3.out) hS.out).mono ?_
      rintro e w4 ⟨rfl, hE4⟩
      have HE4 := Lib.hid (HE3.out.trans hE4)
      have HR4 := Lib.hid (HR3.out.ext hE4)
      clear b3
      have b4 := HR4.out.cell
      clear hE4
      rw [h1]
      go_wp2_with fail
      refine (known_any w4 (HV.out.ext HE4.out)).mono ?_
      rintro e w5 ⟨rfl, hE5⟩
      go_wp2_with fail
      go_ret
      exact ⟨rfl, HE4.out.trans hE5⟩
    | true =>
      cases h2 : Sp.isBody s i with
      | false =>
        have herr : (Sp.skyOk s && ((Sp.isBody s i && (Sp.isBody s j && (i != j))) && (Sp.isSpan lo hi))) = false := by simp [h1, h2]
        go_wp2_with fail
        refine (Meets_err s A c i j lo hi w1 (HM.out.ext HE1.out) hS.out herr).mono ?_
        rintro e w2 ⟨rfl, hE2⟩
        have HE2 := Lib.hid (HE1.out.trans hE2)
        have HR2 := Lib.hid (HR1.out.ext hE2)
        clear b1
        have b2 := HR2.out.cell
        clear hE2
        go_wp2_with fail
        refine (Near_err s A c i j lo hi w2 (HM.out.ext HE2.out) hS.out herr).mono ?_
        rintro e w3 ⟨rfl, hE3⟩
        have HE3 := Lib.hid (HE2.out.trans hE3)
        have HR3 := Lib.hid (HR2.out.ext hE3)
        clear b2
        have b3 := HR3.out.cell
        clear hE3
        go_wp2_with fail
        refine (r_Sky_any s A c w3 (HM.out.ext HE3.out) hS.out).mono ?_
        rintro e w4 ⟨rfl, hE4⟩
        have HE4 := Lib.hid (HE3.out.trans hE4)
        have HR4 := Lib.hid (HR3.out.ext hE4)
        clear b3
        have b4 := HR4.out.cell
        clear hE4
        rw [h1]
        go_wp2_with fail
        refine (r_Body_any s A c _ _ _ i w4 (by omega)).mono ?_
        rintro e w5 ⟨rfl, hE5⟩
        have HE5 := Lib.hid (HE4.out.trans hE5)
        have HR5 := Lib.hid (HR4.out.ext hE5)
        clear b4
        have b5 := HR5.out.cell
        clear hE5
        rw [h2]
        go_wp2_with fail
        refine (known_any w5 (HV.out.ext HE5.out)).mono ?_
        rintro e w6 ⟨rfl, hE6⟩
        go_wp2_with fail
        go_ret
        exact ⟨rfl, HE5.out.trans hE6⟩
      | true =>
        cases h3 : Sp.isBody s j with
        | false =>
          have herr : (Sp.skyOk s && ((Sp.isBody s i && (Sp.isBody s j && (i != j))) && (Sp.isSpan lo hi))) = false := by simp [h1, h2, h3]
          go_wp2_with fail
          refine (Meets_err s A c i j lo hi w1 (HM.out.ext HE1.out) hS.out herr).mono ?_
          rintro e w2 ⟨rfl, hE2⟩
          have HE2 := Lib.hid (HE1.out.trans hE2)
          have HR2 := Lib.hid (HR1.out.ext hE2)
          clear b1
          have b2 := HR2.out.cell
          clear hE2
          go_wp2_with fail
          refine (Near_err s A c i j lo hi w2 (HM.out.ext HE2.out) hS.out herr).mono ?_
          rintro e w3 ⟨rfl, hE3⟩
          have HE3 := Lib.hid (HE2.out.trans hE3)
          have HR3 := Lib.hid (HR2.out.ext hE3)
          clear b2
          have b3 := HR3.out.cell
          clear hE3
          go_wp2_with fail
          refine (r_Sky_any s A c w3 (HM.out.ext HE3.out) hS.out).mono ?_
          rintro e w4 ⟨rfl, hE4⟩
          have HE4 := Lib.hid (HE3.out.trans hE4)
          have HR4 := Lib.hid (HR3.out.ext hE4)
          clear b3
          have b4 := HR4.out.cell
          clear hE4
          rw [h1]
          go_wp2_with fail
          refine (r_Body_any s A c _ _ _ i w4 (by omega)).mono ?_
          rintro e w5 ⟨rfl, hE5⟩
          have HE5 := Lib.hid (HE4.out.trans hE5)
          have HR5 := Lib.hid (HR4.out.ext hE5)
          clear b4
          have b5 := HR5.out.cell
          clear hE5
          rw [h2]
          go_wp2_with fail
          refine (r_Body_any s A c _ _ _ j w5 (by omega)).mono ?_
          rintro e w6 ⟨rfl, hE6⟩
          have HE6 := Lib.hid (HE5.out.trans hE6)
          have HR6 := Lib.hid (HR5.out.ext hE6)
          clear b5
          have b6 := HR6.out.cell
          clear hE6
          rw [h3]
          go_wp2_with fail
          refine (known_any w6 (HV.out.ext HE6.out)).mono ?_
          rintro e w7 ⟨rfl, hE7⟩
          go_wp2_with fail
          go_ret
          exact ⟨rfl, HE6.out.trans hE7⟩
        | true =>
          cases h4 : (i != j) with
          | false =>
            have herr : (Sp.skyOk s && ((Sp.isBody s i && (Sp.isBody s j && (i != j))) && (Sp.isSpan lo hi))) = false := by simp [h1, h2, h3, h4]
            obtain rfl : i = j := by simpa using h4
            clear h4
            go_wp2_with fail
            refine (Meets_err s A c i i lo hi w1 (HM.out.ext HE1.out) hS.out herr).mono ?_
            rintro e w2 ⟨rfl, hE2⟩
            have HE2 := Lib.hid (HE1.out.trans hE2)
            have HR2 := Lib.hid (HR1.out.ext hE2)
            clear b1
            have b2 := HR2.out.cell
            clear hE2
            go_wp2_with fail
            refine (Near_err s A c i i lo hi w2 (HM.out.ext HE2.out) hS.out herr).mono ?_
            rintro e w3 ⟨rfl, hE3⟩
            have HE3 := Lib.hid (HE2.out.trans hE3)
            have HR3 := Lib.hid (HR2.out.ext hE3)
            clear b2
            have b3 := HR3.out.cell
            clear hE3
            go_wp2_with fail
            refine (r_Sky_any s A c w3 (HM.out.ext HE3.out) hS.out).mono ?_
            rintro e w4 ⟨rfl, hE4⟩
            have HE4 := Lib.hid (HE3.out.trans hE4)
            have HR4 := Lib.hid (HR3.out.ext hE4)
            clear b3
            have b4 := HR4.out.cell
            clear hE4
            rw [h1]
            go_wp2_with fail
            refine (r_Body_any s A c _ _ _ i w4 (by omega)).mono ?_
            rintro e w5 ⟨rfl, hE5⟩
            have HE5 := Lib.hid (HE4.out.trans hE5)
            have HR5 := Lib.hid (HR4.out.ext hE5)
            clear b4
            have b5 := HR5.out.cell
            clear hE5
            rw [h2]
            go_wp2_with fail
            refine (r_Body_any s A c _ _ _ i w5 (by omega)).mono ?_
            rintro e w6 ⟨rfl, hE6⟩
            have HE6 := Lib.hid (HE5.out.trans hE6)
            have HR6 := Lib.hid (HR5.out.ext hE6)
            clear b5
            have b6 := HR6.out.cell
            clear hE6
            rw [h3]
            go_wp2_with fail
            refine (known_any w6 (HV.out.ext HE6.out)).mono ?_
            rintro e w7 ⟨rfl, hE7⟩
            go_wp2_with fail
            go_ret
            exact ⟨rfl, HE6.out.trans hE7⟩
          | true =>
            cases h5 : Sp.isSpan lo hi with
            | false =>
              have herr : (Sp.skyOk s && ((Sp.isBody s i && (Sp.isBody s j && (i != j))) && (Sp.isSpan lo hi))) = false := by simp [h1, h2, h3, h4, h5]
              have hij : ¬ i = j := by simpa using h4
              clear h4
              go_wp2_with fail
              refine (Meets_err s A c i j lo hi w1 (HM.out.ext HE1.out) hS.out herr).mono ?_
              rintro e w2 ⟨rfl, hE2⟩
              have HE2 := Lib.hid (HE1.out.trans hE2)
              have HR2 := Lib.hid (HR1.out.ext hE2)
              clear b1
              have b2 := HR2.out.cell
              clear hE2
              go_wp2_with fail
              refine (Near_err s A c i j lo hi w2 (HM.out.ext HE2.out) hS.out herr).mono ?_
              rintro e w3 ⟨rfl, hE3⟩
              have HE3 := Lib.hid (HE2.out.trans hE3)
              have HR3 := Lib.hid (HR2.out.ext hE3)
              clear b2
              have b3 := HR3.out.cell
              clear hE3
              go_wp2_with fail
              refine (r_Sky_any s A c w3 (HM.out.ext HE3.out) hS.out).mono ?_
              rintro e w4 ⟨rfl, hE4⟩
              have HE4 := Lib.hid (HE3.out.trans hE4)
              have HR4 := Lib.hid (HR3.out.ext hE4)
              clear b3
              have b4 := HR4.out.cell
              clear hE4
              rw [h1]
              go_wp2_with fail
              refine (r_Body_any s A c _ _ _ i w4 (by omega)).mono ?_
              rintro e w5 ⟨rfl, hE5⟩
              have HE5 := Lib.hid (HE4.out.trans hE5)
              have HR5 := Lib.hid (HR4.out.ext hE5)
              clear b4
              have b5 := HR5.out.cell
              clear hE5
              rw [h2]
              go_wp2_with fail
              refine (r_Body_any s A c _ _ _ j w5 (by omega)).mono ?_
              rintro e w6 ⟨rfl, hE6⟩
              have HE6 := Lib.hid (HE5.out.trans hE6)
              have HR6 := Lib.hid (HR5.out.ext hE6)
              clear b5
              have b6 := HR6.out.cell
              clear hE6
              rw [h3]
              go_wp2_with fail
              refine (r_Span_any _ _ _).mono ?_
              rintro e w' ⟨rfl, rfl⟩
              rw [h5]
              go_wp2_with fail
              refine (known_any w6 (HV.out.ext HE6.out)).mono ?_
              rintro e w7 ⟨rfl, hE7⟩
              go_wp2_with fail
              go_ret
              exact ⟨rfl, HE6.out.trans hE7⟩
            | true =>
              have c1 : (Sp.isBody s i && (Sp.isBody s j && (i != j))) = true := by simp [h2, h3, h4]
              have HB2 := Lib.hid (two_of c1)
              have hij : ¬ i = j := by simpa using h4
              have HSP := Lib.hid (span_of h5)
              clear h4
              have hlen := meetsN_short s i j lo (hi + 1 - lo).toNat
              have HLEN : Hid ((Sp.meetsL s i j lo hi).length ≤ 100000) := Lib.hid (by have := HSP.out; unfold Sp.meetsL; omega)
              clear hlen
              go_wp2_with fail
              refine (Meets_ok s A c i j lo hi w1 (HM.out.ext HE1.out) hS.out h1 c1 h5).mono ?_
              rintro e w2 ⟨v, rfl, hHV1, hE2⟩
              have HE2 := Lib.hid (HE1.out.trans hE2)
              have HR2 := Lib.hid (HR1.out.ext hE2)
              clear b1
              have b2 := HR2.out.cell
              clear hE2
              have HV1 := Lib.hid hHV1
              clear hHV1
              go_wp2_with fail
              refine (Near_ok s A c i j lo hi w2 (HM.out.ext HE2.out) hS.out h1 c1 h5).mono ?_
              rintro e w3 ⟨rfl, hE3⟩
              have HE3 := Lib.hid (HE2.out.trans hE3)
              have HR3 := Lib.hid (HR2.out.ext hE3)
              clear b2
              have b3 := HR3.out.cell
              replace HV1 := Lib.hid (HV1.out.ext hE3)
              clear hE3
              go_wp2_with fail
              refine (r_Sky_any s A c w3 (HM.out.ext HE3.out) hS.out).mono ?_
              rintro e w4 ⟨rfl, hE4⟩
              have HE4 := Lib.hid (HE3.out.trans hE4)
              have HR4 := Lib.hid (HR3.out.ext hE4)
              clear b3
              have b4 := HR4.out.cell
              replace HV1 := Lib.hid (HV1.out.ext hE4)
              clear hE4
              rw [h1]
              go_wp2_with fail
              refine (r_Body_any s A c _ _ _ i w4 (by omega)).mono ?_
              rintro e w5 ⟨rfl, hE5⟩
              have HE5 := Lib.hid (HE4.out.trans hE5)
              have HR5 := Lib.hid (HR4.out.ext hE5)
              clear b4
              have b5 := HR5.out.cell
              replace HV1 := Lib.hid (HV1.out.ext hE5)
              clear hE5
              rw [h2]
              go_wp2_with fail
              refine (r_Body_any s A c _ _ _ j w5 (by omega)).mono ?_
              rintro e w6 ⟨rfl, hE6⟩
              have HE6 := Lib.hid (HE5.out.trans hE6)
              have HR6 := Lib.hid (HR5.out.ext hE6)
              clear b5
              have b6 := HR6.out.cell
              replace HV1 := Lib.hid (HV1.out.ext hE6)
              clear hE6
              rw [h3]
              go_wp2_with fail
              refine (r_Span_any _ _ _).mono ?_
              rintro e w' ⟨rfl, rfl⟩
              rw [h5]
              go_wp2_with fail
              refine (r_Near_any s A c _ _ _ i j lo hi w6 (skyOk_iff.1 h1) (HM.out.ext HE6.out) HB2.out.1 HB2.out.2.1 HB2.out.2.2.1 HB2.out.2.2.2.1 HSP.out.1 HSP.out.2.1 HSP.out.2.2.1).mono ?_
              rintro e w7 ⟨rfl, hE7⟩
              have HE7 := Lib.hid (HE6.out.trans hE7)
              have HR7 := Lib.hid (HR6.out.ext hE7)
              clear b6
              have b7 := HR7.out.cell
              replace HV1 := Lib.hid (HV1.out.ext hE7)
              clear hE7
              go_wp2_with fail
              refine (r_Meets_any s A c _ _ _ i j lo hi w7 (skyOk_iff.1 h1) (HM.out.ext HE7.out) HB2.out.1 HB2.out.2.1 HB2.out.2.2.1 HB2.out.2.2.2.1 HSP.out.1 HSP.out.2.1 HSP.out.2.2.1).mono ?_
              rintro e w8 ⟨v2, rfl, hHV2, hE8⟩
              have HE8 := Lib.hid (HE7.out.trans hE8)
              have HR8 := Lib.hid (HR7.out.ext hE8)
              clear b7
              have b8 := HR8.out.cell
              replace HV1 := Lib.hid (HV1.out.ext hE8)
              clear hE8
              have HV2 := Lib.hid hHV2
              clear hHV2
              go_wp2_with fail
              refine (r_Same_any v v2 _ _ w8 HV1.out HV2.out HLEN.out HLEN.out).mono ?_
              rintro e w9 ⟨rfl, hE9⟩
              have HE9 := Lib.hid (HE8.out.trans hE9)
              have HR9 := Lib.hid (HR8.out.ext hE9)
              clear b8
              have b9 := HR9.out.cell
              replace HV1 := Lib.hid (HV1.out.ext hE9)
              replace HV2 := Lib.hid (HV2.out.ext hE9)
              clear hE9
              simp only [decide_true]
              go_wp2_with fail
              refine (known_any w9 (HV.out.ext HE9.out)).mono ?_
              rintro e w10 ⟨rfl, hE10⟩
              go_wp2_with fail
              go_ret
              exact ⟨rfl, HE9.out.trans hE10⟩
end Go.Proofs.YtlcddcnmoajpjaaGreatDoor
