/- The walk of the law SkyEclipses. (Printed by wip/mklaws1.py.) -/
import Derived.Test.YtlcddcnmoajpjaaGreatDoorV21
import Derived.Test.YtlcddcnmoajpjaaGreatDoorRefEcl
namespace Go.Proofs.YtlcddcnmoajpjaaGreatDoor
open Go.RowKit
open Sp (rd)
set_option linter.unusedSimpArgs false
set_option linter.unusedVariables false

set_option maxRecDepth 100000 in
set_option maxHeartbeats 2000000 in
theorem law_SkyEclipses (s : Sp.Sky) (A : Option Addr) (c : Nat) (nw fl lo hi : Int) (w : World) (hV : Env w) (hm : Bodies w A s.bodies) (hl : Long s.bodies) :
    Calls Tryz.prog 5 #[.agg #[.slice A s.bodies.length c, .int .i64 s.nnum, .int .i64 s.nden, .int .i64 s.nstart], .int .i64 nw, .int .i64 fl, .int .i64 lo, .int .i64 hi] w fun e w' => e = .returned (.bool true) ∧ Ext w w' := by
  have HL := Lib.hid hl
  have HM := Lib.hid hm
  have HV := Lib.hid hV
  clear hm hl hV
  go_enter Tryz.func5, Tryz.ntmps5
  go_wp2_with fail
  have HR0 := Lib.hid (Row.new w 28 #[.slice A s.bodies.length c, .int .i64 s.nnum, .int .i64 s.nden, .int .i64 s.nstart])
  have HE0 : Hid (Ext w (w.alloc (.cells #[.slice A s.bodies.length c, .int .i64 s.nnum, .int .i64 s.nden, .int .i64 s.nstart] 28))) := Lib.hid ((Ext.refl w).alloc _)
  generalize w.alloc (.cells #[.slice A s.bodies.length c, .int .i64 s.nnum, .int .i64 s.nden, .int .i64 s.nstart] 28) = w0 at *
  have b0 := HR0.out.cell
  refine (short_any s A c w0 (HM.out.ext HE0.out) HL.out).mono ?_
  rintro e w1 ⟨rfl, hE1⟩
  have HE1 := Lib.hid (HE0.out.trans hE1)
  have HR1 := Lib.hid (HR0.out.ext hE1)
  clear b0
  have b1 := HR1.out.cell
  clear hE1
  cases hsh : shortB s.bodies with
  | false =>
    go_wp2_with fail
    refine (known_any w1 (HV.out.ext HE1.out)).mono ?_
    rintro e w2 ⟨rfl, hE2⟩
    go_wp2_with fail
    go_ret
    exact ⟨rfl, HE1.out.trans hE2⟩
  | true =>
    have hS := Lib.hid (short_of hsh)
    have hfew := few_of hsh
    clear hsh
    cases h1 : Sp.skyOk s with
    | false =>
      go_wp2_with fail
      refine (Ecl_err s A c nw fl lo hi w1 (HM.out.ext HE1.out) hS.out (by simp [h1])).mono ?_
      rintro e w2 ⟨rfl, hE2⟩
      have HE2 := Lib.hid (HE1.out.trans hE2)
      have HR2 := Lib.hid (HR1.out.ext hE2)
      clear b1
      have b2 := HR2.out.cell
      clear hE2
      go_wp2_with fail
      refine (r_Sky_any s A c w2 (HM.out.ext HE2.out) hS.out).mono ?_
      rintro e w3 ⟨rfl, hE3⟩
      have HE3 := Lib.hid (HE2.out.trans hE3)
      have HR3 := Lib.hid (HR2.out.ext hE3)
      clear b2
      have b3 := HR3.out.cell
      clear hE3
      rw [h1]
      go_wp2_with fail
      refine (known_any w3 (HV.out.ext HE3.out)).mono ?_
      rintro e w4 ⟨rfl, hE4⟩
      go_wp2_with fail
      go_ret
      exact ⟨rfl, HE3.out.trans hE4⟩
    | true =>
      cases h2 : Sp.isLimit nw with
      | false =>
        go_wp2_with fail
        refine (Ecl_err s A c nw fl lo hi w1 (HM.out.ext HE1.out) hS.out (by simp [h1, h2])).mono ?_
        rintro e w2 ⟨rfl, hE2⟩
        have HE2 := Lib.hid (HE1.out.trans hE2)
        have HR2 := Lib.hid (HR1.out.ext hE2)
        clear b1
        have b2 := HR2.out.cell
        clear hE2
        go_wp2_with fail
        refine (r_Sky_any s A c w2 (HM.out.ext HE2.out) hS.out).mono ?_
        rintro e w3 ⟨rfl, hE3⟩
        have HE3 := Lib.hid (HE2.out.trans hE3)
        have HR3 := Lib.hid (HR2.out.ext hE3)
        clear b2
        have b3 := HR3.out.cell
        clear hE3
        rw [h1]
        go_wp2_with fail
        refine (r_Limit_any _ _).mono ?_
        rintro e w' ⟨rfl, rfl⟩
        rw [h2]
        go_wp2_with fail
        refine (known_any w3 (HV.out.ext HE3.out)).mono ?_
        rintro e w4 ⟨rfl, hE4⟩
        go_wp2_with fail
        go_ret
        exact ⟨rfl, HE3.out.trans hE4⟩
      | true =>
        cases h3 : Sp.isLimit fl with
        | false =>
          go_wp2_with fail
          refine (Ecl_err s A c nw fl lo hi w1 (HM.out.ext HE1.out) hS.out (by simp [h1, h2, h3])).mono ?_
          rintro e w2 ⟨rfl, hE2⟩
          have HE2 := Lib.hid (HE1.out.trans hE2)
          have HR2 := Lib.hid (HR1.out.ext hE2)
          clear b1
          have b2 := HR2.out.cell
          clear hE2
          go_wp2_with fail
          refine (r_Sky_any s A c w2 (HM.out.ext HE2.out) hS.out).mono ?_
          rintro e w3 ⟨rfl, hE3⟩
          have HE3 := Lib.hid (HE2.out.trans hE3)
          have HR3 := Lib.hid (HR2.out.ext hE3)
          clear b2
          have b3 := HR3.out.cell
          clear hE3
          rw [h1]
          go_wp2_with fail
          refine (r_Limit_any _ _).mono ?_
          rintro e w' ⟨rfl, rfl⟩
          rw [h2]
          go_wp2_with fail
          refine (r_Limit_any _ _).mono ?_
          rintro e w' ⟨rfl, rfl⟩
          rw [h3]
          go_wp2_with fail
          refine (known_any w3 (HV.out.ext HE3.out)).mono ?_
          rintro e w4 ⟨rfl, hE4⟩
          go_wp2_with fail
          go_ret
          exact ⟨rfl, HE3.out.trans hE4⟩
        | true =>
          cases h4 : Sp.isSpan lo hi with
          | false =>
            go_wp2_with fail
            refine (Ecl_err s A c nw fl lo hi w1 (HM.out.ext HE1.out) hS.out (by simp [h1, h2, h3, h4])).mono ?_
            rintro e w2 ⟨rfl, hE2⟩
            have HE2 := Lib.hid (HE1.out.trans hE2)
            have HR2 := Lib.hid (HR1.out.ext hE2)
            clear b1
            have b2 := HR2.out.cell
            clear hE2
            go_wp2_with fail
            refine (r_Sky_any s A c w2 (HM.out.ext HE2.out) hS.out).mono ?_
            rintro e w3 ⟨rfl, hE3⟩
            have HE3 := Lib.hid (HE2.out.trans hE3)
            have HR3 := Lib.hid (HR2.out.ext hE3)
            clear b2
            have b3 := HR3.out.cell
            clear hE3
            rw [h1]
            go_wp2_with fail
            refine (r_Limit_any _ _).mono ?_
            rintro e w' ⟨rfl, rfl⟩
            rw [h2]
            go_wp2_with fail
            refine (r_Limit_any _ _).mono ?_
            rintro e w' ⟨rfl, rfl⟩
            rw [h3]
            go_wp2_with fail
            refine (r_Span_any _ _ _).mono ?_
            rintro e w' ⟨rfl, rfl⟩
            rw [h4]
            go_wp2_with fail
            refine (known_any w3 (HV.out.ext HE3.out)).mono ?_
            rintro e w4 ⟨rfl, hE4⟩
            go_wp2_with fail
            go_ret
            exact ⟨rfl, HE3.out.trans hE4⟩
          | true =>
            have hsp := span_of h4
            have hlen := eclsOf_le s nw fl (Sp.moonsL s lo hi)
            have hlen2 := moonsN_le s lo (hi + 1 - lo).toNat
            have HLEN : Hid ((Sp.ecls s nw fl lo hi).length ≤ 100000) := Lib.hid (by unfold Sp.ecls; unfold Sp.moonsL at hlen ⊢; omega)
            clear hlen hlen2
            go_wp2_with fail
            refine (Ecl_ok s A c nw fl lo hi w1 (HM.out.ext HE1.out) hS.out h1 h2 h3 h4).mono ?_
            rintro e w2 ⟨v, rfl, hHV1, hE2⟩
            have HE2 := Lib.hid (HE1.out.trans hE2)
            have HR2 := Lib.hid (HR1.out.ext hE2)
            clear b1
            have b2 := HR2.out.cell
            clear hE2
            have HV1 := Lib.hid hHV1
            clear hHV1
            go_wp2_with fail
            refine (r_Sky_any s A c w2 (HM.out.ext HE2.out) hS.out).mono ?_
            rintro e w3 ⟨rfl, hE3⟩
            have HE3 := Lib.hid (HE2.out.trans hE3)
            have HR3 := Lib.hid (HR2.out.ext hE3)
            clear b2
            have b3 := HR3.out.cell
            replace HV1 := Lib.hid (HV1.out.ext hE3)
            clear hE3
            rw [h1]
            go_wp2_with fail
            refine (r_Limit_any _ _).mono ?_
            rintro e w' ⟨rfl, rfl⟩
            rw [h2]
            go_wp2_with fail
            refine (r_Limit_any _ _).mono ?_
            rintro e w' ⟨rfl, rfl⟩
            rw [h3]
            go_wp2_with fail
            refine (r_Span_any _ _ _).mono ?_
            rintro e w' ⟨rfl, rfl⟩
            rw [h4]
            go_wp2_with fail
            refine (r_Eclipses_any s A c nw fl lo hi w3 (skyOk_iff.1 h1) (HM.out.ext HE3.out) h2 h3 h4).mono ?_
            rintro e w4 ⟨v2, rfl, hHV2, hE4⟩
            have HE4 := Lib.hid (HE3.out.trans hE4)
            have HR4 := Lib.hid (HR3.out.ext hE4)
            clear b3
            have b4 := HR4.out.cell
            replace HV1 := Lib.hid (HV1.out.ext hE4)
            clear hE4
            have HV2 := Lib.hid hHV2
            clear hHV2
            go_wp2_with fail
            refine (r_SameEclipses_any v v2 _ _ w4 HV1.out HV2.out HLEN.out HLEN.out).mono ?_
            rintro e w5 ⟨rfl, hE5⟩
            have HE5 := Lib.hid (HE4.out.trans hE5)
            have HR5 := Lib.hid (HR4.out.ext hE5)
            clear b4
            have b5 := HR5.out.cell
            replace HV1 := Lib.hid (HV1.out.ext hE5)
            replace HV2 := Lib.hid (HV2.out.ext hE5)
            clear hE5
            simp only [decide_true]
            go_wp2_with fail
            refine (known_any w5 (HV.out.ext HE5.out)).mono ?_
            rintro e w6 ⟨rfl, hE6⟩
            go_wp2_with fail
            go_ret
            exact ⟨rfl, HE5.out.trans hE6⟩
end Go.Proofs.YtlcddcnmoajpjaaGreatDoor
