/- The walk of the law EclipseMisses. (Printed by wip/mkelaws.py.) -/
import Derived.Carry
import Derived.Test.YtcbodpnmndbgnaaGreatDoorF14
import Derived.Test.YtcbodpnmndbgnaaGreatDoorF15
import Derived.Test.YtcbodpnmndbgnaaGreatDoorF09
import Derived.Test.YtcbodpnmndbgnaaGreatDoorF10
import Derived.Test.YtcbodpnmndbgnaaGreatDoorF16
namespace Go.Proofs.YtcbodpnmndbgnaaGreatDoor
open Go.RowKit
open Sp (rd)
set_option linter.unusedSimpArgs false
set_option linter.unusedVariables false

set_option maxRecDepth 100000 in
set_option maxHeartbeats 8000000 in
theorem law_EclipseMisses (p : EP) (e : Ec.Engine) (set : List Int) (lo hi late : Int) (w : World) (hV : Env w) (hm : EngSet w p e set) (hl : EngLong e) (hs : set.length ≤ 9223372036854775807) :
    Calls Tryz.prog 13 #[.agg #[.slice p.Ab e.sky.bodies.length p.cb, .int .i64 e.sky.nnum, .int .i64 e.sky.nden, .int .i64 e.sky.nstart, .slice p.As e.sun.length p.cs, .slice p.Am e.moon.length p.cm, .slice p.An e.node.length p.cn, .slice p.Af e.feasts.length p.cf, .int .i64 e.nw, .int .i64 e.fl, .int .i64 e.wide], .slice p.At set.length p.ct, .int .i64 lo, .int .i64 hi, .int .i64 late] w fun r w' => r = .returned (.bool true) ∧ Ext w w' := by
  have HL := Lib.hid hl
  have HM := Lib.hid hm
  have HV := Lib.hid hV
  have HS0 := Lib.hid hs
  clear hm hl hV hs
  go_enter Tryz.func13, Tryz.ntmps13
  go_wp2_with fail
  have HR0 := Lib.hid (Row.new w 32 #[.slice p.Ab e.sky.bodies.length p.cb, .int .i64 e.sky.nnum, .int .i64 e.sky.nden, .int .i64 e.sky.nstart, .slice p.As e.sun.length p.cs, .slice p.Am e.moon.length p.cm, .slice p.An e.node.length p.cn, .slice p.Af e.feasts.length p.cf, .int .i64 e.nw, .int .i64 e.fl, .int .i64 e.wide])
  have HE0 : Hid (Ext w (w.alloc (.cells #[.slice p.Ab e.sky.bodies.length p.cb, .int .i64 e.sky.nnum, .int .i64 e.sky.nden, .int .i64 e.sky.nstart, .slice p.As e.sun.length p.cs, .slice p.Am e.moon.length p.cm, .slice p.An e.node.length p.cn, .slice p.Af e.feasts.length p.cf, .int .i64 e.nw, .int .i64 e.fl, .int .i64 e.wide] 32))) := Lib.hid ((Ext.refl w).alloc _)
  generalize w.alloc (.cells #[.slice p.Ab e.sky.bodies.length p.cb, .int .i64 e.sky.nnum, .int .i64 e.sky.nden, .int .i64 e.sky.nstart, .slice p.As e.sun.length p.cs, .slice p.Am e.moon.length p.cm, .slice p.An e.node.length p.cn, .slice p.Af e.feasts.length p.cf, .int .i64 e.nw, .int .i64 e.fl, .int .i64 e.wide] 32) = w0 at *
  have b0 := HR0.out.cell
  refine (l7_short_any p e set w0 (HM.out.eng.ext HE0.out) HL.out HS0.out).mono ?_
  rintro r w1 ⟨rfl, hE1⟩
  have HE1 := Lib.hid (HE0.out.trans hE1)
  have HR1 := Lib.hid (HR0.out.ext hE1)
  clear b0
  have b1 := HR1.out.cell
  clear hE1
  cases hsh : shortB e set with
  | false =>
    go_wp2_with fail
    refine (l7_known_any w1 (HV.out.ext HE1.out)).mono ?_
    rintro r w2 ⟨rfl, hE2⟩
    go_wp2_with fail
    go_ret
    exact ⟨rfl, HE1.out.trans hE2⟩
  | true =>
    have HS := Lib.hid (shorts_of hsh)
    have hfl := HS.out.feasts
    have hsl := HS.out.set
    clear hsh
    cases c0 : Ec.engineOk e with
    | false =>
      go_wp2_with fail
      refine (e_Missed_err p e set lo hi late w1 (HM.out.ext HE1.out) HS.out.eng (by omega) (by rw [c0]; rfl)).mono ?_
      rintro r w2 ⟨rfl, hE2⟩
      have HE2 := Lib.hid (HE1.out.trans hE2)
      have HR2 := Lib.hid (HR1.out.ext hE2)
      clear b1
      have b2 := HR2.out.cell
      clear hE2
      go_wp2_with fail
      refine (e_Empty_err p e set lo hi late w2 (HM.out.ext HE2.out) HS.out.eng (by omega) (by rw [c0]; rfl)).mono ?_
      rintro r w3 ⟨rfl, hE3⟩
      have HE3 := Lib.hid (HE2.out.trans hE3)
      have HR3 := Lib.hid (HR2.out.ext hE3)
      clear b2
      have b3 := HR3.out.cell
      clear hE3
      go_wp2_with fail
      refine (r7_Engine_any p e w3 (HM.out.eng.ext HE3.out) HS.out.eng).mono ?_
      rintro r w4 ⟨rfl, hE4⟩
      have HE4 := Lib.hid (HE3.out.trans hE4)
      have HR4 := Lib.hid (HR3.out.ext hE4)
      clear b3
      have b4 := HR4.out.cell
      clear hE4
      rw [c0]
      go_wp2_with fail
      refine (l7_known_any w4 (HV.out.ext HE4.out)).mono ?_
      rintro r w5 ⟨rfl, hE5⟩
      go_wp2_with fail
      go_ret
      exact ⟨rfl, HE4.out.trans hE5⟩
    | true =>
      cases c1 : Ec.setOk e.feasts set with
      | false =>
        go_wp2_with fail
        refine (e_Missed_err p e set lo hi late w1 (HM.out.ext HE1.out) HS.out.eng (by omega) (by rw [c0, c1]; rfl)).mono ?_
        rintro r w2 ⟨rfl, hE2⟩
        have HE2 := Lib.hid (HE1.out.trans hE2)
        have HR2 := Lib.hid (HR1.out.ext hE2)
        clear b1
        have b2 := HR2.out.cell
        clear hE2
        go_wp2_with fail
        refine (e_Empty_err p e set lo hi late w2 (HM.out.ext HE2.out) HS.out.eng (by omega) (by rw [c0, c1]; rfl)).mono ?_
        rintro r w3 ⟨rfl, hE3⟩
        have HE3 := Lib.hid (HE2.out.trans hE3)
        have HR3 := Lib.hid (HR2.out.ext hE3)
        clear b2
        have b3 := HR3.out.cell
        clear hE3
        go_wp2_with fail
        refine (r7_Engine_any p e w3 (HM.out.eng.ext HE3.out) HS.out.eng).mono ?_
        rintro r w4 ⟨rfl, hE4⟩
        have HE4 := Lib.hid (HE3.out.trans hE4)
        have HR4 := Lib.hid (HR3.out.ext hE4)
        clear b3
        have b4 := HR4.out.cell
        clear hE4
        rw [c0]
        go_wp2_with fail
        refine (r1_Set_any p.Af p.At e.feasts.length p.cf p.ct set w4 (by omega) (HM.out.ext HE4.out).set (by omega)).mono ?_
        rintro r w5 ⟨rfl, hE5⟩
        have HE5 := Lib.hid (HE4.out.trans hE5)
        have HR5 := Lib.hid (HR4.out.ext hE5)
        clear b4
        have b5 := HR5.out.cell
        clear hE5
        rw [show Ec.rising set 0 ((e.feasts.length : Int) - 1) = Ec.setOk e.feasts set from rfl, c1]
        go_wp2_with fail
        refine (l7_known_any w5 (HV.out.ext HE5.out)).mono ?_
        rintro r w6 ⟨rfl, hE6⟩
        go_wp2_with fail
        go_ret
        exact ⟨rfl, HE5.out.trans hE6⟩
      | true =>
        cases c2 : Ec.isSpan lo hi with
        | false =>
          go_wp2_with fail
          refine (e_Missed_err p e set lo hi late w1 (HM.out.ext HE1.out) HS.out.eng (by omega) (by rw [c0, c1, c2]; rfl)).mono ?_
          rintro r w2 ⟨rfl, hE2⟩
          have HE2 := Lib.hid (HE1.out.trans hE2)
          have HR2 := Lib.hid (HR1.out.ext hE2)
          clear b1
          have b2 := HR2.out.cell
          clear hE2
          go_wp2_with fail
          refine (e_Empty_err p e set lo hi late w2 (HM.out.ext HE2.out) HS.out.eng (by omega) (by rw [c0, c1, c2]; rfl)).mono ?_
          rintro r w3 ⟨rfl, hE3⟩
          have HE3 := Lib.hid (HE2.out.trans hE3)
          have HR3 := Lib.hid (HR2.out.ext hE3)
          clear b2
          have b3 := HR3.out.cell
          clear hE3
          go_wp2_with fail
          refine (r7_Engine_any p e w3 (HM.out.eng.ext HE3.out) HS.out.eng).mono ?_
          rintro r w4 ⟨rfl, hE4⟩
          have HE4 := Lib.hid (HE3.out.trans hE4)
          have HR4 := Lib.hid (HR3.out.ext hE4)
          clear b3
          have b4 := HR4.out.cell
          clear hE4
          rw [c0]
          go_wp2_with fail
          refine (r1_Set_any p.Af p.At e.feasts.length p.cf p.ct set w4 (by omega) (HM.out.ext HE4.out).set (by omega)).mono ?_
          rintro r w5 ⟨rfl, hE5⟩
          have HE5 := Lib.hid (HE4.out.trans hE5)
          have HR5 := Lib.hid (HR4.out.ext hE5)
          clear b4
          have b5 := HR5.out.cell
          clear hE5
          rw [show Ec.rising set 0 ((e.feasts.length : Int) - 1) = Ec.setOk e.feasts set from rfl, c1]
          go_wp2_with fail
          refine (r7_Span_any lo hi _).mono ?_
          rintro r w' ⟨rfl, rfl⟩
          rw [c2]
          go_wp2_with fail
          refine (l7_known_any w5 (HV.out.ext HE5.out)).mono ?_
          rintro r w6 ⟨rfl, hE6⟩
          go_wp2_with fail
          go_ret
          exact ⟨rfl, HE5.out.trans hE6⟩
        | true =>
          cases c3 : Ec.isLate late with
          | false =>
            go_wp2_with fail
            refine (e_Missed_err p e set lo hi late w1 (HM.out.ext HE1.out) HS.out.eng (by omega) (by rw [c0, c1, c2, c3]; rfl)).mono ?_
            rintro r w2 ⟨rfl, hE2⟩
            have HE2 := Lib.hid (HE1.out.trans hE2)
            have HR2 := Lib.hid (HR1.out.ext hE2)
            clear b1
            have b2 := HR2.out.cell
            clear hE2
            go_wp2_with fail
            refine (e_Empty_err p e set lo hi late w2 (HM.out.ext HE2.out) HS.out.eng (by omega) (by rw [c0, c1, c2, c3]; rfl)).mono ?_
            rintro r w3 ⟨rfl, hE3⟩
            have HE3 := Lib.hid (HE2.out.trans hE3)
            have HR3 := Lib.hid (HR2.out.ext hE3)
            clear b2
            have b3 := HR3.out.cell
            clear hE3
            go_wp2_with fail
            refine (r7_Engine_any p e w3 (HM.out.eng.ext HE3.out) HS.out.eng).mono ?_
            rintro r w4 ⟨rfl, hE4⟩
            have HE4 := Lib.hid (HE3.out.trans hE4)
            have HR4 := Lib.hid (HR3.out.ext hE4)
            clear b3
            have b4 := HR4.out.cell
            clear hE4
            rw [c0]
            go_wp2_with fail
            refine (r1_Set_any p.Af p.At e.feasts.length p.cf p.ct set w4 (by omega) (HM.out.ext HE4.out).set (by omega)).mono ?_
            rintro r w5 ⟨rfl, hE5⟩
            have HE5 := Lib.hid (HE4.out.trans hE5)
            have HR5 := Lib.hid (HR4.out.ext hE5)
            clear b4
            have b5 := HR5.out.cell
            clear hE5
            rw [show Ec.rising set 0 ((e.feasts.length : Int) - 1) = Ec.setOk e.feasts set from rfl, c1]
            go_wp2_with fail
            refine (r7_Span_any lo hi _).mono ?_
            rintro r w' ⟨rfl, rfl⟩
            rw [c2]
            go_wp2_with fail
            refine (r7_Late_any late _).mono ?_
            rintro r w' ⟨rfl, rfl⟩
            rw [c3]
            go_wp2_with fail
            refine (l7_known_any w5 (HV.out.ext HE5.out)).mono ?_
            rintro r w6 ⟨rfl, hE6⟩
            go_wp2_with fail
            go_ret
            exact ⟨rfl, HE5.out.trans hE6⟩
          | true =>
            obtain ⟨s1, s2, s3, s4, s5⟩ := espan_of c2
            obtain ⟨l1, l2⟩ := elate_of c3
            have HL1 : Hid ((Ec.missedL e set lo hi late).length ≤ 100000) := Lib.hid (Nat.le_trans (List.length_filter_le ..) (real_few e s1 (by omega)))
            have HL2 : Hid ((Ec.emptyL e set lo hi late).length ≤ 100000) := Lib.hid (Nat.le_trans (List.length_filter_le ..) (fore_few e set s1 (by omega)))
            go_wp2_with fail
            refine (e_Missed_ok p e set lo hi late w1 (HM.out.ext HE1.out) HS.out.eng (by omega) c0 c1 c2 c3).mono ?_
            rintro r w2 ⟨va, rfl, hHVA, hE2⟩
            have HE2 := Lib.hid (HE1.out.trans hE2)
            have HR2 := Lib.hid (HR1.out.ext hE2)
            clear b1
            have b2 := HR2.out.cell
            clear hE2
            have HVA := Lib.hid hHVA
            clear hHVA
            go_wp2_with fail
            refine (e_Empty_ok p e set lo hi late w2 (HM.out.ext HE2.out) HS.out.eng (by omega) c0 c1 c2 c3).mono ?_
            rintro r w3 ⟨vb, rfl, hHVB, hE3⟩
            have HE3 := Lib.hid (HE2.out.trans hE3)
            have HR3 := Lib.hid (HR2.out.ext hE3)
            clear b2
            have b3 := HR3.out.cell
            replace HVA := Lib.hid (HVA.out.ext hE3)
            clear hE3
            have HVB := Lib.hid hHVB
            clear hHVB
            go_wp2_with fail
            refine (r7_Engine_any p e w3 (HM.out.eng.ext HE3.out) HS.out.eng).mono ?_
            rintro r w4 ⟨rfl, hE4⟩
            have HE4 := Lib.hid (HE3.out.trans hE4)
            have HR4 := Lib.hid (HR3.out.ext hE4)
            clear b3
            have b4 := HR4.out.cell
            replace HVA := Lib.hid (HVA.out.ext hE4)
            replace HVB := Lib.hid (HVB.out.ext hE4)
            clear hE4
            rw [c0]
            go_wp2_with fail
            refine (r1_Set_any p.Af p.At e.feasts.length p.cf p.ct set w4 (by omega) (HM.out.ext HE4.out).set (by omega)).mono ?_
            rintro r w5 ⟨rfl, hE5⟩
            have HE5 := Lib.hid (HE4.out.trans hE5)
            have HR5 := Lib.hid (HR4.out.ext hE5)
            clear b4
            have b5 := HR5.out.cell
            replace HVA := Lib.hid (HVA.out.ext hE5)
            replace HVB := Lib.hid (HVB.out.ext hE5)
            clear hE5
            rw [show Ec.rising set 0 ((e.feasts.length : Int) - 1) = Ec.setOk e.feasts set from rfl, c1]
            go_wp2_with fail
            refine (r7_Span_any lo hi _).mono ?_
            rintro r w' ⟨rfl, rfl⟩
            rw [c2]
            go_wp2_with fail
            refine (r7_Late_any late _).mono ?_
            rintro r w' ⟨rfl, rfl⟩
            rw [c3]
            go_wp2_with fail
            refine (r7_Missed_any p e set lo hi late w5 (HM.out.ext HE5.out) c0 c1 (by omega) (by omega) (by omega) l1 l2).mono ?_
            rintro r w6 ⟨vc, rfl, hHVC, hE6⟩
            have HE6 := Lib.hid (HE5.out.trans hE6)
            have HR6 := Lib.hid (HR5.out.ext hE6)
            clear b5
            have b6 := HR6.out.cell
            replace HVA := Lib.hid (HVA.out.ext hE6)
            replace HVB := Lib.hid (HVB.out.ext hE6)
            clear hE6
            have HVC := Lib.hid hHVC
            clear hHVC
            go_wp2_with fail
            refine (r_SameEclipses_any va vc _ _ w6 HVA.out HVC.out HL1.out HL1.out).mono ?_
            rintro r w7 ⟨rfl, hE7⟩
            have HE7 := Lib.hid (HE6.out.trans hE7)
            have HR7 := Lib.hid (HR6.out.ext hE7)
            clear b6
            have b7 := HR7.out.cell
            replace HVA := Lib.hid (HVA.out.ext hE7)
            replace HVB := Lib.hid (HVB.out.ext hE7)
            replace HVC := Lib.hid (HVC.out.ext hE7)
            clear hE7
            rw [decide_eq_true rfl]
            go_wp2_with fail
            refine (r7_Empty_any p e set lo hi late w7 (HM.out.ext HE7.out) c0 c1 (by omega) (by omega) (by omega) l1 l2).mono ?_
            rintro r w8 ⟨vd, rfl, hHVD, hE8⟩
            have HE8 := Lib.hid (HE7.out.trans hE8)
            have HR8 := Lib.hid (HR7.out.ext hE8)
            clear b7
            have b8 := HR8.out.cell
            replace HVA := Lib.hid (HVA.out.ext hE8)
            replace HVB := Lib.hid (HVB.out.ext hE8)
            replace HVC := Lib.hid (HVC.out.ext hE8)
            clear hE8
            have HVD := Lib.hid hHVD
            clear hHVD
            go_wp2_with fail
            refine (r_SameEclipses_any vb vd _ _ w8 HVB.out HVD.out HL2.out HL2.out).mono ?_
            rintro r w9 ⟨rfl, hE9⟩
            have HE9 := Lib.hid (HE8.out.trans hE9)
            have HR9 := Lib.hid (HR8.out.ext hE9)
            clear b8
            have b9 := HR9.out.cell
            replace HVA := Lib.hid (HVA.out.ext hE9)
            replace HVB := Lib.hid (HVB.out.ext hE9)
            replace HVC := Lib.hid (HVC.out.ext hE9)
            replace HVD := Lib.hid (HVD.out.ext hE9)
            clear hE9
            rw [decide_eq_true rfl]
            go_wp2_with fail
            refine (l7_known_any w9 (HV.out.ext HE9.out)).mono ?_
            rintro r w10 ⟨rfl, hE10⟩
            go_wp2_with fail
            go_ret
            exact ⟨rfl, HE9.out.trans hE10⟩
end Go.Proofs.YtcbodpnmndbgnaaGreatDoor
