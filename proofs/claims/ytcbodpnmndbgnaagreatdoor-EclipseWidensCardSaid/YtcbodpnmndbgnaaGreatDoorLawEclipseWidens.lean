/- The walk of the law EclipseWidens. (Printed by wip/mkelaws.py.) -/
import Derived.Carry
import Derived.Test.YtcbodpnmndbgnaaGreatDoorG13
import Derived.Test.YtcbodpnmndbgnaaGreatDoorG09
import Derived.Test.YtcbodpnmndbgnaaGreatDoorG08
import Derived.Test.YtcbodpnmndbgnaaGreatDoorG15
import Derived.Test.YtcbodpnmndbgnaaGreatDoorG11
namespace Go.Proofs.YtcbodpnmndbgnaaGreatDoor
open Go.RowKit
open Sp (rd)
set_option linter.unusedSimpArgs false
set_option linter.unusedVariables false

set_option maxRecDepth 100000 in
set_option maxHeartbeats 8000000 in
theorem law_EclipseWidens (p : EP) (e : Ec.Engine) (set : List Int) (lo hi late : Int) (w : World) (hV : Env w) (hm : EngSet w p e set) (hl : EngLong e) (hs : set.length ≤ 9223372036854775807) :
    Calls Tryz.prog 8 #[.agg #[.slice p.Ab e.sky.bodies.length p.cb, .int .i64 e.sky.nnum, .int .i64 e.sky.nden, .int .i64 e.sky.nstart, .slice p.As e.sun.length p.cs, .slice p.Am e.moon.length p.cm, .slice p.An e.node.length p.cn, .slice p.Af e.feasts.length p.cf, .int .i64 e.nw, .int .i64 e.fl, .int .i64 e.wide], .slice p.At set.length p.ct, .int .i64 lo, .int .i64 hi, .int .i64 late] w fun r w' => r = .returned (.bool true) ∧ Ext w w' := by
  have HL := Lib.hid hl
  have HM := Lib.hid hm
  have HV := Lib.hid hV
  have HS0 := Lib.hid hs
  clear hm hl hV hs
  go_enter Tryz.func8, Tryz.ntmps8
  go_wp2_with fail
  have HR0 := Lib.hid (Row.new w 32 #[.slice p.Ab e.sky.bodies.length p.cb, .int .i64 e.sky.nnum, .int .i64 e.sky.nden, .int .i64 e.sky.nstart, .slice p.As e.sun.length p.cs, .slice p.Am e.moon.length p.cm, .slice p.An e.node.length p.cn, .slice p.Af e.feasts.length p.cf, .int .i64 e.nw, .int .i64 e.fl, .int .i64 e.wide])
  have HE0 : Hid (Ext w (w.alloc (.cells #[.slice p.Ab e.sky.bodies.length p.cb, .int .i64 e.sky.nnum, .int .i64 e.sky.nden, .int .i64 e.sky.nstart, .slice p.As e.sun.length p.cs, .slice p.Am e.moon.length p.cm, .slice p.An e.node.length p.cn, .slice p.Af e.feasts.length p.cf, .int .i64 e.nw, .int .i64 e.fl, .int .i64 e.wide] 32))) := Lib.hid ((Ext.refl w).alloc _)
  generalize w.alloc (.cells #[.slice p.Ab e.sky.bodies.length p.cb, .int .i64 e.sky.nnum, .int .i64 e.sky.nden, .int .i64 e.sky.nstart, .slice p.As e.sun.length p.cs, .slice p.Am e.moon.length p.cm, .slice p.An e.node.length p.cn, .slice p.Af e.feasts.length p.cf, .int .i64 e.nw, .int .i64 e.fl, .int .i64 e.wide] 32) = w0 at *
  have b0 := HR0.out.cell
  refine (l7_short_any p e set w0 (HM.out.eng.ext HE0.out) HL.out HS0.out).mono ?_
  rintro r w1 ⟨rfl, hE1⟩
  have HE1 := Lib.hid (HE0.out.trans hE1)
  have HR1 := Lib.hid (HR0.out.ext hE1)
  clear b0
  have b1 := HR1.out.cell
  clear hE1
  cases hsh : shortB e set with
  | false =>
    go_wp2_with fail
    refine (l7_known_any w1 (HV.out.ext HE1.out)).mono ?_
    rintro r w2 ⟨rfl, hE2⟩
    go_wp2_with fail
    go_ret
    exact ⟨rfl, HE1.out.trans hE2⟩
  | true =>
    have HS := Lib.hid (shorts_of hsh)
    have hfl := HS.out.feasts
    have hsl := HS.out.set
    clear hsh
    cases c0 : Ec.engineOk e with
    | false =>
      go_wp2_with fail
      refine (e_Widens_err p e set lo hi late w1 (HM.out.ext HE1.out) HS.out.eng (by omega) (by rw [c0]; simp)).mono ?_
      rintro r w2 ⟨rfl, hE2⟩
      have HE2 := Lib.hid (HE1.out.trans hE2)
      have HR2 := Lib.hid (HR1.out.ext hE2)
      clear b1
      have b2 := HR2.out.cell
      clear hE2
      go_wp2_with fail
      refine (e_Settings_err p e set lo hi late w2 (HM.out.eng.ext HE2.out) HS.out.eng (by rw [c0]; simp)).mono ?_
      rintro r w3 ⟨rfl, hE3⟩
      have HE3 := Lib.hid (HE2.out.trans hE3)
      have HR3 := Lib.hid (HR2.out.ext hE3)
      clear b2
      have b3 := HR3.out.cell
      clear hE3
      go_wp2_with fail
      refine (r7_Engine_any p e w3 (HM.out.eng.ext HE3.out) HS.out.eng).mono ?_
      rintro r w4 ⟨rfl, hE4⟩
      have HE4 := Lib.hid (HE3.out.trans hE4)
      have HR4 := Lib.hid (HR3.out.ext hE4)
      clear b3
      have b4 := HR4.out.cell
      clear hE4
      rw [c0]
      go_wp2_with fail
      refine (l7_known_any w4 (HV.out.ext HE4.out)).mono ?_
      rintro r w5 ⟨rfl, hE5⟩
      go_wp2_with fail
      go_ret
      exact ⟨rfl, HE4.out.trans hE5⟩
    | true =>
      cases c2 : Ec.isSpan lo hi with
      | false =>
        go_wp2_with fail
        refine (e_Widens_err p e set lo hi late w1 (HM.out.ext HE1.out) HS.out.eng (by omega) (by rw [c0, c2]; simp)).mono ?_
        rintro r w2 ⟨rfl, hE2⟩
        have HE2 := Lib.hid (HE1.out.trans hE2)
        have HR2 := Lib.hid (HR1.out.ext hE2)
        clear b1
        have b2 := HR2.out.cell
        clear hE2
        go_wp2_with fail
        refine (e_Settings_err p e set lo hi late w2 (HM.out.eng.ext HE2.out) HS.out.eng (by rw [c0, c2]; simp)).mono ?_
        rintro r w3 ⟨rfl, hE3⟩
        have HE3 := Lib.hid (HE2.out.trans hE3)
        have HR3 := Lib.hid (HR2.out.ext hE3)
        clear b2
        have b3 := HR3.out.cell
        clear hE3
        go_wp2_with fail
        refine (r7_Engine_any p e w3 (HM.out.eng.ext HE3.out) HS.out.eng).mono ?_
        rintro r w4 ⟨rfl, hE4⟩
        have HE4 := Lib.hid (HE3.out.trans hE4)
        have HR4 := Lib.hid (HR3.out.ext hE4)
        clear b3
        have b4 := HR4.out.cell
        clear hE4
        rw [c0]
        go_wp2_with fail
        refine (r7_Span_any lo hi _).mono ?_
        rintro r w' ⟨rfl, rfl⟩
        rw [c2]
        go_wp2_with fail
        refine (l7_known_any w4 (HV.out.ext HE4.out)).mono ?_
        rintro r w5 ⟨rfl, hE5⟩
        go_wp2_with fail
        go_ret
        exact ⟨rfl, HE4.out.trans hE5⟩
      | true =>
        cases c3 : Ec.isLate late with
        | false =>
          go_wp2_with fail
          refine (e_Widens_err p e set lo hi late w1 (HM.out.ext HE1.out) HS.out.eng (by omega) (by rw [c0, c2, c3]; simp)).mono ?_
          rintro r w2 ⟨rfl, hE2⟩
          have HE2 := Lib.hid (HE1.out.trans hE2)
          have HR2 := Lib.hid (HR1.out.ext hE2)
          clear b1
          have b2 := HR2.out.cell
          clear hE2
          go_wp2_with fail
          refine (e_Settings_err p e set lo hi late w2 (HM.out.eng.ext HE2.out) HS.out.eng (by rw [c0, c2, c3]; simp)).mono ?_
          rintro r w3 ⟨rfl, hE3⟩
          have HE3 := Lib.hid (HE2.out.trans hE3)
          have HR3 := Lib.hid (HR2.out.ext hE3)
          clear b2
          have b3 := HR3.out.cell
          clear hE3
          go_wp2_with fail
          refine (r7_Engine_any p e w3 (HM.out.eng.ext HE3.out) HS.out.eng).mono ?_
          rintro r w4 ⟨rfl, hE4⟩
          have HE4 := Lib.hid (HE3.out.trans hE4)
          have HR4 := Lib.hid (HR3.out.ext hE4)
          clear b3
          have b4 := HR4.out.cell
          clear hE4
          rw [c0]
          go_wp2_with fail
          refine (r7_Span_any lo hi _).mono ?_
          rintro r w' ⟨rfl, rfl⟩
          rw [c2]
          go_wp2_with fail
          refine (r7_Late_any late _).mono ?_
          rintro r w' ⟨rfl, rfl⟩
          rw [c3]
          go_wp2_with fail
          refine (l7_known_any w4 (HV.out.ext HE4.out)).mono ?_
          rintro r w5 ⟨rfl, hE5⟩
          go_wp2_with fail
          go_ret
          exact ⟨rfl, HE4.out.trans hE5⟩
        | true =>
          obtain ⟨s1, s2, s3, s4, s5⟩ := espan_of c2
          obtain ⟨l1, l2⟩ := elate_of c3
          have HRS := Lib.hid (fun W h => r7_Settings_any p e lo hi late W h c0 (by omega) (by omega) (by omega) (by omega) (by omega))
          have HD1 := Lib.hid (Ec.prog_doc (goodB e lo hi late) e.feasts.length)
          cases c1 : Ec.setOk e.feasts set with
          | false =>
            go_wp2_with fail
            refine (e_Widens_err p e set lo hi late w1 (HM.out.ext HE1.out) HS.out.eng (by omega) (by rw [c0, c1]; rfl)).mono ?_
            rintro r w2 ⟨rfl, hE2⟩
            have HE2 := Lib.hid (HE1.out.trans hE2)
            have HR2 := Lib.hid (HR1.out.ext hE2)
            clear b1
            have b2 := HR2.out.cell
            clear hE2
            cases hd : Ec.docSet (goodB e lo hi late) e.feasts.length with
            | none =>
              go_wp2_with fail
              refine (e_Settings_ok p e lo hi late w2 (HM.out.eng.ext HE2.out) HS.out.eng c0 c2 c3).mono ?_
              rintro r w3 ⟨hsp, hE3⟩
              rw [HD1.out, hd] at hsp
              have hsp' : r = .returned (.tuple #[.slice none 0 0, .int .i64 5]) := hsp
              subst hsp'
              clear hsp
              have HE3 := Lib.hid (HE2.out.trans hE3)
              have HR3 := Lib.hid (HR2.out.ext hE3)
              clear b2
              have b3 := HR3.out.cell
              clear hE3
              go_wp2_with fail
              refine (r7_Engine_any p e w3 (HM.out.eng.ext HE3.out) HS.out.eng).mono ?_
              rintro r w4 ⟨rfl, hE4⟩
              have HE4 := Lib.hid (HE3.out.trans hE4)
              have HR4 := Lib.hid (HR3.out.ext hE4)
              clear b3
              have b4 := HR4.out.cell
              clear hE4
              rw [c0]
              go_wp2_with fail
              refine (r7_Span_any lo hi _).mono ?_
              rintro r w' ⟨rfl, rfl⟩
              rw [c2]
              go_wp2_with fail
              refine (r7_Late_any late _).mono ?_
              rintro r w' ⟨rfl, rfl⟩
              rw [c3]
              go_wp2_with fail
              refine (r1_Set_any p.Af p.At e.feasts.length p.cf p.ct set w4 (by omega) (HM.out.ext HE4.out).set (by omega)).mono ?_
              rintro r w5 ⟨rfl, hE5⟩
              have HE5 := Lib.hid (HE4.out.trans hE5)
              have HR5 := Lib.hid (HR4.out.ext hE5)
              clear b4
              have b5 := HR5.out.cell
              clear hE5
              rw [show Ec.rising set 0 ((e.feasts.length : Int) - 1) = Ec.setOk e.feasts set from rfl, c1]
              go_wp2_with fail
              refine (HRS.out w5 (HM.out.eng.ext HE5.out)).mono ?_
              rintro r w6 ⟨hdp, hE6⟩
              rw [hd] at hdp
              have hdp' : r = .returned (.tuple #[.slice none 0 0, .bool false]) := hdp
              subst hdp'
              clear hdp
              have HE6 := Lib.hid (HE5.out.trans hE6)
              have HR6 := Lib.hid (HR5.out.ext hE6)
              clear b5
              have b6 := HR6.out.cell
              clear hE6
              go_wp2_with fail
              refine (l7_known_any w6 (HV.out.ext HE6.out)).mono ?_
              rintro r w7 ⟨rfl, hE7⟩
              go_wp2_with fail
              go_ret
              exact ⟨rfl, HE6.out.trans hE7⟩
            | some y =>
              go_wp2_with fail
              refine (e_Settings_ok p e lo hi late w2 (HM.out.eng.ext HE2.out) HS.out.eng c0 c2 c3).mono ?_
              rintro r w3 ⟨hsp, hE3⟩
              rw [HD1.out, hd] at hsp
              obtain ⟨A2, d2, rfl, hI⟩ := hsp
              have HE3 := Lib.hid (HE2.out.trans hE3)
              have HR3 := Lib.hid (HR2.out.ext hE3)
              clear b2
              have b3 := HR3.out.cell
              clear hE3
              have HI := Lib.hid hI
              clear hI
              go_wp2_with fail
              refine (r7_Engine_any p e w3 (HM.out.eng.ext HE3.out) HS.out.eng).mono ?_
              rintro r w4 ⟨rfl, hE4⟩
              have HE4 := Lib.hid (HE3.out.trans hE4)
              have HR4 := Lib.hid (HR3.out.ext hE4)
              clear b3
              have b4 := HR4.out.cell
              replace HI := Lib.hid (HI.out.ext hE4)
              clear hE4
              rw [c0]
              go_wp2_with fail
              refine (r7_Span_any lo hi _).mono ?_
              rintro r w' ⟨rfl, rfl⟩
              rw [c2]
              go_wp2_with fail
              refine (r7_Late_any late _).mono ?_
              rintro r w' ⟨rfl, rfl⟩
              rw [c3]
              go_wp2_with fail
              refine (r1_Set_any p.Af p.At e.feasts.length p.cf p.ct set w4 (by omega) (HM.out.ext HE4.out).set (by omega)).mono ?_
              rintro r w5 ⟨rfl, hE5⟩
              have HE5 := Lib.hid (HE4.out.trans hE5)
              have HR5 := Lib.hid (HR4.out.ext hE5)
              clear b4
              have b5 := HR5.out.cell
              replace HI := Lib.hid (HI.out.ext hE5)
              clear hE5
              rw [show Ec.rising set 0 ((e.feasts.length : Int) - 1) = Ec.setOk e.feasts set from rfl, c1]
              go_wp2_with fail
              refine (HRS.out w5 (HM.out.eng.ext HE5.out)).mono ?_
              rintro r w6 ⟨hdp, hE6⟩
              rw [hd] at hdp
              obtain ⟨A3, d3, rfl, hJ⟩ := hdp
              have HE6 := Lib.hid (HE5.out.trans hE6)
              have HR6 := Lib.hid (HR5.out.ext hE6)
              clear b5
              have b6 := HR6.out.cell
              replace HI := Lib.hid (HI.out.ext hE6)
              clear hE6
              have HJ := Lib.hid hJ
              clear hJ
              have hyl := incr_len (Ec.doc_is hd).2.1
              have hyl2 : y.length ≤ 100000 := by omega
              clear hd hyl
              go_wp2_with fail
              refine (r_Same_any (.slice A2 y.length d2) (.slice A3 y.length d3) y y w6 ⟨A2, d2, rfl, HI.out⟩ ⟨A3, d3, rfl, HJ.out⟩ hyl2 hyl2).mono ?_
              rintro r w7 ⟨rfl, hE7⟩
              have HE7 := Lib.hid (HE6.out.trans hE7)
              have HR7 := Lib.hid (HR6.out.ext hE7)
              clear b6
              have b7 := HR7.out.cell
              replace HI := Lib.hid (HI.out.ext hE7)
              replace HJ := Lib.hid (HJ.out.ext hE7)
              clear hE7
              rw [show decide (y = y) = true from decide_eq_true rfl]
              go_wp2_with fail
              refine (l7_known_any w7 (HV.out.ext HE7.out)).mono ?_
              rintro r w8 ⟨rfl, hE8⟩
              go_wp2_with fail
              go_ret
              exact ⟨rfl, HE7.out.trans hE8⟩
          | true =>
            have hlim := (Fine.limits ⟨c0, c1⟩ : (0 ≤ e.nw ∧ e.nw ≤ 5400) ∧ (0 ≤ e.fl ∧ e.fl ≤ 5400) ∧ (0 ≤ e.wide ∧ e.wide ≤ 5400))
            have HRW := Lib.hid (fun W h => r7_Widens_any p e set lo hi late W h c0 c1 (by omega) (by omega) (by omega) (by omega) (by omega))
            rw [Ec.widens_doc hlim.1.1 hlim.2.1.1] at HRW
            have hwl := Ec.widens_lim e set lo hi late
            clear hlim
            go_wp2_with fail
            refine (e_Widens_ok p e set lo hi late w1 (HM.out.ext HE1.out) HS.out.eng (by omega) c0 c1 c2 c3).mono ?_
            rintro r w2 ⟨rfl, hE2⟩
            have HE2 := Lib.hid (HE1.out.trans hE2)
            have HR2 := Lib.hid (HR1.out.ext hE2)
            clear b1
            have b2 := HR2.out.cell
            clear hE2
            obtain ⟨n, hn⟩ : ∃ n, Ec.widens e set lo hi late = n := ⟨_, rfl⟩
            rw [hn] at hwl HRW ⊢
            clear hn
            cases hln : Sp.isLimit n with
            | false =>
              rw [show wideV n = .tuple #[.int .i64 0, .int .i64 5] from if_neg (by rw [hln]; decide)]
              rw [hln] at HRW
              simp only [Bool.false_eq_true, if_false] at HRW
              cases hd : Ec.docSet (goodB e lo hi late) e.feasts.length with
              | none =>
                go_wp2_with fail
                refine (e_Settings_ok p e lo hi late w2 (HM.out.eng.ext HE2.out) HS.out.eng c0 c2 c3).mono ?_
                rintro r w3 ⟨hsp, hE3⟩
                rw [HD1.out, hd] at hsp
                have hsp' : r = .returned (.tuple #[.slice none 0 0, .int .i64 5]) := hsp
                subst hsp'
                clear hsp
                have HE3 := Lib.hid (HE2.out.trans hE3)
                have HR3 := Lib.hid (HR2.out.ext hE3)
                clear b2
                have b3 := HR3.out.cell
                clear hE3
                go_wp2_with fail
                refine (r7_Engine_any p e w3 (HM.out.eng.ext HE3.out) HS.out.eng).mono ?_
                rintro r w4 ⟨rfl, hE4⟩
                have HE4 := Lib.hid (HE3.out.trans hE4)
                have HR4 := Lib.hid (HR3.out.ext hE4)
                clear b3
                have b4 := HR4.out.cell
                clear hE4
                rw [c0]
                go_wp2_with fail
                refine (r7_Span_any lo hi _).mono ?_
                rintro r w' ⟨rfl, rfl⟩
                rw [c2]
                go_wp2_with fail
                refine (r7_Late_any late _).mono ?_
                rintro r w' ⟨rfl, rfl⟩
                rw [c3]
                go_wp2_with fail
                refine (r1_Set_any p.Af p.At e.feasts.length p.cf p.ct set w4 (by omega) (HM.out.ext HE4.out).set (by omega)).mono ?_
                rintro r w5 ⟨rfl, hE5⟩
                have HE5 := Lib.hid (HE4.out.trans hE5)
                have HR5 := Lib.hid (HR4.out.ext hE5)
                clear b4
                have b5 := HR5.out.cell
                clear hE5
                rw [show Ec.rising set 0 ((e.feasts.length : Int) - 1) = Ec.setOk e.feasts set from rfl, c1]
                go_wp2_with fail
                refine (HRW.out w5 (HM.out.ext HE5.out)).mono ?_
                rintro r w6 ⟨rfl, hE6⟩
                have HE6 := Lib.hid (HE5.out.trans hE6)
                have HR6 := Lib.hid (HR5.out.ext hE6)
                clear b5
                have b6 := HR6.out.cell
                clear hE6
                go_wp2_with fail
                refine (HRS.out w6 (HM.out.eng.ext HE6.out)).mono ?_
                rintro r w7 ⟨hdp, hE7⟩
                rw [hd] at hdp
                have hdp' : r = .returned (.tuple #[.slice none 0 0, .bool false]) := hdp
                subst hdp'
                clear hdp
                have HE7 := Lib.hid (HE6.out.trans hE7)
                have HR7 := Lib.hid (HR6.out.ext hE7)
                clear b6
                have b7 := HR7.out.cell
                clear hE7
                go_wp2_with fail
                refine (l7_known_any w7 (HV.out.ext HE7.out)).mono ?_
                rintro r w8 ⟨rfl, hE8⟩
                go_wp2_with fail
                go_ret
                exact ⟨rfl, HE7.out.trans hE8⟩
              | some y =>
                go_wp2_with fail
                refine (e_Settings_ok p e lo hi late w2 (HM.out.eng.ext HE2.out) HS.out.eng c0 c2 c3).mono ?_
                rintro r w3 ⟨hsp, hE3⟩
                rw [HD1.out, hd] at hsp
                obtain ⟨A2, d2, rfl, hI⟩ := hsp
                have HE3 := Lib.hid (HE2.out.trans hE3)
                have HR3 := Lib.hid (HR2.out.ext hE3)
                clear b2
                have b3 := HR3.out.cell
                clear hE3
                have HI := Lib.hid hI
                clear hI
                go_wp2_with fail
                refine (r7_Engine_any p e w3 (HM.out.eng.ext HE3.out) HS.out.eng).mono ?_
                rintro r w4 ⟨rfl, hE4⟩
                have HE4 := Lib.hid (HE3.out.trans hE4)
                have HR4 := Lib.hid (HR3.out.ext hE4)
                clear b3
                have b4 := HR4.out.cell
                replace HI := Lib.hid (HI.out.ext hE4)
                clear hE4
                rw [c0]
                go_wp2_with fail
                refine (r7_Span_any lo hi _).mono ?_
                rintro r w' ⟨rfl, rfl⟩
                rw [c2]
                go_wp2_with fail
                refine (r7_Late_any late _).mono ?_
                rintro r w' ⟨rfl, rfl⟩
                rw [c3]
                go_wp2_with fail
                refine (r1_Set_any p.Af p.At e.feasts.length p.cf p.ct set w4 (by omega) (HM.out.ext HE4.out).set (by omega)).mono ?_
                rintro r w5 ⟨rfl, hE5⟩
                have HE5 := Lib.hid (HE4.out.trans hE5)
                have HR5 := Lib.hid (HR4.out.ext hE5)
                clear b4
                have b5 := HR5.out.cell
                replace HI := Lib.hid (HI.out.ext hE5)
                clear hE5
                rw [show Ec.rising set 0 ((e.feasts.length : Int) - 1) = Ec.setOk e.feasts set from rfl, c1]
                go_wp2_with fail
                refine (HRW.out w5 (HM.out.ext HE5.out)).mono ?_
                rintro r w6 ⟨rfl, hE6⟩
                have HE6 := Lib.hid (HE5.out.trans hE6)
                have HR6 := Lib.hid (HR5.out.ext hE6)
                clear b5
                have b6 := HR6.out.cell
                replace HI := Lib.hid (HI.out.ext hE6)
                clear hE6
                go_wp2_with fail
                refine (HRS.out w6 (HM.out.eng.ext HE6.out)).mono ?_
                rintro r w7 ⟨hdp, hE7⟩
                rw [hd] at hdp
                obtain ⟨A3, d3, rfl, hJ⟩ := hdp
                have HE7 := Lib.hid (HE6.out.trans hE7)
                have HR7 := Lib.hid (HR6.out.ext hE7)
                clear b6
                have b7 := HR7.out.cell
                replace HI := Lib.hid (HI.out.ext hE7)
                clear hE7
                have HJ := Lib.hid hJ
                clear hJ
                have hyl := incr_len (Ec.doc_is hd).2.1
                have hyl2 : y.length ≤ 100000 := by omega
                clear hd hyl
                go_wp2_with fail
                refine (r_Same_any (.slice A2 y.length d2) (.slice A3 y.length d3) y y w7 ⟨A2, d2, rfl, HI.out⟩ ⟨A3, d3, rfl, HJ.out⟩ hyl2 hyl2).mono ?_
                rintro r w8 ⟨rfl, hE8⟩
                have HE8 := Lib.hid (HE7.out.trans hE8)
                have HR8 := Lib.hid (HR7.out.ext hE8)
                clear b7
                have b8 := HR8.out.cell
                replace HI := Lib.hid (HI.out.ext hE8)
                replace HJ := Lib.hid (HJ.out.ext hE8)
                clear hE8
                rw [show decide (y = y) = true from decide_eq_true rfl]
                go_wp2_with fail
                refine (l7_known_any w8 (HV.out.ext HE8.out)).mono ?_
                rintro r w9 ⟨rfl, hE9⟩
                go_wp2_with fail
                go_ret
                exact ⟨rfl, HE8.out.trans hE9⟩
            | true =>
              rw [show wideV n = .tuple #[.int .i64 n, .int .i64 0] from if_pos hln]
              rw [if_pos hln] at HRW
              have hn0 : ¬ n < 0 := by omega
              have hn1 : (0 : Int) ≤ n := by omega
              cases hd : Ec.docSet (goodB e lo hi late) e.feasts.length with
              | none =>
                go_wp2_with fail
                refine (e_Settings_ok p e lo hi late w2 (HM.out.eng.ext HE2.out) HS.out.eng c0 c2 c3).mono ?_
                rintro r w3 ⟨hsp, hE3⟩
                rw [HD1.out, hd] at hsp
                have hsp' : r = .returned (.tuple #[.slice none 0 0, .int .i64 5]) := hsp
                subst hsp'
                clear hsp
                have HE3 := Lib.hid (HE2.out.trans hE3)
                have HR3 := Lib.hid (HR2.out.ext hE3)
                clear b2
                have b3 := HR3.out.cell
                clear hE3
                go_wp2_with fail
                refine (r7_Engine_any p e w3 (HM.out.eng.ext HE3.out) HS.out.eng).mono ?_
                rintro r w4 ⟨rfl, hE4⟩
                have HE4 := Lib.hid (HE3.out.trans hE4)
                have HR4 := Lib.hid (HR3.out.ext hE4)
                clear b3
                have b4 := HR4.out.cell
                clear hE4
                rw [c0]
                go_wp2_with fail
                refine (r7_Span_any lo hi _).mono ?_
                rintro r w' ⟨rfl, rfl⟩
                rw [c2]
                go_wp2_with fail
                refine (r7_Late_any late _).mono ?_
                rintro r w' ⟨rfl, rfl⟩
                rw [c3]
                go_wp2_with fail
                refine (r1_Set_any p.Af p.At e.feasts.length p.cf p.ct set w4 (by omega) (HM.out.ext HE4.out).set (by omega)).mono ?_
                rintro r w5 ⟨rfl, hE5⟩
                have HE5 := Lib.hid (HE4.out.trans hE5)
                have HR5 := Lib.hid (HR4.out.ext hE5)
                clear b4
                have b5 := HR5.out.cell
                clear hE5
                rw [show Ec.rising set 0 ((e.feasts.length : Int) - 1) = Ec.setOk e.feasts set from rfl, c1]
                go_wp2_with fail
                refine (HRW.out w5 (HM.out.ext HE5.out)).mono ?_
                rintro r w6 ⟨rfl, hE6⟩
                have HE6 := Lib.hid (HE5.out.trans hE6)
                have HR6 := Lib.hid (HR5.out.ext hE6)
                clear b5
                have b6 := HR6.out.cell
                clear hE6
                go_wp2_with fail
                refine (HRS.out w6 (HM.out.eng.ext HE6.out)).mono ?_
                rintro r w7 ⟨hdp, hE7⟩
                rw [hd] at hdp
                have hdp' : r = .returned (.tuple #[.slice none 0 0, .bool false]) := hdp
                subst hdp'
                clear hdp
                have HE7 := Lib.hid (HE6.out.trans hE7)
                have HR7 := Lib.hid (HR6.out.ext hE7)
                clear b6
                have b7 := HR7.out.cell
                clear hE7
                go_wp2_with fail
                refine (l7_known_any w7 (HV.out.ext HE7.out)).mono ?_
                rintro r w8 ⟨rfl, hE8⟩
                go_wp2_with fail
                go_ret
                exact ⟨rfl, HE7.out.trans hE8⟩
              | some y =>
                go_wp2_with fail
                refine (e_Settings_ok p e lo hi late w2 (HM.out.eng.ext HE2.out) HS.out.eng c0 c2 c3).mono ?_
                rintro r w3 ⟨hsp, hE3⟩
                rw [HD1.out, hd] at hsp
                obtain ⟨A2, d2, rfl, hI⟩ := hsp
                have HE3 := Lib.hid (HE2.out.trans hE3)
                have HR3 := Lib.hid (HR2.out.ext hE3)
                clear b2
                have b3 := HR3.out.cell
                clear hE3
                have HI := Lib.hid hI
                clear hI
                go_wp2_with fail
                refine (r7_Engine_any p e w3 (HM.out.eng.ext HE3.out) HS.out.eng).mono ?_
                rintro r w4 ⟨rfl, hE4⟩
                have HE4 := Lib.hid (HE3.out.trans hE4)
                have HR4 := Lib.hid (HR3.out.ext hE4)
                clear b3
                have b4 := HR4.out.cell
                replace HI := Lib.hid (HI.out.ext hE4)
                clear hE4
                rw [c0]
                go_wp2_with fail
                refine (r7_Span_any lo hi _).mono ?_
                rintro r w' ⟨rfl, rfl⟩
                rw [c2]
                go_wp2_with fail
                refine (r7_Late_any late _).mono ?_
                rintro r w' ⟨rfl, rfl⟩
                rw [c3]
                go_wp2_with fail
                refine (r1_Set_any p.Af p.At e.feasts.length p.cf p.ct set w4 (by omega) (HM.out.ext HE4.out).set (by omega)).mono ?_
                rintro r w5 ⟨rfl, hE5⟩
                have HE5 := Lib.hid (HE4.out.trans hE5)
                have HR5 := Lib.hid (HR4.out.ext hE5)
                clear b4
                have b5 := HR5.out.cell
                replace HI := Lib.hid (HI.out.ext hE5)
                clear hE5
                rw [show Ec.rising set 0 ((e.feasts.length : Int) - 1) = Ec.setOk e.feasts set from rfl, c1]
                go_wp2_with fail
                refine (HRW.out w5 (HM.out.ext HE5.out)).mono ?_
                rintro r w6 ⟨rfl, hE6⟩
                have HE6 := Lib.hid (HE5.out.trans hE6)
                have HR6 := Lib.hid (HR5.out.ext hE6)
                clear b5
                have b6 := HR6.out.cell
                replace HI := Lib.hid (HI.out.ext hE6)
                clear hE6
                go_wp2_with fail
                refine (HRS.out w6 (HM.out.eng.ext HE6.out)).mono ?_
                rintro r w7 ⟨hdp, hE7⟩
                rw [hd] at hdp
                obtain ⟨A3, d3, rfl, hJ⟩ := hdp
                have HE7 := Lib.hid (HE6.out.trans hE7)
                have HR7 := Lib.hid (HR6.out.ext hE7)
                clear b6
                have b7 := HR7.out.cell
                replace HI := Lib.hid (HI.out.ext hE7)
                clear hE7
                have HJ := Lib.hid hJ
                clear hJ
                have hyl := incr_len (Ec.doc_is hd).2.1
                have hyl2 : y.length ≤ 100000 := by omega
                clear hd hyl
                go_wp2_with fail
                refine (r_Same_any (.slice A2 y.length d2) (.slice A3 y.length d3) y y w7 ⟨A2, d2, rfl, HI.out⟩ ⟨A3, d3, rfl, HJ.out⟩ hyl2 hyl2).mono ?_
                rintro r w8 ⟨rfl, hE8⟩
                have HE8 := Lib.hid (HE7.out.trans hE8)
                have HR8 := Lib.hid (HR7.out.ext hE8)
                clear b7
                have b8 := HR8.out.cell
                replace HI := Lib.hid (HI.out.ext hE8)
                replace HJ := Lib.hid (HJ.out.ext hE8)
                clear hE8
                rw [show decide (y = y) = true from decide_eq_true rfl]
                go_wp2_with fail
                refine (l7_known_any w8 (HV.out.ext HE8.out)).mono ?_
                rintro r w9 ⟨rfl, hE9⟩
                go_wp2_with fail
                go_ret
                exact ⟨rfl, HE8.out.trans hE9⟩
end Go.Proofs.YtcbodpnmndbgnaaGreatDoor
