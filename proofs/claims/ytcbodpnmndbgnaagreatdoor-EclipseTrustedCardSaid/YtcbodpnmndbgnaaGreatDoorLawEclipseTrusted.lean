/- The walk of the law EclipseTrusted. (Printed by wip/mkelaws.py.) -/
import Derived.Carry
import Derived.Test.YtcbodpnmndbgnaaGreatDoorE12
namespace Go.Proofs.YtcbodpnmndbgnaaGreatDoor
open Go.RowKit
open Sp (rd)
set_option linter.unusedSimpArgs false
set_option linter.unusedVariables false

set_option maxRecDepth 100000 in
set_option maxHeartbeats 8000000 in
theorem law_EclipseTrusted (p : EP) (e : Ec.Engine) (set : List Int) (lo hi late : Int) (w : World) (hV : Env w) (hm : EngSet w p e set) (hl : EngLong e) (hs : set.length ≤ 9223372036854775807) :
    Calls Tryz.prog 7 #[.agg #[.slice p.Ab e.sky.bodies.length p.cb, .int .i64 e.sky.nnum, .int .i64 e.sky.nden, .int .i64 e.sky.nstart, .slice p.As e.sun.length p.cs, .slice p.Am e.moon.length p.cm, .slice p.An e.node.length p.cn, .slice p.Af e.feasts.length p.cf, .int .i64 e.nw, .int .i64 e.fl, .int .i64 e.wide], .slice p.At set.length p.ct, .int .i64 lo, .int .i64 hi, .int .i64 late] w fun r w' => r = .returned (.bool true) ∧ Ext w w' := by
  have HL := Lib.hid hl
  have HM := Lib.hid hm
  have HV := Lib.hid hV
  have HS0 := Lib.hid hs
  clear hm hl hV hs
  go_enter Tryz.func7, Tryz.ntmps7
  go_wp2_with fail
  have HR0 := Lib.hid (Row.new w 32 #[.slice p.Ab e.sky.bodies.length p.cb, .int .i64 e.sky.nnum, .int .i64 e.sky.nden, .int .i64 e.sky.nstart, .slice p.As e.sun.length p.cs, .slice p.Am e.moon.length p.cm, .slice p.An e.node.length p.cn, .slice p.Af e.feasts.length p.cf, .int .i64 e.nw, .int .i64 e.fl, .int .i64 e.wide])
  have HE0 : Hid (Ext w (w.alloc (.cells #[.slice p.Ab e.sky.bodies.length p.cb, .int .i64 e.sky.nnum, .int .i64 e.sky.nden, .int .i64 e.sky.nstart, .slice p.As e.sun.length p.cs, .slice p.Am e.moon.length p.cm, .slice p.An e.node.length p.cn, .slice p.Af e.feasts.length p.cf, .int .i64 e.nw, .int .i64 e.fl, .int .i64 e.wide] 32))) := Lib.hid ((Ext.refl w).alloc _)
  generalize w.alloc (.cells #[.slice p.Ab e.sky.bodies.length p.cb, .int .i64 e.sky.nnum, .int .i64 e.sky.nden, .int .i64 e.sky.nstart, .slice p.As e.sun.length p.cs, .slice p.Am e.moon.length p.cm, .slice p.An e.node.length p.cn, .slice p.Af e.feasts.length p.cf, .int .i64 e.nw, .int .i64 e.fl, .int .i64 e.wide] 32) = w0 at *
  have b0 := HR0.out.cell
  refine (l7_short_any p e set w0 (HM.out.eng.ext HE0.out) HL.out HS0.out).mono ?_
  rintro r w1 ⟨rfl, hE1⟩
  have HE1 := Lib.hid (HE0.out.trans hE1)
  have HR1 := Lib.hid (HR0.out.ext hE1)
  clear b0
  have b1 := HR1.out.cell
  clear hE1
  cases hsh : shortB e set with
  | false =>
    go_wp2_with fail
    refine (l7_known_any w1 (HV.out.ext HE1.out)).mono ?_
    rintro r w2 ⟨rfl, hE2⟩
    go_wp2_with fail
    go_ret
    exact ⟨rfl, HE1.out.trans hE2⟩
  | true =>
    have HS := Lib.hid (shorts_of hsh)
    have hfl := HS.out.feasts
    have hsl := HS.out.set
    clear hsh
    go_wp2_with fail
    refine (r7_Engine_any p e w1 (HM.out.eng.ext HE1.out) HS.out.eng).mono ?_
    rintro r w2 ⟨rfl, hE2⟩
    have HE2 := Lib.hid (HE1.out.trans hE2)
    have HR2 := Lib.hid (HR1.out.ext hE2)
    clear b1
    have b2 := HR2.out.cell
    clear hE2
    cases c0 : Ec.engineOk e with
    | false =>
      go_wp2_with fail
      refine (l7_known_any w2 (HV.out.ext HE2.out)).mono ?_
      rintro r w3 ⟨rfl, hE3⟩
      go_wp2_with fail
      go_ret
      exact ⟨rfl, HE2.out.trans hE3⟩
    | true =>
      go_wp2_with fail
      refine (r1_Set_any p.Af p.At e.feasts.length p.cf p.ct set w2 (by omega) (HM.out.ext HE2.out).set (by omega)).mono ?_
      rintro r w3 ⟨rfl, hE3⟩
      have HE3 := Lib.hid (HE2.out.trans hE3)
      have HR3 := Lib.hid (HR2.out.ext hE3)
      clear b2
      have b3 := HR3.out.cell
      clear hE3
      rw [show Ec.rising set 0 ((e.feasts.length : Int) - 1) = Ec.setOk e.feasts set from rfl]
      cases c1 : Ec.setOk e.feasts set with
      | false =>
        go_wp2_with fail
        refine (l7_known_any w3 (HV.out.ext HE3.out)).mono ?_
        rintro r w4 ⟨rfl, hE4⟩
        go_wp2_with fail
        go_ret
        exact ⟨rfl, HE3.out.trans hE4⟩
      | true =>
        go_wp2_with fail
        refine (r7_Span_any lo hi _).mono ?_
        rintro r w' ⟨rfl, rfl⟩
        cases c2 : Ec.isSpan lo hi with
        | false =>
          go_wp2_with fail
          refine (l7_known_any w3 (HV.out.ext HE3.out)).mono ?_
          rintro r w4 ⟨rfl, hE4⟩
          go_wp2_with fail
          go_ret
          exact ⟨rfl, HE3.out.trans hE4⟩
        | true =>
          go_wp2_with fail
          refine (r7_Late_any late _).mono ?_
          rintro r w' ⟨rfl, rfl⟩
          cases c3 : Ec.isLate late with
          | false =>
            go_wp2_with fail
            refine (l7_known_any w3 (HV.out.ext HE3.out)).mono ?_
            rintro r w4 ⟨rfl, hE4⟩
            go_wp2_with fail
            go_ret
            exact ⟨rfl, HE3.out.trans hE4⟩
          | true =>
            obtain ⟨s1, s2, s3, s4, s5⟩ := espan_of c2
            obtain ⟨l1, l2⟩ := elate_of c3
            have HUN := Lib.hid (Ec.until_laws e set lo hi late (by omega))
            go_wp2_with fail
            refine (e_Within_ok p e set lo hi w3 (HM.out.ext HE3.out) HS.out.eng (by omega) c0 c1 c2).mono ?_
            rintro r w4 ⟨rfl, hE4⟩
            have HE4 := Lib.hid (HE3.out.trans hE4)
            have HR4 := Lib.hid (HR3.out.ext hE4)
            clear b3
            have b4 := HR4.out.cell
            clear hE4
            cases hw : Ec.withinO e set lo hi with
            | none =>
              rw [show withinV none = .tuple #[.int .i64 0, .int .i64 5] from rfl]
              have HN := Lib.hid (Ec.withinN_none hw 30 (by omega) (by omega))
              clear hw
              go_wp2_with fail
              refine (e_Missed_ok p e set lo hi 30 w4 (HM.out.ext HE4.out) HS.out.eng (by omega) c0 c1 c2 (by decide)).mono ?_
              rintro r w5 ⟨v1, rfl, ⟨A1, d1, rfl, hv1⟩, hE5⟩
              have HE5 := Lib.hid (HE4.out.trans hE5)
              have HR5 := Lib.hid (HR4.out.ext hE5)
              clear b4
              have b5 := HR5.out.cell
              clear hE5
              clear hv1
              have hq1 : (Ec.missedL e set lo hi 30).length ≠ 0 := HN.out
              obtain ⟨N1, hN1⟩ : ∃ N, (Ec.missedL e set lo hi 30).length = N := ⟨_, rfl⟩
              rw [hN1] at hq1 ⊢
              clear hN1
              have ha1 : ((N1 : Int) == 0) = false := by simp; omega
              have hb1 : (0 : Int) < (N1 : Int) := by omega
              clear hq1
              go_wp2_with fail
              refine (e_Until_ok p e set lo hi late w5 (HM.out.ext HE5.out) HS.out.eng (by omega) c0 c1 c2 c3).mono ?_
              rintro r w6 ⟨rfl, hE6⟩
              have HE6 := Lib.hid (HE5.out.trans hE6)
              have HR6 := Lib.hid (HR5.out.ext hE6)
              clear b5
              have b6 := HR6.out.cell
              clear hE6
              have HU := HUN
              obtain ⟨u, hu⟩ : ∃ u, Ec.untilI e set lo hi late = u := ⟨_, rfl⟩
              rw [hu] at HU ⊢
              clear hu
              have hu1 := HU.out.1
              have hu2 := HU.out.2.1
              have HU3 := Lib.hid HU.out.2.2.1
              have HU4 := Lib.hid HU.out.2.2.2
              clear HU
              by_cases hul : u < lo
              case pos =>
                obtain rfl : lo = u + 1 := by omega
                rw [show untilV (u + 1) u = .tuple #[.int .i64 0, .int .i64 5] from if_pos hul]
                clear hul
                go_wp2_with fail
                refine (e_Missed_ok p e set (u + 1) (u + 1) late w6 (HM.out.ext HE6.out) HS.out.eng (by omega) c0 c1 (espan_mk (by omega) (by omega) (by omega) (by omega)) c3).mono ?_
                rintro r w7 ⟨v2, rfl, ⟨A2, d2, rfl, hv2⟩, hE7⟩
                have HE7 := Lib.hid (HE6.out.trans hE7)
                have HR7 := Lib.hid (HR6.out.ext hE7)
                clear b6
                have b7 := HR7.out.cell
                clear hE7
                clear hv2
                have hq2 : (Ec.missedL e set (u + 1) (u + 1) late).length ≠ 0 := HU4.out (by omega)
                obtain ⟨N2, hN2⟩ : ∃ N, (Ec.missedL e set (u + 1) (u + 1) late).length = N := ⟨_, rfl⟩
                rw [hN2] at hq2 ⊢
                clear hN2
                have ha2 : ((N2 : Int) == 0) = false := by simp; omega
                have hb2 : (0 : Int) < (N2 : Int) := by omega
                clear hq2
                go_wp2_with fail
                refine (l7_known_any w7 (HV.out.ext HE7.out)).mono ?_
                rintro r w8 ⟨rfl, hE8⟩
                go_wp2_with fail
                go_ret
                exact ⟨rfl, HE7.out.trans hE8⟩
              case neg =>
                rw [show untilV lo u = .tuple #[.int .i64 u, .int .i64 0] from if_neg hul]
                have hun : ¬ hi < u := by omega
                go_wp2_with fail
                refine (e_Missed_ok p e set lo u late w6 (HM.out.ext HE6.out) HS.out.eng (by omega) c0 c1 (espan_mk (by omega) (by omega) (by omega) (by omega)) c3).mono ?_
                rintro r w7 ⟨v3, rfl, ⟨A3, d3, rfl, hv3⟩, hE7⟩
                have HE7 := Lib.hid (HE6.out.trans hE7)
                have HR7 := Lib.hid (HR6.out.ext hE7)
                clear b6
                have b7 := HR7.out.cell
                clear hE7
                clear hv3
                rw [show (Ec.missedL e set lo u late).length = 0 from HU3.out]
                by_cases hq : u = hi
                case pos =>
                  subst hq
                  go_wp2_with fail
                  refine (l7_known_any w7 (HV.out.ext HE7.out)).mono ?_
                  rintro r w8 ⟨rfl, hE8⟩
                  go_wp2_with fail
                  go_ret
                  exact ⟨rfl, HE7.out.trans hE8⟩
                case neg =>
                  have he : (u == hi) = false := by simpa using hq
                  go_wp2_with fail
                  refine (e_Missed_ok p e set (u + 1) (u + 1) late w7 (HM.out.ext HE7.out) HS.out.eng (by omega) c0 c1 (espan_mk (by omega) (by omega) (by omega) (by omega)) c3).mono ?_
                  rintro r w8 ⟨v4, rfl, ⟨A4, d4, rfl, hv4⟩, hE8⟩
                  have HE8 := Lib.hid (HE7.out.trans hE8)
                  have HR8 := Lib.hid (HR7.out.ext hE8)
                  clear b7
                  have b8 := HR8.out.cell
                  clear hE8
                  clear hv4
                  have hq4 : (Ec.missedL e set (u + 1) (u + 1) late).length ≠ 0 := HU4.out (by omega)
                  obtain ⟨N4, hN4⟩ : ∃ N, (Ec.missedL e set (u + 1) (u + 1) late).length = N := ⟨_, rfl⟩
                  rw [hN4] at hq4 ⊢
                  clear hN4
                  have ha4 : ((N4 : Int) == 0) = false := by simp; omega
                  have hb4 : (0 : Int) < (N4 : Int) := by omega
                  clear hq4
                  go_wp2_with fail
                  refine (l7_known_any w8 (HV.out.ext HE8.out)).mono ?_
                  rintro r w9 ⟨rfl, hE9⟩
                  go_wp2_with fail
                  go_ret
                  exact ⟨rfl, HE8.out.trans hE9⟩
            | some n =>
              rw [show withinV (some n) = .tuple #[.int .i64 n, .int .i64 0] from rfl]
              obtain ⟨n1, n2, n3, n4⟩ := Ec.withinN_some hw
              have HN3 := Lib.hid n3
              have HN4 := Lib.hid n4
              clear hw n3 n4
              have c5 : Ec.isLate n = true := elate_mk (by omega) (by omega)
              go_wp2_with fail
              refine (r7_Late_any n _).mono ?_
              rintro r w' ⟨rfl, rfl⟩
              rw [c5]
              go_wp2_with fail
              refine (e_Missed_ok p e set lo hi n w4 (HM.out.ext HE4.out) HS.out.eng (by omega) c0 c1 c2 c5).mono ?_
              rintro r w5 ⟨v5, rfl, ⟨A5, d5, rfl, hv5⟩, hE5⟩
              have HE5 := Lib.hid (HE4.out.trans hE5)
              have HR5 := Lib.hid (HR4.out.ext hE5)
              clear b4
              have b5 := HR5.out.cell
              clear hE5
              clear hv5
              rw [show (Ec.missedL e set lo hi n).length = 0 from HN3.out]
              by_cases h0 : 0 < n
              case pos =>
                go_wp2_with fail
                refine (e_Missed_ok p e set lo hi (n - 1) w5 (HM.out.ext HE5.out) HS.out.eng (by omega) c0 c1 c2 (elate_mk (by omega) (by omega))).mono ?_
                rintro r w6 ⟨v6, rfl, ⟨A6, d6, rfl, hv6⟩, hE6⟩
                have HE6 := Lib.hid (HE5.out.trans hE6)
                have HR6 := Lib.hid (HR5.out.ext hE6)
                clear b5
                have b6 := HR6.out.cell
                clear hE6
                clear hv6
                have hq6 : (Ec.missedL e set lo hi (n - 1)).length ≠ 0 := HN4.out (n - 1) (by omega) (by omega)
                obtain ⟨N6, hN6⟩ : ∃ N, (Ec.missedL e set lo hi (n - 1)).length = N := ⟨_, rfl⟩
                rw [hN6] at hq6 ⊢
                clear hN6
                have ha6 : ((N6 : Int) == 0) = false := by simp; omega
                have hb6 : (0 : Int) < (N6 : Int) := by omega
                clear hq6
                go_wp2_with fail
                refine (e_Until_ok p e set lo hi late w6 (HM.out.ext HE6.out) HS.out.eng (by omega) c0 c1 c2 c3).mono ?_
                rintro r w7 ⟨rfl, hE7⟩
                have HE7 := Lib.hid (HE6.out.trans hE7)
                have HR7 := Lib.hid (HR6.out.ext hE7)
                clear b6
                have b7 := HR7.out.cell
                clear hE7
                have HU := HUN
                obtain ⟨u, hu⟩ : ∃ u, Ec.untilI e set lo hi late = u := ⟨_, rfl⟩
                rw [hu] at HU ⊢
                clear hu
                have hu1 := HU.out.1
                have hu2 := HU.out.2.1
                have HU3 := Lib.hid HU.out.2.2.1
                have HU4 := Lib.hid HU.out.2.2.2
                clear HU
                by_cases hul : u < lo
                case pos =>
                  obtain rfl : lo = u + 1 := by omega
                  rw [show untilV (u + 1) u = .tuple #[.int .i64 0, .int .i64 5] from if_pos hul]
                  clear hul
                  go_wp2_with fail
                  refine (e_Missed_ok p e set (u + 1) (u + 1) late w7 (HM.out.ext HE7.out) HS.out.eng (by omega) c0 c1 (espan_mk (by omega) (by omega) (by omega) (by omega)) c3).mono ?_
                  rintro r w8 ⟨v7, rfl, ⟨A7, d7, rfl, hv7⟩, hE8⟩
                  have HE8 := Lib.hid (HE7.out.trans hE8)
                  have HR8 := Lib.hid (HR7.out.ext hE8)
                  clear b7
                  have b8 := HR8.out.cell
                  clear hE8
                  clear hv7
                  have hq7 : (Ec.missedL e set (u + 1) (u + 1) late).length ≠ 0 := HU4.out (by omega)
                  obtain ⟨N7, hN7⟩ : ∃ N, (Ec.missedL e set (u + 1) (u + 1) late).length = N := ⟨_, rfl⟩
                  rw [hN7] at hq7 ⊢
                  clear hN7
                  have ha7 : ((N7 : Int) == 0) = false := by simp; omega
                  have hb7 : (0 : Int) < (N7 : Int) := by omega
                  clear hq7
                  go_wp2_with fail
                  refine (l7_known_any w8 (HV.out.ext HE8.out)).mono ?_
                  rintro r w9 ⟨rfl, hE9⟩
                  go_wp2_with fail
                  go_ret
                  exact ⟨rfl, HE8.out.trans hE9⟩
                case neg =>
                  rw [show untilV lo u = .tuple #[.int .i64 u, .int .i64 0] from if_neg hul]
                  have hun : ¬ hi < u := by omega
                  go_wp2_with fail
                  refine (e_Missed_ok p e set lo u late w7 (HM.out.ext HE7.out) HS.out.eng (by omega) c0 c1 (espan_mk (by omega) (by omega) (by omega) (by omega)) c3).mono ?_
                  rintro r w8 ⟨v8, rfl, ⟨A8, d8, rfl, hv8⟩, hE8⟩
                  have HE8 := Lib.hid (HE7.out.trans hE8)
                  have HR8 := Lib.hid (HR7.out.ext hE8)
                  clear b7
                  have b8 := HR8.out.cell
                  clear hE8
                  clear hv8
                  rw [show (Ec.missedL e set lo u late).length = 0 from HU3.out]
                  by_cases hq : u = hi
                  case pos =>
                    subst hq
                    go_wp2_with fail
                    refine (l7_known_any w8 (HV.out.ext HE8.out)).mono ?_
                    rintro r w9 ⟨rfl, hE9⟩
                    go_wp2_with fail
                    go_ret
                    exact ⟨rfl, HE8.out.trans hE9⟩
                  case neg =>
                    have he : (u == hi) = false := by simpa using hq
                    go_wp2_with fail
                    refine (e_Missed_ok p e set (u + 1) (u + 1) late w8 (HM.out.ext HE8.out) HS.out.eng (by omega) c0 c1 (espan_mk (by omega) (by omega) (by omega) (by omega)) c3).mono ?_
                    rintro r w9 ⟨v9, rfl, ⟨A9, d9, rfl, hv9⟩, hE9⟩
                    have HE9 := Lib.hid (HE8.out.trans hE9)
                    have HR9 := Lib.hid (HR8.out.ext hE9)
                    clear b8
                    have b9 := HR9.out.cell
                    clear hE9
                    clear hv9
                    have hq9 : (Ec.missedL e set (u + 1) (u + 1) late).length ≠ 0 := HU4.out (by omega)
                    obtain ⟨N9, hN9⟩ : ∃ N, (Ec.missedL e set (u + 1) (u + 1) late).length = N := ⟨_, rfl⟩
                    rw [hN9] at hq9 ⊢
                    clear hN9
                    have ha9 : ((N9 : Int) == 0) = false := by simp; omega
                    have hb9 : (0 : Int) < (N9 : Int) := by omega
                    clear hq9
                    go_wp2_with fail
                    refine (l7_known_any w9 (HV.out.ext HE9.out)).mono ?_
                    rintro r w10 ⟨rfl, hE10⟩
                    go_wp2_with fail
                    go_ret
                    exact ⟨rfl, HE9.out.trans hE10⟩
              case neg =>
                go_wp2_with fail
                refine (e_Until_ok p e set lo hi late w5 (HM.out.ext HE5.out) HS.out.eng (by omega) c0 c1 c2 c3).mono ?_
                rintro r w6 ⟨rfl, hE6⟩
                have HE6 := Lib.hid (HE5.out.trans hE6)
                have HR6 := Lib.hid (HR5.out.ext hE6)
                clear b5
                have b6 := HR6.out.cell
                clear hE6
                have HU := HUN
                obtain ⟨u, hu⟩ : ∃ u, Ec.untilI e set lo hi late = u := ⟨_, rfl⟩
                rw [hu] at HU ⊢
                clear hu
                have hu1 := HU.out.1
                have hu2 := HU.out.2.1
                have HU3 := Lib.hid HU.out.2.2.1
                have HU4 := Lib.hid HU.out.2.2.2
                clear HU
                by_cases hul : u < lo
                case pos =>
                  obtain rfl : lo = u + 1 := by omega
                  rw [show untilV (u + 1) u = .tuple #[.int .i64 0, .int .i64 5] from if_pos hul]
                  clear hul
                  go_wp2_with fail
                  refine (e_Missed_ok p e set (u + 1) (u + 1) late w6 (HM.out.ext HE6.out) HS.out.eng (by omega) c0 c1 (espan_mk (by omega) (by omega) (by omega) (by omega)) c3).mono ?_
                  rintro r w7 ⟨v10, rfl, ⟨A10, d10, rfl, hv10⟩, hE7⟩
                  have HE7 := Lib.hid (HE6.out.trans hE7)
                  have HR7 := Lib.hid (HR6.out.ext hE7)
                  clear b6
                  have b7 := HR7.out.cell
                  clear hE7
                  clear hv10
                  have hq10 : (Ec.missedL e set (u + 1) (u + 1) late).length ≠ 0 := HU4.out (by omega)
                  obtain ⟨N10, hN10⟩ : ∃ N, (Ec.missedL e set (u + 1) (u + 1) late).length = N := ⟨_, rfl⟩
                  rw [hN10] at hq10 ⊢
                  clear hN10
                  have ha10 : ((N10 : Int) == 0) = false := by simp; omega
                  have hb10 : (0 : Int) < (N10 : Int) := by omega
                  clear hq10
                  go_wp2_with fail
                  refine (l7_known_any w7 (HV.out.ext HE7.out)).mono ?_
                  rintro r w8 ⟨rfl, hE8⟩
                  go_wp2_with fail
                  go_ret
                  exact ⟨rfl, HE7.out.trans hE8⟩
                case neg =>
                  rw [show untilV lo u = .tuple #[.int .i64 u, .int .i64 0] from if_neg hul]
                  have hun : ¬ hi < u := by omega
                  go_wp2_with fail
                  refine (e_Missed_ok p e set lo u late w6 (HM.out.ext HE6.out) HS.out.eng (by omega) c0 c1 (espan_mk (by omega) (by omega) (by omega) (by omega)) c3).mono ?_
                  rintro r w7 ⟨v11, rfl, ⟨A11, d11, rfl, hv11⟩, hE7⟩
                  have HE7 := Lib.hid (HE6.out.trans hE7)
                  have HR7 := Lib.hid (HR6.out.ext hE7)
                  clear b6
                  have b7 := HR7.out.cell
                  clear hE7
                  clear hv11
                  rw [show (Ec.missedL e set lo u late).length = 0 from HU3.out]
                  by_cases hq : u = hi
                  case pos =>
                    subst hq
                    go_wp2_with fail
                    refine (l7_known_any w7 (HV.out.ext HE7.out)).mono ?_
                    rintro r w8 ⟨rfl, hE8⟩
                    go_wp2_with fail
                    go_ret
                    exact ⟨rfl, HE7.out.trans hE8⟩
                  case neg =>
                    have he : (u == hi) = false := by simpa using hq
                    go_wp2_with fail
                    refine (e_Missed_ok p e set (u + 1) (u + 1) late w7 (HM.out.ext HE7.out) HS.out.eng (by omega) c0 c1 (espan_mk (by omega) (by omega) (by omega) (by omega)) c3).mono ?_
                    rintro r w8 ⟨v12, rfl, ⟨A12, d12, rfl, hv12⟩, hE8⟩
                    have HE8 := Lib.hid (HE7.out.trans hE8)
                    have HR8 := Lib.hid (HR7.out.ext hE8)
                    clear b7
                    have b8 := HR8.out.cell
                    clear hE8
                    clear hv12
                    have hq12 : (Ec.missedL e set (u + 1) (u + 1) late).length ≠ 0 := HU4.out (by omega)
                    obtain ⟨N12, hN12⟩ : ∃ N, (Ec.missedL e set (u + 1) (u + 1) late).length = N := ⟨_, rfl⟩
                    rw [hN12] at hq12 ⊢
                    clear hN12
                    have ha12 : ((N12 : Int) == 0) = false := by simp; omega
                    have hb12 : (0 : Int) < (N12 : Int) := by omega
                    clear hq12
                    go_wp2_with fail
                    refine (l7_known_any w8 (HV.out.ext HE8.out)).mono ?_
                    rintro r w9 ⟨rfl, hE9⟩
                    go_wp2_with fail
                    go_ret
                    exact ⟨rfl, HE8.out.trans hE9⟩
end Go.Proofs.YtcbodpnmndbgnaaGreatDoor
