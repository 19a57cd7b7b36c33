/- The walk of the law EclipseMore. (Printed by wip/mkelaws.py.) -/
import Derived.Carry
import Derived.Test.YtcbodpnmndbgnaaGreatDoorE12
namespace Go.Proofs.YtcbodpnmndbgnaaGreatDoor
open Go.RowKit
open Sp (rd)
set_option linter.unusedSimpArgs false
set_option linter.unusedVariables false

set_option maxRecDepth 100000 in
set_option maxHeartbeats 8000000 in
theorem law_EclipseMore (p : EP) (e : Ec.Engine) (set : List Int) (lo hi late days wide : Int) (w : World) (hV : Env w) (hm : EngSet w p e set) (hl : EngLong e) (hs : set.length ≤ 9223372036854775807) :
    Calls Tryz.prog 11 #[.agg #[.slice p.Ab e.sky.bodies.length p.cb, .int .i64 e.sky.nnum, .int .i64 e.sky.nden, .int .i64 e.sky.nstart, .slice p.As e.sun.length p.cs, .slice p.Am e.moon.length p.cm, .slice p.An e.node.length p.cn, .slice p.Af e.feasts.length p.cf, .int .i64 e.nw, .int .i64 e.fl, .int .i64 e.wide], .slice p.At set.length p.ct, .int .i64 lo, .int .i64 hi, .int .i64 late, .int .i64 days, .int .i64 wide] w fun r w' => r = .returned (.bool true) ∧ Ext w w' := by
  have HL := Lib.hid hl
  have HM := Lib.hid hm
  have HV := Lib.hid hV
  have HS0 := Lib.hid hs
  clear hm hl hV hs
  go_enter Tryz.func11, Tryz.ntmps11
  go_wp2_with fail
  have HR0 := Lib.hid (Row.new w 32 #[.slice p.Ab e.sky.bodies.length p.cb, .int .i64 e.sky.nnum, .int .i64 e.sky.nden, .int .i64 e.sky.nstart, .slice p.As e.sun.length p.cs, .slice p.Am e.moon.length p.cm, .slice p.An e.node.length p.cn, .slice p.Af e.feasts.length p.cf, .int .i64 e.nw, .int .i64 e.fl, .int .i64 e.wide])
  have HE0 : Hid (Ext w (w.alloc (.cells #[.slice p.Ab e.sky.bodies.length p.cb, .int .i64 e.sky.nnum, .int .i64 e.sky.nden, .int .i64 e.sky.nstart, .slice p.As e.sun.length p.cs, .slice p.Am e.moon.length p.cm, .slice p.An e.node.length p.cn, .slice p.Af e.feasts.length p.cf, .int .i64 e.nw, .int .i64 e.fl, .int .i64 e.wide] 32))) := Lib.hid ((Ext.refl w).alloc _)
  generalize w.alloc (.cells #[.slice p.Ab e.sky.bodies.length p.cb, .int .i64 e.sky.nnum, .int .i64 e.sky.nden, .int .i64 e.sky.nstart, .slice p.As e.sun.length p.cs, .slice p.Am e.moon.length p.cm, .slice p.An e.node.length p.cn, .slice p.Af e.feasts.length p.cf, .int .i64 e.nw, .int .i64 e.fl, .int .i64 e.wide] 32) = w0 at *
  have b0 := HR0.out.cell
  refine (l7_short_any p e set w0 (HM.out.eng.ext HE0.out) HL.out HS0.out).mono ?_
  rintro r w1 ⟨rfl, hE1⟩
  have HE1 := Lib.hid (HE0.out.trans hE1)
  have HR1 := Lib.hid (HR0.out.ext hE1)
  clear b0
  have b1 := HR1.out.cell
  clear hE1
  cases hsh : shortB e set with
  | false =>
    go_wp2_with fail
    refine (l7_known_any w1 (HV.out.ext HE1.out)).mono ?_
    rintro r w2 ⟨rfl, hE2⟩
    go_wp2_with fail
    go_ret
    exact ⟨rfl, HE1.out.trans hE2⟩
  | true =>
    have HS := Lib.hid (shorts_of hsh)
    have hfl := HS.out.feasts
    have hsl := HS.out.set
    clear hsh
    go_wp2_with fail
    refine (r7_Engine_any p e w1 (HM.out.eng.ext HE1.out) HS.out.eng).mono ?_
    rintro r w2 ⟨rfl, hE2⟩
    have HE2 := Lib.hid (HE1.out.trans hE2)
    have HR2 := Lib.hid (HR1.out.ext hE2)
    clear b1
    have b2 := HR2.out.cell
    clear hE2
    cases c0 : Ec.engineOk e with
    | false =>
      go_wp2_with fail
      refine (l7_known_any w2 (HV.out.ext HE2.out)).mono ?_
      rintro r w3 ⟨rfl, hE3⟩
      go_wp2_with fail
      go_ret
      exact ⟨rfl, HE2.out.trans hE3⟩
    | true =>
      go_wp2_with fail
      refine (r1_Set_any p.Af p.At e.feasts.length p.cf p.ct set w2 (by omega) (HM.out.ext HE2.out).set (by omega)).mono ?_
      rintro r w3 ⟨rfl, hE3⟩
      have HE3 := Lib.hid (HE2.out.trans hE3)
      have HR3 := Lib.hid (HR2.out.ext hE3)
      clear b2
      have b3 := HR3.out.cell
      clear hE3
      rw [show Ec.rising set 0 ((e.feasts.length : Int) - 1) = Ec.setOk e.feasts set from rfl]
      cases c1 : Ec.setOk e.feasts set with
      | false =>
        go_wp2_with fail
        refine (l7_known_any w3 (HV.out.ext HE3.out)).mono ?_
        rintro r w4 ⟨rfl, hE4⟩
        go_wp2_with fail
        go_ret
        exact ⟨rfl, HE3.out.trans hE4⟩
      | true =>
        go_wp2_with fail
        refine (r7_Span_any lo hi _).mono ?_
        rintro r w' ⟨rfl, rfl⟩
        cases c2 : Ec.isSpan lo hi with
        | false =>
          go_wp2_with fail
          refine (l7_known_any w3 (HV.out.ext HE3.out)).mono ?_
          rintro r w4 ⟨rfl, hE4⟩
          go_wp2_with fail
          go_ret
          exact ⟨rfl, HE3.out.trans hE4⟩
        | true =>
          go_wp2_with fail
          refine (r7_Late_any late _).mono ?_
          rintro r w' ⟨rfl, rfl⟩
          cases c3 : Ec.isLate late with
          | false =>
            go_wp2_with fail
            refine (l7_known_any w3 (HV.out.ext HE3.out)).mono ?_
            rintro r w4 ⟨rfl, hE4⟩
            go_wp2_with fail
            go_ret
            exact ⟨rfl, HE3.out.trans hE4⟩
          | true =>
            obtain ⟨s1, s2, s3, s4, s5⟩ := espan_of c2
            obtain ⟨l1, l2⟩ := elate_of c3
            have hlims := (Fine.limits ⟨c0, c1⟩ : (0 ≤ e.nw ∧ e.nw ≤ 5400) ∧ (0 ≤ e.fl ∧ e.fl ≤ 5400) ∧ (0 ≤ e.wide ∧ e.wide ≤ 5400))
            by_cases hd1 : days < 0
            case pos =>
              go_wp2_with fail
              refine (l7_known_any w3 (HV.out.ext HE3.out)).mono ?_
              rintro r w4 ⟨rfl, hE4⟩
              go_wp2_with fail
              go_ret
              exact ⟨rfl, HE3.out.trans hE4⟩
            case neg =>
              by_cases hd2 : 30 - late < days
              case pos =>
                go_wp2_with fail
                refine (l7_known_any w3 (HV.out.ext HE3.out)).mono ?_
                rintro r w4 ⟨rfl, hE4⟩
                go_wp2_with fail
                go_ret
                exact ⟨rfl, HE3.out.trans hE4⟩
              case neg =>
                by_cases hd3 : wide < 0
                case pos =>
                  go_wp2_with fail
                  refine (l7_known_any w3 (HV.out.ext HE3.out)).mono ?_
                  rintro r w4 ⟨rfl, hE4⟩
                  go_wp2_with fail
                  go_ret
                  exact ⟨rfl, HE3.out.trans hE4⟩
                case neg =>
                  by_cases hd4 : 5400 - e.wide < wide
                  case pos =>
                    go_wp2_with fail
                    refine (l7_known_any w3 (HV.out.ext HE3.out)).mono ?_
                    rintro r w4 ⟨rfl, hE4⟩
                    go_wp2_with fail
                    go_ret
                    exact ⟨rfl, HE3.out.trans hE4⟩
                  case neg =>
                    have c4 : Ec.isLate (late + days) = true := elate_mk (by omega) (by omega)
                    have c5 := widened_ok (n := e.wide + wide) c0 (by omega) (by omega)
                    have HMORE := Lib.hid (Ec.missed_more (e := e) (set := set) (lo := lo) (hi := hi) (late := late) (late' := late + days) (wide := e.wide + wide) (by omega) (by omega))
                    have HLN := Lib.hid (missed_len e set lo hi late (by omega) (by omega))
                    go_wp2_with fail
                    refine (e_Missed_ok p e set lo hi late w3 (HM.out.ext HE3.out) HS.out.eng (by omega) c0 c1 c2 c3).mono ?_
                    rintro r w4 ⟨va, rfl, hHVA, hE4⟩
                    have HE4 := Lib.hid (HE3.out.trans hE4)
                    have HR4 := Lib.hid (HR3.out.ext hE4)
                    clear b3
                    have b4 := HR4.out.cell
                    clear hE4
                    have HVA := Lib.hid hHVA
                    clear hHVA
                    go_wp2_with fail
                    refine (r7_Widened_any p e (e.wide + wide) w4).mono ?_
                    rintro r w5 ⟨rfl, hE5⟩
                    have HE5 := Lib.hid (HE4.out.trans hE5)
                    have HR5 := Lib.hid (HR4.out.ext hE5)
                    clear b4
                    have b5 := HR5.out.cell
                    replace HVA := Lib.hid (HVA.out.ext hE5)
                    clear hE5
                    go_wp2_with fail
                    refine (e_Missed_ok p (Ec.widened e (e.wide + wide)) set lo hi (late + days) w5 (widened_set _ (HM.out.ext HE5.out)) (widened_short _ HS.out.eng) (by omega) c5 c1 c2 c4).mono ?_
                    rintro r w6 ⟨vb, rfl, hHVB, hE6⟩
                    have HE6 := Lib.hid (HE5.out.trans hE6)
                    have HR6 := Lib.hid (HR5.out.ext hE6)
                    clear b5
                    have b6 := HR6.out.cell
                    replace HVA := Lib.hid (HVA.out.ext hE6)
                    clear hE6
                    have HVB := Lib.hid hHVB
                    clear hHVB
                    obtain ⟨LA, hLA⟩ : ∃ L, Ec.missedL e set lo hi late = L := ⟨_, rfl⟩
                    obtain ⟨LB, hLB⟩ : ∃ L, Ec.missedL (Ec.widened e (e.wide + wide)) set lo hi (late + days) = L := ⟨_, rfl⟩
                    rw [hLA] at HVA HMORE HLN
                    rw [hLB] at HVB HMORE
                    clear hLA hLB
                    obtain ⟨Aa, da, rfl, hac⟩ := HVA.out
                    obtain ⟨Ab, db, rfl, hbc⟩ := HVB.out
                    have HBC := Lib.hid hbc
                    clear HVB hbc hac
                    have hn1 := HMORE.out.1
                    have hn2 := HLN.out
                    have HSUB := Lib.hid HMORE.out.2
                    clear HMORE
                    have hm1 : ¬ ((LA.length : Int) < (LB.length : Int)) := by omega
                    have hm2 : ¬ ((1000 : Int) < (LA.length : Int)) := by omega
                    go_wp2_with fail
                    simp only [show decide (LA.length < LB.length) = false from decide_eq_false (by omega), show decide ((1000 : Int) < (LA.length : Int)) = false from decide_eq_false (by omega), Bool.or_self]
                    go_loopw [19] (fun i wr => ∃ k : Nat, k ≤ LB.length ∧ i = .int .i64 k ∧ Ext w6 wr) (fun i _ => LB.length - (intOf i).toNat)
                    case atStart => exact ⟨0, Nat.zero_le _, rfl, Ext.refl _⟩
                    case round =>
                      obtain ⟨k, hk, rfl, hX⟩ := hrel
                      have HX := Lib.hid hX
                      by_cases hlt : k < LB.length
                      · obtain ⟨bb, oo, rfl, hcell⟩ := HBC.out (by omega)
                        obtain ⟨y1, y2, y3⟩ := hcell k hlt
                        replace y1 := hX.cell y1
                        replace y2 := hX.cell y2
                        replace y3 := hX.cell y3
                        have HIN : Hid (LB[k] ∈ LA) := Lib.hid (HSUB.out _ (List.getElem_mem hlt))
                        obtain ⟨m, hm⟩ : ∃ m, LB[k] = m := ⟨_, rfl⟩
                        rw [hm] at y1 y2 y3 HIN
                        obtain ⟨md, mf, mr⟩ := m
                        simp only at y1 y2 y3
                        clear hcell hX hm
                        go_wp2_with fail
                        refine (l7_listed_any (.slice Aa LA.length da) LA ⟨md, mf, mr⟩ _ (HVA.out.ext HX.out) (by have := HLN.out; omega)).mono ?_
                        rintro r w' ⟨rfl, hE'⟩
                        rw [decide_eq_true HIN.out]
                        have HE' := Lib.hid (HX.out.trans hE')
                        clear hE' y1 y2 y3
                        go_wp2_with fail
                        refine ⟨⟨k + 1, by omega, by go_num, HE'.out⟩, by simp [intOf]; omega⟩
                      · obtain rfl : k = LB.length := by omega
                        clear hX
                        go_wp2_with fail
                        refine (l7_known_any _ (HV.out.ext (HE6.out.trans HX.out))).mono ?_
                        rintro r w' ⟨rfl, hE'⟩
                        go_wp2_with fail
                        go_ret
                        exact ⟨rfl, (HE6.out.trans HX.out).trans hE'⟩
end Go.Proofs.YtcbodpnmndbgnaaGreatDoor
