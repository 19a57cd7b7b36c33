/- The walk of the law EclipseFound. (Printed by wip/mkelaws.py.) -/
import Derived.Carry
import Derived.Test.YtcbodpnmndbgnaaGreatDoorD12
import Derived.Test.YtcbodpnmndbgnaaGreatDoorD06
namespace Go.Proofs.YtcbodpnmndbgnaaGreatDoor
open Go.RowKit
open Sp (rd)
set_option linter.unusedSimpArgs false
set_option linter.unusedVariables false

set_option maxRecDepth 100000 in
set_option maxHeartbeats 16000000 in
theorem law_EclipseFound (p : EP) (e : Ec.Engine) (set : List Int) (lo hi late : Int) (w : World) (hV : Env w) (hm : EngSet w p e set) (hl : EngLong e) (hs : set.length ≤ 9223372036854775807) :
    Calls Tryz.prog 14 #[.agg #[.slice p.Ab e.sky.bodies.length p.cb, .int .i64 e.sky.nnum, .int .i64 e.sky.nden, .int .i64 e.sky.nstart, .slice p.As e.sun.length p.cs, .slice p.Am e.moon.length p.cm, .slice p.An e.node.length p.cn, .slice p.Af e.feasts.length p.cf, .int .i64 e.nw, .int .i64 e.fl, .int .i64 e.wide], .slice p.At set.length p.ct, .int .i64 lo, .int .i64 hi, .int .i64 late] w fun r w' => r = .returned (.bool true) ∧ Ext w w' := by
  have HL := Lib.hid hl
  have HM := Lib.hid hm
  have HV := Lib.hid hV
  have HS0 := Lib.hid hs
  clear hm hl hV hs
  go_enter Tryz.func14, Tryz.ntmps14
  go_wp2_with fail
  have HR0 := Lib.hid (Row.new w 32 #[.slice p.Ab e.sky.bodies.length p.cb, .int .i64 e.sky.nnum, .int .i64 e.sky.nden, .int .i64 e.sky.nstart, .slice p.As e.sun.length p.cs, .slice p.Am e.moon.length p.cm, .slice p.An e.node.length p.cn, .slice p.Af e.feasts.length p.cf, .int .i64 e.nw, .int .i64 e.fl, .int .i64 e.wide])
  have HE0 : Hid (Ext w (w.alloc (.cells #[.slice p.Ab e.sky.bodies.length p.cb, .int .i64 e.sky.nnum, .int .i64 e.sky.nden, .int .i64 e.sky.nstart, .slice p.As e.sun.length p.cs, .slice p.Am e.moon.length p.cm, .slice p.An e.node.length p.cn, .slice p.Af e.feasts.length p.cf, .int .i64 e.nw, .int .i64 e.fl, .int .i64 e.wide] 32))) := Lib.hid ((Ext.refl w).alloc _)
  generalize w.alloc (.cells #[.slice p.Ab e.sky.bodies.length p.cb, .int .i64 e.sky.nnum, .int .i64 e.sky.nden, .int .i64 e.sky.nstart, .slice p.As e.sun.length p.cs, .slice p.Am e.moon.length p.cm, .slice p.An e.node.length p.cn, .slice p.Af e.feasts.length p.cf, .int .i64 e.nw, .int .i64 e.fl, .int .i64 e.wide] 32) = w0 at *
  have b0 := HR0.out.cell
  refine (l7_short_any p e set w0 (HM.out.eng.ext HE0.out) HL.out HS0.out).mono ?_
  rintro r w1 ⟨rfl, hE1⟩
  have HE1 := Lib.hid (HE0.out.trans hE1)
  have HR1 := Lib.hid (HR0.out.ext hE1)
  clear b0
  have b1 := HR1.out.cell
  clear hE1
  cases hsh : shortB e set with
  | false =>
    go_wp2_with fail
    refine (l7_known_any w1 (HV.out.ext HE1.out)).mono ?_
    rintro r w2 ⟨rfl, hE2⟩
    go_wp2_with fail
    go_ret
    exact ⟨rfl, HE1.out.trans hE2⟩
  | true =>
    have HS := Lib.hid (shorts_of hsh)
    have hfl := HS.out.feasts
    have hsl := HS.out.set
    clear hsh
    go_wp2_with fail
    refine (r7_Engine_any p e w1 (HM.out.eng.ext HE1.out) HS.out.eng).mono ?_
    rintro r w2 ⟨rfl, hE2⟩
    have HE2 := Lib.hid (HE1.out.trans hE2)
    have HR2 := Lib.hid (HR1.out.ext hE2)
    clear b1
    have b2 := HR2.out.cell
    clear hE2
    cases c0 : Ec.engineOk e with
    | false =>
      go_wp2_with fail
      refine (l7_known_any w2 (HV.out.ext HE2.out)).mono ?_
      rintro r w3 ⟨rfl, hE3⟩
      go_wp2_with fail
      go_ret
      exact ⟨rfl, HE2.out.trans hE3⟩
    | true =>
      go_wp2_with fail
      refine (r1_Set_any p.Af p.At e.feasts.length p.cf p.ct set w2 (by omega) (HM.out.ext HE2.out).set (by omega)).mono ?_
      rintro r w3 ⟨rfl, hE3⟩
      have HE3 := Lib.hid (HE2.out.trans hE3)
      have HR3 := Lib.hid (HR2.out.ext hE3)
      clear b2
      have b3 := HR3.out.cell
      clear hE3
      rw [show Ec.rising set 0 ((e.feasts.length : Int) - 1) = Ec.setOk e.feasts set from rfl]
      cases c1 : Ec.setOk e.feasts set with
      | false =>
        go_wp2_with fail
        refine (l7_known_any w3 (HV.out.ext HE3.out)).mono ?_
        rintro r w4 ⟨rfl, hE4⟩
        go_wp2_with fail
        go_ret
        exact ⟨rfl, HE3.out.trans hE4⟩
      | true =>
        go_wp2_with fail
        refine (r7_Span_any lo hi _).mono ?_
        rintro r w' ⟨rfl, rfl⟩
        cases c2 : Ec.isSpan lo hi with
        | false =>
          go_wp2_with fail
          refine (l7_known_any w3 (HV.out.ext HE3.out)).mono ?_
          rintro r w4 ⟨rfl, hE4⟩
          go_wp2_with fail
          go_ret
          exact ⟨rfl, HE3.out.trans hE4⟩
        | true =>
          go_wp2_with fail
          refine (r7_Late_any late _).mono ?_
          rintro r w' ⟨rfl, rfl⟩
          cases c3 : Ec.isLate late with
          | false =>
            go_wp2_with fail
            refine (l7_known_any w3 (HV.out.ext HE3.out)).mono ?_
            rintro r w4 ⟨rfl, hE4⟩
            go_wp2_with fail
            go_ret
            exact ⟨rfl, HE3.out.trans hE4⟩
          | true =>
            obtain ⟨s1, s2, s3, s4, s5⟩ := espan_of c2
            obtain ⟨l1, l2⟩ := elate_of c3
            by_cases hd1 : 300 < hi - lo
            case pos =>
              go_wp2_with fail
              refine (l7_known_any w3 (HV.out.ext HE3.out)).mono ?_
              rintro r w4 ⟨rfl, hE4⟩
              go_wp2_with fail
              go_ret
              exact ⟨rfl, HE3.out.trans hE4⟩
            case neg =>
              by_cases hd2 : 9000 - late < hi
              case pos =>
                go_wp2_with fail
                refine (l7_known_any w3 (HV.out.ext HE3.out)).mono ?_
                rintro r w4 ⟨rfl, hE4⟩
                go_wp2_with fail
                go_ret
                exact ⟨rfl, HE3.out.trans hE4⟩
              case neg =>
                have c5 : Ec.isSpan (max 1 (lo - late)) (hi + late) = true := espan_mk (by omega) (by omega) (by omega) (by omega)
                have c6 : Sp.isSpan lo hi = true := span_mk5 (by omega) (by omega) (by omega) (by omega)
                have c7 : Sp.isSpan (max 1 (lo - late)) (hi + late) = true := span_mk5 (by omega) (by omega) (by omega) (by omega)
                have hep := engineOk_parts c0
                have HSKY := Lib.hid (fun a b (hs : Sp.isSpan a b = true) W (h : EngAt W p e) => Ecl_ok e.sky p.Ab p.cb e.nw e.fl a b W h.bodies HS.out.eng.sky hep.2.1.1 hep.2.2.2.1 hep.2.2.2.2.1 hs)
                clear hep
                have HF1 := Lib.hid (fun x hx => Ec.missed_iff_beside e set lo hi late x hx)
                have HF2 := Lib.hid (fun x hx => Ec.empty_iff_beside e set lo hi late x hx)
                have HF3 := Lib.hid (fun x hx => Ec.missed_in e set lo hi late x hx)
                have HF4 := Lib.hid (fun x hx => Ec.empty_in e set lo hi late x hx)
                have hm1 := Ec.missed_len e set lo hi late
                have hm2 := Ec.empty_len e set lo hi late
                have hla := real_few2 e (lo := lo) (hi := hi) (by omega) (by omega)
                have hlb := fore_few2 e set (lo := lo) (hi := hi) (by omega) (by omega)
                have hlc := real_few2 e (lo := max 1 (lo - late)) (hi := hi + late) (by omega) (by omega)
                have hld := fore_few2 e set (lo := max 1 (lo - late)) (hi := hi + late) (by omega) (by omega)
                have HDa := Lib.hid (real_days e (lo := lo) (hi := hi) (by omega) (by omega))
                have HDb := Lib.hid (fore_days e set (lo := lo) (hi := hi) (by omega) (by omega))
                have HDc := Lib.hid (real_days e (lo := max 1 (lo - late)) (hi := hi + late) (by omega) (by omega))
                have HDd := Lib.hid (fore_days e set (lo := max 1 (lo - late)) (hi := hi + late) (by omega) (by omega))
                go_wp2_with fail
                refine (e_Missed_ok p e set lo hi late w3 (HM.out.ext HE3.out) HS.out.eng (by omega) c0 c1 c2 c3).mono ?_
                rintro r w4 ⟨vm, rfl, hHVm, hE4⟩
                have HE4 := Lib.hid (HE3.out.trans hE4)
                have HR4 := Lib.hid (HR3.out.ext hE4)
                clear b3
                have b4 := HR4.out.cell
                clear hE4
                have HVm := Lib.hid hHVm
                clear hHVm
                go_wp2_with fail
                refine (e_Empty_ok p e set lo hi late w4 (HM.out.ext HE4.out) HS.out.eng (by omega) c0 c1 c2 c3).mono ?_
                rintro r w5 ⟨vn, rfl, hHVn, hE5⟩
                have HE5 := Lib.hid (HE4.out.trans hE5)
                have HR5 := Lib.hid (HR4.out.ext hE5)
                clear b4
                have b5 := HR5.out.cell
                replace HVm := Lib.hid (HVm.out.ext hE5)
                clear hE5
                have HVn := Lib.hid hHVn
                clear hHVn
                go_wp2_with fail
                refine (HSKY.out lo hi c6 w5 (HM.out.ext HE5.out).eng).mono ?_
                rintro r w6 ⟨va, rfl, hHVa, hE6⟩
                have HE6 := Lib.hid (HE5.out.trans hE6)
                have HR6 := Lib.hid (HR5.out.ext hE6)
                clear b5
                have b6 := HR6.out.cell
                replace HVm := Lib.hid (HVm.out.ext hE6)
                replace HVn := Lib.hid (HVn.out.ext hE6)
                clear hE6
                have HVa := Lib.hid hHVa
                clear hHVa
                go_wp2_with fail
                refine (e_Foretells_ok p e set lo hi w6 (HM.out.ext HE6.out) HS.out.eng (by omega) c0 c1 c2).mono ?_
                rintro r w7 ⟨vb, rfl, hHVb, hE7⟩
                have HE7 := Lib.hid (HE6.out.trans hE7)
                have HR7 := Lib.hid (HR6.out.ext hE7)
                clear b6
                have b7 := HR7.out.cell
                replace HVm := Lib.hid (HVm.out.ext hE7)
                replace HVn := Lib.hid (HVn.out.ext hE7)
                replace HVa := Lib.hid (HVa.out.ext hE7)
                clear hE7
                have HVb := Lib.hid hHVb
                clear hHVb
                go_wp2_with fail
                refine (HSKY.out (max 1 (lo - late)) (hi + late) c7 w7 (HM.out.ext HE7.out).eng).mono ?_
                rintro r w8 ⟨vc, rfl, hHVc, hE8⟩
                have HE8 := Lib.hid (HE7.out.trans hE8)
                have HR8 := Lib.hid (HR7.out.ext hE8)
                clear b7
                have b8 := HR8.out.cell
                replace HVm := Lib.hid (HVm.out.ext hE8)
                replace HVn := Lib.hid (HVn.out.ext hE8)
                replace HVa := Lib.hid (HVa.out.ext hE8)
                replace HVb := Lib.hid (HVb.out.ext hE8)
                clear hE8
                have HVc := Lib.hid hHVc
                clear hHVc
                go_wp2_with fail
                refine (e_Foretells_ok p e set (max 1 (lo - late)) (hi + late) w8 (HM.out.ext HE8.out) HS.out.eng (by omega) c0 c1 c5).mono ?_
                rintro r w9 ⟨vd, rfl, hHVd, hE9⟩
                have HE9 := Lib.hid (HE8.out.trans hE9)
                have HR9 := Lib.hid (HR8.out.ext hE9)
                clear b8
                have b9 := HR9.out.cell
                replace HVm := Lib.hid (HVm.out.ext hE9)
                replace HVn := Lib.hid (HVn.out.ext hE9)
                replace HVa := Lib.hid (HVa.out.ext hE9)
                replace HVb := Lib.hid (HVb.out.ext hE9)
                replace HVc := Lib.hid (HVc.out.ext hE9)
                clear hE9
                have HVd := Lib.hid hHVd
                clear hHVd
                rw [show Sp.ecls e.sky e.nw e.fl lo hi = Ec.realL e lo hi from rfl] at HVa
                rw [show Sp.ecls e.sky e.nw e.fl (max 1 (lo - late)) (hi + late) = Ec.realL e (max 1 (lo - late)) (hi + late) from rfl] at HVc
                clear HSKY
                obtain ⟨La, hLa⟩ : ∃ L, Ec.realL e lo hi = L := ⟨_, rfl⟩
                rw [hLa] at HF1 HF3 hm1 hla HDa HVa
                clear hLa
                obtain ⟨Lb, hLb⟩ : ∃ L, Ec.foreL e set lo hi = L := ⟨_, rfl⟩
                rw [hLb] at HF2 HF4 hm2 hlb HDb HVb
                clear hLb
                obtain ⟨Lc, hLc⟩ : ∃ L, Ec.realL e (max 1 (lo - late)) (hi + late) = L := ⟨_, rfl⟩
                rw [hLc] at HF2 hlc HDc HVc
                clear hLc
                obtain ⟨Ld, hLd⟩ : ∃ L, Ec.foreL e set (max 1 (lo - late)) (hi + late) = L := ⟨_, rfl⟩
                rw [hLd] at HF1 hld HDd HVd
                clear hLd
                obtain ⟨Lm, hLm⟩ : ∃ L, Ec.missedL e set lo hi late = L := ⟨_, rfl⟩
                rw [hLm] at HF1 HF3 hm1 HVm
                clear hLm
                obtain ⟨Ln, hLn⟩ : ∃ L, Ec.emptyL e set lo hi late = L := ⟨_, rfl⟩
                rw [hLn] at HF2 HF4 hm2 HVn
                clear hLn
                obtain ⟨Aa, qa, rfl, hca⟩ := HVa.out
                obtain ⟨Ab, qb, rfl, hcb⟩ := HVb.out
                obtain ⟨Ac, qc, rfl, hcc⟩ := HVc.out
                obtain ⟨Ad, qd, rfl, hcd⟩ := HVd.out
                obtain ⟨Am, qm, rfl, hcm⟩ := HVm.out
                obtain ⟨An, qn, rfl, hcn⟩ := HVn.out
                have HCa := Lib.hid hca
                have HCb := Lib.hid hcb
                have HCm := Lib.hid hcm
                have HCn := Lib.hid hcn
                clear hca hcb hcc hcd hcm hcn
                have g1 : ¬ ((La.length : Int) < (Lm.length : Int)) := by omega
                have g2 : ¬ ((Lb.length : Int) < (Ln.length : Int)) := by omega
                have g3 : ¬ ((1000 : Int) < (Lc.length : Int)) := by omega
                have g4 : ¬ ((1000 : Int) < (Ld.length : Int)) := by omega
                go_wp2_with fail
                simp only [show decide (La.length < Lm.length) = false from decide_eq_false (by omega), show decide (Lb.length < Ln.length) = false from decide_eq_false (by omega), show decide ((1000 : Int) < (Lc.length : Int)) = false from decide_eq_false (by omega), show decide ((1000 : Int) < (Ld.length : Int)) = false from decide_eq_false (by omega), Bool.or_self]
                have HEB : Hid (Ext w9 w9) := Lib.hid (Ext.refl _)
                go_loopw [23] (fun i wr0 => ∃ k : Nat, k ≤ La.length ∧ i = .int .i64 k ∧ Ext w9 wr0) (fun i _ => La.length - (intOf i).toNat)
                case atStart => exact ⟨0, Nat.zero_le _, rfl, Ext.refl _⟩
                case round =>
                  obtain ⟨k, hk, rfl, hX⟩ := hrel
                  have HX := Lib.hid (HE9.out.trans hX)
                  have HX0 := Lib.hid hX
                  have HXk := Lib.hid (HEB.out.trans HX0.out)
                  clear hX
                  by_cases hlt : k < La.length
                  · obtain ⟨bb, oo, hA, hcell⟩ := HCa.out (by omega)
                    subst hA
                    obtain ⟨y1, y2, y3⟩ := hcell k hlt
                    replace y1 := HXk.out.cell y1
                    replace y2 := HXk.out.cell y2
                    replace y3 := HXk.out.cell y3
                    have HIN : Hid (La[k] ∈ La) := Lib.hid (List.getElem_mem hlt)
                    obtain ⟨m, hm⟩ : ∃ m, La[k] = m := ⟨_, rfl⟩
                    rw [hm] at y1 y2 y3 HIN
                    obtain ⟨md, mf, mr⟩ := m
                    simp only at y1 y2 y3
                    clear hcell hm
                    have hiff := HF1.out ⟨md, mf, mr⟩ HIN.out
                    have hday := HDa.out ⟨md, mf, mr⟩ HIN.out
                    dsimp only at hday
                    have HLI := Lib.hid (fun W (h : EclVal W (.slice Am Lm.length qm) Lm) => l7_listed_any _ Lm ⟨md, mf, mr⟩ W h (by omega))
                    have HBS := Lib.hid (fun W (h : EclVal W (.slice Ad Ld.length qd) Ld) => l7_beside_any _ Ld ⟨md, mf, mr⟩ late W h (by omega) HDd.out hday ⟨l1, l2⟩)
                    have z1 := y1
                    have z2 := y2
                    have z3 := y3
                    cases hbb : Ec.beside Ld ⟨md, mf, mr⟩ late
                    · have hdm : decide ((⟨md, mf, mr⟩ : Sp.Ecl) ∈ Lm) = true := decide_eq_true (hiff.2 hbb)
                      rw [hdm] at HLI
                      rw [hbb] at HBS
                      clear hiff hdm hbb HIN
                      go_wp2_with fail
                      refine wp_region_later (by kernel_rfl) (by kernel_rfl) (fun W hW => ?_)
                      subst hW
                      have x1 := fun X : Later _ => X.ext.cell z1
                      have x2 := fun X : Later _ => X.ext.cell z2
                      have x3 := fun X : Later _ => X.ext.cell z3
                      have HV1 := Lib.hid (fun X : Later _ => (HVm.out.ext HXk.out).ext X.ext)
                      have HV2 := Lib.hid (fun X : Later _ => (HVd.out.ext HXk.out).ext X.ext)
                      clear y1 y2 y3 z1 z2 z3
                      repeat (go_big_quiet_step (fail))
                      go_big_quiet_step ((go_at_call 32; exact Later.call (HLI.out _ (HV1.out _))))
                      repeat (go_big_quiet_step (fail))
                      go_big_quiet_step ((go_at_call 55; exact Later.call (HBS.out _ (HV2.out _))))
                      repeat (go_big_quiet_step (fail))
                      refine wpQuiet_nil ?_
                      rintro ⟨wz, hEz⟩
                      dsimp only
                      clear x1 x2 x3
                      go_wp2_with fail
                      refine ⟨⟨k + 1, by omega, by go_num, HX0.out.trans hEz⟩, by simp [intOf]; omega⟩
                    · have hdm : decide ((⟨md, mf, mr⟩ : Sp.Ecl) ∈ Lm) = false := decide_eq_false (fun h => by have h2 := hiff.1 h; rw [hbb] at h2; cases h2)
                      rw [hdm] at HLI
                      rw [hbb] at HBS
                      clear hiff hdm hbb HIN
                      go_wp2_with fail
                      refine wp_region_later (by kernel_rfl) (by kernel_rfl) (fun W hW => ?_)
                      subst hW
                      have x1 := fun X : Later _ => X.ext.cell z1
                      have x2 := fun X : Later _ => X.ext.cell z2
                      have x3 := fun X : Later _ => X.ext.cell z3
                      have HV1 := Lib.hid (fun X : Later _ => (HVm.out.ext HXk.out).ext X.ext)
                      have HV2 := Lib.hid (fun X : Later _ => (HVd.out.ext HXk.out).ext X.ext)
                      clear y1 y2 y3 z1 z2 z3
                      repeat (go_big_quiet_step (fail))
                      go_big_quiet_step ((go_at_call 32; exact Later.call (HLI.out _ (HV1.out _))))
                      repeat (go_big_quiet_step (fail))
                      go_big_quiet_step ((go_at_call 55; exact Later.call (HBS.out _ (HV2.out _))))
                      repeat (go_big_quiet_step (fail))
                      refine wpQuiet_nil ?_
                      rintro ⟨wz, hEz⟩
                      dsimp only
                      clear x1 x2 x3
                      go_wp2_with fail
                      refine ⟨⟨k + 1, by omega, by go_num, HX0.out.trans hEz⟩, by simp [intOf]; omega⟩
                  · obtain rfl : k = La.length := by omega
                    clear hlt hk
                    have HB1 := HXk
                    have HEw1 := HX
                    clear HX HX0
                    obtain ⟨wn1, hwn⟩ : ∃ W, W = wr := ⟨_, rfl⟩
                    subst hwn
                    go_wp2_with fail
                    go_loopw [24] (fun i wr1 => ∃ k : Nat, k ≤ Lb.length ∧ i = .int .i64 k ∧ Ext wn1 wr1) (fun i _ => Lb.length - (intOf i).toNat)
                    case atStart => exact ⟨0, Nat.zero_le _, rfl, Ext.refl _⟩
                    case round =>
                      obtain ⟨k, hk, rfl, hX⟩ := hrel
                      have HX := Lib.hid (HEw1.out.trans hX)
                      have HX0 := Lib.hid hX
                      have HXk := Lib.hid (HB1.out.trans hX)
                      clear hX
                      by_cases hlt : k < Lb.length
                      · obtain ⟨bb, oo, hA, hcell⟩ := HCb.out (by omega)
                        subst hA
                        obtain ⟨y1, y2, y3⟩ := hcell k hlt
                        replace y1 := HXk.out.cell y1
                        replace y2 := HXk.out.cell y2
                        replace y3 := HXk.out.cell y3
                        have HIN : Hid (Lb[k] ∈ Lb) := Lib.hid (List.getElem_mem hlt)
                        obtain ⟨m, hm⟩ : ∃ m, Lb[k] = m := ⟨_, rfl⟩
                        rw [hm] at y1 y2 y3 HIN
                        obtain ⟨md, mf, mr⟩ := m
                        simp only at y1 y2 y3
                        clear hcell hm
                        have hiff := HF2.out ⟨md, mf, mr⟩ HIN.out
                        have hday := HDb.out ⟨md, mf, mr⟩ HIN.out
                        dsimp only at hday
                        have HLI := Lib.hid (fun W (h : EclVal W (.slice An Ln.length qn) Ln) => l7_listed_any _ Ln ⟨md, mf, mr⟩ W h (by omega))
                        have HBS := Lib.hid (fun W (h : EclVal W (.slice Ac Lc.length qc) Lc) => l7_beside_any _ Lc ⟨md, mf, mr⟩ late W h (by omega) HDc.out hday ⟨l1, l2⟩)
                        have z1 := y1
                        have z2 := y2
                        have z3 := y3
                        cases hbb : Ec.beside Lc ⟨md, mf, mr⟩ late
                        · have hdm : decide ((⟨md, mf, mr⟩ : Sp.Ecl) ∈ Ln) = true := decide_eq_true (hiff.2 hbb)
                          rw [hdm] at HLI
                          rw [hbb] at HBS
                          clear hiff hdm hbb HIN
                          go_wp2_with fail
                          refine wp_region_later (by kernel_rfl) (by kernel_rfl) (fun W hW => ?_)
                          subst hW
                          have x1 := fun X : Later _ => X.ext.cell z1
                          have x2 := fun X : Later _ => X.ext.cell z2
                          have x3 := fun X : Later _ => X.ext.cell z3
                          have HV1 := Lib.hid (fun X : Later _ => (HVn.out.ext HXk.out).ext X.ext)
                          have HV2 := Lib.hid (fun X : Later _ => (HVc.out.ext HXk.out).ext X.ext)
                          clear y1 y2 y3 z1 z2 z3
                          repeat (go_big_quiet_step (fail))
                          go_big_quiet_step ((go_at_call 32; exact Later.call (HLI.out _ (HV1.out _))))
                          repeat (go_big_quiet_step (fail))
                          go_big_quiet_step ((go_at_call 55; exact Later.call (HBS.out _ (HV2.out _))))
                          repeat (go_big_quiet_step (fail))
                          refine wpQuiet_nil ?_
                          rintro ⟨wz, hEz⟩
                          dsimp only
                          clear x1 x2 x3
                          go_wp2_with fail
                          refine ⟨⟨k + 1, by omega, by go_num, HX0.out.trans hEz⟩, by simp [intOf]; omega⟩
                        · have hdm : decide ((⟨md, mf, mr⟩ : Sp.Ecl) ∈ Ln) = false := decide_eq_false (fun h => by have h2 := hiff.1 h; rw [hbb] at h2; cases h2)
                          rw [hdm] at HLI
                          rw [hbb] at HBS
                          clear hiff hdm hbb HIN
                          go_wp2_with fail
                          refine wp_region_later (by kernel_rfl) (by kernel_rfl) (fun W hW => ?_)
                          subst hW
                          have x1 := fun X : Later _ => X.ext.cell z1
                          have x2 := fun X : Later _ => X.ext.cell z2
                          have x3 := fun X : Later _ => X.ext.cell z3
                          have HV1 := Lib.hid (fun X : Later _ => (HVn.out.ext HXk.out).ext X.ext)
                          have HV2 := Lib.hid (fun X : Later _ => (HVc.out.ext HXk.out).ext X.ext)
                          clear y1 y2 y3 z1 z2 z3
                          repeat (go_big_quiet_step (fail))
                          go_big_quiet_step ((go_at_call 32; exact Later.call (HLI.out _ (HV1.out _))))
                          repeat (go_big_quiet_step (fail))
                          go_big_quiet_step ((go_at_call 55; exact Later.call (HBS.out _ (HV2.out _))))
                          repeat (go_big_quiet_step (fail))
                          refine wpQuiet_nil ?_
                          rintro ⟨wz, hEz⟩
                          dsimp only
                          clear x1 x2 x3
                          go_wp2_with fail
                          refine ⟨⟨k + 1, by omega, by go_num, HX0.out.trans hEz⟩, by simp [intOf]; omega⟩
                      · obtain rfl : k = Lb.length := by omega
                        clear hlt hk
                        have HB2 := HXk
                        have HEw2 := HX
                        clear HX HX0
                        obtain ⟨wn2, hwn⟩ : ∃ W, W = wr := ⟨_, rfl⟩
                        subst hwn
                        go_wp2_with fail
                        go_loopw [25] (fun i wr2 => ∃ k : Nat, k ≤ Lm.length ∧ i = .int .i64 k ∧ Ext wn2 wr2) (fun i _ => Lm.length - (intOf i).toNat)
                        case atStart => exact ⟨0, Nat.zero_le _, rfl, Ext.refl _⟩
                        case round =>
                          obtain ⟨k, hk, rfl, hX⟩ := hrel
                          have HX := Lib.hid (HEw2.out.trans hX)
                          have HX0 := Lib.hid hX
                          have HXk := Lib.hid (HB2.out.trans hX)
                          clear hX
                          by_cases hlt : k < Lm.length
                          · obtain ⟨bb, oo, hA, hcell⟩ := HCm.out (by omega)
                            subst hA
                            obtain ⟨y1, y2, y3⟩ := hcell k hlt
                            replace y1 := HXk.out.cell y1
                            replace y2 := HXk.out.cell y2
                            replace y3 := HXk.out.cell y3
                            have HIN : Hid (Lm[k] ∈ Lm) := Lib.hid (List.getElem_mem hlt)
                            obtain ⟨m, hm⟩ : ∃ m, Lm[k] = m := ⟨_, rfl⟩
                            rw [hm] at y1 y2 y3 HIN
                            obtain ⟨md, mf, mr⟩ := m
                            simp only at y1 y2 y3
                            clear hcell hm
                            have HM2 : Hid ((⟨md, mf, mr⟩ : Sp.Ecl) ∈ La) := Lib.hid (HF3.out _ HIN.out)
                            go_wp2_with fail
                            refine (l7_listed_any (.slice Aa La.length qa) La ⟨md, mf, mr⟩ _ (HVa.out.ext HXk.out) (by omega)).mono ?_
                            rintro r w' ⟨rfl, hE'⟩
                            rw [decide_eq_true HM2.out]
                            have HE' := Lib.hid (HX0.out.trans hE')
                            clear hE' y1 y2 y3
                            go_wp2_with fail
                            refine ⟨⟨k + 1, by omega, by go_num, HE'.out⟩, by simp [intOf]; omega⟩
                          · obtain rfl : k = Lm.length := by omega
                            clear hlt hk
                            have HB3 := HXk
                            have HEw3 := HX
                            clear HX HX0
                            obtain ⟨wn3, hwn⟩ : ∃ W, W = wr := ⟨_, rfl⟩
                            subst hwn
                            go_wp2_with fail
                            go_loopw [26] (fun i wr3 => ∃ k : Nat, k ≤ Ln.length ∧ i = .int .i64 k ∧ Ext wn3 wr3) (fun i _ => Ln.length - (intOf i).toNat)
                            case atStart => exact ⟨0, Nat.zero_le _, rfl, Ext.refl _⟩
                            case round =>
                              obtain ⟨k, hk, rfl, hX⟩ := hrel
                              have HX := Lib.hid (HEw3.out.trans hX)
                              have HX0 := Lib.hid hX
                              have HXk := Lib.hid (HB3.out.trans hX)
                              clear hX
                              by_cases hlt : k < Ln.length
                              · obtain ⟨bb, oo, hA, hcell⟩ := HCn.out (by omega)
                                subst hA
                                obtain ⟨y1, y2, y3⟩ := hcell k hlt
                                replace y1 := HXk.out.cell y1
                                replace y2 := HXk.out.cell y2
                                replace y3 := HXk.out.cell y3
                                have HIN : Hid (Ln[k] ∈ Ln) := Lib.hid (List.getElem_mem hlt)
                                obtain ⟨m, hm⟩ : ∃ m, Ln[k] = m := ⟨_, rfl⟩
                                rw [hm] at y1 y2 y3 HIN
                                obtain ⟨md, mf, mr⟩ := m
                                simp only at y1 y2 y3
                                clear hcell hm
                                have HM2 : Hid ((⟨md, mf, mr⟩ : Sp.Ecl) ∈ Lb) := Lib.hid (HF4.out _ HIN.out)
                                go_wp2_with fail
                                refine (l7_listed_any (.slice Ab Lb.length qb) Lb ⟨md, mf, mr⟩ _ (HVb.out.ext HXk.out) (by omega)).mono ?_
                                rintro r w' ⟨rfl, hE'⟩
                                rw [decide_eq_true HM2.out]
                                have HE' := Lib.hid (HX0.out.trans hE')
                                clear hE' y1 y2 y3
                                go_wp2_with fail
                                refine ⟨⟨k + 1, by omega, by go_num, HE'.out⟩, by simp [intOf]; omega⟩
                              · obtain rfl : k = Ln.length := by omega
                                clear hlt hk
                                have HB4 := HXk
                                have HEw4 := HX
                                clear HX HX0
                                obtain ⟨wn4, hwn⟩ : ∃ W, W = wr := ⟨_, rfl⟩
                                subst hwn
                                go_wp2_with fail
                                go_wp2_with fail
                                refine (l7_known_any _ (HV.out.ext HEw4.out)).mono ?_
                                rintro r w' ⟨rfl, hE'⟩
                                go_wp2_with fail
                                go_ret
                                exact ⟨rfl, HEw4.out.trans hE'⟩
end Go.Proofs.YtcbodpnmndbgnaaGreatDoor
