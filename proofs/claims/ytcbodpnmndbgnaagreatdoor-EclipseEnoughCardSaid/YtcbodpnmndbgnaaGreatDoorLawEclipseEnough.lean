/- The walk of the law EclipseEnough. (Printed by wip/mkelaws.py.) -/
import Derived.Carry
import Derived.Test.YtcbodpnmndbgnaaGreatDoorE12
namespace Go.Proofs.YtcbodpnmndbgnaaGreatDoor
open Go.RowKit
open Sp (rd)
set_option linter.unusedSimpArgs false
set_option linter.unusedVariables false

set_option maxRecDepth 100000 in
set_option maxHeartbeats 8000000 in
theorem law_EclipseEnough (p : EP) (e : Ec.Engine) (set : List Int) (lo hi late wide : Int) (w : World) (hV : Env w) (hm : EngSet w p e set) (hl : EngLong e) (hs : set.length ≤ 9223372036854775807) :
    Calls Tryz.prog 9 #[.agg #[.slice p.Ab e.sky.bodies.length p.cb, .int .i64 e.sky.nnum, .int .i64 e.sky.nden, .int .i64 e.sky.nstart, .slice p.As e.sun.length p.cs, .slice p.Am e.moon.length p.cm, .slice p.An e.node.length p.cn, .slice p.Af e.feasts.length p.cf, .int .i64 e.nw, .int .i64 e.fl, .int .i64 e.wide], .slice p.At set.length p.ct, .int .i64 lo, .int .i64 hi, .int .i64 late, .int .i64 wide] w fun r w' => r = .returned (.bool true) ∧ Ext w w' := by
  have HL := Lib.hid hl
  have HM := Lib.hid hm
  have HV := Lib.hid hV
  have HS0 := Lib.hid hs
  clear hm hl hV hs
  go_enter Tryz.func9, Tryz.ntmps9
  go_wp2_with fail
  have HR0 := Lib.hid (Row.new w 32 #[.slice p.Ab e.sky.bodies.length p.cb, .int .i64 e.sky.nnum, .int .i64 e.sky.nden, .int .i64 e.sky.nstart, .slice p.As e.sun.length p.cs, .slice p.Am e.moon.length p.cm, .slice p.An e.node.length p.cn, .slice p.Af e.feasts.length p.cf, .int .i64 e.nw, .int .i64 e.fl, .int .i64 e.wide])
  have HE0 : Hid (Ext w (w.alloc (.cells #[.slice p.Ab e.sky.bodies.length p.cb, .int .i64 e.sky.nnum, .int .i64 e.sky.nden, .int .i64 e.sky.nstart, .slice p.As e.sun.length p.cs, .slice p.Am e.moon.length p.cm, .slice p.An e.node.length p.cn, .slice p.Af e.feasts.length p.cf, .int .i64 e.nw, .int .i64 e.fl, .int .i64 e.wide] 32))) := Lib.hid ((Ext.refl w).alloc _)
  generalize w.alloc (.cells #[.slice p.Ab e.sky.bodies.length p.cb, .int .i64 e.sky.nnum, .int .i64 e.sky.nden, .int .i64 e.sky.nstart, .slice p.As e.sun.length p.cs, .slice p.Am e.moon.length p.cm, .slice p.An e.node.length p.cn, .slice p.Af e.feasts.length p.cf, .int .i64 e.nw, .int .i64 e.fl, .int .i64 e.wide] 32) = w0 at *
  have b0 := HR0.out.cell
  refine (l7_short_any p e set w0 (HM.out.eng.ext HE0.out) HL.out HS0.out).mono ?_
  rintro r w1 ⟨rfl, hE1⟩
  have HE1 := Lib.hid (HE0.out.trans hE1)
  have HR1 := Lib.hid (HR0.out.ext hE1)
  clear b0
  have b1 := HR1.out.cell
  clear hE1
  cases hsh : shortB e set with
  | false =>
    go_wp2_with fail
    refine (l7_known_any w1 (HV.out.ext HE1.out)).mono ?_
    rintro r w2 ⟨rfl, hE2⟩
    go_wp2_with fail
    go_ret
    exact ⟨rfl, HE1.out.trans hE2⟩
  | true =>
    have HS := Lib.hid (shorts_of hsh)
    have hfl := HS.out.feasts
    have hsl := HS.out.set
    clear hsh
    go_wp2_with fail
    refine (r7_Engine_any p e w1 (HM.out.eng.ext HE1.out) HS.out.eng).mono ?_
    rintro r w2 ⟨rfl, hE2⟩
    have HE2 := Lib.hid (HE1.out.trans hE2)
    have HR2 := Lib.hid (HR1.out.ext hE2)
    clear b1
    have b2 := HR2.out.cell
    clear hE2
    cases c0 : Ec.engineOk e with
    | false =>
      go_wp2_with fail
      refine (l7_known_any w2 (HV.out.ext HE2.out)).mono ?_
      rintro r w3 ⟨rfl, hE3⟩
      go_wp2_with fail
      go_ret
      exact ⟨rfl, HE2.out.trans hE3⟩
    | true =>
      go_wp2_with fail
      refine (r1_Set_any p.Af p.At e.feasts.length p.cf p.ct set w2 (by omega) (HM.out.ext HE2.out).set (by omega)).mono ?_
      rintro r w3 ⟨rfl, hE3⟩
      have HE3 := Lib.hid (HE2.out.trans hE3)
      have HR3 := Lib.hid (HR2.out.ext hE3)
      clear b2
      have b3 := HR3.out.cell
      clear hE3
      rw [show Ec.rising set 0 ((e.feasts.length : Int) - 1) = Ec.setOk e.feasts set from rfl]
      cases c1 : Ec.setOk e.feasts set with
      | false =>
        go_wp2_with fail
        refine (l7_known_any w3 (HV.out.ext HE3.out)).mono ?_
        rintro r w4 ⟨rfl, hE4⟩
        go_wp2_with fail
        go_ret
        exact ⟨rfl, HE3.out.trans hE4⟩
      | true =>
        go_wp2_with fail
        refine (r7_Span_any lo hi _).mono ?_
        rintro r w' ⟨rfl, rfl⟩
        cases c2 : Ec.isSpan lo hi with
        | false =>
          go_wp2_with fail
          refine (l7_known_any w3 (HV.out.ext HE3.out)).mono ?_
          rintro r w4 ⟨rfl, hE4⟩
          go_wp2_with fail
          go_ret
          exact ⟨rfl, HE3.out.trans hE4⟩
        | true =>
          go_wp2_with fail
          refine (r7_Late_any late _).mono ?_
          rintro r w' ⟨rfl, rfl⟩
          cases c3 : Ec.isLate late with
          | false =>
            go_wp2_with fail
            refine (l7_known_any w3 (HV.out.ext HE3.out)).mono ?_
            rintro r w4 ⟨rfl, hE4⟩
            go_wp2_with fail
            go_ret
            exact ⟨rfl, HE3.out.trans hE4⟩
          | true =>
            go_wp2_with fail
            refine (r_Limit_any wide _).mono ?_
            rintro r w' ⟨rfl, rfl⟩
            cases hlw : Sp.isLimit wide with
            | false =>
              go_wp2_with fail
              refine (l7_known_any w3 (HV.out.ext HE3.out)).mono ?_
              rintro r w4 ⟨rfl, hE4⟩
              go_wp2_with fail
              go_ret
              exact ⟨rfl, HE3.out.trans hE4⟩
            | true =>
              obtain ⟨s1, s2, s3, s4, s5⟩ := espan_of c2
              obtain ⟨l1, l2⟩ := elate_of c3
              have hlw2 := limit_of hlw
              have c5 := widened_ok (n := wide) c0 hlw2.1 hlw2.2
              have hwl := Ec.widens_lim e set lo hi late
              have HWE := Lib.hid (Ec.widens_enough e set lo hi late wide hlw2.1 hlw2.2)
              have HSET := Lib.hid (incr_of_set c1)
              go_wp2_with fail
              refine (e_Widens_ok p e set lo hi late w3 (HM.out.ext HE3.out) HS.out.eng (by omega) c0 c1 c2 c3).mono ?_
              rintro r w4 ⟨rfl, hE4⟩
              have HE4 := Lib.hid (HE3.out.trans hE4)
              have HR4 := Lib.hid (HR3.out.ext hE4)
              clear b3
              have b4 := HR4.out.cell
              clear hE4
              obtain ⟨n, hn⟩ : ∃ n, Ec.widens e set lo hi late = n := ⟨_, rfl⟩
              rw [hn] at hwl HWE ⊢
              clear hn
              obtain ⟨N, hN⟩ : ∃ N, (Ec.missedL (Ec.widened e wide) set lo hi late).length = N := ⟨_, rfl⟩
              rw [hN] at HWE
              have HN := Lib.hid hN
              clear hN
              cases hln : Sp.isLimit n with
              | false =>
                rw [show wideV n = .tuple #[.int .i64 0, .int .i64 5] from if_neg (by rw [hln]; decide)]
                have hnl : ¬ n ≤ wide := fun h => by
                  have : Sp.isLimit n = true := inR_iff.2 ⟨hwl, by omega⟩
                  rw [hln] at this; cases this
                have ha0 : ((N : Int) == 0) = false := by
                  have := mt HWE.out.1 hnl
                  simp; omega
                go_wp2_with fail
                refine (r7_Widened_any p e wide w4).mono ?_
                rintro r w5 ⟨rfl, hE5⟩
                have HE5 := Lib.hid (HE4.out.trans hE5)
                have HR5 := Lib.hid (HR4.out.ext hE5)
                clear b4
                have b5 := HR5.out.cell
                clear hE5
                go_wp2_with fail
                refine (e_Missed_ok p (Ec.widened e wide) set lo hi late w5 (widened_set _ (HM.out.ext HE5.out)) (widened_short _ HS.out.eng) (by omega) c5 c1 c2 c3).mono ?_
                rintro r w6 ⟨vw, rfl, ⟨Aw, dw, rfl, hvw⟩, hE6⟩
                have HE6 := Lib.hid (HE5.out.trans hE6)
                have HR6 := Lib.hid (HR5.out.ext hE6)
                clear b5
                have b6 := HR6.out.cell
                clear hE6
                clear hvw
                rw [HN.out]
                have HD1 := Lib.hid (Ec.prog_doc (goodB e lo hi late) e.feasts.length)
                obtain ⟨NO, hNO⟩ : ∃ N, (Ec.missedL e set lo hi late).length = N := ⟨_, rfl⟩
                have HNO := Lib.hid hNO
                clear hNO
                cases hd : Ec.docSet (goodB e lo hi late) e.feasts.length with
                | none =>
                  go_wp2_with fail
                  refine (e_Settings_ok p e lo hi late w6 (HM.out.eng.ext HE6.out) HS.out.eng c0 c2 c3).mono ?_
                  rintro r w7 ⟨hsp, hE7⟩
                  rw [HD1.out, hd] at hsp
                  have hsp' : r = .returned (.tuple #[.slice none 0 0, .int .i64 5]) := hsp
                  subst hsp'
                  clear hsp
                  have HE7 := Lib.hid (HE6.out.trans hE7)
                  have HR7 := Lib.hid (HR6.out.ext hE7)
                  clear b6
                  have b7 := HR7.out.cell
                  clear hE7
                  have hb0 : (0 : Int) < (NO : Int) := by
                    have h := Ec.doc_none hd set HSET.out
                    simp only [goodB, decide_eq_false_iff_not, HNO.out] at h
                    omega
                  go_wp2_with fail
                  refine (e_Missed_ok p e set lo hi late w7 (HM.out.ext HE7.out) HS.out.eng (by omega) c0 c1 c2 c3).mono ?_
                  rintro r w8 ⟨vo, rfl, ⟨Ao, do_, rfl, hvo⟩, hE8⟩
                  have HE8 := Lib.hid (HE7.out.trans hE8)
                  have HR8 := Lib.hid (HR7.out.ext hE8)
                  clear b7
                  have b8 := HR8.out.cell
                  clear hE8
                  clear hvo
                  rw [HNO.out]
                  go_wp2_with fail
                  refine (l7_known_any w8 (HV.out.ext HE8.out)).mono ?_
                  rintro r w9 ⟨rfl, hE9⟩
                  go_wp2_with fail
                  go_ret
                  exact ⟨rfl, HE8.out.trans hE9⟩
                | some y =>
                  go_wp2_with fail
                  refine (e_Settings_ok p e lo hi late w6 (HM.out.eng.ext HE6.out) HS.out.eng c0 c2 c3).mono ?_
                  rintro r w7 ⟨hsp, hE7⟩
                  rw [HD1.out, hd] at hsp
                  obtain ⟨A2, c2', rfl, hI⟩ := hsp
                  have HE7 := Lib.hid (HE6.out.trans hE7)
                  have HR7 := Lib.hid (HR6.out.ext hE7)
                  clear b6
                  have b7 := HR7.out.cell
                  clear hE7
                  have HI := Lib.hid hI
                  clear hI
                  obtain ⟨g1, g2, g3⟩ := Ec.doc_is hd
                  have hyl := incr_len g2
                  have hys := setOk_of_incr g2
                  have HG3 := Lib.hid (g3 set HSET.out)
                  have HG1 : Hid ((Ec.missedL e y lo hi late).length = 0) := Lib.hid (of_decide_eq_true g1)
                  have HDF := Lib.hid (fun (hz : goodB e lo hi late set = true) (hl : set.length = y.length) (k : Nat) hk he hn => doc_first (k := k) hd HSET.out hz hl hk he hn)
                  clear g1 g2 g3 hd
                  have hy10 : y.length ≤ e.feasts.length := by omega
                  have hyf : ¬ ((e.feasts.length : Int) < (y.length : Int)) := by omega
                  go_wp2_with fail
                  refine (e_Missed_ok p e set lo hi late w7 (HM.out.ext HE7.out) HS.out.eng (by omega) c0 c1 c2 c3).mono ?_
                  rintro r w8 ⟨vo, rfl, ⟨Ao, do_, rfl, hvo⟩, hE8⟩
                  have HE8 := Lib.hid (HE7.out.trans hE8)
                  have HR8 := Lib.hid (HR7.out.ext hE8)
                  clear b7
                  have b8 := HR8.out.cell
                  replace HI := Lib.hid (HI.out.ext hE8)
                  clear hE8
                  clear hvo
                  rw [HNO.out]
                  go_wp2_with fail
                  refine (r1_Set_any p.Af A2 e.feasts.length p.cf c2' y w8 (by omega) HI.out (by omega)).mono ?_
                  rintro r w9 ⟨rfl, hE9⟩
                  have HE9 := Lib.hid (HE8.out.trans hE9)
                  have HR9 := Lib.hid (HR8.out.ext hE9)
                  clear b8
                  have b9 := HR9.out.cell
                  replace HI := Lib.hid (HI.out.ext hE9)
                  clear hE9
                  rw [show Ec.rising y 0 ((e.feasts.length : Int) - 1) = true from hys]
                  go_wp2_with fail
                  refine (e_Missed_ok ⟨p.Ab, p.cb, p.As, p.cs, p.Am, p.cm, p.An, p.cn, p.Af, p.cf, A2, c2'⟩ e y lo hi late w9 ⟨⟨(HM.out.ext HE9.out).eng.bodies, (HM.out.ext HE9.out).eng.sun, (HM.out.ext HE9.out).eng.moon, (HM.out.ext HE9.out).eng.node, (HM.out.ext HE9.out).eng.feasts⟩, HI.out⟩ HS.out.eng (by omega) c0 hys c2 c3).mono ?_
                  rintro r w10 ⟨vy, rfl, ⟨Ay, dy, rfl, hvy⟩, hE10⟩
                  have HE10 := Lib.hid (HE9.out.trans hE10)
                  have HR10 := Lib.hid (HR9.out.ext hE10)
                  clear b9
                  have b10 := HR10.out.cell
                  replace HI := Lib.hid (HI.out.ext hE10)
                  clear hE10
                  clear hvy
                  rw [HG1.out]
                  by_cases ho : 0 < NO
                  case pos =>
                    have hob : (0 : Int) < (NO : Int) := by omega
                    go_wp2_with fail
                    refine (l7_known_any w10 (HV.out.ext HE10.out)).mono ?_
                    rintro r w11 ⟨rfl, hE11⟩
                    go_wp2_with fail
                    go_ret
                    exact ⟨rfl, HE10.out.trans hE11⟩
                  case neg =>
                    obtain rfl : NO = 0 := by omega
                    have hgs : goodB e lo hi late set = true := by simp only [goodB, HNO.out]; rfl
                    have hle := HG3.out hgs
                    have HDF2 := Lib.hid (HDF.out hgs)
                    clear ho
                    by_cases hg : y.length < set.length
                    case pos =>
                      have hg' : (y.length : Int) < (set.length : Int) := by omega
                      go_wp2_with fail
                      refine (l7_known_any w10 (HV.out.ext HE10.out)).mono ?_
                      rintro r w11 ⟨rfl, hE11⟩
                      go_wp2_with fail
                      go_ret
                      exact ⟨rfl, HE10.out.trans hE11⟩
                    case neg =>
                      have heq : set.length = y.length := by omega
                      have HDF3 := Lib.hid (HDF2.out heq)
                      have hg' : ¬ (y.length : Int) < (set.length : Int) := by omega
                      have hg2 : ¬ (set.length : Int) < (y.length : Int) := by omega
                      have HHQ := Lib.hid heq
                      clear heq hg hle
                      go_wp2_with fail
                      go_loopw [23] (fun i wr => ∃ k : Nat, k ≤ y.length ∧ i = .int .i64 k ∧ (∀ j, j < k → rd set j = rd y j) ∧ Ext w10 wr) (fun i _ => y.length - (intOf i).toNat)
                      case atStart => exact ⟨0, Nat.zero_le _, rfl, fun j hj => by omega, Ext.refl _⟩
                      case round =>
                        obtain ⟨k, hk, rfl, hpre, hX⟩ := hrel
                        have HX := Lib.hid hX
                        have HPRE := Lib.hid hpre
                        have heq := HHQ.out
                        by_cases hlt : k < y.length
                        · obtain ⟨q1, o1, e1, p1⟩ := (HI.out.ext hX) (by omega)
                          obtain ⟨q2, o2, e2, p2⟩ := ((HM.out.ext (HE10.out.trans hX)).set) (by omega)
                          rw [e1, e2]
                          have a1 := p1 k hlt
                          have a2 := p2 k (by omega)
                          have hk2 : (k : Int) < (set.length : Int) := by omega
                          have HNE := Lib.hid (fun h : rd set k ≠ rd y k => HDF3.out k hlt HPRE.out h)
                          have HEQ2 := Lib.hid (fun h : rd set k = rd y k => (fun j (hj : j < k + 1) => (if hjk : j = k then by subst hjk; exact h else HPRE.out j (by omega)) : ∀ j, j < k + 1 → rd set j = rd y j))
                          obtain ⟨x1, hx1⟩ : ∃ x, rd y k = x := ⟨_, rfl⟩
                          obtain ⟨x2, hx2⟩ : ∃ x, rd set k = x := ⟨_, rfl⟩
                          rw [hx1] at a1 HNE HEQ2
                          rw [hx2] at a2 HNE HEQ2
                          clear p1 p2 hX hpre hx1 hx2 e1 e2 heq
                          by_cases hq : x2 = x1
                          · have HP2 := Lib.hid (HEQ2.out hq)
                            subst hq
                            clear HNE HEQ2
                            go_wp2_with fail
                            go_quiet (fail)
                            go_wp2_with fail
                            refine ⟨⟨k + 1, by omega, by go_num, HP2.out, HX.out.drewN _⟩, by simp [intOf]; omega⟩
                          · have hgt := HNE.out hq
                            have hdec : decide (x1 < x2) = true := decide_eq_true hgt
                            clear HNE HEQ2
                            have b1 := a1
                            have b2 := a2
                            go_wp2_with fail
                            go_quiet (fail)
                            go_wp2_with fail
                            clear a1 a2
                            refine wp_region_later (by kernel_rfl) (by kernel_rfl) (fun W hW => ?_)
                            have hD : Ext wr W := by rw [hW]; exact (Ext.refl _).drewN _
                            have y1 := fun X : Later W => X.ext.cell (hD.cell b1)
                            have y2 := fun X : Later W => X.ext.cell (hD.cell b2)
                            have HD := Lib.hid hD
                            have HEX := Lib.hid (fun X : Later W => HV.out.ext (HE10.out.trans (HX.out.trans (HD.out.trans X.ext))))
                            clear hW hD b1 b2
                            repeat (go_big_quiet_step (fail))
                            go_big_quiet_step ((go_at_call 20; exact Later.call (l7_known_any _ (HEX.out _))))
                            repeat (go_big_quiet_step (fail))
                            refine wpQuiet_nil ?_
                            rintro ⟨wz, hEz⟩
                            dsimp only
                            go_wp2_with fail
                            go_ret
                            exact ⟨rfl, (HE10.out.trans (HX.out.trans HD.out)).trans hEz⟩
                        · obtain rfl : k = y.length := by omega
                          clear hX hpre heq
                          go_wp2_with fail
                          refine (l7_known_any _ (HV.out.ext (HE10.out.trans HX.out))).mono ?_
                          rintro r w' ⟨rfl, hE'⟩
                          go_wp2_with fail
                          go_ret
                          exact ⟨rfl, (HE10.out.trans HX.out).trans hE'⟩
              | true =>
                rw [show wideV n = .tuple #[.int .i64 n, .int .i64 0] from if_pos hln]
                by_cases hle : n ≤ wide
                case pos =>
                  have hN0 := HWE.out.2 hle
                  subst hN0
                  go_wp2_with fail
                  refine (r7_Widened_any p e wide w4).mono ?_
                  rintro r w5 ⟨rfl, hE5⟩
                  have HE5 := Lib.hid (HE4.out.trans hE5)
                  have HR5 := Lib.hid (HR4.out.ext hE5)
                  clear b4
                  have b5 := HR5.out.cell
                  clear hE5
                  go_wp2_with fail
                  refine (e_Missed_ok p (Ec.widened e wide) set lo hi late w5 (widened_set _ (HM.out.ext HE5.out)) (widened_short _ HS.out.eng) (by omega) c5 c1 c2 c3).mono ?_
                  rintro r w6 ⟨vw, rfl, ⟨Aw, dw, rfl, hvw⟩, hE6⟩
                  have HE6 := Lib.hid (HE5.out.trans hE6)
                  have HR6 := Lib.hid (HR5.out.ext hE6)
                  clear b5
                  have b6 := HR6.out.cell
                  clear hE6
                  clear hvw
                  rw [HN.out]
                  have HD1 := Lib.hid (Ec.prog_doc (goodB e lo hi late) e.feasts.length)
                  obtain ⟨NO, hNO⟩ : ∃ N, (Ec.missedL e set lo hi late).length = N := ⟨_, rfl⟩
                  have HNO := Lib.hid hNO
                  clear hNO
                  cases hd : Ec.docSet (goodB e lo hi late) e.feasts.length with
                  | none =>
                    go_wp2_with fail
                    refine (e_Settings_ok p e lo hi late w6 (HM.out.eng.ext HE6.out) HS.out.eng c0 c2 c3).mono ?_
                    rintro r w7 ⟨hsp, hE7⟩
                    rw [HD1.out, hd] at hsp
                    have hsp' : r = .returned (.tuple #[.slice none 0 0, .int .i64 5]) := hsp
                    subst hsp'
                    clear hsp
                    have HE7 := Lib.hid (HE6.out.trans hE7)
                    have HR7 := Lib.hid (HR6.out.ext hE7)
                    clear b6
                    have b7 := HR7.out.cell
                    clear hE7
                    have hb0 : (0 : Int) < (NO : Int) := by
                      have h := Ec.doc_none hd set HSET.out
                      simp only [goodB, decide_eq_false_iff_not, HNO.out] at h
                      omega
                    go_wp2_with fail
                    refine (e_Missed_ok p e set lo hi late w7 (HM.out.ext HE7.out) HS.out.eng (by omega) c0 c1 c2 c3).mono ?_
                    rintro r w8 ⟨vo, rfl, ⟨Ao, do_, rfl, hvo⟩, hE8⟩
                    have HE8 := Lib.hid (HE7.out.trans hE8)
                    have HR8 := Lib.hid (HR7.out.ext hE8)
                    clear b7
                    have b8 := HR8.out.cell
                    clear hE8
                    clear hvo
                    rw [HNO.out]
                    go_wp2_with fail
                    refine (l7_known_any w8 (HV.out.ext HE8.out)).mono ?_
                    rintro r w9 ⟨rfl, hE9⟩
                    go_wp2_with fail
                    go_ret
                    exact ⟨rfl, HE8.out.trans hE9⟩
                  | some y =>
                    go_wp2_with fail
                    refine (e_Settings_ok p e lo hi late w6 (HM.out.eng.ext HE6.out) HS.out.eng c0 c2 c3).mono ?_
                    rintro r w7 ⟨hsp, hE7⟩
                    rw [HD1.out, hd] at hsp
                    obtain ⟨A2, c2', rfl, hI⟩ := hsp
                    have HE7 := Lib.hid (HE6.out.trans hE7)
                    have HR7 := Lib.hid (HR6.out.ext hE7)
                    clear b6
                    have b7 := HR7.out.cell
                    clear hE7
                    have HI := Lib.hid hI
                    clear hI
                    obtain ⟨g1, g2, g3⟩ := Ec.doc_is hd
                    have hyl := incr_len g2
                    have hys := setOk_of_incr g2
                    have HG3 := Lib.hid (g3 set HSET.out)
                    have HG1 : Hid ((Ec.missedL e y lo hi late).length = 0) := Lib.hid (of_decide_eq_true g1)
                    have HDF := Lib.hid (fun (hz : goodB e lo hi late set = true) (hl : set.length = y.length) (k : Nat) hk he hn => doc_first (k := k) hd HSET.out hz hl hk he hn)
                    clear g1 g2 g3 hd
                    have hy10 : y.length ≤ e.feasts.length := by omega
                    have hyf : ¬ ((e.feasts.length : Int) < (y.length : Int)) := by omega
                    go_wp2_with fail
                    refine (e_Missed_ok p e set lo hi late w7 (HM.out.ext HE7.out) HS.out.eng (by omega) c0 c1 c2 c3).mono ?_
                    rintro r w8 ⟨vo, rfl, ⟨Ao, do_, rfl, hvo⟩, hE8⟩
                    have HE8 := Lib.hid (HE7.out.trans hE8)
                    have HR8 := Lib.hid (HR7.out.ext hE8)
                    clear b7
                    have b8 := HR8.out.cell
                    replace HI := Lib.hid (HI.out.ext hE8)
                    clear hE8
                    clear hvo
                    rw [HNO.out]
                    go_wp2_with fail
                    refine (r1_Set_any p.Af A2 e.feasts.length p.cf c2' y w8 (by omega) HI.out (by omega)).mono ?_
                    rintro r w9 ⟨rfl, hE9⟩
                    have HE9 := Lib.hid (HE8.out.trans hE9)
                    have HR9 := Lib.hid (HR8.out.ext hE9)
                    clear b8
                    have b9 := HR9.out.cell
                    replace HI := Lib.hid (HI.out.ext hE9)
                    clear hE9
                    rw [show Ec.rising y 0 ((e.feasts.length : Int) - 1) = true from hys]
                    go_wp2_with fail
                    refine (e_Missed_ok ⟨p.Ab, p.cb, p.As, p.cs, p.Am, p.cm, p.An, p.cn, p.Af, p.cf, A2, c2'⟩ e y lo hi late w9 ⟨⟨(HM.out.ext HE9.out).eng.bodies, (HM.out.ext HE9.out).eng.sun, (HM.out.ext HE9.out).eng.moon, (HM.out.ext HE9.out).eng.node, (HM.out.ext HE9.out).eng.feasts⟩, HI.out⟩ HS.out.eng (by omega) c0 hys c2 c3).mono ?_
                    rintro r w10 ⟨vy, rfl, ⟨Ay, dy, rfl, hvy⟩, hE10⟩
                    have HE10 := Lib.hid (HE9.out.trans hE10)
                    have HR10 := Lib.hid (HR9.out.ext hE10)
                    clear b9
                    have b10 := HR10.out.cell
                    replace HI := Lib.hid (HI.out.ext hE10)
                    clear hE10
                    clear hvy
                    rw [HG1.out]
                    by_cases ho : 0 < NO
                    case pos =>
                      have hob : (0 : Int) < (NO : Int) := by omega
                      go_wp2_with fail
                      refine (l7_known_any w10 (HV.out.ext HE10.out)).mono ?_
                      rintro r w11 ⟨rfl, hE11⟩
                      go_wp2_with fail
                      go_ret
                      exact ⟨rfl, HE10.out.trans hE11⟩
                    case neg =>
                      obtain rfl : NO = 0 := by omega
                      have hgs : goodB e lo hi late set = true := by simp only [goodB, HNO.out]; rfl
                      have hle := HG3.out hgs
                      have HDF2 := Lib.hid (HDF.out hgs)
                      clear ho
                      by_cases hg : y.length < set.length
                      case pos =>
                        have hg' : (y.length : Int) < (set.length : Int) := by omega
                        go_wp2_with fail
                        refine (l7_known_any w10 (HV.out.ext HE10.out)).mono ?_
                        rintro r w11 ⟨rfl, hE11⟩
                        go_wp2_with fail
                        go_ret
                        exact ⟨rfl, HE10.out.trans hE11⟩
                      case neg =>
                        have heq : set.length = y.length := by omega
                        have HDF3 := Lib.hid (HDF2.out heq)
                        have hg' : ¬ (y.length : Int) < (set.length : Int) := by omega
                        have hg2 : ¬ (set.length : Int) < (y.length : Int) := by omega
                        have HHQ := Lib.hid heq
                        clear heq hg hle
                        go_wp2_with fail
                        go_loopw [23] (fun i wr => ∃ k : Nat, k ≤ y.length ∧ i = .int .i64 k ∧ (∀ j, j < k → rd set j = rd y j) ∧ Ext w10 wr) (fun i _ => y.length - (intOf i).toNat)
                        case atStart => exact ⟨0, Nat.zero_le _, rfl, fun j hj => by omega, Ext.refl _⟩
                        case round =>
                          obtain ⟨k, hk, rfl, hpre, hX⟩ := hrel
                          have HX := Lib.hid hX
                          have HPRE := Lib.hid hpre
                          have heq := HHQ.out
                          by_cases hlt : k < y.length
                          · obtain ⟨q1, o1, e1, p1⟩ := (HI.out.ext hX) (by omega)
                            obtain ⟨q2, o2, e2, p2⟩ := ((HM.out.ext (HE10.out.trans hX)).set) (by omega)
                            rw [e1, e2]
                            have a1 := p1 k hlt
                            have a2 := p2 k (by omega)
                            have hk2 : (k : Int) < (set.length : Int) := by omega
                            have HNE := Lib.hid (fun h : rd set k ≠ rd y k => HDF3.out k hlt HPRE.out h)
                            have HEQ2 := Lib.hid (fun h : rd set k = rd y k => (fun j (hj : j < k + 1) => (if hjk : j = k then by subst hjk; exact h else HPRE.out j (by omega)) : ∀ j, j < k + 1 → rd set j = rd y j))
                            obtain ⟨x1, hx1⟩ : ∃ x, rd y k = x := ⟨_, rfl⟩
                            obtain ⟨x2, hx2⟩ : ∃ x, rd set k = x := ⟨_, rfl⟩
                            rw [hx1] at a1 HNE HEQ2
                            rw [hx2] at a2 HNE HEQ2
                            clear p1 p2 hX hpre hx1 hx2 e1 e2 heq
                            by_cases hq : x2 = x1
                            · have HP2 := Lib.hid (HEQ2.out hq)
                              subst hq
                              clear HNE HEQ2
                              go_wp2_with fail
                              go_quiet (fail)
                              go_wp2_with fail
                              refine ⟨⟨k + 1, by omega, by go_num, HP2.out, HX.out.drewN _⟩, by simp [intOf]; omega⟩
                            · have hgt := HNE.out hq
                              have hdec : decide (x1 < x2) = true := decide_eq_true hgt
                              clear HNE HEQ2
                              have b1 := a1
                              have b2 := a2
                              go_wp2_with fail
                              go_quiet (fail)
                              go_wp2_with fail
                              clear a1 a2
                              refine wp_region_later (by kernel_rfl) (by kernel_rfl) (fun W hW => ?_)
                              have hD : Ext wr W := by rw [hW]; exact (Ext.refl _).drewN _
                              have y1 := fun X : Later W => X.ext.cell (hD.cell b1)
                              have y2 := fun X : Later W => X.ext.cell (hD.cell b2)
                              have HD := Lib.hid hD
                              have HEX := Lib.hid (fun X : Later W => HV.out.ext (HE10.out.trans (HX.out.trans (HD.out.trans X.ext))))
                              clear hW hD b1 b2
                              repeat (go_big_quiet_step (fail))
                              go_big_quiet_step ((go_at_call 20; exact Later.call (l7_known_any _ (HEX.out _))))
                              repeat (go_big_quiet_step (fail))
                              refine wpQuiet_nil ?_
                              rintro ⟨wz, hEz⟩
                              dsimp only
                              go_wp2_with fail
                              go_ret
                              exact ⟨rfl, (HE10.out.trans (HX.out.trans HD.out)).trans hEz⟩
                          · obtain rfl : k = y.length := by omega
                            clear hX hpre heq
                            go_wp2_with fail
                            refine (l7_known_any _ (HV.out.ext (HE10.out.trans HX.out))).mono ?_
                            rintro r w' ⟨rfl, hE'⟩
                            go_wp2_with fail
                            go_ret
                            exact ⟨rfl, (HE10.out.trans HX.out).trans hE'⟩
                case neg =>
                  have ha0 : ((N : Int) == 0) = false := by
                    have := mt HWE.out.1 hle
                    simp; omega
                  go_wp2_with fail
                  refine (r7_Widened_any p e wide w4).mono ?_
                  rintro r w5 ⟨rfl, hE5⟩
                  have HE5 := Lib.hid (HE4.out.trans hE5)
                  have HR5 := Lib.hid (HR4.out.ext hE5)
                  clear b4
                  have b5 := HR5.out.cell
                  clear hE5
                  go_wp2_with fail
                  refine (e_Missed_ok p (Ec.widened e wide) set lo hi late w5 (widened_set _ (HM.out.ext HE5.out)) (widened_short _ HS.out.eng) (by omega) c5 c1 c2 c3).mono ?_
                  rintro r w6 ⟨vw, rfl, ⟨Aw, dw, rfl, hvw⟩, hE6⟩
                  have HE6 := Lib.hid (HE5.out.trans hE6)
                  have HR6 := Lib.hid (HR5.out.ext hE6)
                  clear b5
                  have b6 := HR6.out.cell
                  clear hE6
                  clear hvw
                  rw [HN.out]
                  have HD1 := Lib.hid (Ec.prog_doc (goodB e lo hi late) e.feasts.length)
                  obtain ⟨NO, hNO⟩ : ∃ N, (Ec.missedL e set lo hi late).length = N := ⟨_, rfl⟩
                  have HNO := Lib.hid hNO
                  clear hNO
                  cases hd : Ec.docSet (goodB e lo hi late) e.feasts.length with
                  | none =>
                    go_wp2_with fail
                    refine (e_Settings_ok p e lo hi late w6 (HM.out.eng.ext HE6.out) HS.out.eng c0 c2 c3).mono ?_
                    rintro r w7 ⟨hsp, hE7⟩
                    rw [HD1.out, hd] at hsp
                    have hsp' : r = .returned (.tuple #[.slice none 0 0, .int .i64 5]) := hsp
                    subst hsp'
                    clear hsp
                    have HE7 := Lib.hid (HE6.out.trans hE7)
                    have HR7 := Lib.hid (HR6.out.ext hE7)
                    clear b6
                    have b7 := HR7.out.cell
                    clear hE7
                    have hb0 : (0 : Int) < (NO : Int) := by
                      have h := Ec.doc_none hd set HSET.out
                      simp only [goodB, decide_eq_false_iff_not, HNO.out] at h
                      omega
                    go_wp2_with fail
                    refine (e_Missed_ok p e set lo hi late w7 (HM.out.ext HE7.out) HS.out.eng (by omega) c0 c1 c2 c3).mono ?_
                    rintro r w8 ⟨vo, rfl, ⟨Ao, do_, rfl, hvo⟩, hE8⟩
                    have HE8 := Lib.hid (HE7.out.trans hE8)
                    have HR8 := Lib.hid (HR7.out.ext hE8)
                    clear b7
                    have b8 := HR8.out.cell
                    clear hE8
                    clear hvo
                    rw [HNO.out]
                    go_wp2_with fail
                    refine (l7_known_any w8 (HV.out.ext HE8.out)).mono ?_
                    rintro r w9 ⟨rfl, hE9⟩
                    go_wp2_with fail
                    go_ret
                    exact ⟨rfl, HE8.out.trans hE9⟩
                  | some y =>
                    go_wp2_with fail
                    refine (e_Settings_ok p e lo hi late w6 (HM.out.eng.ext HE6.out) HS.out.eng c0 c2 c3).mono ?_
                    rintro r w7 ⟨hsp, hE7⟩
                    rw [HD1.out, hd] at hsp
                    obtain ⟨A2, c2', rfl, hI⟩ := hsp
                    have HE7 := Lib.hid (HE6.out.trans hE7)
                    have HR7 := Lib.hid (HR6.out.ext hE7)
                    clear b6
                    have b7 := HR7.out.cell
                    clear hE7
                    have HI := Lib.hid hI
                    clear hI
                    obtain ⟨g1, g2, g3⟩ := Ec.doc_is hd
                    have hyl := incr_len g2
                    have hys := setOk_of_incr g2
                    have HG3 := Lib.hid (g3 set HSET.out)
                    have HG1 : Hid ((Ec.missedL e y lo hi late).length = 0) := Lib.hid (of_decide_eq_true g1)
                    have HDF := Lib.hid (fun (hz : goodB e lo hi late set = true) (hl : set.length = y.length) (k : Nat) hk he hn => doc_first (k := k) hd HSET.out hz hl hk he hn)
                    clear g1 g2 g3 hd
                    have hy10 : y.length ≤ e.feasts.length := by omega
                    have hyf : ¬ ((e.feasts.length : Int) < (y.length : Int)) := by omega
                    go_wp2_with fail
                    refine (e_Missed_ok p e set lo hi late w7 (HM.out.ext HE7.out) HS.out.eng (by omega) c0 c1 c2 c3).mono ?_
                    rintro r w8 ⟨vo, rfl, ⟨Ao, do_, rfl, hvo⟩, hE8⟩
                    have HE8 := Lib.hid (HE7.out.trans hE8)
                    have HR8 := Lib.hid (HR7.out.ext hE8)
                    clear b7
                    have b8 := HR8.out.cell
                    replace HI := Lib.hid (HI.out.ext hE8)
                    clear hE8
                    clear hvo
                    rw [HNO.out]
                    go_wp2_with fail
                    refine (r1_Set_any p.Af A2 e.feasts.length p.cf c2' y w8 (by omega) HI.out (by omega)).mono ?_
                    rintro r w9 ⟨rfl, hE9⟩
                    have HE9 := Lib.hid (HE8.out.trans hE9)
                    have HR9 := Lib.hid (HR8.out.ext hE9)
                    clear b8
                    have b9 := HR9.out.cell
                    replace HI := Lib.hid (HI.out.ext hE9)
                    clear hE9
                    rw [show Ec.rising y 0 ((e.feasts.length : Int) - 1) = true from hys]
                    go_wp2_with fail
                    refine (e_Missed_ok ⟨p.Ab, p.cb, p.As, p.cs, p.Am, p.cm, p.An, p.cn, p.Af, p.cf, A2, c2'⟩ e y lo hi late w9 ⟨⟨(HM.out.ext HE9.out).eng.bodies, (HM.out.ext HE9.out).eng.sun, (HM.out.ext HE9.out).eng.moon, (HM.out.ext HE9.out).eng.node, (HM.out.ext HE9.out).eng.feasts⟩, HI.out⟩ HS.out.eng (by omega) c0 hys c2 c3).mono ?_
                    rintro r w10 ⟨vy, rfl, ⟨Ay, dy, rfl, hvy⟩, hE10⟩
                    have HE10 := Lib.hid (HE9.out.trans hE10)
                    have HR10 := Lib.hid (HR9.out.ext hE10)
                    clear b9
                    have b10 := HR10.out.cell
                    replace HI := Lib.hid (HI.out.ext hE10)
                    clear hE10
                    clear hvy
                    rw [HG1.out]
                    by_cases ho : 0 < NO
                    case pos =>
                      have hob : (0 : Int) < (NO : Int) := by omega
                      go_wp2_with fail
                      refine (l7_known_any w10 (HV.out.ext HE10.out)).mono ?_
                      rintro r w11 ⟨rfl, hE11⟩
                      go_wp2_with fail
                      go_ret
                      exact ⟨rfl, HE10.out.trans hE11⟩
                    case neg =>
                      obtain rfl : NO = 0 := by omega
                      have hgs : goodB e lo hi late set = true := by simp only [goodB, HNO.out]; rfl
                      have hle := HG3.out hgs
                      have HDF2 := Lib.hid (HDF.out hgs)
                      clear ho
                      by_cases hg : y.length < set.length
                      case pos =>
                        have hg' : (y.length : Int) < (set.length : Int) := by omega
                        go_wp2_with fail
                        refine (l7_known_any w10 (HV.out.ext HE10.out)).mono ?_
                        rintro r w11 ⟨rfl, hE11⟩
                        go_wp2_with fail
                        go_ret
                        exact ⟨rfl, HE10.out.trans hE11⟩
                      case neg =>
                        have heq : set.length = y.length := by omega
                        have HDF3 := Lib.hid (HDF2.out heq)
                        have hg' : ¬ (y.length : Int) < (set.length : Int) := by omega
                        have hg2 : ¬ (set.length : Int) < (y.length : Int) := by omega
                        have HHQ := Lib.hid heq
                        clear heq hg hle
                        go_wp2_with fail
                        go_loopw [23] (fun i wr => ∃ k : Nat, k ≤ y.length ∧ i = .int .i64 k ∧ (∀ j, j < k → rd set j = rd y j) ∧ Ext w10 wr) (fun i _ => y.length - (intOf i).toNat)
                        case atStart => exact ⟨0, Nat.zero_le _, rfl, fun j hj => by omega, Ext.refl _⟩
                        case round =>
                          obtain ⟨k, hk, rfl, hpre, hX⟩ := hrel
                          have HX := Lib.hid hX
                          have HPRE := Lib.hid hpre
                          have heq := HHQ.out
                          by_cases hlt : k < y.length
                          · obtain ⟨q1, o1, e1, p1⟩ := (HI.out.ext hX) (by omega)
                            obtain ⟨q2, o2, e2, p2⟩ := ((HM.out.ext (HE10.out.trans hX)).set) (by omega)
                            rw [e1, e2]
                            have a1 := p1 k hlt
                            have a2 := p2 k (by omega)
                            have hk2 : (k : Int) < (set.length : Int) := by omega
                            have HNE := Lib.hid (fun h : rd set k ≠ rd y k => HDF3.out k hlt HPRE.out h)
                            have HEQ2 := Lib.hid (fun h : rd set k = rd y k => (fun j (hj : j < k + 1) => (if hjk : j = k then by subst hjk; exact h else HPRE.out j (by omega)) : ∀ j, j < k + 1 → rd set j = rd y j))
                            obtain ⟨x1, hx1⟩ : ∃ x, rd y k = x := ⟨_, rfl⟩
                            obtain ⟨x2, hx2⟩ : ∃ x, rd set k = x := ⟨_, rfl⟩
                            rw [hx1] at a1 HNE HEQ2
                            rw [hx2] at a2 HNE HEQ2
                            clear p1 p2 hX hpre hx1 hx2 e1 e2 heq
                            by_cases hq : x2 = x1
                            · have HP2 := Lib.hid (HEQ2.out hq)
                              subst hq
                              clear HNE HEQ2
                              go_wp2_with fail
                              go_quiet (fail)
                              go_wp2_with fail
                              refine ⟨⟨k + 1, by omega, by go_num, HP2.out, HX.out.drewN _⟩, by simp [intOf]; omega⟩
                            · have hgt := HNE.out hq
                              have hdec : decide (x1 < x2) = true := decide_eq_true hgt
                              clear HNE HEQ2
                              have b1 := a1
                              have b2 := a2
                              go_wp2_with fail
                              go_quiet (fail)
                              go_wp2_with fail
                              clear a1 a2
                              refine wp_region_later (by kernel_rfl) (by kernel_rfl) (fun W hW => ?_)
                              have hD : Ext wr W := by rw [hW]; exact (Ext.refl _).drewN _
                              have y1 := fun X : Later W => X.ext.cell (hD.cell b1)
                              have y2 := fun X : Later W => X.ext.cell (hD.cell b2)
                              have HD := Lib.hid hD
                              have HEX := Lib.hid (fun X : Later W => HV.out.ext (HE10.out.trans (HX.out.trans (HD.out.trans X.ext))))
                              clear hW hD b1 b2
                              repeat (go_big_quiet_step (fail))
                              go_big_quiet_step ((go_at_call 20; exact Later.call (l7_known_any _ (HEX.out _))))
                              repeat (go_big_quiet_step (fail))
                              refine wpQuiet_nil ?_
                              rintro ⟨wz, hEz⟩
                              dsimp only
                              go_wp2_with fail
                              go_ret
                              exact ⟨rfl, (HE10.out.trans (HX.out.trans HD.out)).trans hEz⟩
                          · obtain rfl : k = y.length := by omega
                            clear hX hpre heq
                            go_wp2_with fail
                            refine (l7_known_any _ (HV.out.ext (HE10.out.trans HX.out))).mono ?_
                            rintro r w' ⟨rfl, hE'⟩
                            go_wp2_with fail
                            go_ret
                            exact ⟨rfl, (HE10.out.trans HX.out).trans hE'⟩
end Go.Proofs.YtcbodpnmndbgnaaGreatDoor
