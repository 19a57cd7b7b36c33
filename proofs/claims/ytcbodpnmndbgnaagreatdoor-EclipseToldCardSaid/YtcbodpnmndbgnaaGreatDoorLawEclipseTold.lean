/- The walk of the law EclipseTold. (Printed by wip/mkelaws.py.) -/
import Derived.Carry
import Derived.Test.YtcbodpnmndbgnaaGreatDoorE12
namespace Go.Proofs.YtcbodpnmndbgnaaGreatDoor
open Go.RowKit
open Sp (rd)
set_option linter.unusedSimpArgs false
set_option linter.unusedVariables false

set_option maxRecDepth 100000 in
set_option maxHeartbeats 8000000 in
theorem law_EclipseTold (p : EP) (e : Ec.Engine) (set : List Int) (lo hi day : Int) (full : Bool) (w : World) (hV : Env w) (hm : EngSet w p e set) (hl : EngLong e) (hs : set.length ≤ 9223372036854775807) :
    Calls Tryz.prog 5 #[.agg #[.slice p.Ab e.sky.bodies.length p.cb, .int .i64 e.sky.nnum, .int .i64 e.sky.nden, .int .i64 e.sky.nstart, .slice p.As e.sun.length p.cs, .slice p.Am e.moon.length p.cm, .slice p.An e.node.length p.cn, .slice p.Af e.feasts.length p.cf, .int .i64 e.nw, .int .i64 e.fl, .int .i64 e.wide], .slice p.At set.length p.ct, .int .i64 lo, .int .i64 hi, .int .i64 day, .bool full] w fun r w' => r = .returned (.bool true) ∧ Ext w w' := by
  have HL := Lib.hid hl
  have HM := Lib.hid hm
  have HV := Lib.hid hV
  have HS0 := Lib.hid hs
  clear hm hl hV hs
  go_enter Tryz.func5, Tryz.ntmps5
  go_wp2_with fail
  have HR0 := Lib.hid (Row.new w 32 #[.slice p.Ab e.sky.bodies.length p.cb, .int .i64 e.sky.nnum, .int .i64 e.sky.nden, .int .i64 e.sky.nstart, .slice p.As e.sun.length p.cs, .slice p.Am e.moon.length p.cm, .slice p.An e.node.length p.cn, .slice p.Af e.feasts.length p.cf, .int .i64 e.nw, .int .i64 e.fl, .int .i64 e.wide])
  have HE0 : Hid (Ext w (w.alloc (.cells #[.slice p.Ab e.sky.bodies.length p.cb, .int .i64 e.sky.nnum, .int .i64 e.sky.nden, .int .i64 e.sky.nstart, .slice p.As e.sun.length p.cs, .slice p.Am e.moon.length p.cm, .slice p.An e.node.length p.cn, .slice p.Af e.feasts.length p.cf, .int .i64 e.nw, .int .i64 e.fl, .int .i64 e.wide] 32))) := Lib.hid ((Ext.refl w).alloc _)
  generalize w.alloc (.cells #[.slice p.Ab e.sky.bodies.length p.cb, .int .i64 e.sky.nnum, .int .i64 e.sky.nden, .int .i64 e.sky.nstart, .slice p.As e.sun.length p.cs, .slice p.Am e.moon.length p.cm, .slice p.An e.node.length p.cn, .slice p.Af e.feasts.length p.cf, .int .i64 e.nw, .int .i64 e.fl, .int .i64 e.wide] 32) = w0 at *
  have b0 := HR0.out.cell
  refine (l7_short_any p e set w0 (HM.out.eng.ext HE0.out) HL.out HS0.out).mono ?_
  rintro r w1 ⟨rfl, hE1⟩
  have HE1 := Lib.hid (HE0.out.trans hE1)
  have HR1 := Lib.hid (HR0.out.ext hE1)
  clear b0
  have b1 := HR1.out.cell
  clear hE1
  cases hsh : shortB e set with
  | false =>
    go_wp2_with fail
    refine (l7_known_any w1 (HV.out.ext HE1.out)).mono ?_
    rintro r w2 ⟨rfl, hE2⟩
    go_wp2_with fail
    go_ret
    exact ⟨rfl, HE1.out.trans hE2⟩
  | true =>
    have HS := Lib.hid (shorts_of hsh)
    have hfl := HS.out.feasts
    have hsl := HS.out.set
    clear hsh
    go_wp2_with fail
    refine (r7_Engine_any p e w1 (HM.out.eng.ext HE1.out) HS.out.eng).mono ?_
    rintro r w2 ⟨rfl, hE2⟩
    have HE2 := Lib.hid (HE1.out.trans hE2)
    have HR2 := Lib.hid (HR1.out.ext hE2)
    clear b1
    have b2 := HR2.out.cell
    clear hE2
    cases c0 : Ec.engineOk e with
    | false =>
      go_wp2_with fail
      refine (l7_known_any w2 (HV.out.ext HE2.out)).mono ?_
      rintro r w3 ⟨rfl, hE3⟩
      go_wp2_with fail
      go_ret
      exact ⟨rfl, HE2.out.trans hE3⟩
    | true =>
      go_wp2_with fail
      refine (r1_Set_any p.Af p.At e.feasts.length p.cf p.ct set w2 (by omega) (HM.out.ext HE2.out).set (by omega)).mono ?_
      rintro r w3 ⟨rfl, hE3⟩
      have HE3 := Lib.hid (HE2.out.trans hE3)
      have HR3 := Lib.hid (HR2.out.ext hE3)
      clear b2
      have b3 := HR3.out.cell
      clear hE3
      rw [show Ec.rising set 0 ((e.feasts.length : Int) - 1) = Ec.setOk e.feasts set from rfl]
      cases c1 : Ec.setOk e.feasts set with
      | false =>
        go_wp2_with fail
        refine (l7_known_any w3 (HV.out.ext HE3.out)).mono ?_
        rintro r w4 ⟨rfl, hE4⟩
        go_wp2_with fail
        go_ret
        exact ⟨rfl, HE3.out.trans hE4⟩
      | true =>
        go_wp2_with fail
        refine (r7_Span_any lo hi _).mono ?_
        rintro r w' ⟨rfl, rfl⟩
        cases c2 : Ec.isSpan lo hi with
        | false =>
          go_wp2_with fail
          refine (l7_known_any w3 (HV.out.ext HE3.out)).mono ?_
          rintro r w4 ⟨rfl, hE4⟩
          go_wp2_with fail
          go_ret
          exact ⟨rfl, HE3.out.trans hE4⟩
        | true =>
          obtain ⟨s1, s2, s3, s4, s5⟩ := espan_of c2
          by_cases hd1 : day < lo
          case pos =>
            go_wp2_with fail
            refine (l7_known_any w3 (HV.out.ext HE3.out)).mono ?_
            rintro r w4 ⟨rfl, hE4⟩
            go_wp2_with fail
            go_ret
            exact ⟨rfl, HE3.out.trans hE4⟩
          case neg =>
            by_cases hd2 : hi < day
            case pos =>
              go_wp2_with fail
              refine (l7_known_any w3 (HV.out.ext HE3.out)).mono ?_
              rintro r w4 ⟨rfl, hE4⟩
              go_wp2_with fail
              go_ret
              exact ⟨rfl, HE3.out.trans hE4⟩
            case neg =>
              have HTL := Lib.hid (told_listed e set lo hi day full (by omega) (by omega))
              have HLN : Hid ((Ec.foreL e set lo hi).length ≤ 100000) := Lib.hid (by have := foreN_len e set lo (hi + 1 - lo).toNat; show (Ec.foreN e set lo (hi + 1 - lo).toNat).length ≤ 100000; omega)
              have HA := Lib.hid (And.intro (hand_sun e set (day - 1)) (And.intro (hand_moon e set (day - 1)) (hand_node e set (day - 1))))
              have HB := Lib.hid (And.intro (hand_sun e set day) (And.intro (hand_moon e set day) (hand_node e set day)))
              have HCR : Hid (∀ W, Calls Tryz.prog 33 #[.agg #[.int .i64 (Ec.sunAt e set (day - 1)), .int .i64 (Ec.moonAt e set (day - 1)), .int .i64 (Ec.nodeAt e set (day - 1))], .agg #[.int .i64 (Ec.sunAt e set day), .int .i64 (Ec.moonAt e set day), .int .i64 (Ec.nodeAt e set day)], .bool full] W fun e1 w' => e1 = .returned (.bool (Ec.hasB e set day full)) ∧ Ext W w') := Lib.hid fun W => r7_Crossed_any _ _ _ _ _ _ full W ⟨⟨HA.out.1, HA.out.2.1⟩, ⟨HB.out.1, HB.out.2.1⟩⟩
              have HFA : Hid (∀ W, Calls Tryz.prog 31 #[.agg #[.int .i64 (Ec.sunAt e set day), .int .i64 (Ec.moonAt e set day), .int .i64 (Ec.nodeAt e set day)]] W fun e1 w' => e1 = .returned (.int .i64 (Ec.farAt e set day)) ∧ Ext W w') := Lib.hid fun W => r7_Far_any _ _ _ W ⟨HB.out.2.1, HB.out.2.2⟩
              go_wp2_with fail
              refine (e_Foretells_ok p e set lo hi w3 (HM.out.ext HE3.out) HS.out.eng (by omega) c0 c1 c2).mono ?_
              rintro r w4 ⟨vf, rfl, hHVF, hE4⟩
              have HE4 := Lib.hid (HE3.out.trans hE4)
              have HR4 := Lib.hid (HR3.out.ext hE4)
              clear b3
              have b4 := HR4.out.cell
              clear hE4
              have HVF := Lib.hid hHVF
              clear hHVF
              go_wp2_with fail
              refine (e_Hands_ok p e set (day - 1) w4 (HM.out.ext HE4.out) HS.out.eng (by omega) c0 c1 (eday_mk (by omega) (by omega))).mono ?_
              rintro r w5 ⟨rfl, hE5⟩
              have HE5 := Lib.hid (HE4.out.trans hE5)
              have HR5 := Lib.hid (HR4.out.ext hE5)
              clear b4
              have b5 := HR5.out.cell
              replace HVF := Lib.hid (HVF.out.ext hE5)
              clear hE5
              rw [show handsF e set (day - 1) = .agg #[.int .i64 (Ec.sunAt e set (day - 1)), .int .i64 (Ec.moonAt e set (day - 1)), .int .i64 (Ec.nodeAt e set (day - 1))] from rfl]
              have HSA := Lib.hid (fun W => l7_spots_any (Ec.sunAt e set (day - 1)) (Ec.moonAt e set (day - 1)) (Ec.nodeAt e set (day - 1)) W)
              rw [spot_of HA.out.1, spot_of HA.out.2.1, spot_of HA.out.2.2] at HSA
              obtain ⟨a1, ha1⟩ : ∃ a, Ec.sunAt e set (day - 1) = a := ⟨_, rfl⟩
              obtain ⟨a2, ha2⟩ : ∃ a, Ec.moonAt e set (day - 1) = a := ⟨_, rfl⟩
              obtain ⟨a3, ha3⟩ : ∃ a, Ec.nodeAt e set (day - 1) = a := ⟨_, rfl⟩
              rw [ha1, ha2, ha3] at HSA HCR ⊢
              clear HA ha1 ha2 ha3
              have HRA := Lib.hid (Row.new w5 39 #[.int .i64 a1, .int .i64 a2, .int .i64 a3])
              have hX6 : Ext w5 (w5.alloc (.cells #[.int .i64 a1, .int .i64 a2, .int .i64 a3] 39)) := (Ext.refl _).alloc _
              have HE6 := Lib.hid (HE5.out.trans hX6)
              replace HVF := Lib.hid (HVF.out.ext hX6)
              have HR6 := Lib.hid (HR5.out.ext hX6)
              clear b5
              have b6 := HR6.out.cell
              have bRA := HRA.out.cell
              clear hX6
              go_wp2_with fail
              generalize w5.alloc (.cells #[.int .i64 a1, .int .i64 a2, .int .i64 a3] 39) = w6 at *
              refine (e_Hands_ok p e set day w6 (HM.out.ext HE6.out) HS.out.eng (by omega) c0 c1 (eday_mk (by omega) (by omega))).mono ?_
              rintro r w7 ⟨rfl, hE7⟩
              have HE7 := Lib.hid (HE6.out.trans hE7)
              have HR7 := Lib.hid (HR6.out.ext hE7)
              clear b6
              have b7 := HR7.out.cell
              replace HVF := Lib.hid (HVF.out.ext hE7)
              replace HRA := Lib.hid (HRA.out.ext hE7)
              clear bRA
              have bRA := HRA.out.cell
              clear hE7
              rw [show handsF e set day = .agg #[.int .i64 (Ec.sunAt e set day), .int .i64 (Ec.moonAt e set day), .int .i64 (Ec.nodeAt e set day)] from rfl]
              have HSB := Lib.hid (fun W => l7_spots_any (Ec.sunAt e set day) (Ec.moonAt e set day) (Ec.nodeAt e set day) W)
              rw [spot_of HB.out.1, spot_of HB.out.2.1, spot_of HB.out.2.2] at HSB
              obtain ⟨b1, hb1⟩ : ∃ a, Ec.sunAt e set day = a := ⟨_, rfl⟩
              obtain ⟨b2, hb2⟩ : ∃ a, Ec.moonAt e set day = a := ⟨_, rfl⟩
              obtain ⟨b3, hb3⟩ : ∃ a, Ec.nodeAt e set day = a := ⟨_, rfl⟩
              rw [hb1, hb2, hb3] at HSB HCR HFA ⊢
              clear HB hb1 hb2 hb3
              have HRB := Lib.hid (Row.new w7 39 #[.int .i64 b1, .int .i64 b2, .int .i64 b3])
              have hX8 : Ext w7 (w7.alloc (.cells #[.int .i64 b1, .int .i64 b2, .int .i64 b3] 39)) := (Ext.refl _).alloc _
              have HE8 := Lib.hid (HE7.out.trans hX8)
              replace HVF := Lib.hid (HVF.out.ext hX8)
              have HR8 := Lib.hid (HR7.out.ext hX8)
              clear b7
              have b8 := HR8.out.cell
              replace HRA := Lib.hid (HRA.out.ext hX8)
              clear bRA
              have bRA := HRA.out.cell
              have bRB := HRB.out.cell
              clear hX8
              go_wp2_with fail
              generalize w7.alloc (.cells #[.int .i64 b1, .int .i64 b2, .int .i64 b3] 39) = w8 at *
              refine (HSA.out w8).mono ?_
              rintro r w9 ⟨rfl, hE9⟩
              have HE9 := Lib.hid (HE8.out.trans hE9)
              have HR9 := Lib.hid (HR8.out.ext hE9)
              clear b8
              have b9 := HR9.out.cell
              replace HVF := Lib.hid (HVF.out.ext hE9)
              replace HRA := Lib.hid (HRA.out.ext hE9)
              clear bRA
              have bRA := HRA.out.cell
              replace HRB := Lib.hid (HRB.out.ext hE9)
              clear bRB
              have bRB := HRB.out.cell
              clear hE9
              simp only [Bool.and_self]
              go_wp2_with fail
              refine (HSB.out w9).mono ?_
              rintro r w10 ⟨rfl, hE10⟩
              have HE10 := Lib.hid (HE9.out.trans hE10)
              have HR10 := Lib.hid (HR9.out.ext hE10)
              clear b9
              have b10 := HR10.out.cell
              replace HVF := Lib.hid (HVF.out.ext hE10)
              replace HRA := Lib.hid (HRA.out.ext hE10)
              clear bRA
              have bRA := HRA.out.cell
              replace HRB := Lib.hid (HRB.out.ext hE10)
              clear bRB
              have bRB := HRB.out.cell
              clear hE10
              simp only [Bool.and_self]
              obtain ⟨f0, hf0⟩ : ∃ f, Ec.farAt e set day = f := ⟨_, rfl⟩
              rw [hf0] at HTL HFA
              have hlims := (Fine.limits ⟨c0, c1⟩ : (0 ≤ e.nw ∧ e.nw ≤ 5400) ∧ (0 ≤ e.fl ∧ e.fl ≤ 5400) ∧ (0 ≤ e.wide ∧ e.wide ≤ 5400))
              have HMEM : Hid (∀ W, EclVal W vf (Ec.foreL e set lo hi) → Calls Tryz.prog 32 #[vf, .agg #[.int .i64 day, .bool full, .int .i64 f0]] W fun e1 w' => e1 = .returned (.bool (Ec.hasB e set day full && decide (f0 ≤ Ec.limitOf e full + e.wide))) ∧ Ext W w') := Lib.hid fun W h => by rw [← HTL.out]; exact l7_listed_any vf _ ⟨day, full, f0⟩ W h HLN.out
              clear HTL hf0
              cases full with
              | false =>
                have hlim : Ec.limitOf e false + e.wide = e.nw + e.wide := rfl
                rw [hlim] at HMEM
                obtain ⟨L, hL⟩ : ∃ L, e.nw + e.wide = L := ⟨_, rfl⟩
                rw [hL] at HMEM
                clear hlim
                go_wp2_with fail
                refine (HFA.out w10).mono ?_
                rintro r w11 ⟨rfl, hE11⟩
                have HE11 := Lib.hid (HE10.out.trans hE11)
                have HR11 := Lib.hid (HR10.out.ext hE11)
                clear b10
                have b11 := HR11.out.cell
                replace HVF := Lib.hid (HVF.out.ext hE11)
                replace HRA := Lib.hid (HRA.out.ext hE11)
                clear bRA
                have bRA := HRA.out.cell
                replace HRB := Lib.hid (HRB.out.ext hE11)
                clear bRB
                have bRB := HRB.out.cell
                clear hE11
                cases hcr : Ec.hasB e set day false with
                | false =>
                  rw [hcr] at HCR HMEM
                  simp only [Bool.false_and] at HMEM
                  go_wp2_with fail
                  refine wp_region_later (by kernel_rfl) (by kernel_rfl) (fun W hW => ?_)
                  subst hW
                  have q1 := fun X : Later W => (Row.ext HRA.out X.ext).cell
                  have q2 := fun X : Later W => (Row.ext HRB.out X.ext).cell
                  have HVX := Lib.hid (fun X : Later W => HVF.out.ext X.ext)
                  have HEX := Lib.hid (fun X : Later W => HV.out.ext (HE11.out.trans X.ext))
                  clear bRA bRB b11
                  repeat (go_big_quiet_step (fail))
                  go_big_quiet_step ((go_at_call 32; exact Later.call (HMEM.out _ (HVX.out _))))
                  repeat (go_big_quiet_step (fail))
                  go_big_quiet_step ((go_at_call 33; exact Later.call (HCR.out _)))
                  repeat (go_big_quiet_step (fail))
                  go_big_quiet_step ((go_at_call 20; exact Later.call (l7_known_any _ (HEX.out _))))
                  repeat (go_big_quiet_step (fail))
                  refine wpQuiet_nil ?_
                  rintro ⟨wz, hEz⟩
                  dsimp only
                  go_wp2_with fail
                  go_ret
                  exact ⟨rfl, HE11.out.trans hEz⟩
                | true =>
                  rw [hcr] at HCR HMEM
                  simp only [Bool.true_and] at HMEM
                  by_cases hle : f0 ≤ L
                  case pos =>
                    rw [decide_eq_true hle] at HMEM
                    subst hL
                    have hdec : decide (f0 ≤ e.nw + e.wide) = true := decide_eq_true hle
                    go_wp2_with fail
                    refine wp_region_later (by kernel_rfl) (by kernel_rfl) (fun W hW => ?_)
                    subst hW
                    have q1 := fun X : Later W => (Row.ext HRA.out X.ext).cell
                    have q2 := fun X : Later W => (Row.ext HRB.out X.ext).cell
                    have HVX := Lib.hid (fun X : Later W => HVF.out.ext X.ext)
                    have HEX := Lib.hid (fun X : Later W => HV.out.ext (HE11.out.trans X.ext))
                    clear bRA bRB b11
                    repeat (go_big_quiet_step (fail))
                    go_big_quiet_step ((go_at_call 32; exact Later.call (HMEM.out _ (HVX.out _))))
                    repeat (go_big_quiet_step (fail))
                    go_big_quiet_step ((go_at_call 33; exact Later.call (HCR.out _)))
                    repeat (go_big_quiet_step (fail))
                    go_big_quiet_step ((go_at_call 20; exact Later.call (l7_known_any _ (HEX.out _))))
                    repeat (go_big_quiet_step (fail))
                    refine wpQuiet_nil ?_
                    rintro ⟨wz, hEz⟩
                    dsimp only
                    go_wp2_with fail
                    go_ret
                    exact ⟨rfl, HE11.out.trans hEz⟩
                  case neg =>
                    rw [decide_eq_false hle] at HMEM
                    subst hL
                    have hdec : decide (f0 ≤ e.nw + e.wide) = false := decide_eq_false hle
                    go_wp2_with fail
                    refine wp_region_later (by kernel_rfl) (by kernel_rfl) (fun W hW => ?_)
                    subst hW
                    have q1 := fun X : Later W => (Row.ext HRA.out X.ext).cell
                    have q2 := fun X : Later W => (Row.ext HRB.out X.ext).cell
                    have HVX := Lib.hid (fun X : Later W => HVF.out.ext X.ext)
                    have HEX := Lib.hid (fun X : Later W => HV.out.ext (HE11.out.trans X.ext))
                    clear bRA bRB b11
                    repeat (go_big_quiet_step (fail))
                    go_big_quiet_step ((go_at_call 32; exact Later.call (HMEM.out _ (HVX.out _))))
                    repeat (go_big_quiet_step (fail))
                    go_big_quiet_step ((go_at_call 33; exact Later.call (HCR.out _)))
                    repeat (go_big_quiet_step (fail))
                    go_big_quiet_step ((go_at_call 20; exact Later.call (l7_known_any _ (HEX.out _))))
                    repeat (go_big_quiet_step (fail))
                    refine wpQuiet_nil ?_
                    rintro ⟨wz, hEz⟩
                    dsimp only
                    go_wp2_with fail
                    go_ret
                    exact ⟨rfl, HE11.out.trans hEz⟩
              | true =>
                have hlim : Ec.limitOf e true + e.wide = e.fl + e.wide := rfl
                rw [hlim] at HMEM
                obtain ⟨L, hL⟩ : ∃ L, e.fl + e.wide = L := ⟨_, rfl⟩
                rw [hL] at HMEM
                clear hlim
                go_wp2_with fail
                refine (HFA.out w10).mono ?_
                rintro r w11 ⟨rfl, hE11⟩
                have HE11 := Lib.hid (HE10.out.trans hE11)
                have HR11 := Lib.hid (HR10.out.ext hE11)
                clear b10
                have b11 := HR11.out.cell
                replace HVF := Lib.hid (HVF.out.ext hE11)
                replace HRA := Lib.hid (HRA.out.ext hE11)
                clear bRA
                have bRA := HRA.out.cell
                replace HRB := Lib.hid (HRB.out.ext hE11)
                clear bRB
                have bRB := HRB.out.cell
                clear hE11
                cases hcr : Ec.hasB e set day true with
                | false =>
                  rw [hcr] at HCR HMEM
                  simp only [Bool.false_and] at HMEM
                  go_wp2_with fail
                  refine wp_region_later (by kernel_rfl) (by kernel_rfl) (fun W hW => ?_)
                  subst hW
                  have q1 := fun X : Later W => (Row.ext HRA.out X.ext).cell
                  have q2 := fun X : Later W => (Row.ext HRB.out X.ext).cell
                  have HVX := Lib.hid (fun X : Later W => HVF.out.ext X.ext)
                  have HEX := Lib.hid (fun X : Later W => HV.out.ext (HE11.out.trans X.ext))
                  clear bRA bRB b11
                  repeat (go_big_quiet_step (fail))
                  go_big_quiet_step ((go_at_call 32; exact Later.call (HMEM.out _ (HVX.out _))))
                  repeat (go_big_quiet_step (fail))
                  go_big_quiet_step ((go_at_call 33; exact Later.call (HCR.out _)))
                  repeat (go_big_quiet_step (fail))
                  go_big_quiet_step ((go_at_call 20; exact Later.call (l7_known_any _ (HEX.out _))))
                  repeat (go_big_quiet_step (fail))
                  refine wpQuiet_nil ?_
                  rintro ⟨wz, hEz⟩
                  dsimp only
                  go_wp2_with fail
                  go_ret
                  exact ⟨rfl, HE11.out.trans hEz⟩
                | true =>
                  rw [hcr] at HCR HMEM
                  simp only [Bool.true_and] at HMEM
                  by_cases hle : f0 ≤ L
                  case pos =>
                    rw [decide_eq_true hle] at HMEM
                    subst hL
                    have hdec : decide (f0 ≤ e.fl + e.wide) = true := decide_eq_true hle
                    go_wp2_with fail
                    refine wp_region_later (by kernel_rfl) (by kernel_rfl) (fun W hW => ?_)
                    subst hW
                    have q1 := fun X : Later W => (Row.ext HRA.out X.ext).cell
                    have q2 := fun X : Later W => (Row.ext HRB.out X.ext).cell
                    have HVX := Lib.hid (fun X : Later W => HVF.out.ext X.ext)
                    have HEX := Lib.hid (fun X : Later W => HV.out.ext (HE11.out.trans X.ext))
                    clear bRA bRB b11
                    repeat (go_big_quiet_step (fail))
                    go_big_quiet_step ((go_at_call 32; exact Later.call (HMEM.out _ (HVX.out _))))
                    repeat (go_big_quiet_step (fail))
                    go_big_quiet_step ((go_at_call 33; exact Later.call (HCR.out _)))
                    repeat (go_big_quiet_step (fail))
                    go_big_quiet_step ((go_at_call 20; exact Later.call (l7_known_any _ (HEX.out _))))
                    repeat (go_big_quiet_step (fail))
                    refine wpQuiet_nil ?_
                    rintro ⟨wz, hEz⟩
                    dsimp only
                    go_wp2_with fail
                    go_ret
                    exact ⟨rfl, HE11.out.trans hEz⟩
                  case neg =>
                    rw [decide_eq_false hle] at HMEM
                    subst hL
                    have hdec : decide (f0 ≤ e.fl + e.wide) = false := decide_eq_false hle
                    go_wp2_with fail
                    refine wp_region_later (by kernel_rfl) (by kernel_rfl) (fun W hW => ?_)
                    subst hW
                    have q1 := fun X : Later W => (Row.ext HRA.out X.ext).cell
                    have q2 := fun X : Later W => (Row.ext HRB.out X.ext).cell
                    have HVX := Lib.hid (fun X : Later W => HVF.out.ext X.ext)
                    have HEX := Lib.hid (fun X : Later W => HV.out.ext (HE11.out.trans X.ext))
                    clear bRA bRB b11
                    repeat (go_big_quiet_step (fail))
                    go_big_quiet_step ((go_at_call 32; exact Later.call (HMEM.out _ (HVX.out _))))
                    repeat (go_big_quiet_step (fail))
                    go_big_quiet_step ((go_at_call 33; exact Later.call (HCR.out _)))
                    repeat (go_big_quiet_step (fail))
                    go_big_quiet_step ((go_at_call 20; exact Later.call (l7_known_any _ (HEX.out _))))
                    repeat (go_big_quiet_step (fail))
                    refine wpQuiet_nil ?_
                    rintro ⟨wz, hEz⟩
                    dsimp only
                    go_wp2_with fail
                    go_ret
                    exact ⟨rfl, HE11.out.trans hEz⟩
end Go.Proofs.YtcbodpnmndbgnaaGreatDoor
