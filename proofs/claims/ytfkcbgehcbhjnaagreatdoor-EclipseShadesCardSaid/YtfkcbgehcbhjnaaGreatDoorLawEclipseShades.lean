/- The walk of the law EclipseShades. (Printed by wip/mkblaws.py.) -/
import Derived.Carry
import Derived.BigQuiet
import Derived.Test.YtfkcbgehcbhjnaaGreatDoorH14
namespace Go.Proofs.YtfkcbgehcbhjnaaGreatDoor
open Go.RowKit
open Sp (rd)
set_option linter.unusedSimpArgs false
set_option linter.unusedVariables false

set_option maxRecDepth 100000 in
set_option maxHeartbeats 8000000 in
theorem law_EclipseShades (l : List Ec.Ball) (A : Option Addr) (c : Nat) (one other : Int) (w : World) (hV : Env w) (hm : BallsAt w A l) (hc : l.length ≤ c) :
    Calls Tryz.prog 6 #[.slice A l.length c, .int .i64 one, .int .i64 other] w fun r w' => r = .returned (.bool true) ∧ Ext w w' := by
  have HM := Lib.hid hm
  have HV := Lib.hid hV
  have HC := Lib.hid hc
  have HE0 : Hid (Ext w w) := Lib.hid (Ext.refl w)
  clear hm hV hc
  go_enter Tryz.func6, Tryz.ntmps6
  by_cases h8 : 8 < l.length
  case pos =>
    have h8' : (8 : Int) < (l.length : Int) := by omega
    go_wp2_with fail
    refine (l7_known_any w (HV.out.ext HE0.out)).mono ?_
    rintro r w1 ⟨rfl, hE1⟩
    go_wp2_with fail
    go_ret
    exact ⟨rfl, HE0.out.trans hE1⟩
  case neg =>
    have h8' : ¬ (8 : Int) < (l.length : Int) := by omega
    have h9 : l.length ≤ 1000 := by omega
    cases c0 : Ec.ballsOk l with
    | false =>
      have HSV : Hid (shadesV l one other = .tuple #[.int .i64 0, .int .i64 2]) := Lib.hid (if_neg (by unfold shadesOk; rw [c0]; simp))
      go_wp2_with fail
      refine (e_Balls_any l A c w (HM.out.ext HE0.out) HC.out h9).mono ?_
      rintro r w1 ⟨rfl, hE1⟩
      have HE1 := Lib.hid (HE0.out.trans hE1)
      clear hE1
      rw [c0]
      simp only [Bool.false_eq_true, if_false]
      go_wp2_with fail
      refine (e_Shades_any l A c one other w1 (HM.out.ext HE1.out) HC.out h9).mono ?_
      rintro r w2 ⟨rfl, hE2⟩
      have HE2 := Lib.hid (HE1.out.trans hE2)
      clear hE2
      rw [HSV.out]
      go_wp2_with fail
      refine (e_Dark_err l A c w2 (HM.out.ext HE2.out) HC.out h9 c0).mono ?_
      rintro r w3 ⟨rfl, hE3⟩
      have HE3 := Lib.hid (HE2.out.trans hE3)
      clear hE3
      go_wp2_with fail
      refine (r7_Balls_ext l A c false w3 (HM.out.ext HE3.out) h9 c0).mono ?_
      rintro r w4 ⟨rfl, hE4⟩
      have HE4 := Lib.hid (HE3.out.trans hE4)
      clear hE4
      go_wp2_with fail
      refine (l7_known_any w4 (HV.out.ext HE4.out)).mono ?_
      rintro r w5 ⟨rfl, hE5⟩
      go_wp2_with fail
      go_ret
      exact ⟨rfl, HE4.out.trans hE5⟩
    | true =>
      have hdl : (Ec.darkL l).length ≤ 100000 := by rw [Ec.darkL_length]; omega
      cases c1 : Ec.isBall l one with
      | false =>
        have HSV : Hid (shadesV l one other = .tuple #[.int .i64 0, .int .i64 2]) := Lib.hid (if_neg (by unfold shadesOk; rw [c0, c1]; simp))
        go_wp2_with fail
        refine (e_Balls_any l A c w (HM.out.ext HE0.out) HC.out h9).mono ?_
        rintro r w1 ⟨rfl, hE1⟩
        have HE1 := Lib.hid (HE0.out.trans hE1)
        clear hE1
        rw [c0]
        simp only [if_true]
        go_wp2_with fail
        refine (e_Shades_any l A c one other w1 (HM.out.ext HE1.out) HC.out h9).mono ?_
        rintro r w2 ⟨rfl, hE2⟩
        have HE2 := Lib.hid (HE1.out.trans hE2)
        clear hE2
        rw [HSV.out]
        go_wp2_with fail
        refine (e_Dark_ok l A c w2 (HM.out.ext HE2.out) HC.out c0).mono ?_
        rintro r w3 ⟨B1, d1, rfl, hI1, hE3⟩
        have HE3 := Lib.hid (HE2.out.trans hE3)
        clear hE3
        have HI1 := Lib.hid hI1
        clear hI1
        go_wp2_with fail
        refine (r7_Balls_ext l A c true w3 (HM.out.ext HE3.out) h9 c0).mono ?_
        rintro r w4 ⟨rfl, hE4⟩
        have HE4 := Lib.hid (HE3.out.trans hE4)
        replace HI1 := Lib.hid (HI1.out.ext hE4)
        clear hE4
        go_wp2_with fail
        refine (r7_Dark_any l A c w4 (HM.out.ext HE4.out) (ballsS_of c0) h9).mono ?_
        rintro r w5 ⟨B2, d2, rfl, hI2, hE5⟩
        have HE5 := Lib.hid (HE4.out.trans hE5)
        replace HI1 := Lib.hid (HI1.out.ext hE5)
        clear hE5
        have HI2 := Lib.hid hI2
        clear hI2
        go_wp2_with fail
        refine (r7_SameWords_any B1 B2 d1 d2 _ _ w5 HI1.out HI2.out hdl hdl).mono ?_
        rintro r w6 ⟨rfl, hE6⟩
        have HE6 := Lib.hid (HE5.out.trans hE6)
        replace HI1 := Lib.hid (HI1.out.ext hE6)
        replace HI2 := Lib.hid (HI2.out.ext hE6)
        clear hE6
        rw [show decide (Ec.darkL l = Ec.darkL l) = true from decide_eq_true rfl]
        go_wp2_with fail
        refine (r7_Ball_ext l A c one false w6 h9 c1).mono ?_
        rintro r w7 ⟨rfl, hE7⟩
        have HE7 := Lib.hid (HE6.out.trans hE7)
        replace HI1 := Lib.hid (HI1.out.ext hE7)
        replace HI2 := Lib.hid (HI2.out.ext hE7)
        clear hE7
        go_wp2_with fail
        refine (l7_known_any w7 (HV.out.ext HE7.out)).mono ?_
        rintro r w8 ⟨rfl, hE8⟩
        go_wp2_with fail
        go_ret
        exact ⟨rfl, HE7.out.trans hE8⟩
      | true =>
        cases c2 : Ec.isBall l other with
        | false =>
          have HSV : Hid (shadesV l one other = .tuple #[.int .i64 0, .int .i64 2]) := Lib.hid (if_neg (by unfold shadesOk; rw [c0, c1, c2]; simp))
          go_wp2_with fail
          refine (e_Balls_any l A c w (HM.out.ext HE0.out) HC.out h9).mono ?_
          rintro r w1 ⟨rfl, hE1⟩
          have HE1 := Lib.hid (HE0.out.trans hE1)
          clear hE1
          rw [c0]
          simp only [if_true]
          go_wp2_with fail
          refine (e_Shades_any l A c one other w1 (HM.out.ext HE1.out) HC.out h9).mono ?_
          rintro r w2 ⟨rfl, hE2⟩
          have HE2 := Lib.hid (HE1.out.trans hE2)
          clear hE2
          rw [HSV.out]
          go_wp2_with fail
          refine (e_Dark_ok l A c w2 (HM.out.ext HE2.out) HC.out c0).mono ?_
          rintro r w3 ⟨B1, d1, rfl, hI1, hE3⟩
          have HE3 := Lib.hid (HE2.out.trans hE3)
          clear hE3
          have HI1 := Lib.hid hI1
          clear hI1
          go_wp2_with fail
          refine (r7_Balls_ext l A c true w3 (HM.out.ext HE3.out) h9 c0).mono ?_
          rintro r w4 ⟨rfl, hE4⟩
          have HE4 := Lib.hid (HE3.out.trans hE4)
          replace HI1 := Lib.hid (HI1.out.ext hE4)
          clear hE4
          go_wp2_with fail
          refine (r7_Dark_any l A c w4 (HM.out.ext HE4.out) (ballsS_of c0) h9).mono ?_
          rintro r w5 ⟨B2, d2, rfl, hI2, hE5⟩
          have HE5 := Lib.hid (HE4.out.trans hE5)
          replace HI1 := Lib.hid (HI1.out.ext hE5)
          clear hE5
          have HI2 := Lib.hid hI2
          clear hI2
          go_wp2_with fail
          refine (r7_SameWords_any B1 B2 d1 d2 _ _ w5 HI1.out HI2.out hdl hdl).mono ?_
          rintro r w6 ⟨rfl, hE6⟩
          have HE6 := Lib.hid (HE5.out.trans hE6)
          replace HI1 := Lib.hid (HI1.out.ext hE6)
          replace HI2 := Lib.hid (HI2.out.ext hE6)
          clear hE6
          rw [show decide (Ec.darkL l = Ec.darkL l) = true from decide_eq_true rfl]
          go_wp2_with fail
          refine (r7_Ball_ext l A c one true w6 h9 c1).mono ?_
          rintro r w7 ⟨rfl, hE7⟩
          have HE7 := Lib.hid (HE6.out.trans hE7)
          replace HI1 := Lib.hid (HI1.out.ext hE7)
          replace HI2 := Lib.hid (HI2.out.ext hE7)
          clear hE7
          go_wp2_with fail
          refine (r7_Ball_ext l A c other false w7 h9 c2).mono ?_
          rintro r w8 ⟨rfl, hE8⟩
          have HE8 := Lib.hid (HE7.out.trans hE8)
          replace HI1 := Lib.hid (HI1.out.ext hE8)
          replace HI2 := Lib.hid (HI2.out.ext hE8)
          clear hE8
          go_wp2_with fail
          refine (l7_known_any w8 (HV.out.ext HE8.out)).mono ?_
          rintro r w9 ⟨rfl, hE9⟩
          go_wp2_with fail
          go_ret
          exact ⟨rfl, HE8.out.trans hE9⟩
        | true =>
          by_cases h3 : one = other
          case pos =>
            have HSV : Hid (shadesV l one other = .tuple #[.int .i64 0, .int .i64 2]) := Lib.hid (if_neg (by unfold shadesOk; rw [c0, c1, c2]; simp [h3]))
            subst h3
            go_wp2_with fail
            refine (e_Balls_any l A c w (HM.out.ext HE0.out) HC.out h9).mono ?_
            rintro r w1 ⟨rfl, hE1⟩
            have HE1 := Lib.hid (HE0.out.trans hE1)
            clear hE1
            rw [c0]
            simp only [if_true]
            go_wp2_with fail
            refine (e_Shades_any l A c one one w1 (HM.out.ext HE1.out) HC.out h9).mono ?_
            rintro r w2 ⟨rfl, hE2⟩
            have HE2 := Lib.hid (HE1.out.trans hE2)
            clear hE2
            rw [HSV.out]
            go_wp2_with fail
            refine (e_Dark_ok l A c w2 (HM.out.ext HE2.out) HC.out c0).mono ?_
            rintro r w3 ⟨B1, d1, rfl, hI1, hE3⟩
            have HE3 := Lib.hid (HE2.out.trans hE3)
            clear hE3
            have HI1 := Lib.hid hI1
            clear hI1
            go_wp2_with fail
            refine (r7_Balls_ext l A c true w3 (HM.out.ext HE3.out) h9 c0).mono ?_
            rintro r w4 ⟨rfl, hE4⟩
            have HE4 := Lib.hid (HE3.out.trans hE4)
            replace HI1 := Lib.hid (HI1.out.ext hE4)
            clear hE4
            go_wp2_with fail
            refine (r7_Dark_any l A c w4 (HM.out.ext HE4.out) (ballsS_of c0) h9).mono ?_
            rintro r w5 ⟨B2, d2, rfl, hI2, hE5⟩
            have HE5 := Lib.hid (HE4.out.trans hE5)
            replace HI1 := Lib.hid (HI1.out.ext hE5)
            clear hE5
            have HI2 := Lib.hid hI2
            clear hI2
            go_wp2_with fail
            refine (r7_SameWords_any B1 B2 d1 d2 _ _ w5 HI1.out HI2.out hdl hdl).mono ?_
            rintro r w6 ⟨rfl, hE6⟩
            have HE6 := Lib.hid (HE5.out.trans hE6)
            replace HI1 := Lib.hid (HI1.out.ext hE6)
            replace HI2 := Lib.hid (HI2.out.ext hE6)
            clear hE6
            rw [show decide (Ec.darkL l = Ec.darkL l) = true from decide_eq_true rfl]
            go_wp2_with fail
            refine (r7_Ball_ext l A c one true w6 h9 c1).mono ?_
            rintro r w7 ⟨rfl, hE7⟩
            have HE7 := Lib.hid (HE6.out.trans hE7)
            replace HI1 := Lib.hid (HI1.out.ext hE7)
            replace HI2 := Lib.hid (HI2.out.ext hE7)
            clear hE7
            go_wp2_with fail
            refine (r7_Ball_ext l A c one true w7 h9 c1).mono ?_
            rintro r w8 ⟨rfl, hE8⟩
            have HE8 := Lib.hid (HE7.out.trans hE8)
            replace HI1 := Lib.hid (HI1.out.ext hE8)
            replace HI2 := Lib.hid (HI2.out.ext hE8)
            clear hE8
            go_wp2_with fail
            refine (l7_known_any w8 (HV.out.ext HE8.out)).mono ?_
            rintro r w9 ⟨rfl, hE9⟩
            go_wp2_with fail
            go_ret
            exact ⟨rfl, HE8.out.trans hE9⟩
          case neg =>
            obtain ⟨k, rfl, hk⟩ := isBall_nat c1
            obtain ⟨j, rfl, hj⟩ := isBall_nat c2
            have hkj : ((k : Int) == (j : Int)) = false := beq_eq_false_iff_ne.2 h3
            have HSV := Lib.hid (shadesV_of c0 c1 c2 hkj)
            have HSH := Lib.hid (fun W => r7_Shades_ext (Ec.ballAt l k) (Ec.ballAt l j) _ W (ballsS_of c0 k hk) (ballsS_of c0 j hj) rfl)
            obtain ⟨sh, hsh⟩ : ∃ s, Ec.shades (Ec.ballAt l k) (Ec.ballAt l j) = s := ⟨_, rfl⟩
            rw [hsh] at HSV HSH
            clear hsh
            go_wp2_with fail
            refine (e_Balls_any l A c w (HM.out.ext HE0.out) HC.out h9).mono ?_
            rintro r w1 ⟨rfl, hE1⟩
            have HE1 := Lib.hid (HE0.out.trans hE1)
            clear hE1
            rw [c0]
            simp only [if_true]
            go_wp2_with fail
            refine (e_Shades_any l A c (k : Int) (j : Int) w1 (HM.out.ext HE1.out) HC.out h9).mono ?_
            rintro r w2 ⟨rfl, hE2⟩
            have HE2 := Lib.hid (HE1.out.trans hE2)
            clear hE2
            rw [HSV.out]
            go_wp2_with fail
            refine (e_Dark_ok l A c w2 (HM.out.ext HE2.out) HC.out c0).mono ?_
            rintro r w3 ⟨B1, d1, rfl, hI1, hE3⟩
            have HE3 := Lib.hid (HE2.out.trans hE3)
            clear hE3
            have HI1 := Lib.hid hI1
            clear hI1
            go_wp2_with fail
            refine (r7_Balls_ext l A c true w3 (HM.out.ext HE3.out) h9 c0).mono ?_
            rintro r w4 ⟨rfl, hE4⟩
            have HE4 := Lib.hid (HE3.out.trans hE4)
            replace HI1 := Lib.hid (HI1.out.ext hE4)
            clear hE4
            go_wp2_with fail
            refine (r7_Dark_any l A c w4 (HM.out.ext HE4.out) (ballsS_of c0) h9).mono ?_
            rintro r w5 ⟨B2, d2, rfl, hI2, hE5⟩
            have HE5 := Lib.hid (HE4.out.trans hE5)
            replace HI1 := Lib.hid (HI1.out.ext hE5)
            clear hE5
            have HI2 := Lib.hid hI2
            clear hI2
            go_wp2_with fail
            refine (r7_SameWords_any B1 B2 d1 d2 _ _ w5 HI1.out HI2.out hdl hdl).mono ?_
            rintro r w6 ⟨rfl, hE6⟩
            have HE6 := Lib.hid (HE5.out.trans hE6)
            replace HI1 := Lib.hid (HI1.out.ext hE6)
            replace HI2 := Lib.hid (HI2.out.ext hE6)
            clear hE6
            rw [show decide (Ec.darkL l = Ec.darkL l) = true from decide_eq_true rfl]
            go_wp2_with fail
            refine (r7_Ball_ext l A c (k : Int) true w6 h9 c1).mono ?_
            rintro r w7 ⟨rfl, hE7⟩
            have HE7 := Lib.hid (HE6.out.trans hE7)
            replace HI1 := Lib.hid (HI1.out.ext hE7)
            replace HI2 := Lib.hid (HI2.out.ext hE7)
            clear hE7
            go_wp2_with fail
            refine (r7_Ball_ext l A c (j : Int) true w7 h9 c2).mono ?_
            rintro r w8 ⟨rfl, hE8⟩
            have HE8 := Lib.hid (HE7.out.trans hE8)
            replace HI1 := Lib.hid (HI1.out.ext hE8)
            replace HI2 := Lib.hid (HI2.out.ext hE8)
            clear hE8
            have hb0 : 0 < l.length := by omega
            obtain ⟨bb, o, hA, hcell⟩ := HM.out hb0
            subst hA
            have HCk := Lib.hid (hcell k hk)
            have HCj := Lib.hid (hcell j hj)
            clear hcell hb0
            have hk1 : (k : Int) < (l.length : Int) := by omega
            have hk0 : (0 : Int) ≤ (k : Int) := by omega
            have hj1 : (j : Int) < (l.length : Int) := by omega
            have hj0 : (0 : Int) ≤ (j : Int) := by omega
            go_wp2_with fail
            refine wp_region_later (by kernel_rfl) (by kernel_rfl) (fun W hW => ?_)
            have hX0 : Ext w8 W := by rw [hW]; first | exact Ext.refl _ | exact (Ext.refl _).drewN _
            clear hW
            have HX0 := Lib.hid hX0
            have HLX := Lib.hid (fun X : Later W => HE8.out.trans (HX0.out.trans X.ext))
            clear hX0
            have u0 := fun X : Later W => (HLX.out X).cell HCk.out.1
            have u1 := fun X : Later W => (HLX.out X).cell HCk.out.2.1
            have u2 := fun X : Later W => (HLX.out X).cell HCk.out.2.2
            have u3 := fun X : Later W => (HLX.out X).cell HCj.out.1
            have u4 := fun X : Later W => (HLX.out X).cell HCj.out.2.1
            have u5 := fun X : Later W => (HLX.out X).cell HCj.out.2.2
            repeat (go_big_quiet_step (fail))
            go_big_quiet_step ((go_at_call 24; exact Later.call (HSH.out _)))
            repeat (go_big_quiet_step (fail))
            go_big_quiet_step ((go_at_call 10; exact Later.call (l7_known_any _ (HV.out.ext (HLX.out _)))))
            repeat (go_big_quiet_step (fail))
            refine wpQuiet_nil ?_
            rintro ⟨w9, hEz⟩
            dsimp only
            have hE9 := HX0.out.trans hEz
            clear hEz HLX HX0 u0 u1 u2 u3 u4 u5
            have HE9 := Lib.hid (HE8.out.trans hE9)
            replace HI1 := Lib.hid (HI1.out.ext hE9)
            replace HI2 := Lib.hid (HI2.out.ext hE9)
            clear hE9
            go_wp2_with fail
            go_ret
            exact ⟨rfl, HE9.out⟩
end Go.Proofs.YtfkcbgehcbhjnaaGreatDoor
