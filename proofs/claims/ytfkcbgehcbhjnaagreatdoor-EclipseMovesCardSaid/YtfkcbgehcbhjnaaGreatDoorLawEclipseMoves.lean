/- The walk of the law EclipseMoves. (Printed by wip/mkblaws.py.) -/
import Derived.Carry
import Derived.BigQuiet
import Derived.Test.YtfkcbgehcbhjnaaGreatDoorH14
namespace Go.Proofs.YtfkcbgehcbhjnaaGreatDoor
open Go.RowKit
open Sp (rd)
set_option linter.unusedSimpArgs false
set_option linter.unusedVariables false

set_option maxRecDepth 100000 in
set_option maxHeartbeats 8000000 in
theorem law_EclipseMoves (l : List Ec.Ball) (A : Option Addr) (c : Nat) (n : Int) (S : List Ec.Ball) (A2 : Option Addr) (c2 : Nat) (w : World) (hV : Env w) (hm : BallsAt w A l) (hc : l.length ≤ c) (hs : BallsAt w A2 S) :
    Calls Tryz.prog 9 #[.slice A l.length c, .int .i64 n, .slice A2 S.length c2] w fun r w' => r = .returned (.bool true) ∧ Ext w w' := by
  have HM := Lib.hid hm
  have HV := Lib.hid hV
  have HC := Lib.hid hc
  have HS := Lib.hid hs
  clear hs
  have HE0 : Hid (Ext w w) := Lib.hid (Ext.refl w)
  clear hm hV hc
  go_enter Tryz.func9, Tryz.ntmps9
  by_cases h8 : 8 < l.length
  case pos =>
    have h8' : (8 : Int) < (l.length : Int) := by omega
    go_wp2_with fail
    refine (l7_known_any w (HV.out.ext HE0.out)).mono ?_
    rintro r w1 ⟨rfl, hE1⟩
    go_wp2_with fail
    go_ret
    exact ⟨rfl, HE0.out.trans hE1⟩
  case neg =>
    have h8' : ¬ (8 : Int) < (l.length : Int) := by omega
    have h9 : l.length ≤ 1000 := by omega
    by_cases s15 : 15 < S.length
    case pos =>
      have s15' : (15 : Int) < (S.length : Int) := by omega
      go_wp2_with fail
      refine (l7_known_any w (HV.out.ext HE0.out)).mono ?_
      rintro r w1 ⟨rfl, hE1⟩
      go_wp2_with fail
      go_ret
      exact ⟨rfl, HE0.out.trans hE1⟩
    case neg =>
      have s15' : ¬ (15 : Int) < (S.length : Int) := by omega
      have s9 : S.length ≤ 1000 := by omega
      cases c0 : Ec.ballsOk l with
      | false =>
        have HNO : Hid (movesOk l S n = false) := Lib.hid (by unfold movesOk; rw [c0]; simp)
        go_wp2_with fail
        refine (e_Moves_no A A2 c c2 w (HM.out.ext HE0.out) (HS.out.ext HE0.out) HC.out h9 s9 HNO.out).mono ?_
        rintro r w1 ⟨rfl, hE1⟩
        have HE1 := Lib.hid (HE0.out.trans hE1)
        clear hE1
        go_wp2_with fail
        refine (r7_Balls_ext l A c false w1 (HM.out.ext HE1.out) h9 c0).mono ?_
        rintro r w2 ⟨rfl, hE2⟩
        have HE2 := Lib.hid (HE1.out.trans hE2)
        clear hE2
        go_wp2_with fail
        refine (l7_known_any w2 (HV.out.ext HE2.out)).mono ?_
        rintro r w3 ⟨rfl, hE3⟩
        go_wp2_with fail
        go_ret
        exact ⟨rfl, HE2.out.trans hE3⟩
      | true =>
        cases c1 : Ec.isBall l n with
        | false =>
          have HNO : Hid (movesOk l S n = false) := Lib.hid (by unfold movesOk; rw [c0, c1]; simp)
          go_wp2_with fail
          refine (e_Moves_no A A2 c c2 w (HM.out.ext HE0.out) (HS.out.ext HE0.out) HC.out h9 s9 HNO.out).mono ?_
          rintro r w1 ⟨rfl, hE1⟩
          have HE1 := Lib.hid (HE0.out.trans hE1)
          clear hE1
          go_wp2_with fail
          refine (r7_Balls_ext l A c true w1 (HM.out.ext HE1.out) h9 c0).mono ?_
          rintro r w2 ⟨rfl, hE2⟩
          have HE2 := Lib.hid (HE1.out.trans hE2)
          clear hE2
          go_wp2_with fail
          refine (r7_Ball_ext l A c n false w2 h9 c1).mono ?_
          rintro r w3 ⟨rfl, hE3⟩
          have HE3 := Lib.hid (HE2.out.trans hE3)
          clear hE3
          go_wp2_with fail
          refine (l7_known_any w3 (HV.out.ext HE3.out)).mono ?_
          rintro r w4 ⟨rfl, hE4⟩
          go_wp2_with fail
          go_ret
          exact ⟨rfl, HE3.out.trans hE4⟩
        | true =>
          obtain ⟨k, rfl, hk⟩ := isBall_nat c1
          have hkn : (k : Int).toNat = k := rfl
          cases c2' : Ec.spotsOk l k S with
          | false =>
            have HNO : Hid (movesOk l S (k : Int) = false) := Lib.hid (by unfold movesOk; rw [c0, c1, hkn, c2']; rfl)
            clear hkn
            go_wp2_with fail
            refine (e_Moves_no A A2 c c2 w (HM.out.ext HE0.out) (HS.out.ext HE0.out) HC.out h9 s9 HNO.out).mono ?_
            rintro r w1 ⟨rfl, hE1⟩
            have HE1 := Lib.hid (HE0.out.trans hE1)
            clear hE1
            go_wp2_with fail
            refine (r7_Balls_ext l A c true w1 (HM.out.ext HE1.out) h9 c0).mono ?_
            rintro r w2 ⟨rfl, hE2⟩
            have HE2 := Lib.hid (HE1.out.trans hE2)
            clear hE2
            go_wp2_with fail
            refine (r7_Ball_ext l A c (k : Int) true w2 h9 c1).mono ?_
            rintro r w3 ⟨rfl, hE3⟩
            have HE3 := Lib.hid (HE2.out.trans hE3)
            clear hE3
            go_wp2_with fail
            refine (r7_Spots_any l S A A2 c c2 k w3 (HM.out.ext HE3.out) (HS.out.ext HE3.out) hk h9 s9).mono ?_
            rintro r w4 ⟨rfl, hE4⟩
            have HE4 := Lib.hid (HE3.out.trans hE4)
            clear hE4
            rw [c2']
            go_wp2_with fail
            refine (l7_known_any w4 (HV.out.ext HE4.out)).mono ?_
            rintro r w5 ⟨rfl, hE5⟩
            go_wp2_with fail
            go_ret
            exact ⟨rfl, HE4.out.trans hE5⟩
          | true =>
            have HYES : Hid (movesOk l S (k : Int) = true) := Lib.hid (by unfold movesOk; rw [c0, c1, hkn, c2']; rfl)
            have hsp := spots_of c2'
            have HOK := Lib.hid hsp.1
            have s1 := hsp.2.1
            clear hsp hkn
            go_wp2_with fail
            refine (e_Moves_yes A A2 c c2 k w (HM.out.ext HE0.out) (HS.out.ext HE0.out) HC.out h9 s9 HYES.out).mono ?_
            rintro r w1 ⟨B1, d1, rfl, hI1, hE1⟩
            have HE1 := Lib.hid (HE0.out.trans hE1)
            clear hE1
            have HI1 := Lib.hid hI1
            clear hI1
            go_wp2_with fail
            refine (r7_Balls_ext l A c true w1 (HM.out.ext HE1.out) h9 c0).mono ?_
            rintro r w2 ⟨rfl, hE2⟩
            have HE2 := Lib.hid (HE1.out.trans hE2)
            replace HI1 := Lib.hid (HI1.out.ext hE2)
            clear hE2
            go_wp2_with fail
            refine (r7_Ball_ext l A c (k : Int) true w2 h9 c1).mono ?_
            rintro r w3 ⟨rfl, hE3⟩
            have HE3 := Lib.hid (HE2.out.trans hE3)
            replace HI1 := Lib.hid (HI1.out.ext hE3)
            clear hE3
            go_wp2_with fail
            refine (r7_Spots_any l S A A2 c c2 k w3 (HM.out.ext HE3.out) (HS.out.ext HE3.out) hk h9 s9).mono ?_
            rintro r w4 ⟨rfl, hE4⟩
            have HE4 := Lib.hid (HE3.out.trans hE4)
            replace HI1 := Lib.hid (HI1.out.ext hE4)
            clear hE4
            rw [c2']
            go_wp2_with fail
            refine (r7_Moves_len l S A A2 c c2 k w4 (HM.out.ext HE4.out) (HS.out.ext HE4.out) hk h9 s9 c2').mono ?_
            rintro r w5 ⟨B2, d2, rfl, hI2, hE5⟩
            have HE5 := Lib.hid (HE4.out.trans hE5)
            replace HI1 := Lib.hid (HI1.out.ext hE5)
            clear hE5
            have HI2 := Lib.hid hI2
            clear hI2
            go_wp2_with fail
            refine (r7_SameWords_len B1 B2 d1 d2 _ _ w5 HI1.out HI2.out (Ec.movesL_length l k S) (by omega)).mono ?_
            rintro r w6 ⟨rfl, hE6⟩
            have HE6 := Lib.hid (HE5.out.trans hE6)
            replace HI1 := Lib.hid (HI1.out.ext hE6)
            replace HI2 := Lib.hid (HI2.out.ext hE6)
            clear hE6
            obtain ⟨b1, o1, e1, p1⟩ := HI1.out (by rw [Ec.movesL_length]; omega)
            subst e1
            have HP1 : Hid (∀ m, m < S.length → w6.cell? ⟨b1, o1 + m, none⟩ = some (.int .i64 (Ec.darkest (Ec.putB l k (Ec.ballAt S m)) k))) := Lib.hid fun m hm => by
              have h := p1 m (by rw [Ec.movesL_length]; exact hm)
              rwa [rd_movesL hm] at h
            clear p1 HI1 HI2
            have hk1 : (k : Int) < (l.length : Int) := by omega
            have hk0 : (0 : Int) ≤ (k : Int) := by omega
            go_wp2_with fail
            go_loopw [9] (fun i wr => ∃ m : Nat, m ≤ S.length ∧ i = .int .i64 m ∧ Ext w6 wr) (fun i _ => S.length - (intOf i).toNat)
            case atStart => exact ⟨0, Nat.zero_le _, rfl, Ext.refl _⟩
            case round =>
              obtain ⟨m, hmS, rfl, hX⟩ := hrel
              have HX := Lib.hid hX
              by_cases hlt : m < S.length
              case neg =>
                obtain rfl : m = S.length := by omega
                clear hX
                go_wp2_with fail
                refine (l7_known_any _ (HV.out.ext (HE6.out.trans HX.out))).mono ?_
                rintro r w' ⟨rfl, hE'⟩
                go_wp2_with fail
                go_ret
                exact ⟨rfl, (HE6.out.trans HX.out).trans hE'⟩
              obtain ⟨bs, os, e2, p2⟩ := HS.out (by omega)
              obtain ⟨q1, q2, q3⟩ := p2 m hlt
              have HON := Lib.hid (HOK.out m hlt)
              have HW1 := Lib.hid (hX.cell (HP1.out m hlt))
              obtain ⟨b, hb⟩ : ∃ b, Ec.ballAt S m = b := ⟨_, rfl⟩
              rw [hb] at q1 q2 q3 HON HW1
              obtain ⟨x, y, z⟩ := b
              simp only at q1 q2 q3
              replace q1 := hX.cell (HE6.out.cell q1)
              replace q2 := hX.cell (HE6.out.cell q2)
              replace q3 := hX.cell (HE6.out.cell q3)
              rw [e2]
              have z1 := lts (lt_of_cell q1)
              simp only at z1
              have hm1 : (m : Int) < (S.length : Int) := by omega
              have hm0 : (0 : Int) ≤ (m : Int) := by omega
              clear p2 hb hX
              go_wp2_with fail
              refine (r7_Put_any l A c k x y z _ (HM.out.ext (HE6.out.trans HX.out)) hk h9).mono ?_
              rintro r w1 ⟨g, cap, rfl, hcap, hg, hB, hE1⟩
              have HB := Lib.hid hB
              have HX1 := Lib.hid (HX.out.trans hE1)
              have HW2 := Lib.hid (hE1.cell HW1.out)
              clear hB hE1 q1 q2 q3 z1 HW1
              go_wp2_with fail
              refine (e_Dark_put l k _ _ cap _ HB.out hcap HON.out).mono ?_
              rintro r w2 ⟨B3, d3, rfl, hI3, hE2⟩
              obtain ⟨b3, o3, e3, p3⟩ := hI3 (by rw [Ec.darkL_length, putB_length]; omega)
              subst e3
              have hd := p3 k (by rw [Ec.darkL_length, putB_length]; exact hk)
              rw [rd_darkL (by rw [putB_length]; exact hk)] at hd
              have HD := Lib.hid hd
              have HX2 := Lib.hid (HX1.out.trans hE2)
              have HW3 := Lib.hid (hE2.cell HW2.out)
              clear hI3 p3 hd hE2 HW2
              obtain ⟨D, hD⟩ : ∃ D, Ec.darkest (Ec.putB l k ⟨x, y, z⟩) k = D := ⟨_, rfl⟩
              rw [hD] at HD HW3
              clear hD
              have hDD : (D == D) = true := by simp
              have hDN : (D != D) = false := by simp
              have hll : ((l.length : Int) == (l.length : Int)) = true := by simp
              have hln : ((l.length : Int) != (l.length : Int)) = false := by simp
              go_wp2_with fail
              refine wp_region_later (by kernel_rfl) (by kernel_rfl) (fun W hW => ?_)
              have hX0 : Ext w2 W := by rw [hW]; exact Ext.refl _
              clear hW
              have HX0 := Lib.hid hX0
              clear hX0
              have u0 := fun X : Later W => (HX0.out.trans X.ext).cell HD.out
              have u1 := fun X : Later W => (HX0.out.trans X.ext).cell HW3.out
              repeat (go_big_quiet_step (fail))
              refine wpQuiet_nil ?_
              rintro ⟨wz, hEz⟩
              dsimp only
              clear u0 u1
              go_wp2_with fail
              go_roundw
              case rel => exact ⟨m + 1, by omega, by go_num, HX2.out.trans (HX0.out.trans hEz)⟩
              case measure => simp [intOf]; omega
end Go.Proofs.YtfkcbgehcbhjnaaGreatDoor
