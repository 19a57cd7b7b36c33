/- The walk of the law EclipsePrints. (Printed by wip/mkblaws.py.) -/
import Derived.Carry
import Derived.BigQuiet
import Derived.Test.YtfkcbgehcbhjnaaGreatDoorH14
namespace Go.Proofs.YtfkcbgehcbhjnaaGreatDoor
open Go.RowKit
open Sp (rd)
set_option linter.unusedSimpArgs false
set_option linter.unusedVariables false

set_option maxRecDepth 100000 in
set_option maxHeartbeats 8000000 in
theorem law_EclipsePrints (l : List Sp.Ecl) (A : Option Addr) (c : Nat)  (w : World) (hV : Env w) (hm : EclAt w A l) :
    Calls Tryz.prog 3 #[.slice A l.length c] w fun r w' => r = .returned (.bool true) ∧ Ext w w' := by
  have HM := Lib.hid hm
  have HV := Lib.hid hV
  have HE0 : Hid (Ext w w) := Lib.hid (Ext.refl w)
  clear hm hV
  go_enter Tryz.func3, Tryz.ntmps3
  by_cases h25 : 25 < l.length
  case pos =>
    have h25' : (25 : Int) < (l.length : Int) := by omega
    go_wp2_with fail
    refine (l7_known_any w (HV.out.ext HE0.out)).mono ?_
    rintro r w1 ⟨rfl, hE1⟩
    go_wp2_with fail
    go_ret
    exact ⟨rfl, HE0.out.trans hE1⟩
  case neg =>
    have h25' : ¬ (25 : Int) < (l.length : Int) := by omega
    have h9 : l.length ≤ 1000 := by omega
    cases c0 : Ec.listOk l with
    | false =>
      go_wp2_with fail
      refine (e_Print_no l A c w (HV.out.ext HE0.out) (HM.out.ext HE0.out) h9 c0).mono ?_
      rintro r w1 ⟨rfl, hE1⟩
      have HE1 := Lib.hid (HE0.out.trans hE1)
      clear hE1
      have hq : ((bs []).toList == []) = true := by rw [toList_bs]; rfl
      go_wp2_with fail
      refine (r7_List_ext l A c false w1 (HM.out.ext HE1.out) (by omega) c0).mono ?_
      rintro r w2 ⟨rfl, hE2⟩
      have HE2 := Lib.hid (HE1.out.trans hE2)
      clear hE2
      go_wp2_with fail
      refine (l7_known_any w2 (HV.out.ext HE2.out)).mono ?_
      rintro r w3 ⟨rfl, hE3⟩
      go_wp2_with fail
      go_ret
      exact ⟨rfl, HE2.out.trans hE3⟩
    | true =>
      have hN := Ec.num_of_list c0
      have HP := Lib.hid (Ec.parse_textE l hN)
      have htl := Ec.textE_len c0
      have HN := Lib.hid hN
      clear hN
      have HRP := Lib.hid (fun W h => r7_Print_any l A c W h HN.out h9)
      have HPR := Lib.hid (fun W h h2 => e_Print_yes l A c W h h2 h9 c0)
      obtain ⟨T, hT⟩ : ∃ T, Ec.textE l = T := ⟨_, rfl⟩
      rw [hT] at HP htl HRP HPR
      clear hT HN
      have hq : ((bs T).toList == (bs T).toList) = true := by simp
      go_wp2_with fail
      refine (HPR.out w (HV.out.ext HE0.out) (HM.out.ext HE0.out)).mono ?_
      rintro r w1 ⟨rfl, hE1⟩
      have HE1 := Lib.hid (HE0.out.trans hE1)
      clear hE1
      go_wp2_with fail
      refine (r7_List_ext l A c true w1 (HM.out.ext HE1.out) (by omega) c0).mono ?_
      rintro r w2 ⟨rfl, hE2⟩
      have HE2 := Lib.hid (HE1.out.trans hE2)
      clear hE2
      go_wp2_with fail
      refine (e_Read_yes T l w2 (HV.out.ext HE2.out) htl HP.out c0).mono ?_
      rintro r w3 ⟨A1, c1, rfl, hA1, hE3⟩
      have HE3 := Lib.hid (HE2.out.trans hE3)
      clear hE3
      have HA1 := Lib.hid hA1
      clear hA1
      go_wp2_with fail
      refine (HRP.out w3 (HM.out.ext HE3.out)).mono ?_
      rintro r w4 ⟨rfl, hE4⟩
      have HE4 := Lib.hid (HE3.out.trans hE4)
      replace HA1 := Lib.hid (HA1.out.ext hE4)
      clear hE4
      go_wp2_with fail
      refine (same_ecls A1 A c1 c l w4 HA1.out (HM.out.ext HE4.out) (by omega)).mono ?_
      rintro r w5 ⟨rfl, hE5⟩
      have HE5 := Lib.hid (HE4.out.trans hE5)
      replace HA1 := Lib.hid (HA1.out.ext hE5)
      clear hE5
      go_wp2_with fail
      refine (l7_known_any w5 (HV.out.ext HE5.out)).mono ?_
      rintro r w6 ⟨rfl, hE6⟩
      go_wp2_with fail
      go_ret
      exact ⟨rfl, HE5.out.trans hE6⟩
end Go.Proofs.YtfkcbgehcbhjnaaGreatDoor
