/- The walk of the law EclipseReads. (Printed by wip/mkblaws.py.) -/
import Derived.Carry
import Derived.BigQuiet
import Derived.Test.YtfkcbgehcbhjnaaGreatDoorH14
namespace Go.Proofs.YtfkcbgehcbhjnaaGreatDoor
open Go.RowKit
open Sp (rd)
set_option linter.unusedSimpArgs false
set_option linter.unusedVariables false

set_option maxRecDepth 100000 in
set_option maxHeartbeats 8000000 in
theorem law_EclipseReads (t : ByteArray) (w : World) (hV : Env w) (hx0 : t.size ≤ maxLen) :
    Calls Tryz.prog 4 #[.string t] w fun r w' => r = .returned (.bool true) ∧ Ext w w' := by
  obtain ⟨x, rfl⟩ : ∃ x, t = bs x := ⟨t.data.toList, (bs_of t).symm⟩
  have hsz := bs_size x
  have hx : (bs x).size ≤ 9223372036854775807 := Nat.le_trans hx0 (by decide)
  clear hx0
  rw [hsz] at hx
  have HV := Lib.hid hV
  have HE0 : Hid (Ext w w) := Lib.hid (Ext.refl w)
  clear hV
  go_enter Tryz.func4, Tryz.ntmps4
  by_cases h5 : 500 < x.length
  case pos =>
    have h5' : (500 : Int) < (x.length : Int) := by omega
    go_wp2_with fail
    refine (l7_known_any w (HV.out.ext HE0.out)).mono ?_
    rintro r w1 ⟨rfl, hE1⟩
    go_wp2_with fail
    go_ret
    exact ⟨rfl, HE0.out.trans hE1⟩
  case neg =>
    have h5' : ¬ ((500 : Int) < (x.length : Int)) := by omega
    have hq : ((bs x).toList == (bs x).toList) = true := by simp
    have hx5 : x.length ≤ 500 := by omega
    by_cases h4 : 400 < x.length
    case pos =>
      have h4' : (400 : Int) < (x.length : Int) := by omega
      cases hp : Ec.parseE x with
      | none =>
        have HP := Lib.hid hp
        clear hp
        go_wp2_with fail
        refine (e_Read_no x 3 w (HV.out.ext HE0.out) (by omega) (code_long h4) (by decide)).mono ?_
        rintro r w1 ⟨rfl, hE1⟩
        have HE1 := Lib.hid (HE0.out.trans hE1)
        clear hE1
        go_wp2_with fail
        refine (r7_Read_no x w1 hx5 HP.out).mono ?_
        rintro r w2 ⟨rfl, hE2⟩
        have HE2 := Lib.hid (HE1.out.trans hE2)
        clear hE2
        go_wp2_with fail
        refine (l7_known_any w2 (HV.out.ext HE2.out)).mono ?_
        rintro r w3 ⟨rfl, hE3⟩
        go_wp2_with fail
        go_ret
        exact ⟨rfl, HE2.out.trans hE3⟩
      | some l =>
        have HP := Lib.hid hp
        clear hp
        go_wp2_with fail
        refine (e_Read_no x 3 w (HV.out.ext HE0.out) (by omega) (code_long h4) (by decide)).mono ?_
        rintro r w1 ⟨rfl, hE1⟩
        have HE1 := Lib.hid (HE0.out.trans hE1)
        clear hE1
        go_wp2_with fail
        refine (r7_Read_yes x l w1 hx5 HP.out).mono ?_
        rintro r w2 ⟨A2, c2, rfl, hA2, hE2⟩
        have HE2 := Lib.hid (HE1.out.trans hE2)
        clear hE2
        have HA2 := Lib.hid hA2
        clear hA2
        go_wp2_with fail
        refine (l7_known_any w2 (HV.out.ext HE2.out)).mono ?_
        rintro r w3 ⟨rfl, hE3⟩
        go_wp2_with fail
        go_ret
        exact ⟨rfl, HE2.out.trans hE3⟩
    case neg =>
      have h4' : ¬ ((400 : Int) < (x.length : Int)) := by omega
      cases hp : Ec.parseE x with
      | none =>
        have HP := Lib.hid hp
        clear hp
        go_wp2_with fail
        refine (e_Read_no x 4 w (HV.out.ext HE0.out) (by omega) (code_none h4 HP.out) (by decide)).mono ?_
        rintro r w1 ⟨rfl, hE1⟩
        have HE1 := Lib.hid (HE0.out.trans hE1)
        clear hE1
        go_wp2_with fail
        refine (r7_Read_no x w1 hx5 HP.out).mono ?_
        rintro r w2 ⟨rfl, hE2⟩
        have HE2 := Lib.hid (HE1.out.trans hE2)
        clear hE2
        go_wp2_with fail
        refine (l7_known_any w2 (HV.out.ext HE2.out)).mono ?_
        rintro r w3 ⟨rfl, hE3⟩
        go_wp2_with fail
        go_ret
        exact ⟨rfl, HE2.out.trans hE3⟩
      | some l =>
        have HP := Lib.hid hp
        have h9 := parse_len hp hx5
        have HTX := Lib.hid (Ec.parse_someE hp).1
        clear hp
        cases hok : Ec.listOk l with
        | false =>
          go_wp2_with fail
          refine (e_Read_no x 2 w (HV.out.ext HE0.out) (by omega) (code_list h4 HP.out hok) (by decide)).mono ?_
          rintro r w1 ⟨rfl, hE1⟩
          have HE1 := Lib.hid (HE0.out.trans hE1)
          clear hE1
          go_wp2_with fail
          refine (r7_Read_yes x l w1 hx5 HP.out).mono ?_
          rintro r w2 ⟨A2, c2, rfl, hA2, hE2⟩
          have HE2 := Lib.hid (HE1.out.trans hE2)
          clear hE2
          have HA2 := Lib.hid hA2
          clear hA2
          go_wp2_with fail
          refine (r7_List_ext l A2 c2 false w2 HA2.out (by omega) hok).mono ?_
          rintro r w3 ⟨rfl, hE3⟩
          have HE3 := Lib.hid (HE2.out.trans hE3)
          replace HA2 := Lib.hid (HA2.out.ext hE3)
          clear hE3
          go_wp2_with fail
          refine (l7_known_any w3 (HV.out.ext HE3.out)).mono ?_
          rintro r w4 ⟨rfl, hE4⟩
          go_wp2_with fail
          go_ret
          exact ⟨rfl, HE3.out.trans hE4⟩
        | true =>
          go_wp2_with fail
          refine (e_Read_yes x l w (HV.out.ext HE0.out) (by omega) HP.out hok).mono ?_
          rintro r w1 ⟨A1, c1, rfl, hA1, hE1⟩
          have HE1 := Lib.hid (HE0.out.trans hE1)
          clear hE1
          have HA1 := Lib.hid hA1
          clear hA1
          go_wp2_with fail
          refine (r7_Read_yes x l w1 hx5 HP.out).mono ?_
          rintro r w2 ⟨A2, c2, rfl, hA2, hE2⟩
          have HE2 := Lib.hid (HE1.out.trans hE2)
          replace HA1 := Lib.hid (HA1.out.ext hE2)
          clear hE2
          have HA2 := Lib.hid hA2
          clear hA2
          go_wp2_with fail
          refine (r7_List_ext l A2 c2 true w2 HA2.out (by omega) hok).mono ?_
          rintro r w3 ⟨rfl, hE3⟩
          have HE3 := Lib.hid (HE2.out.trans hE3)
          replace HA1 := Lib.hid (HA1.out.ext hE3)
          replace HA2 := Lib.hid (HA2.out.ext hE3)
          clear hE3
          go_wp2_with fail
          refine (e_Print_yes l A1 c1 w3 (HV.out.ext HE3.out) HA1.out h9 hok).mono ?_
          rintro r w4 ⟨rfl, hE4⟩
          have HE4 := Lib.hid (HE3.out.trans hE4)
          replace HA1 := Lib.hid (HA1.out.ext hE4)
          replace HA2 := Lib.hid (HA2.out.ext hE4)
          clear hE4
          rw [HTX.out]
          go_wp2_with fail
          refine (same_ecls A1 A2 c1 c2 l w4 HA1.out HA2.out (by omega)).mono ?_
          rintro r w5 ⟨rfl, hE5⟩
          have HE5 := Lib.hid (HE4.out.trans hE5)
          replace HA1 := Lib.hid (HA1.out.ext hE5)
          replace HA2 := Lib.hid (HA2.out.ext hE5)
          clear hE5
          go_wp2_with fail
          refine (l7_known_any w5 (HV.out.ext HE5.out)).mono ?_
          rintro r w6 ⟨rfl, hE6⟩
          go_wp2_with fail
          go_ret
          exact ⟨rfl, HE5.out.trans hE6⟩
end Go.Proofs.YtfkcbgehcbhjnaaGreatDoor
