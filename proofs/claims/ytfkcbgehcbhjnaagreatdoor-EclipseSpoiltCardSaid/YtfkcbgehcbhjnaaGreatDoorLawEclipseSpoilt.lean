/- The walk of the law EclipseSpoilt. (Printed by wip/mkblaws.py.) -/
import Derived.Carry
import Derived.BigQuiet
import Derived.Test.YtfkcbgehcbhjnaaGreatDoorH14
namespace Go.Proofs.YtfkcbgehcbhjnaaGreatDoor
open Go.RowKit
open Sp (rd)
set_option linter.unusedSimpArgs false
set_option linter.unusedVariables false

set_option maxRecDepth 100000 in
set_option maxHeartbeats 8000000 in
theorem law_EclipseSpoilt (l : List Sp.Ecl) (A : Option Addr) (c : Nat) (at0 digit : Int) (w : World) (hV : Env w) (hm : EclAt w A l) :
    Calls Tryz.prog 5 #[.slice A l.length c, .int .i64 at0, .int .i64 digit] w fun r w' => r = .returned (.bool true) ∧ Ext w w' := by
  have HM := Lib.hid hm
  have HV := Lib.hid hV
  have HE0 : Hid (Ext w w) := Lib.hid (Ext.refl w)
  clear hm hV
  go_enter Tryz.func5, Tryz.ntmps5
  by_cases h25 : 25 < l.length
  case pos =>
    have h25' : (25 : Int) < (l.length : Int) := by omega
    go_wp2_with fail
    refine (l7_known_any w (HV.out.ext HE0.out)).mono ?_
    rintro r w1 ⟨rfl, hE1⟩
    go_wp2_with fail
    go_ret
    exact ⟨rfl, HE0.out.trans hE1⟩
  case neg =>
    have h25' : ¬ (25 : Int) < (l.length : Int) := by omega
    have h9 : l.length ≤ 1000 := by omega
    cases c0 : Ec.listOk l with
    | false =>
      go_wp2_with fail
      refine (r7_List_ext l A c false w (HM.out.ext HE0.out) (by omega) c0).mono ?_
      rintro r w1 ⟨rfl, hE1⟩
      have HE1 := Lib.hid (HE0.out.trans hE1)
      clear hE1
      go_wp2_with fail
      refine (l7_known_any w1 (HV.out.ext HE1.out)).mono ?_
      rintro r w2 ⟨rfl, hE2⟩
      go_wp2_with fail
      go_ret
      exact ⟨rfl, HE1.out.trans hE2⟩
    | true =>
      by_cases hd0 : digit < 0
      case pos =>
        go_wp2_with fail
        refine (r7_List_ext l A c true w (HM.out.ext HE0.out) (by omega) c0).mono ?_
        rintro r w1 ⟨rfl, hE1⟩
        have HE1 := Lib.hid (HE0.out.trans hE1)
        clear hE1
        go_wp2_with fail
        refine (l7_known_any w1 (HV.out.ext HE1.out)).mono ?_
        rintro r w2 ⟨rfl, hE2⟩
        go_wp2_with fail
        go_ret
        exact ⟨rfl, HE1.out.trans hE2⟩
      case neg =>
        by_cases hd9 : 9 < digit
        case pos =>
          go_wp2_with fail
          refine (r7_List_ext l A c true w (HM.out.ext HE0.out) (by omega) c0).mono ?_
          rintro r w1 ⟨rfl, hE1⟩
          have HE1 := Lib.hid (HE0.out.trans hE1)
          clear hE1
          go_wp2_with fail
          refine (l7_known_any w1 (HV.out.ext HE1.out)).mono ?_
          rintro r w2 ⟨rfl, hE2⟩
          go_wp2_with fail
          go_ret
          exact ⟨rfl, HE1.out.trans hE2⟩
        case neg =>
          have htl := Ec.textE_len c0
          have HPR := Lib.hid (fun W h h2 => e_Print_yes l A c W h h2 h9 c0)
          obtain ⟨x, hx⟩ : ∃ x, Ec.textE l = x := ⟨_, rfl⟩
          rw [hx] at htl HPR
          have HX := Lib.hid hx
          clear hx
          have hsz : (bs x).size = x.length := bs_size x
          go_wp2_with fail
          refine (r7_List_ext l A c true w (HM.out.ext HE0.out) (by omega) c0).mono ?_
          rintro r w1 ⟨rfl, hE1⟩
          have HE1 := Lib.hid (HE0.out.trans hE1)
          clear hE1
          go_wp2_with fail
          refine (HPR.out w1 (HV.out.ext HE1.out) (HM.out.ext HE1.out)).mono ?_
          rintro r w2 ⟨rfl, hE2⟩
          have HE2 := Lib.hid (HE1.out.trans hE2)
          clear hE2
          by_cases ha : at0 < 0
          case pos =>
            go_wp2_with fail
            refine (l7_known_any w2 (HV.out.ext HE2.out)).mono ?_
            rintro r w3 ⟨rfl, hE3⟩
            go_wp2_with fail
            go_ret
            exact ⟨rfl, HE2.out.trans hE3⟩
          case neg =>
            by_cases hb : (x.length : Int) ≤ at0
            case pos =>
              go_wp2_with fail
              refine (l7_known_any w2 (HV.out.ext HE2.out)).mono ?_
              rintro r w3 ⟨rfl, hE3⟩
              go_wp2_with fail
              go_ret
              exact ⟨rfl, HE2.out.trans hE3⟩
            case neg =>
              obtain ⟨j, rfl⟩ := Int.eq_ofNat_of_zero_le (show 0 ≤ at0 by omega)
              have hj : j < x.length := by omega
              have hix := index_bs x j hj
              have hgd : x.getD j 0 = x[j] := by rw [List.getD_eq_getElem?_getD, List.getElem?_eq_getElem hj]; rfl
              rw [hgd] at hix
              have hlt := x[j].toNat_lt
              obtain ⟨q, hq⟩ : ∃ q, x[j].toNat = q := ⟨_, rfl⟩
              rw [hq] at hix hlt
              have HQ := Lib.hid hq
              clear hgd hq
              by_cases h48 : q < 48
              case pos =>
                go_wp2_with fail
                refine (l7_known_any w2 (HV.out.ext HE2.out)).mono ?_
                rintro r w3 ⟨rfl, hE3⟩
                go_wp2_with fail
                go_ret
                exact ⟨rfl, HE2.out.trans hE3⟩
              case neg =>
                by_cases h57 : 57 < q
                case pos =>
                  go_wp2_with fail
                  refine (l7_known_any w2 (HV.out.ext HE2.out)).mono ?_
                  rintro r w3 ⟨rfl, hE3⟩
                  go_wp2_with fail
                  go_ret
                  exact ⟨rfl, HE2.out.trans hE3⟩
                case neg =>
                  by_cases heq : (q : Int) - 48 = digit
                  case pos =>
                    go_wp2_with fail
                    refine (l7_known_any w2 (HV.out.ext HE2.out)).mono ?_
                    rintro r w3 ⟨rfl, hE3⟩
                    go_wp2_with fail
                    go_ret
                    exact ⟨rfl, HE2.out.trans hE3⟩
                  case neg =>
                    obtain ⟨u, rfl⟩ := Int.eq_ofNat_of_zero_le (show 0 ≤ digit by omega)
                    have hu : u ≤ 9 := by omega
                    have hqe : ((q : Int) - 48 == (u : Int)) = false := by simpa using heq
                    obtain ⟨d, hd⟩ : ∃ d : UInt8, UInt8.ofNat (48 + u) = d := ⟨_, rfl⟩
                    have hdn : d.toNat = 48 + u := by rw [← hd]; simp only [UInt8.toNat_ofNat']; omega
                    clear hd
                    obtain ⟨e1, e2⟩ := split_at x j hj d
                    have HNO : Hid (Ec.parseE (x.set j d) = none) := Lib.hid (by
                      rw [e2]
                      refine Ec.spoiltE c0 (x.take j) (x.drop (j + 1)) x[j] d (HX.out.trans e1) ?_ ?_ ?_
                      · have := HQ.out; simp only [isDig, Bool.and_eq_true, decide_eq_true_eq]; omega
                      · simp only [isDig, Bool.and_eq_true, decide_eq_true_eq]; omega
                      · intro e; have := congrArg UInt8.toNat e; have := HQ.out; omega)
                    have hyl : (x.set j d).length = x.length := List.length_set
                    clear e1 e2
                    obtain ⟨W, cap, hcv, hEW, hgW, hcell, hfree⟩ := bytes_new x w2
                    have hcj := hcell j hj
                    have hfj := hfree j hj
                    have hback := bytes_back x W w2.heap.size j cap d hj hcell
                    have hd2 : ((d.toNat : Nat) : Int) = 48 + (u : Int) := by omega
                    rw [hd2] at hback
                    have HE3 := Lib.hid (HE2.out.trans (hEW.setCell (p := ⟨w2.heap.size, j, none⟩) (Nat.le_refl _) (.int .u8 (48 + (u : Int)))))
                    clear hcell hfree hEW hgW hdn hd2
                    obtain ⟨y, hy⟩ : ∃ y, x.set j d = y := ⟨_, rfl⟩
                    rw [hy] at HNO hback hyl
                    clear hy
                    go_wp2_with fail
                    generalize W.setCell ⟨w2.heap.size, j, none⟩ (.int .u8 (48 + (u : Int))) = w3 at *
                    refine (e_Read_no y 4 w3 (HV.out.ext HE3.out) (by omega) (code_none (by omega) HNO.out) (by decide)).mono ?_
                    rintro r w4 ⟨rfl, hE4⟩
                    have HE4 := Lib.hid (HE3.out.trans hE4)
                    clear hE4
                    go_wp2_with fail
                    refine (l7_known_any w4 (HV.out.ext HE4.out)).mono ?_
                    rintro r w5 ⟨rfl, hE5⟩
                    go_wp2_with fail
                    go_ret
                    exact ⟨rfl, HE4.out.trans hE5⟩
end Go.Proofs.YtfkcbgehcbhjnaaGreatDoor
