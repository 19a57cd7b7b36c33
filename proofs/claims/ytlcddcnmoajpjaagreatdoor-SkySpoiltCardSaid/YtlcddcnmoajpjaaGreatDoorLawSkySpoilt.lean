/- The walk of the law SkySpoilt. (Printed by wip/mklaws1.py.) -/
import Derived.Test.YtlcddcnmoajpjaaGreatDoorRefSkies
import Derived.Test.YtlcddcnmoajpjaaGreatDoorSpoilt
import Derived.Test.YtlcddcnmoajpjaaGreatDoorBytesSet
namespace Go.Proofs.YtlcddcnmoajpjaaGreatDoor
open Go.RowKit
open Sp (rd)
set_option linter.unusedSimpArgs false
set_option linter.unusedVariables false

set_option maxRecDepth 100000 in
set_option maxHeartbeats 8000000 in
theorem law_SkySpoilt (s : Sp.Sky) (A : Option Addr) (c : Nat) (at0 digit : Int) (w : World) (hV : Env w) (hm : Bodies w A s.bodies) (hl : Long s.bodies) :
    Calls Tryz.prog 16 #[.agg #[.slice A s.bodies.length c, .int .i64 s.nnum, .int .i64 s.nden, .int .i64 s.nstart], .int .i64 at0, .int .i64 digit] w fun e w' => e = .returned (.bool true) ∧ Ext w w' := by
  have HL := Lib.hid hl
  have HM := Lib.hid hm
  have HV := Lib.hid hV
  clear hm hl hV
  go_enter Tryz.func16, Tryz.ntmps16
  go_wp2_with fail
  have HR0 := Lib.hid (Row.new w 28 #[.slice A s.bodies.length c, .int .i64 s.nnum, .int .i64 s.nden, .int .i64 s.nstart])
  have HE0 : Hid (Ext w (w.alloc (.cells #[.slice A s.bodies.length c, .int .i64 s.nnum, .int .i64 s.nden, .int .i64 s.nstart] 28))) := Lib.hid ((Ext.refl w).alloc _)
  generalize w.alloc (.cells #[.slice A s.bodies.length c, .int .i64 s.nnum, .int .i64 s.nden, .int .i64 s.nstart] 28) = w0 at *
  have b0 := HR0.out.cell
  refine (short_any s A c w0 (HM.out.ext HE0.out) HL.out).mono ?_
  rintro e w1 ⟨rfl, hE1⟩
  have HE1 := Lib.hid (HE0.out.trans hE1)
  have HR1 := Lib.hid (HR0.out.ext hE1)
  clear b0
  have b1 := HR1.out.cell
  clear hE1
  cases hsh : shortB s.bodies with
  | false =>
    go_wp2_with fail
    refine (known_any w1 (HV.out.ext HE1.out)).mono ?_
    rintro e w2 ⟨rfl, hE2⟩
    go_wp2_with fail
    go_ret
    exact ⟨rfl, HE1.out.trans hE2⟩
  | true =>
    have hS := Lib.hid (short_of hsh)
    have hfew := few_of hsh
    clear hsh
    cases h1 : Sp.skyOk s with
    | false =>
      go_wp2_with fail
      refine (r_Sky_any s A c w1 (HM.out.ext HE1.out) hS.out).mono ?_
      rintro e w2 ⟨rfl, hE2⟩
      have HE2 := Lib.hid (HE1.out.trans hE2)
      have HR2 := Lib.hid (HR1.out.ext hE2)
      clear b1
      have b2 := HR2.out.cell
      clear hE2
      rw [h1]
      go_wp2_with fail
      refine (known_any w2 (HV.out.ext HE2.out)).mono ?_
      rintro e w3 ⟨rfl, hE3⟩
      go_wp2_with fail
      go_ret
      exact ⟨rfl, HE2.out.trans hE3⟩
    | true =>
      by_cases hd0 : digit < 0
      case pos =>
        go_wp2_with fail
        refine (r_Sky_any s A c w1 (HM.out.ext HE1.out) hS.out).mono ?_
        rintro e w2 ⟨rfl, hE2⟩
        have HE2 := Lib.hid (HE1.out.trans hE2)
        have HR2 := Lib.hid (HR1.out.ext hE2)
        clear b1
        have b2 := HR2.out.cell
        clear hE2
        rw [h1]
        go_wp2_with fail
        refine (known_any w2 (HV.out.ext HE2.out)).mono ?_
        rintro e w3 ⟨rfl, hE3⟩
        go_wp2_with fail
        go_ret
        exact ⟨rfl, HE2.out.trans hE3⟩
      case neg =>
        by_cases hd9 : 9 < digit
        case pos =>
          go_wp2_with fail
          refine (r_Sky_any s A c w1 (HM.out.ext HE1.out) hS.out).mono ?_
          rintro e w2 ⟨rfl, hE2⟩
          have HE2 := Lib.hid (HE1.out.trans hE2)
          have HR2 := Lib.hid (HR1.out.ext hE2)
          clear b1
          have b2 := HR2.out.cell
          clear hE2
          rw [h1]
          go_wp2_with fail
          refine (known_any w2 (HV.out.ext HE2.out)).mono ?_
          rintro e w3 ⟨rfl, hE3⟩
          go_wp2_with fail
          go_ret
          exact ⟨rfl, HE2.out.trans hE3⟩
        case neg =>
          have HK := Lib.hid (skyOk_iff.1 h1)
          have HT := Lib.hid (skyText_of_ok HK.out)
          have htl := text_len HK.out
          obtain ⟨x, hx⟩ : ∃ x, textL s = x := ⟨_, rfl⟩
          rw [hx] at htl
          have HX := Lib.hid hx
          clear hx
          have hsz : (bs x).size = x.length := bs_size x
          go_wp2_with fail
          refine (r_Sky_any s A c w1 (HM.out.ext HE1.out) hS.out).mono ?_
          rintro e w2 ⟨rfl, hE2⟩
          have HE2 := Lib.hid (HE1.out.trans hE2)
          have HR2 := Lib.hid (HR1.out.ext hE2)
          clear b1
          have b2 := HR2.out.cell
          clear hE2
          rw [h1]
          go_wp2_with fail
          refine (Print_ok s A c w2 (HV.out.ext HE2.out) (HM.out.ext HE2.out) hS.out h1).mono ?_
          rintro e w3 ⟨rfl, hE3⟩
          have HE3 := Lib.hid (HE2.out.trans hE3)
          have HR3 := Lib.hid (HR2.out.ext hE3)
          clear b2
          have b3 := HR3.out.cell
          clear hE3
          rw [HX.out]
          by_cases ha : at0 < 0
          case pos =>
            go_wp2_with fail
            refine (known_any w3 (HV.out.ext HE3.out)).mono ?_
            rintro e w4 ⟨rfl, hE4⟩
            go_wp2_with fail
            go_ret
            exact ⟨rfl, HE3.out.trans hE4⟩
          case neg =>
            by_cases hb : (x.length : Int) ≤ at0
            case pos =>
              go_wp2_with fail
              refine (known_any w3 (HV.out.ext HE3.out)).mono ?_
              rintro e w4 ⟨rfl, hE4⟩
              go_wp2_with fail
              go_ret
              exact ⟨rfl, HE3.out.trans hE4⟩
            case neg =>
              obtain ⟨j, rfl⟩ := Int.eq_ofNat_of_zero_le (show 0 ≤ at0 by omega)
              have hj : j < x.length := by omega
              have hix := index_bs x j hj
              have hgd : x.getD j 0 = x[j] := by rw [List.getD_eq_getElem?_getD, List.getElem?_eq_getElem hj]; rfl
              rw [hgd] at hix
              have hlt := x[j].toNat_lt
              obtain ⟨q, hq⟩ : ∃ q, x[j].toNat = q := ⟨_, rfl⟩
              rw [hq] at hix hlt
              have HQ := Lib.hid hq
              clear hgd hq
              by_cases h48 : q < 48
              case pos =>
                go_wp2_with fail
                refine (known_any w3 (HV.out.ext HE3.out)).mono ?_
                rintro e w4 ⟨rfl, hE4⟩
                go_wp2_with fail
                go_ret
                exact ⟨rfl, HE3.out.trans hE4⟩
              case neg =>
                by_cases h57 : 57 < q
                case pos =>
                  go_wp2_with fail
                  refine (known_any w3 (HV.out.ext HE3.out)).mono ?_
                  rintro e w4 ⟨rfl, hE4⟩
                  go_wp2_with fail
                  go_ret
                  exact ⟨rfl, HE3.out.trans hE4⟩
                case neg =>
                  by_cases heq : (q : Int) - 48 = digit
                  case pos =>
                    go_wp2_with fail
                    refine (known_any w3 (HV.out.ext HE3.out)).mono ?_
                    rintro e w4 ⟨rfl, hE4⟩
                    go_wp2_with fail
                    go_ret
                    exact ⟨rfl, HE3.out.trans hE4⟩
                  case neg =>
                    obtain ⟨u, rfl⟩ := Int.eq_ofNat_of_zero_le (show 0 ≤ digit by omega)
                    have hu : u ≤ 9 := by omega
                    have hqe : ((q : Int) - 48 == (u : Int)) = false := by simpa using heq
                    obtain ⟨d, hd⟩ : ∃ d : UInt8, UInt8.ofNat (48 + u) = d := ⟨_, rfl⟩
                    have hdn : d.toNat = 48 + u := by rw [← hd]; simp only [UInt8.toNat_ofNat']; omega
                    clear hd
                    obtain ⟨e1, e2⟩ := split_at x j hj d
                    have HNO : Hid (parseP (x.set j d) = none) := Lib.hid (by
                      rw [e2]
                      refine spoilt HK.out (x.take j) (x.drop (j + 1)) x[j] d (HX.out.trans e1) ?_ ?_ ?_
                      · have := HQ.out; simp only [isDig, Bool.and_eq_true, decide_eq_true_eq]; omega
                      · simp only [isDig, Bool.and_eq_true, decide_eq_true_eq]; omega
                      · intro e; have := congrArg UInt8.toNat e; have := HQ.out; omega)
                    have hyl : (x.set j d).length = x.length := List.length_set
                    clear e1 e2
                    obtain ⟨W, cap, hcv, hEW, hgW, hcell, hfree⟩ := bytes_new x w3
                    have hcj := hcell j hj
                    have hfj := hfree j hj
                    have hback := bytes_back x W w3.heap.size j cap d hj hcell
                    have hd2 : ((d.toNat : Nat) : Int) = 48 + (u : Int) := by omega
                    rw [hd2] at hback
                    have HE4 := Lib.hid (HE3.out.trans (hEW.setCell (p := ⟨w3.heap.size, j, none⟩) (Nat.le_refl _) (.int .u8 (48 + (u : Int)))))
                    clear hcell hfree hEW hgW hdn hd2
                    obtain ⟨y, hy⟩ : ∃ y, x.set j d = y := ⟨_, rfl⟩
                    rw [hy] at HNO hback hyl
                    clear hy
                    go_wp2_with fail
                    generalize W.setCell ⟨w3.heap.size, j, none⟩ (.int .u8 (48 + (u : Int))) = w4 at *
                    refine (Read_no y w4 (HV.out.ext HE4.out) (by omega) 4 (by rw [if_neg (by omega), HNO.out]) (by omega)).mono ?_
                    rintro e w5 ⟨rfl, hE5⟩
                    have HE5 := Lib.hid (HE4.out.trans hE5)
                    clear hE5
                    have HRX := Lib.hid (Row.new w5 28 #[.slice none 0 0, .int .i64 0, .int .i64 0, .int .i64 0])
                    have hX6 : Ext w5 (w5.alloc (.cells #[.slice none 0 0, .int .i64 0, .int .i64 0, .int .i64 0] 28)) := (Ext.refl _).alloc _
                    have HE6 := Lib.hid (HE5.out.trans hX6)
                    have bRX := HRX.out.cell
                    clear hX6
                    go_wp2_with fail
                    generalize w5.alloc (.cells #[.slice none 0 0, .int .i64 0, .int .i64 0, .int .i64 0] 28) = w6 at *
                    refine (r_SameSkies_eq ⟨[], 0, 0, 0⟩ none none 0 0 w6 (fun h => absurd h (by simp)) (fun h => absurd h (by simp)) ⟨Nat.zero_le _, fun k hk => absurd hk (by simp)⟩).mono ?_
                    rintro e w7 ⟨rfl, hE7⟩
                    have HE7 := Lib.hid (HE6.out.trans hE7)
                    replace HRX := Lib.hid (HRX.out.ext hE7)
                    clear bRX
                    have bRX := HRX.out.cell
                    clear hE7
                    go_wp2_with fail
                    refine (known_any w7 (HV.out.ext HE7.out)).mono ?_
                    rintro e w8 ⟨rfl, hE8⟩
                    go_wp2_with fail
                    go_ret
                    exact ⟨rfl, HE7.out.trans hE8⟩
end Go.Proofs.YtlcddcnmoajpjaaGreatDoor
