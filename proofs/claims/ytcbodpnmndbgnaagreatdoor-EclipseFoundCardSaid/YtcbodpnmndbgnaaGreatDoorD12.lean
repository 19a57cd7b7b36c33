/- Volume 12 of the texts that the laws of this seat use: EcRef2 EcOpen EcLaws0 EcRef3 EcRef5 EcRef11 EcLaws2 EcRef12 EcLaws6 EcBeside EcEmptyW: walks of the program's functions, and plain laws. -/
import Derived.Carry
import Derived.ProofKit
import Derived.Deep.Slices
import Derived.Stop.LaidErr
import Derived.Lib.LaidTab
import Derived.Deep.DeepHandedRow
import Derived.WalkKit
import Derived.Shelf.Vars
import Derived.Lib.MinMax
import Derived.Deep.RegionHeld3
import Derived.Test.YtcbodpnmndbgnaaGreatDoorD01
import Derived.Test.YtcbodpnmndbgnaaGreatDoorD11
import Derived.Test.YtcbodpnmndbgnaaGreatDoorD03
import Derived.Test.YtcbodpnmndbgnaaGreatDoorD04
import Derived.Test.YtcbodpnmndbgnaaGreatDoorD05
import Derived.Test.YtcbodpnmndbgnaaGreatDoorD06
import Derived.Test.YtcbodpnmndbgnaaGreatDoorD07
import Derived.Test.YtcbodpnmndbgnaaGreatDoorCards
import Derived.Test.YtcbodpnmndbgnaaGreatDoorTie
namespace Go.Proofs.YtcbodpnmndbgnaaGreatDoor
open Go.RowKit
open Sp (rd)
set_option maxRecDepth 100000
set_option maxHeartbeats 2000000
set_option linter.unusedVariables false
theorem r7_Engine_any (p : EP) (e : Ec.Engine) (w : World) (hm : EngAt w p e) (hl : EngShort e) :
    Calls Tryz.prog 16 #[.agg #[.slice p.Ab e.sky.bodies.length p.cb, .int .i64 e.sky.nnum, .int .i64 e.sky.nden, .int .i64 e.sky.nstart, .slice p.As e.sun.length p.cs, .slice p.Am e.moon.length p.cm, .slice p.An e.node.length p.cn, .slice p.Af e.feasts.length p.cf, .int .i64 e.nw, .int .i64 e.fl, .int .i64 e.wide]] w fun r w' => r = .returned (.bool (Ec.engineOk e)) ∧ Ext w w' := by
  have HM := Lib.hid hm
  have HL := Lib.hid hl
  clear hm hl
  have HR0 : Hid (Row (w.alloc (.cells #[.slice p.Ab e.sky.bodies.length p.cb, .int .i64 e.sky.nnum, .int .i64 e.sky.nden, .int .i64 e.sky.nstart, .slice p.As e.sun.length p.cs, .slice p.Am e.moon.length p.cm, .slice p.An e.node.length p.cn, .slice p.Af e.feasts.length p.cf, .int .i64 e.nw, .int .i64 e.fl, .int .i64 e.wide] 32)) w.heap.size 32 #[.slice p.Ab e.sky.bodies.length p.cb, .int .i64 e.sky.nnum, .int .i64 e.sky.nden, .int .i64 e.sky.nstart, .slice p.As e.sun.length p.cs, .slice p.Am e.moon.length p.cm, .slice p.An e.node.length p.cn, .slice p.Af e.feasts.length p.cf, .int .i64 e.nw, .int .i64 e.fl, .int .i64 e.wide]) := Lib.hid (Row.new w _ _)
  have HE0 : Hid (Ext w (w.alloc (.cells #[.slice p.Ab e.sky.bodies.length p.cb, .int .i64 e.sky.nnum, .int .i64 e.sky.nden, .int .i64 e.sky.nstart, .slice p.As e.sun.length p.cs, .slice p.Am e.moon.length p.cm, .slice p.An e.node.length p.cn, .slice p.Af e.feasts.length p.cf, .int .i64 e.nw, .int .i64 e.fl, .int .i64 e.wide] 32))) := Lib.hid ((Ext.refl w).alloc _)
  go_enter Tryz.func16, Tryz.ntmps16
  have b0 := HR0.out.cell
  go_wp2_with fail
  refine (r_Sky_any e.sky p.Ab p.cb _ (HM.out.ext HE0.out).bodies HL.out.sky).mono ?_
  rintro r w1 ⟨rfl, hE1⟩
  have HE1 := Lib.hid (HE0.out.trans hE1)
  have HR1 := Lib.hid (HR0.out.ext hE1)
  clear b0 hE1
  have b1 := HR1.out.cell
  cases hsky : Sp.skyOk e.sky with
  | false =>
    have HN : Hid (Ec.engineOk e = false) := Lib.hid (by simp [Ec.engineOk, hsky])
    go_wp2_with fail
    go_ret
    exact ⟨ret_bool (by rw [HN.out]), HE1.out⟩
  | true =>
    go_wp2_with fail
    refine (r1_Train_any p.As p.cs e.sun _ (HM.out.ext HE1.out).sun HL.out.sun).mono ?_
    rintro r w' ⟨rfl, rfl⟩
    cases hsun : Ec.trainOk e.sun with
    | false =>
      have HN : Hid (Ec.engineOk e = false) := Lib.hid (by simp [Ec.engineOk, hsun])
      go_wp2_with fail
      go_ret
      exact ⟨ret_bool (by rw [HN.out]), HE1.out⟩
    | true =>
      go_wp2_with fail
      refine (r1_Train_any p.Am p.cm e.moon _ (HM.out.ext HE1.out).moon HL.out.moon).mono ?_
      rintro r w' ⟨rfl, rfl⟩
      cases hmoon : Ec.trainOk e.moon with
      | false =>
        have HN : Hid (Ec.engineOk e = false) := Lib.hid (by simp [Ec.engineOk, hmoon])
        go_wp2_with fail
        go_ret
        exact ⟨ret_bool (by rw [HN.out]), HE1.out⟩
      | true =>
        go_wp2_with fail
        refine (r1_Train_any p.An p.cn e.node _ (HM.out.ext HE1.out).node HL.out.node).mono ?_
        rintro r w' ⟨rfl, rfl⟩
        cases hnode : Ec.trainOk e.node with
        | false =>
          have HN : Hid (Ec.engineOk e = false) := Lib.hid (by simp [Ec.engineOk, hnode])
          go_wp2_with fail
          go_ret
          exact ⟨ret_bool (by rw [HN.out]), HE1.out⟩
        | true =>
          go_wp2_with fail
          refine (r1_Feasts_any p.Af p.cf e.feasts _ (HM.out.ext HE1.out).feasts HL.out.feasts).mono ?_
          rintro r w2 ⟨rfl, hE2⟩
          have HE2 := Lib.hid (HE1.out.trans hE2)
          have HR2 := Lib.hid (HR1.out.ext hE2)
          clear b1 hE2
          have b2 := HR2.out.cell
          cases hfeasts : Ec.feastsOk e.feasts with
          | false =>
            have HN : Hid (Ec.engineOk e = false) := Lib.hid (by simp [Ec.engineOk, hfeasts])
            go_wp2_with fail
            go_ret
            exact ⟨ret_bool (by rw [HN.out]), HE2.out⟩
          | true =>
            go_wp2_with fail
            refine (r_Limit_any _ _).mono ?_
            rintro r w' ⟨rfl, rfl⟩
            cases hnw : Sp.isLimit e.nw with
            | false =>
              have HN : Hid (Ec.engineOk e = false) := Lib.hid (by simp [Ec.engineOk, hnw])
              go_wp2_with fail
              go_ret
              exact ⟨ret_bool (by rw [HN.out]), HE2.out⟩
            | true =>
              go_wp2_with fail
              refine (r_Limit_any _ _).mono ?_
              rintro r w' ⟨rfl, rfl⟩
              cases hfl : Sp.isLimit e.fl with
              | false =>
                have HN : Hid (Ec.engineOk e = false) := Lib.hid (by simp [Ec.engineOk, hfl])
                go_wp2_with fail
                go_ret
                exact ⟨ret_bool (by rw [HN.out]), HE2.out⟩
              | true =>
                go_wp2_with fail
                refine (r_Limit_any _ _).mono ?_
                rintro r w' ⟨rfl, rfl⟩
                cases hwide : Sp.isLimit e.wide with
                | false =>
                  have HN : Hid (Ec.engineOk e = false) := Lib.hid (by simp [Ec.engineOk, hwide])
                  go_wp2_with fail
                  go_ret
                  exact ⟨ret_bool (by rw [HN.out]), HE2.out⟩
                | true =>
                  go_wp2_with fail
                  have HK := Lib.hid (skyOk_iff.1 hsky)
                  cases hmo : Sp.isMonth e.sky with
                  | false =>
                    have HN : Hid (Ec.engineOk e = false) := Lib.hid (by simp [Ec.engineOk, hmo])
                    refine (r_Month_no e.sky p.Ab p.cb _ HK.out (HM.out.ext HE2.out).bodies hmo).mono ?_
                    rintro r w3 ⟨rfl, hE3⟩
                    have HE3 := Lib.hid (HE2.out.trans hE3)
                    go_wp2_with fail
                    go_ret
                    exact ⟨ret_bool (by rw [HN.out]), HE3.out⟩
                  | true =>
                    have HN : Hid (Ec.engineOk e = true) := Lib.hid (by simp [Ec.engineOk, hmo, hsky, hsun, hmoon, hnode, hfeasts, hnw, hfl, hwide])
                    refine (r_Month_ok e.sky p.Ab p.cb _ HK.out (HM.out.ext HE2.out).bodies hmo).mono ?_
                    rintro r w3 ⟨rfl, hE3⟩
                    have HE3 := Lib.hid (HE2.out.trans hE3)
                    go_wp2_with fail
                    go_ret
                    exact ⟨ret_bool (by rw [HN.out]), HE3.out⟩
theorem bd_mem {l : List Sp.Body} {k : Nat} (hk : k < l.length) : bd l k ∈ l := by
  unfold bd
  rw [List.getD_eq_getElem?_getD, List.getElem?_eq_getElem hk]
  exact List.getElem_mem hk
/-- Lists whose lengths are int's. -/
structure EngLong (e : Ec.Engine) : Prop where
  bodies : e.sky.bodies.length ≤ 9223372036854775807
  roads : ∀ k, k < e.sky.bodies.length → (bd e.sky.bodies k).road.length ≤ 9223372036854775807
  sun : e.sun.length ≤ 9223372036854775807
  moon : e.moon.length ≤ 9223372036854775807
  node : e.node.length ≤ 9223372036854775807
  feasts : e.feasts.length ≤ 9223372036854775807
def shortB (e : Ec.Engine) (set : List Int) : Bool := (e.sky.bodies.take 7).all (fun b => decide (b.road.length ≤ 10)) && (decide (e.sky.bodies.length ≤ 6) && (decide (e.sun.length ≤ 6) && (decide (e.moon.length ≤ 6) && (decide (e.node.length ≤ 6) && (decide (e.feasts.length ≤ 10) && decide (set.length ≤ 10))))))
structure Shorts (e : Ec.Engine) (set : List Int) : Prop where
  eng : EngShort e
  feasts : e.feasts.length ≤ 10
  set : set.length ≤ 10
theorem shorts_of {e : Ec.Engine} {set : List Int} (h : shortB e set = true) : Shorts e set := by
  simp only [shortB, Bool.and_eq_true, decide_eq_true_eq] at h
  obtain ⟨h1, h2, h3, h4, h5, h6, h7⟩ := h
  rw [List.take_of_length_le (by omega)] at h1
  refine ⟨⟨⟨by omega, fun k hk => ?_⟩, by omega, by omega, by omega, by omega⟩, h6, h7⟩
  have := List.all_eq_true.1 h1 (bd e.sky.bodies k) (bd_mem hk)
  have := of_decide_eq_true this
  omega
theorem getD_bd {l : List Sp.Body} {k : Nat} (hk : k < l.length) : l[k] = bd l k := by
  unfold bd
  rw [List.getD_eq_getElem?_getD, List.getElem?_eq_getElem hk]
  rfl
theorem l7_short_any (p : EP) (e : Ec.Engine) (set : List Int) (w : World) (hm : EngAt w p e) (hl : EngLong e) (hs : set.length ≤ 9223372036854775807) :
    Calls Tryz.prog 15 #[.agg #[.slice p.Ab e.sky.bodies.length p.cb, .int .i64 e.sky.nnum, .int .i64 e.sky.nden, .int .i64 e.sky.nstart, .slice p.As e.sun.length p.cs, .slice p.Am e.moon.length p.cm, .slice p.An e.node.length p.cn, .slice p.Af e.feasts.length p.cf, .int .i64 e.nw, .int .i64 e.fl, .int .i64 e.wide], .slice p.At set.length p.ct] w fun r w' => r = .returned (.bool (shortB e set)) ∧ Ext w w' := by
  have HL := Lib.hid hl
  have HM := Lib.hid hm
  have hl1 := hl.bodies
  have hl2 := hl.sun
  have hl3 := hl.moon
  have hl4 := hl.node
  have hl5 := hl.feasts
  have hr0 : Row (w.alloc (.cells #[.slice p.Ab e.sky.bodies.length p.cb, .int .i64 e.sky.nnum, .int .i64 e.sky.nden, .int .i64 e.sky.nstart, .slice p.As e.sun.length p.cs, .slice p.Am e.moon.length p.cm, .slice p.An e.node.length p.cn, .slice p.Af e.feasts.length p.cf, .int .i64 e.nw, .int .i64 e.fl, .int .i64 e.wide] 32)) w.heap.size 32 #[.slice p.Ab e.sky.bodies.length p.cb, .int .i64 e.sky.nnum, .int .i64 e.sky.nden, .int .i64 e.sky.nstart, .slice p.As e.sun.length p.cs, .slice p.Am e.moon.length p.cm, .slice p.An e.node.length p.cn, .slice p.Af e.feasts.length p.cf, .int .i64 e.nw, .int .i64 e.fl, .int .i64 e.wide] := Row.new w _ _
  have hE0 : Ext w (w.alloc (.cells #[.slice p.Ab e.sky.bodies.length p.cb, .int .i64 e.sky.nnum, .int .i64 e.sky.nden, .int .i64 e.sky.nstart, .slice p.As e.sun.length p.cs, .slice p.Am e.moon.length p.cm, .slice p.An e.node.length p.cn, .slice p.Af e.feasts.length p.cf, .int .i64 e.nw, .int .i64 e.fl, .int .i64 e.wide] 32)) := (Ext.refl w).alloc _
  have HR0 := Lib.hid hr0
  have HE0 := Lib.hid hE0
  clear hm hl hr0 hE0
  go_enter Tryz.func15, Tryz.ntmps15
  go_wp2_with fail
  generalize w.alloc (.cells #[.slice p.Ab e.sky.bodies.length p.cb, .int .i64 e.sky.nnum, .int .i64 e.sky.nden, .int .i64 e.sky.nstart, .slice p.As e.sun.length p.cs, .slice p.Am e.moon.length p.cm, .slice p.An e.node.length p.cn, .slice p.Af e.feasts.length p.cf, .int .i64 e.nw, .int .i64 e.fl, .int .i64 e.wide] 32) = w1 at *
  go_loopw [5] (fun i wr => ∃ k : Nat, k ≤ e.sky.bodies.length ∧ k ≤ 7 ∧ i = .int .i64 k ∧ (e.sky.bodies.take k).all (fun b => decide (b.road.length ≤ 10)) = true ∧ Ext w1 wr) (fun i _ => 7 - (intOf i).toNat)
  case atStart => exact ⟨0, Nat.zero_le _, by omega, rfl, rfl, Ext.refl _⟩
  case round =>
    obtain ⟨k, hk, hk7, rfl, hall, hE⟩ := hrel
    have b0 := (HR0.out.ext hE).cell
    have HE := Lib.hid hE
    by_cases hlt : k < e.sky.bodies.length
    · by_cases hlt7 : k < 7
      · obtain ⟨b, o, hAb, hB⟩ := HM.out.bodies (by omega)
        rw [hAb] at b0 ⊢
        have HB := (hB k hlt).ext (HE0.out.trans hE)
        have hrl := HL.out.roads k hlt
        have hbo : (0 : Int) ≤ (k : Int) ∧ (k : Int) < (e.sky.bodies.length : Int) := by omega
        by_cases hlen : (bd e.sky.bodies k).road.length ≤ 10
        · have HN : Hid ((e.sky.bodies.take (k + 1)).all (fun b => decide (b.road.length ≤ 10)) = true) := Lib.hid (by
            rw [List.take_succ_eq_append_getElem hlt, List.all_append, hall, getD_bd hlt]; simp [hlen])
          clear hall hE hB hAb
          generalize bd e.sky.bodies k = B at *
          obtain ⟨A1, r1, hr1, I1⟩ := HB.road
          clear HB I1
          go_wp2_with fail
          go_roundw
          case rel => exact ⟨k + 1, by omega, by omega, by go_num, HN.out, HE.out⟩
          case measure => simp [intOf]; omega
        · have HN : Hid (shortB e set = false) := Lib.hid (by
            have h1 : (e.sky.bodies.take 7).all (fun b => decide (b.road.length ≤ 10)) = false := by
              rw [List.all_eq_false]
              refine ⟨bd e.sky.bodies k, ?_, by simpa using hlen⟩
              rw [← getD_bd hlt]
              exact List.mem_take_iff_getElem.2 ⟨k, by omega, rfl⟩
            simp [shortB, h1])
          clear hall hE hB hAb
          generalize bd e.sky.bodies k = B at *
          obtain ⟨A1, r1, hr1, I1⟩ := HB.road
          clear HB I1
          go_wp2_with fail
          go_ret
          exact ⟨ret_bool HN.out.symm, HE0.out.trans HE.out⟩
      · have HN : Hid (shortB e set = false) := Lib.hid (by
          have : ¬ e.sky.bodies.length ≤ 6 := by omega
          simp [shortB, this])
        have hn6 : ¬ ((e.sky.bodies.length : Int) ≤ 6) := by omega
        clear hall hE
        go_wp2_with fail
        go_ret
        exact ⟨ret_bool HN.out.symm, HE0.out.trans HE.out⟩
    · obtain rfl : k = e.sky.bodies.length := by omega
      rw [List.take_length] at hall
      have HA := Lib.hid (show (e.sky.bodies.take 7).all (fun b => decide (b.road.length ≤ 10)) = true by rw [List.take_of_length_le hk7]; exact hall)
      clear hall hE
      by_cases g0 : e.sky.bodies.length ≤ 6
      case neg =>
        have HN : Hid (shortB e set = false) := Lib.hid (by simp [shortB, g0])
        have g0' : ¬ ((e.sky.bodies.length : Nat) : Int) ≤ 6 := by omega
        go_wp2_with fail
        go_ret
        exact ⟨ret_bool HN.out.symm, HE0.out.trans HE.out⟩
      have g0' : ((e.sky.bodies.length : Nat) : Int) ≤ 6 := by omega
      by_cases g1 : e.sun.length ≤ 6
      case neg =>
        have HN : Hid (shortB e set = false) := Lib.hid (by simp [shortB, g1])
        have g1' : ¬ ((e.sun.length : Nat) : Int) ≤ 6 := by omega
        go_wp2_with fail
        go_ret
        exact ⟨ret_bool HN.out.symm, HE0.out.trans HE.out⟩
      have g1' : ((e.sun.length : Nat) : Int) ≤ 6 := by omega
      by_cases g2 : e.moon.length ≤ 6
      case neg =>
        have HN : Hid (shortB e set = false) := Lib.hid (by simp [shortB, g2])
        have g2' : ¬ ((e.moon.length : Nat) : Int) ≤ 6 := by omega
        go_wp2_with fail
        go_ret
        exact ⟨ret_bool HN.out.symm, HE0.out.trans HE.out⟩
      have g2' : ((e.moon.length : Nat) : Int) ≤ 6 := by omega
      by_cases g3 : e.node.length ≤ 6
      case neg =>
        have HN : Hid (shortB e set = false) := Lib.hid (by simp [shortB, g3])
        have g3' : ¬ ((e.node.length : Nat) : Int) ≤ 6 := by omega
        go_wp2_with fail
        go_ret
        exact ⟨ret_bool HN.out.symm, HE0.out.trans HE.out⟩
      have g3' : ((e.node.length : Nat) : Int) ≤ 6 := by omega
      by_cases g4 : e.feasts.length ≤ 10
      case neg =>
        have HN : Hid (shortB e set = false) := Lib.hid (by simp [shortB, g4])
        have g4' : ¬ ((e.feasts.length : Nat) : Int) ≤ 10 := by omega
        go_wp2_with fail
        go_ret
        exact ⟨ret_bool HN.out.symm, HE0.out.trans HE.out⟩
      have g4' : ((e.feasts.length : Nat) : Int) ≤ 10 := by omega
      by_cases g5 : set.length ≤ 10
      case neg =>
        have HN : Hid (shortB e set = false) := Lib.hid (by simp [shortB, g5])
        have g5' : ¬ ((set.length : Nat) : Int) ≤ 10 := by omega
        go_wp2_with fail
        go_ret
        exact ⟨ret_bool HN.out.symm, HE0.out.trans HE.out⟩
      have g5' : ((set.length : Nat) : Int) ≤ 10 := by omega
      have HN : Hid (shortB e set = true) := Lib.hid (by simp [shortB, HA.out, g0, g1, g2, g3, g4, g5])
      clear g0 g1 g2 g3 g4 g5
      go_wp2_with fail
      go_ret
      exact ⟨ret_bool HN.out.symm, HE0.out.trans HE.out⟩
end Go.Proofs.YtcbodpnmndbgnaaGreatDoor
namespace Go.Proofs.YtcbodpnmndbgnaaGreatDoor
/-- Lists whose lengths are int's. -/
def Long (l : List Sp.Body) : Prop := l.length ≤ 9223372036854775807 ∧ ∀ k, k < l.length → (bd l k).road.length ≤ 9223372036854775807
end Go.Proofs.YtcbodpnmndbgnaaGreatDoor
namespace Go.Proofs.YtcbodpnmndbgnaaGreatDoor
open Go.ChangeShapes Go.WideShapes Go.ChangeAt Go.RowKit
open Sp (rd)
set_option maxRecDepth 100000
set_option linter.constructorNameAsVariable false
section
variable {H : Type} {enc : TypeId × Value → H} {W : World} {spare : Nat → Bool} {held : Bool} {fuel : Nat} {cs : List Value} {x : DataW H × List MemPlace}
theorem open_road (h : DataW.trod enc Tryz.prog W 0 spare held fuel 30 cs = some x) : ∃ A l c, cs = [.slice A l.length c] ∧ Ints W A l ∧ l.length ≤ maxLen := by
  rcases open_ints Tryz.underlying30 Tryz.underlying3 (by kernel_rfl) h with ⟨rfl, _⟩ | ⟨a, len, cap, zs, rfl, _, hlc, hcm, hzl, _, hc, _⟩
  · exact ⟨none, [], 0, rfl, fun h0 => by simp at h0, Nat.zero_le _⟩
  · have hle : len ≤ zs.length := by rw [hzl]; split <;> omega
    have hlen : (zs.take len).length = len := by rw [List.length_take]; omega
    refine ⟨some a, zs.take len, cap, by rw [hlen], fun h0 => ?_, by omega⟩
    rw [hlen] at h0
    obtain ⟨b, off, rfl, hc2⟩ := ints_at hc (by omega)
    refine ⟨b, off, rfl, fun k hk => ?_⟩
    rw [hlen] at hk
    rw [hc2 k (by omega)]
    unfold Sp.rd
    rw [List.getD_eq_getElem?_getD, List.getD_eq_getElem?_getD, List.getElem?_take_of_lt hk]
theorem list_two {α : Type} {l : List α} (h : l.length = 2) : ∃ a b, l = [a, b] := by
  cases l with
  | nil => simp at h
  | cons a l =>
    cases l with
    | nil => simp at h
    | cons b l =>
      have : l = [] := List.eq_nil_of_length_eq_zero (by simpa using h)
      exact ⟨a, b, by rw [this]⟩
theorem list_four {α : Type} {l : List α} (h : l.length = 4) : ∃ a b c d, l = [a, b, c, d] := by
  cases l with
  | nil => simp at h
  | cons a l =>
    cases l with
    | nil => simp at h
    | cons b l =>
      obtain ⟨c, d, rfl⟩ := list_two (l := l) (by simpa using h)
      exact ⟨a, b, c, d, rfl⟩
theorem get_some {α : Type} {l : List α} {i : Nat} {y : Option α} (h : y = l[i]?) (hi : i < l.length) : ∃ z, y = some z := ⟨l[i], by rw [h, List.getElem?_eq_getElem hi]⟩
theorem c3 : Tryz.prog.cellsOf 3 = 1 := by kernel_rfl
theorem c64 : Tryz.prog.cellsOf 30 = 1 := by kernel_rfl
theorem c24 : Tryz.prog.cellsOf 24 = 2 := by kernel_rfl
theorem c26 : Tryz.prog.cellsOf 26 = 3 := by kernel_rfl
theorem c80 : Tryz.prog.cellsOf 46 = 4 := by kernel_rfl
theorem c22 : Tryz.prog.cellsOf 22 = 1 := by kernel_rfl
theorem c28 : Tryz.prog.cellsOf 28 = 4 := by kernel_rfl
theorem open_period (h : DataW.trod enc Tryz.prog W 0 spare held fuel 24 cs = some x) : ∃ n d : Int, cs = [.int .i64 n, .int .i64 d] := by
  obtain ⟨xs, m, rfl, rfl, hcs, hxs, each⟩ := DataW.trod_struct Tryz.underlying24 h
  obtain ⟨a, b, rfl⟩ := list_two (hcs.trans c24)
  have hx2 : xs.length = 2 := hxs
  obtain ⟨y, hy⟩ := get_some (each 0 _ rfl) (by omega)
  obtain ⟨z, hz⟩ := get_some (each 1 _ rfl) (by omega)
  simp [c3] at hy hz
  obtain ⟨n, hn, _, _⟩ := DataW.trod_int Tryz.underlying3 hy
  obtain ⟨d, hd, _, _⟩ := DataW.trod_int Tryz.underlying3 hz
  simp at hn hd
  exact ⟨n, d, by rw [hn, hd]⟩
theorem open_body (h : DataW.trod enc Tryz.prog W 0 spare held fuel 46 cs = some x) : ∃ (B : Sp.Body) (A : Option Addr) (c : Nat), cs = [.int .i64 B.num, .int .i64 B.den, .int .i64 B.start, .slice A B.road.length c] ∧ Ints W A B.road ∧ B.road.length ≤ maxLen := by
  obtain ⟨xs, m, rfl, rfl, hcs, hxs, each⟩ := DataW.trod_struct Tryz.underlying46 h
  obtain ⟨a, b, c, d, rfl⟩ := list_four (hcs.trans c80)
  have hx2 : xs.length = 3 := hxs
  obtain ⟨y, hy⟩ := get_some (each 0 _ rfl) (by omega)
  obtain ⟨z, hz⟩ := get_some (each 1 _ rfl) (by omega)
  obtain ⟨u, hu⟩ := get_some (each 2 _ rfl) (by omega)
  simp [c3, c24, c64] at hy hz hu
  obtain ⟨n, k, hn⟩ := open_period hy
  obtain ⟨s, hs, _, _⟩ := DataW.trod_int Tryz.underlying3 hz
  obtain ⟨A, l, cc, hr, hI, hm⟩ := open_road hu
  simp at hn hs hr
  exact ⟨⟨n, k, s, l⟩, A, cc, by rw [hn.1, hn.2, hs, hr], hI, hm⟩
theorem open_bodies (h : DataW.trod enc Tryz.prog W 0 spare held fuel 22 cs = some x) : ∃ A l c, cs = [.slice A l.length c] ∧ Bodies W A l ∧ Long l := by
  rcases DataW.trod_slice Tryz.underlying22 h with ⟨rfl, _⟩ | ⟨a, len, cap, elems, rest, n, rfl, rfl, rfl, _, hlc, hcm, hel, each, _, _⟩
  · exact ⟨none, [], 0, rfl, fun h0 => by simp at h0, ⟨by simp, fun k hk => by simp at hk⟩⟩
  · have one : ∀ i, i < len → ∃ B : Sp.Body, ∃ (A : Option Addr) (c : Nat), W.cells? 0 (a.add (i * 4)) 4 = some [.int .i64 B.num, .int .i64 B.den, .int .i64 B.start, .slice A B.road.length c] ∧ Ints W A B.road ∧ B.road.length ≤ maxLen := by
      intro i hi
      have e := each i hi
      rw [c80] at e
      obtain ⟨y, hy⟩ := get_some e (by omega)
      rw [Option.bind_eq_some_iff] at hy
      obtain ⟨cs', h1, h2⟩ := hy
      obtain ⟨B, A, c, rfl, hI, hm⟩ := open_body h2
      exact ⟨B, A, c, h1, hI, hm⟩
    haveI : Inhabited Sp.Body := ⟨Sp.noBody⟩
    obtain ⟨f, hf⟩ := Go.Deep.choose_lt one
    have hll : ((List.range len).map f).length = len := by simp
    have hbd : ∀ k, k < len → bd ((List.range len).map f) k = f k := fun k hk => by
      unfold bd
      rw [List.getD_eq_getElem?_getD, List.getElem?_map, List.getElem?_range hk]
      rfl
    have hmx : (maxLen : Nat) ≤ 9223372036854775807 := by decide
    refine ⟨some a, (List.range len).map f, cap, by rw [hll], fun h0 => ?_, ⟨by omega, fun k hk => ?_⟩⟩
    · rw [hll] at h0
      obtain ⟨A0, c0, hc0, _, _⟩ := hf 0 h0
      have hsp := (World.cells?_some hc0).2.2 0 (by omega)
      obtain ⟨b, off, spot⟩ := a
      have hspot : spot = none := by
        have : W.cell? ⟨b, off, spot⟩ = some (.int .i64 (f 0).num) := by simpa [Addr.add] using hsp
        simpa using World.cell?_spot this
      subst hspot
      refine ⟨b, off, rfl, fun k hk => ?_⟩
      rw [hll] at hk
      rw [hbd k hk]
      obtain ⟨A1, c1, hc1, hI, _⟩ := hf k hk
      have g := (World.cells?_some hc1).2.2
      have g0 := g 0 (by omega)
      have g1 := g 1 (by omega)
      have g2 := g 2 (by omega)
      have g3 := g 3 (by omega)
      simp only [add_plain, Nat.add_zero] at g0 g1 g2 g3
      exact ⟨g0, g1, g2, _, _, g3, hI⟩
    · rw [hll] at hk
      rw [hbd k hk]
      obtain ⟨A1, c1, _, _, hm⟩ := hf k hk
      omega
theorem open_sky_cells (h : DataW.trod enc Tryz.prog W 0 spare held fuel 28 cs = some x) :
    ∃ (s : Sp.Sky) (A : Option Addr) (c : Nat), cs = [.slice A s.bodies.length c, .int .i64 s.nnum, .int .i64 s.nden, .int .i64 s.nstart] ∧ Bodies W A s.bodies ∧ Long s.bodies := by
  obtain ⟨xs, m, rfl, rfl, hcs, hxs, each⟩ := DataW.trod_struct Tryz.underlying28 h
  obtain ⟨a, b, c, d, rfl⟩ := list_four (hcs.trans c28)
  have hx2 : xs.length = 2 := hxs
  obtain ⟨y, hy⟩ := get_some (each 0 _ rfl) (by omega)
  obtain ⟨z, hz⟩ := get_some (each 1 _ rfl) (by omega)
  simp [c22, c26] at hy hz
  obtain ⟨A, l, cc, hr, hB, hL⟩ := open_bodies hy
  obtain ⟨ys, m2, rfl, _, hcs2, hxs2, each2⟩ := DataW.trod_struct Tryz.underlying26 hz
  have hx3 : ys.length = 2 := hxs2
  obtain ⟨p, hp⟩ := get_some (each2 0 _ rfl) (by omega)
  obtain ⟨q, hq⟩ := get_some (each2 1 _ rfl) (by omega)
  simp [c24, c3] at hp hq
  obtain ⟨n, k, hn⟩ := open_period hp
  obtain ⟨st, hs, _, _⟩ := DataW.trod_int Tryz.underlying3 hq
  simp at hr hn hs
  exact ⟨⟨l, n, k, st⟩, A, cc, by rw [hr, hn.1, hn.2, hs], hB, hL⟩
theorem list_more {α : Type} {l : List α} {n : Nat} (h : l.length = n + 1) : ∃ a t, l = a :: t ∧ t.length = n := by
  cases l with
  | nil => simp at h
  | cons a t => exact ⟨a, t, rfl, by simpa using h⟩
theorem cPair : Tryz.prog.cellsOf 140 = 2 := by kernel_rfl
theorem cPairs : Tryz.prog.cellsOf 29 = 1 := by kernel_rfl
theorem cEng : Tryz.prog.cellsOf 32 = 11 := by kernel_rfl
theorem open_pair (h : DataW.trod enc Tryz.prog W 0 spare held fuel 140 cs = some x) : ∃ q : Ec.Pair, cs = [.int .i64 q.drives, .int .i64 q.driven] := by
  obtain ⟨xs, m, rfl, rfl, hcs, hxs, each⟩ := DataW.trod_struct Tryz.underlying140 h
  obtain ⟨a, b, rfl⟩ := list_two (hcs.trans cPair)
  have hx2 : xs.length = 2 := hxs
  obtain ⟨y, hy⟩ := get_some (each 0 _ rfl) (by omega)
  obtain ⟨z, hz⟩ := get_some (each 1 _ rfl) (by omega)
  simp [c3] at hy hz
  obtain ⟨n, hn, _, _⟩ := DataW.trod_int Tryz.underlying3 hy
  obtain ⟨d, hd, _, _⟩ := DataW.trod_int Tryz.underlying3 hz
  simp at hn hd
  exact ⟨⟨n, d⟩, by rw [hn, hd]⟩
theorem open_pairs (h : DataW.trod enc Tryz.prog W 0 spare held fuel 29 cs = some x) : ∃ A l c, cs = [.slice A l.length c] ∧ Pairs W A l ∧ l.length ≤ maxLen := by
  rcases DataW.trod_slice Tryz.underlying29 h with ⟨rfl, _⟩ | ⟨a, len, cap, elems, rest, n, rfl, rfl, rfl, _, hlc, hcm, hel, each, _, _⟩
  · exact ⟨none, [], 0, rfl, fun h0 => by simp at h0, Nat.zero_le _⟩
  · have one : ∀ i, i < len → ∃ B : Ec.Pair, W.cells? 0 (a.add (i * 2)) 2 = some [.int .i64 B.drives, .int .i64 B.driven] := by
      intro i hi
      have e := each i hi
      rw [cPair] at e
      obtain ⟨y, hy⟩ := get_some e (by omega)
      rw [Option.bind_eq_some_iff] at hy
      obtain ⟨cs', h1, h2⟩ := hy
      obtain ⟨B, rfl⟩ := open_pair h2
      exact ⟨B, h1⟩
    haveI : Inhabited Ec.Pair := ⟨Ec.noPair⟩
    obtain ⟨f, hf⟩ := Go.Deep.choose_lt one
    have hll : ((List.range len).map f).length = len := by simp
    have hbd : ∀ k, k < len → pd ((List.range len).map f) k = f k := fun k hk => by
      unfold pd
      rw [List.getD_eq_getElem?_getD, List.getElem?_map, List.getElem?_range hk]
      rfl
    refine ⟨some a, (List.range len).map f, cap, by rw [hll], fun h0 => ?_, by omega⟩
    rw [hll] at h0
    have hc0 := hf 0 h0
    have hsp := (World.cells?_some hc0).2.2 0 (by omega)
    obtain ⟨b, off, spot⟩ := a
    have hspot : spot = none := by
      have : W.cell? ⟨b, off, spot⟩ = some (.int .i64 (f 0).drives) := by simpa [Addr.add] using hsp
      simpa using World.cell?_spot this
    subst hspot
    refine ⟨b, off, rfl, fun k hk => ?_⟩
    rw [hll] at hk
    rw [hbd k hk]
    have g := (World.cells?_some (hf k hk)).2.2
    have g0 := g 0 (by omega)
    have g1 := g 1 (by omega)
    simp only [add_plain, Nat.add_zero] at g0 g1
    exact ⟨g0, g1⟩
theorem open_engine {v : Value} {d : DataW H} {ps : List MemPlace} {r : Reach} {base : Nat} (hval : Value.okWide Tryz.prog W r base 32 v) (h : DataW.Trod enc Tryz.prog W 0 spare held 32 v d ps) :
    ∃ (p : EP) (e : Ec.Engine), v = .agg #[.slice p.Ab e.sky.bodies.length p.cb, .int .i64 e.sky.nnum, .int .i64 e.sky.nden, .int .i64 e.sky.nstart, .slice p.As e.sun.length p.cs, .slice p.Am e.moon.length p.cm, .slice p.An e.node.length p.cn, .slice p.Af e.feasts.length p.cf, .int .i64 e.nw, .int .i64 e.fl, .int .i64 e.wide] ∧ EngAt W p e ∧ EngLong e := by
  obtain ⟨cells, rfl, hsz⟩ := okWide_struct Tryz.underlying32 hval
  obtain ⟨fuel, hd⟩ := h
  obtain ⟨xs, m, rfl, _, hcs, hxs, each⟩ := DataW.trod_struct Tryz.underlying32 hd
  have hlen : (Value.agg cells).cells.toList.length = 11 := hcs.trans cEng
  obtain ⟨a0, t0, h0, n0⟩ := list_more hlen
  obtain ⟨a1, t1, rfl, n1⟩ := list_more n0
  obtain ⟨a2, t2, rfl, n2⟩ := list_more n1
  obtain ⟨a3, t3, rfl, n3⟩ := list_more n2
  obtain ⟨a4, t4, rfl, n4⟩ := list_more n3
  obtain ⟨a5, t5, rfl, n5⟩ := list_more n4
  obtain ⟨a6, t6, rfl, n6⟩ := list_more n5
  obtain ⟨a7, t7, rfl, n7⟩ := list_more n6
  obtain ⟨a8, t8, rfl, n8⟩ := list_more n7
  obtain ⟨a9, t9, rfl, n9⟩ := list_more n8
  obtain ⟨a10, t10, rfl, n10⟩ := list_more n9
  obtain rfl : t10 = [] := List.eq_nil_of_length_eq_zero n10
  rw [h0] at each
  have hx2 : xs.length = 8 := hxs
  obtain ⟨y0, hy0⟩ := get_some (each 0 _ rfl) (by omega)
  obtain ⟨y1, hy1⟩ := get_some (each 1 _ rfl) (by omega)
  obtain ⟨y2, hy2⟩ := get_some (each 2 _ rfl) (by omega)
  obtain ⟨y3, hy3⟩ := get_some (each 3 _ rfl) (by omega)
  obtain ⟨y4, hy4⟩ := get_some (each 4 _ rfl) (by omega)
  obtain ⟨y5, hy5⟩ := get_some (each 5 _ rfl) (by omega)
  obtain ⟨y6, hy6⟩ := get_some (each 6 _ rfl) (by omega)
  obtain ⟨y7, hy7⟩ := get_some (each 7 _ rfl) (by omega)
  simp [c28, cPairs, c64, c3] at hy0 hy1 hy2 hy3 hy4 hy5 hy6 hy7
  obtain ⟨s, Ab, cb, hr0, hB, hL⟩ := open_sky_cells hy0
  obtain ⟨As, sun, ds, hr1, hP1, hl1⟩ := open_pairs hy1
  obtain ⟨Am, moon, dm, hr2, hP2, hl2⟩ := open_pairs hy2
  obtain ⟨An, node, dn, hr3, hP3, hl3⟩ := open_pairs hy3
  obtain ⟨Af, feasts, df, hr4, hI, hl4⟩ := open_road hy4
  obtain ⟨nw, hr5, _, _⟩ := DataW.trod_int Tryz.underlying3 hy5
  obtain ⟨fl, hr6, _, _⟩ := DataW.trod_int Tryz.underlying3 hy6
  obtain ⟨wd, hr7, _, _⟩ := DataW.trod_int Tryz.underlying3 hy7
  simp at hr0 hr1 hr2 hr3 hr4 hr5 hr6 hr7
  have hmx : (maxLen : Nat) ≤ 9223372036854775807 := by decide
  refine ⟨⟨Ab, cb, As, ds, Am, dm, An, dn, Af, df, none, 0⟩, ⟨s, sun, moon, node, feasts, nw, fl, wd⟩, ?_, ⟨hB, hP1, hP2, hP3, hI⟩, ⟨hL.1, hL.2, by simp only; omega, by simp only; omega, by simp only; omega, by simp only; omega⟩⟩
  have : cells = #[a0, a1, a2, a3, a4, a5, a6, a7, a8, a9, a10] := by rw [← Array.toList_inj]; exact (show cells.toList = _ from h0)
  rw [this, hr0.1, hr0.2.1, hr0.2.2.1, hr0.2.2.2, hr1, hr2, hr3, hr4, hr5, hr6, hr7]
theorem open_set {v : Value} {d : DataW H} {ps : List MemPlace} {r : Reach} {base : Nat} (hval : Value.okWide Tryz.prog W r base 30 v) (h : DataW.Trod enc Tryz.prog W 0 spare held 30 v d ps) :
    ∃ (l : List Int) (A : Option Addr) (c : Nat), v = .slice A l.length c ∧ Ints W A l ∧ l.length ≤ maxLen := by
  obtain ⟨a, len, cap, rfl⟩ := okWide_slice Tryz.underlying30 hval
  obtain ⟨fuel, hd⟩ := h
  obtain ⟨A, l, c, hc, hN, hl⟩ := open_road hd
  simp [Value.cells] at hc
  exact ⟨l, A, c, by rw [hc.1, hc.2.1, hc.2.2], hN, hl⟩
end
end Go.Proofs.YtcbodpnmndbgnaaGreatDoor
namespace Go.Proofs.YtcbodpnmndbgnaaGreatDoor
open Go.ChangeShapes Go.WideShapes Go.ChangeAt Go.RowKit
abbrev laidL : List (String × DataW Unit) := [("math/bits.deBruijn32tab", Rows.laid_math_bits_deBruijn32tab), ("math/bits.deBruijn64tab", Rows.laid_math_bits_deBruijn64tab), ("internal/strconv.uint64pow10", Rows.laid_internal_strconv_uint64pow10), ("unicode/utf8.acceptRanges", Rows.laid_unicode_utf8_acceptRanges), ("unicode/utf8.first", Rows.laid_unicode_utf8_first)]
theorem own : ownKnob Tryz.prog.godebug = none := by kernel_rfl
theorem laidOut : laidOutB Tryz.prog = true := by kernel_rfl
theorem gTab : Tryz.prog.globalNamed "internal/strconv.uint64pow10" = some 3 := by kernel_rfl
theorem gTabType : (Tryz.prog.globals[3]?).map (·.type) = some 254 := by kernel_rfl
theorem tabEq : (Rows.laid_internal_strconv_uint64pow10 : DataW Unit) = Lib.tabData .u64 Lib.pow10Tab := by kernel_rfl
theorem env_of {W : World} (h : laidMetH Tryz.prog laidL W) (hs : W.ShapedOpen Tryz.prog) : Env W := by
  have h' : laidMet Tryz.prog laidL W := h
  have h2 := h'.tail.tail
  rw [tabEq] at h2
  exact ⟨Lib.tabIs_of_head gTab gTabType Tryz.underlying254 Tryz.underlying238 (by kernel_rfl) (by kernel_rfl) h2, cell_of_shapedOpen_int (zero := #[.int .i64 0]) (t := 3) hs (of_decide_eq_true (by kernel_rfl)) (by kernel_rfl) rfl (by kernel_rfl) (by kernel_rfl) Tryz.underlying3⟩
/-- A table's cells. -/
def flatN : Nat → DataW Unit → List Value
  | 0, _ => []
  | n + 1, .agg l => l.flatMap (flatN n)
  | _ + 1, .lit (.int k z) => [.int k z]
  | _, _ => []
def layTab (d : DataW Unit) : Obj → Obj
  | .cells _ t fr => .cells (flatN 4 d).toArray t fr
  | o => o
/-- A world for the witness: the settled one, with the library's tables laid. -/
noncomputable def laidWorld (os : Os) : World :=
  { World.holding Tryz.prog os ⟨#[], #[], []⟩ with heap := (((((World.holding Tryz.prog os ⟨#[], #[], []⟩).heap.modify 4 (layTab Rows.laid_math_bits_deBruijn32tab)).modify 5 (layTab Rows.laid_math_bits_deBruijn64tab)).modify 3 (layTab Rows.laid_internal_strconv_uint64pow10)).modify 2 (layTab Rows.laid_unicode_utf8_acceptRanges)).modify 1 (layTab Rows.laid_unicode_utf8_first) }
theorem trodAll_below {H : Type} {enc : TypeId × Value → H} {W W' : World} (hb : Below W.heap.size W W') : ∀ {ts : List TypeId} {vs : List Value} {ds : List (DataW H)} {ps : List MemPlace},
    (∀ t ∈ ts, Tryz.prog.readableRec t = true ∧ t < Tryz.prog.types.size) → DataW.TrodAll enc Tryz.prog W 0 (fun _ => true) true ts vs ds ps → (∀ x ∈ ps, x.block < W.heap.size) →
    DataW.TrodAll enc Tryz.prog W' 0 (fun b => decide (b < W.heap.size)) true ts vs ds ps
  | [], vs, ds, ps, _, h, _ => by
    obtain ⟨rfl, rfl, rfl⟩ := trodAll_nil h
    exact trodAll_mk0
  | t :: ts, vs, ds, ps, hk, h, hlt => by
    obtain ⟨v, vs1, d, ds1, a, b, rfl, rfl, rfl, h1, h2⟩ := trodAll_cons h
    have k := hk t (by simp)
    exact trodAll_cons_mk (Below.trod laidOut k.1 k.2 h1 hb (fun x hx => hlt x (by simp [hx]))) (trodAll_below hb (fun t ht => hk t (by simp [ht])) h2 (fun x hx => hlt x (by simp [hx])))
/-- From the walk to the row's end: the law returns true, and of what was there nothing has turned. -/
theorem post_true {H : Type} {enc : TypeId × Value → H} {f : Func} {s : ChangeSpec} {W W' : World} {args : Array Value} {ds gs : List (DataW H)} {before : List MemPlace}
    (hW : DataW.Whole enc Tryz.prog f.params.toList s.vars false W args.toList ds gs before) (hv : s.vars = []) (hr : f.resultTypes = #[4]) (hE : Ext W W')
    (hk : ∀ t ∈ f.params.toList, Tryz.prog.readableRec t = true ∧ t < Tryz.prog.types.size) (h1 : (s.fn H (ds ++ gs)).results = [.lit (.bool true)]) (h2 : (s.fn H (ds ++ gs)).args = ds) (h3 : (s.fn H (ds ++ gs)).vars = []) :
    s.post enc Tryz.prog f false true false false W args (.bool true) W' := by
  have hW0 := hW
  obtain ⟨p, q, hA, hV, rfl, hfz, hnd⟩ := hW
  rw [hv] at hV
  obtain ⟨rfl, rfl⟩ := trodVars_none hV
  have hlt : ∀ x ∈ p, x.block < W.heap.size := fun x hx => by simpa using hW0.lt x (by simpa using hx)
  refine ⟨ds, [], p ++ [], [], p, [], hW0, ?_, ?_, ?_, ?_, fun h => by cases h⟩
  · rw [h1, hr]
    exact trodAll_cons_mk (shut_bool Tryz.underlying4 _) trodAll_mk0
  · rw [h2]
    exact trodAll_below hE hk hA hlt
  · rw [h3, hv]
    rfl
  · exact World.keptBut_mono (fun _ f => f.elim) (Below.frame hE (fun _ => False))
end Go.Proofs.YtcbodpnmndbgnaaGreatDoor
namespace Go.Proofs.YtcbodpnmndbgnaaGreatDoor
open Go
set_option maxRecDepth 100000
theorem io_eq : Tryz.prog.initOrder = "harness 6e42cd4d63d2f10fb99d533d30ec03d60e03dcb61978a7b528b853a6a76d9ab6 cut " ++ "at tellurion/tellurionlaw07.EclipseKept tellurion/tellurionlaw07.EclipseForetells tellurion/tellurionlaw07.EclipseTold tellurion/tellurionlaw07.EclipseWithins tellurion/tellurionlaw07.EclipseTrusted tellurion/tellurionlaw07.EclipseWidens tellurion/tellurionlaw07.EclipseEnough tellurion/tellurionlaw07.EclipseNever tellurion/tellurionlaw07.EclipseMore tellurion/tellurionlaw07.EclipseHands tellurion/tellurionlaw07.EclipseMisses tellurion/tellurionlaw07.EclipseFound" := by kernel_rfl
theorem words_app (w r : List Char) (h : ∀ c ∈ w, c ≠ (Char.ofNat 32)) : wordsSigns (w ++ (Char.ofNat 32) :: r) = w :: wordsSigns r := by
  induction w with
  | nil => simp [wordsSigns]
  | cons c w ih =>
    have hc : c ≠ (Char.ofNat 32) := h c (by simp)
    have i := ih (fun d hd => h d (by simp [hd]))
    rw [List.cons_append, wordsSigns, i]
    exact hc
theorem sumSigns : isSumSigns "6e42cd4d63d2f10fb99d533d30ec03d60e03dcb61978a7b528b853a6a76d9ab6".toList = true := by decide +kernel
theorem noSp : ∀ c ∈ "6e42cd4d63d2f10fb99d533d30ec03d60e03dcb61978a7b528b853a6a76d9ab6".toList, c ≠ (Char.ofNat 32) := by decide +kernel
theorem noSp1 : ∀ c ∈ "harness".toList, c ≠ (Char.ofNat 32) := by decide +kernel
theorem noSp2 : ∀ c ∈ "cut".toList, c ≠ (Char.ofNat 32) := by decide +kernel
theorem headEq : "harness 6e42cd4d63d2f10fb99d533d30ec03d60e03dcb61978a7b528b853a6a76d9ab6 cut ".toList = "harness".toList ++ (Char.ofNat 32) :: ("6e42cd4d63d2f10fb99d533d30ec03d60e03dcb61978a7b528b853a6a76d9ab6".toList ++ (Char.ofNat 32) :: ("cut".toList ++ [(Char.ofNat 32)])) := by decide +kernel
theorem io_words : ∃ r, wordsSigns Tryz.prog.initOrder.toList = "harness".toList :: "6e42cd4d63d2f10fb99d533d30ec03d60e03dcb61978a7b528b853a6a76d9ab6".toList :: "cut".toList :: r := by
  rw [io_eq, String.toList_append, headEq]
  generalize "at tellurion/tellurionlaw07.EclipseKept tellurion/tellurionlaw07.EclipseForetells tellurion/tellurionlaw07.EclipseTold tellurion/tellurionlaw07.EclipseWithins tellurion/tellurionlaw07.EclipseTrusted tellurion/tellurionlaw07.EclipseWidens tellurion/tellurionlaw07.EclipseEnough tellurion/tellurionlaw07.EclipseNever tellurion/tellurionlaw07.EclipseMore tellurion/tellurionlaw07.EclipseHands tellurion/tellurionlaw07.EclipseMisses tellurion/tellurionlaw07.EclipseFound".toList = r
  refine ⟨wordsSigns r, ?_⟩
  rw [show ("harness".toList ++ (Char.ofNat 32) :: ("6e42cd4d63d2f10fb99d533d30ec03d60e03dcb61978a7b528b853a6a76d9ab6".toList ++ (Char.ofNat 32) :: ("cut".toList ++ [(Char.ofNat 32)]))) ++ r = "harness".toList ++ (Char.ofNat 32) :: ("6e42cd4d63d2f10fb99d533d30ec03d60e03dcb61978a7b528b853a6a76d9ab6".toList ++ (Char.ofNat 32) :: ("cut".toList ++ (Char.ofNat 32) :: r)) by simp only [List.append_assoc, List.cons_append, List.nil_append]]
  rw [words_app _ _ noSp1, words_app _ _ noSp, words_app _ _ noSp2]
theorem behind_at (s : List Char) (r : List (List Char)) (hs : isSumSigns s = true) : behindMainWord ("harness".toList :: s :: r) = r := by
  show (if (("harness".toList == "harness".toList || "harness".toList == "ownmain".toList) && isSumSigns s) = true then r else _) = r
  rw [hs, if_pos (by rw [beq_self_eq_true]; rfl)]
theorem io_behind : ∃ r, behindMainWord (wordsSigns Tryz.prog.initOrder.toList) = "cut".toList :: r := by
  obtain ⟨r, h⟩ := io_words
  exact ⟨r, by rw [h, behind_at _ _ sumSigns]⟩
theorem strip_no (w : List Char) (ws : List (List Char)) : ∀ os : List String, (∀ o ∈ os, (w == o.toList) = false) → stripLifts os (w :: ws) = ([], w :: ws)
  | [], _ => rfl
  | o :: os, h => by
    rw [stripLifts, h o (by simp)]
    exact strip_no w ws os (fun x hx => h x (by simp [hx]))
theorem cutNo : ∀ o ∈ liftWords, ("cut".toList == o.toList) = false := by decide +kernel
theorem lays_no : Tryz.prog.laysLater = false := by kernel_rfl
theorem refl_no : Tryz.prog.bearsReflect = false := by kernel_rfl
theorem door_ok : Tryz.prog.doorFits [] = true := by kernel_rfl
theorem lifts_of {P : Program} {c : List Char} {r : List (List Char)} (h : behindMainWord (wordsSigns P.initOrder.toList) = c :: r) (hs : stripLifts liftWords (c :: r) = ([], c :: r)) (e : (some c == some "carried".toList) = false) : P.liftsFinal = false := by
  unfold Program.liftsFinal Program.headLifts
  rw [h, hs]
  show ((some c == some "carried".toList && _) || _) = false
  rw [e, Bool.false_and, Bool.false_or]
  dsimp only
  split <;> rfl
theorem lifts_no : Tryz.prog.liftsFinal = false := by
  obtain ⟨r, h⟩ := io_behind
  exact lifts_of h (strip_no _ r _ cutNo) (by decide +kernel)
theorem make_of {P : Program} {c : List Char} {r : List (List Char)} (h : behindMainWord (wordsSigns P.initOrder.toList) = c :: r) (e1 : (c == "gc".toList || c == "spec".toList) = false) (e2 : (c == "cut".toList) = true) : P.make = some .cut := by
  unfold Program.make
  rw [h]
  show (if (c == "gc".toList || c == "spec".toList) = true then _ else if (c == "cut".toList || _) = true then _ else _) = _
  rw [e1, e2, if_neg (by decide), if_pos (by rw [Bool.true_or])]
theorem make_cut : Tryz.prog.make = some .cut := by
  obtain ⟨r, h⟩ := io_behind
  exact make_of h (by decide +kernel) (by decide +kernel)
theorem may_of {P : Program} {c : List Char} {r : List (List Char)} (h : behindMainWord (wordsSigns P.initOrder.toList) = c :: r) (hs : stripLifts liftWords (c :: r) = ([], c :: r)) (e : (some c == some "cut".toList) = true) (h1 : P.laysLater = false) (h2 : P.bearsReflect = false) (h3 : P.doorFits [] = true) : P.mayEnter = true := by
  unfold Program.mayEnter
  rw [h]
  dsimp only
  rw [hs, h1, h2, h3]
  show (_ || _ || (some c == some "cut".toList && _ && _ && _ && true)) = true
  rw [e]
  simp only [Bool.not_false, Bool.or_true, Bool.and_true, Bool.true_and, Bool.or_eq_true]
  right
  right
  rfl
theorem may_yes : Tryz.prog.mayEnter = true := by
  obtain ⟨r, h⟩ := io_behind
  exact may_of h (strip_no _ r _ cutNo) (by decide +kernel) lays_no refl_no door_ok
end Go.Proofs.YtcbodpnmndbgnaaGreatDoor
namespace Go.Proofs.YtcbodpnmndbgnaaGreatDoor
open Go
set_option maxRecDepth 100000
theorem main_of {P : Program} {s : List Char} {r : List (List Char)} (h : wordsSigns P.initOrder.toList = "harness".toList :: s :: r) (hs : isSumSigns s = true) : P.mainIs = some (true, s) := by
  unfold Program.mainIs
  rw [h]
  show (if (!isSumSigns s) = true then none else if ("harness".toList == "harness".toList) = true then some (true, s) else _) = some (true, s)
  rw [hs, if_neg (by decide), if_pos (beq_self_eq_true _)]
theorem main_is : Tryz.prog.mainIs = some (true, "6e42cd4d63d2f10fb99d533d30ec03d60e03dcb61978a7b528b853a6a76d9ab6".toList) := by
  obtain ⟨r, h⟩ := io_words
  exact main_of h sumSigns
end Go.Proofs.YtcbodpnmndbgnaaGreatDoor
namespace Go.Proofs.YtcbodpnmndbgnaaGreatDoor
open Go.RowKit
open Sp (rd)
theorem espan_of {lo hi : Int} (h : Ec.isSpan lo hi = true) : 1 ≤ lo ∧ lo ≤ 9000 ∧ lo ≤ hi ∧ hi ≤ 9000 ∧ hi - lo ≤ 400 := by
  simp only [Ec.isSpan, Sp.inR, Bool.and_eq_true, decide_eq_true_eq] at h
  omega
theorem espan_mk {lo hi : Int} (h1 : 1 ≤ lo) (h2 : lo ≤ hi) (h3 : hi ≤ 9000) (h4 : hi - lo ≤ 400) : Ec.isSpan lo hi = true := by
  simp only [Ec.isSpan, Sp.inR, Bool.and_eq_true, decide_eq_true_eq]
  omega
theorem elate_of {n : Int} (h : Ec.isLate n = true) : 0 ≤ n ∧ n ≤ 30 := by
  simp only [Ec.isLate, Sp.inR, Bool.and_eq_true, decide_eq_true_eq] at h
  omega
end Go.Proofs.YtcbodpnmndbgnaaGreatDoor
namespace Go.Proofs.YtcbodpnmndbgnaaGreatDoor
open Go.RowKit
open Sp (rd)
set_option maxRecDepth 100000
set_option maxHeartbeats 2000000
set_option linter.unusedVariables false
theorem eql_ecl (a b c d : Int) (x y : Bool) (w : World) : (binOp .eql 59 (.agg #[.int .i64 a, .bool x, .int .i64 c]) (.agg #[.int .i64 b, .bool y, .int .i64 d])).run Tryz.prog w = .ok (.bool ((a == b) && (x == y) && (c == d))) w := by
  have hf : (Tryz.prog.fieldsOf 59).toList.map (fun f => (f.name, f.type, f.offset)) = [("Day", 3, 0), ("Full", 4, 1), ("Far", 3, 2)] := by kernel_rfl
  obtain ⟨f1, f2, f3, hfs, p1, p2, p3⟩ := map_three hf
  obtain ⟨n1, t1, o1⟩ := field_parts p1
  obtain ⟨n2, t2, o2⟩ := field_parts p2
  obtain ⟨n3, t3, o3⟩ := field_parts p3
  rw [run_eql_struct, run_equalIn_agg w 9999 _ _ _ (by kernel_rfl) (by kernel_rfl), hfs]
  simp [Op.eqFields, n1, t1, o1, n2, t2, o2, n3, t3, o3, part, go_sem]
  by_cases h : a = b <;> by_cases h2 : x = y <;> by_cases h3 : c = d <;> simp [h, h2, h3]
theorem ecl_take {l : List Sp.Ecl} {x : Sp.Ecl} {k : Nat} (hk : k < l.length) (h : ¬ x ∈ l.take k) (hn : ¬ l[k] = x) : ¬ x ∈ l.take (k + 1) := by
  rw [List.take_succ_eq_append_getElem hk]
  intro hh
  rcases List.mem_append.1 hh with h1 | h1
  · exact h h1
  · exact hn (List.mem_singleton.1 h1).symm
theorem l7_listed_any (v : Value) (l : List Sp.Ecl) (x : Sp.Ecl) (w : World) (hv : EclVal w v l) (hl : l.length ≤ 100000) :
    Calls Tryz.prog 32 #[v, .agg #[.int .i64 x.day, .bool x.full, .int .i64 x.far]] w fun e w' => e = .returned (.bool (decide (x ∈ l))) ∧ Ext w w' := by
  obtain ⟨A1, c1, rfl, q1⟩ := hv
  have HQ1 := Lib.hid q1
  have HR0 := Lib.hid (Row.new w 59 #[.int .i64 x.day, .bool x.full, .int .i64 x.far])
  have HE0 := Lib.hid ((Ext.refl w).alloc (.cells #[.int .i64 x.day, .bool x.full, .int .i64 x.far] 59))
  clear q1
  go_enter Tryz.func32, Tryz.ntmps32
  go_wp2_with fail
  obtain ⟨W0, hW0⟩ : ∃ W0, w.alloc (.cells #[.int .i64 x.day, .bool x.full, .int .i64 x.far] 59) = W0 := ⟨_, rfl⟩
  rw [hW0] at HR0 HE0 ⊢
  clear hW0
  go_loopw [5] (fun i wr => ∃ k : Nat, k ≤ l.length ∧ i = .int .i64 k ∧ ¬ x ∈ l.take k ∧ Ext W0 wr) (fun i _ => l.length - (intOf i).toNat)
  case atStart => exact ⟨0, Nat.zero_le _, rfl, by simp, Ext.refl _⟩
  case round =>
    obtain ⟨k, hk, rfl, htk, hE⟩ := hrel
    have b0 := (HR0.out.ext hE).cell
    by_cases hlt : k < l.length
    · obtain ⟨b1, o1, rfl, p1⟩ := HQ1.out (by omega)
      have a0 := hE.cell (HE0.out.cell (p1 k hlt).1)
      have a1 := hE.cell (HE0.out.cell (p1 k hlt).2.1)
      have a2 := hE.cell (HE0.out.cell (p1 k hlt).2.2)
      have HNX := Lib.hid (fun he => ecl_take hlt htk he)
      have HIN := Lib.hid (fun he : l[k] = x => (by rw [← he]; exact List.getElem_mem hlt : x ∈ l))
      have HE := Lib.hid (HE0.out.trans hE)
      have HE1 := Lib.hid hE
      clear p1 htk hE
      generalize l[k] = m at *
      by_cases he : m = x
      · have HX := Lib.hid (HIN.out he)
        subst he
        have hcmp : ∀ w, (binOp .eql 59 (.agg #[.int .i64 m.day, .bool m.full, .int .i64 m.far]) (.agg #[.int .i64 m.day, .bool m.full, .int .i64 m.far])).run Tryz.prog w = .ok (.bool true) w := fun w => by
          rw [eql_ecl]; simp
        clear HNX HIN
        go_wp2_with fail
        go_quiet (fail)
        go_wp2_with fail
        go_ret
        exact ⟨ret_bool (by simp [HX.out]), HE.out.drewN _⟩
      · have HX := Lib.hid (HNX.out he)
        have hcmp : ∀ w, (binOp .eql 59 (.agg #[.int .i64 m.day, .bool m.full, .int .i64 m.far]) (.agg #[.int .i64 x.day, .bool x.full, .int .i64 x.far])).run Tryz.prog w = .ok (.bool false) w := fun w => by
          rw [eql_ecl]
          cases m
          cases x
          simp at he
          simp
          grind
        clear HNX HIN he
        go_wp2_with fail
        go_quiet (fail)
        go_wp2_with fail
        refine ⟨⟨k + 1, by omega, by go_num, HX.out, HE1.out.drewN _⟩, by simp [intOf]; omega⟩
    · obtain rfl : k = l.length := by omega
      rw [List.take_length] at htk
      have HE := Lib.hid (HE0.out.trans hE)
      have HX := Lib.hid htk
      clear hE htk
      go_wp2_with fail
      go_ret
      exact ⟨ret_bool (by simp [HX.out]), HE.out⟩
end Go.Proofs.YtcbodpnmndbgnaaGreatDoor
namespace Go.Proofs.YtcbodpnmndbgnaaGreatDoor
open Go.RowKit
open Sp (rd)
set_option maxRecDepth 100000
set_option maxHeartbeats 2000000
set_option linter.unusedVariables false
theorem TrainOk.taken {l : List Ec.Pair} (h : TrainOk l) (k : Nat) : (1 ≤ Ec.drivesP (l.take k) ∧ Ec.drivesP (l.take k) ≤ 216000) ∧ (1 ≤ Ec.drivenP (l.take k) ∧ Ec.drivenP (l.take k) ≤ 216000) := by
  have hl : (l.take k).length ≤ 3 := by rw [List.length_take]; have := h.n3; omega
  exact ⟨prod_bounds (·.drives) _ _ rfl hl fun p hp => (h.mem p (List.mem_of_mem_take hp)).1, prod_bounds (·.driven) _ _ rfl hl fun p hp => (h.mem p (List.mem_of_mem_take hp)).2⟩
end Go.Proofs.YtcbodpnmndbgnaaGreatDoor
namespace Go.Proofs.YtcbodpnmndbgnaaGreatDoor
open Go.RowKit
open Sp (rd)
set_option maxRecDepth 100000
set_option maxHeartbeats 2000000
set_option linter.unusedVariables false
def bsP (x : Sp.Ecl) (late : Int) (y : Sp.Ecl) : Bool := (y.full == x.full) && (decide (x.day - late ≤ y.day) && decide (y.day ≤ x.day + late))
theorem any_take {α : Type} {P : α → Bool} {l : List α} {k : Nat} (hk : k < l.length) (h : (l.take k).any P = false) (hn : P l[k] = false) : (l.take (k + 1)).any P = false := by
  rw [List.take_succ_eq_append_getElem hk, List.any_append, h]
  simp [hn]
theorem any_at {α : Type} {P : α → Bool} {l : List α} {k : Nat} (hk : k < l.length) (hn : P l[k] = true) : l.any P = true := List.any_eq_true.2 ⟨_, List.getElem_mem hk, hn⟩
/-- All days of a list can be. -/
def DaysIn (l : List Sp.Ecl) : Prop := ∀ y ∈ l, 0 ≤ y.day ∧ y.day ≤ 20000
end Go.Proofs.YtcbodpnmndbgnaaGreatDoor
namespace Go.Proofs.YtcbodpnmndbgnaaGreatDoor
open Go.RowKit
open Sp (rd)
theorem real_len (e : Ec.Engine) (lo hi : Int) (h1 : lo ≤ hi) (h2 : hi - lo ≤ 490) : (Ec.realL e lo hi).length ≤ 1000 := by
  have a := ecls_le e.sky e.nw e.fl (Sp.moonsL e.sky lo hi)
  have b := moonsN_le e.sky lo (hi + 1 - lo).toNat
  have c : (Sp.moonsL e.sky lo hi).length = (Sp.moonsN e.sky lo (hi + 1 - lo).toNat).length := rfl
  have d : (Ec.realL e lo hi).length = (Sp.eclsOf e.sky e.nw e.fl (Sp.moonsL e.sky lo hi)).length := rfl
  omega
theorem missed_len (e : Ec.Engine) (set : List Int) (lo hi late : Int) (h1 : lo ≤ hi) (h2 : hi - lo ≤ 490) : (Ec.missedL e set lo hi late).length ≤ 1000 :=
  Nat.le_trans (List.length_filter_le _ _) (real_len e lo hi h1 h2)
end Go.Proofs.YtcbodpnmndbgnaaGreatDoor
namespace Go.Proofs.YtcbodpnmndbgnaaGreatDoor
open Go.RowKit
open Sp (rd)
set_option maxRecDepth 100000
set_option maxHeartbeats 2000000
set_option linter.unusedVariables false
theorem real_days (e : Ec.Engine) {lo hi : Int} (h1 : 0 ≤ lo) (h3 : hi ≤ 20000) : DaysIn (Ec.realL e lo hi) := fun y hy => by
  obtain ⟨a, b, _⟩ := (Ec.ecls_mem ..).1 hy
  omega
theorem fore_days (e : Ec.Engine) (set : List Int) {lo hi : Int} (h1 : 0 ≤ lo) (h3 : hi ≤ 20000) : DaysIn (Ec.foreL e set lo hi) := fun y hy => by
  obtain ⟨a, b, _⟩ := (Ec.foreL_mem ..).1 hy
  omega
theorem real_few (e : Ec.Engine) {lo hi : Int} (h1 : 1 ≤ lo) (h3 : hi ≤ 20000) : (Ec.realL e lo hi).length ≤ 100000 := by
  have h := ecls_le e.sky e.nw e.fl (Sp.moonsL e.sky lo hi)
  have h2 := moonsN_le e.sky lo (hi + 1 - lo).toNat
  rw [show Sp.moonsN e.sky lo (hi + 1 - lo).toNat = Sp.moonsL e.sky lo hi from rfl] at h2
  show (Sp.eclsOf e.sky e.nw e.fl (Sp.moonsL e.sky lo hi)).length ≤ 100000
  omega
end Go.Proofs.YtcbodpnmndbgnaaGreatDoor
namespace Go.Proofs.YtcbodpnmndbgnaaGreatDoor
open Go.RowKit
open Sp (rd)
set_option linter.unusedVariables false
theorem span_mk5 {lo hi : Int} (h1 : 1 ≤ lo) (h2 : lo ≤ hi) (h3 : hi ≤ 9030) (h4 : hi - lo ≤ 400) : Sp.isSpan lo hi = true := by
  simp only [Sp.isSpan, Sp.inR, Bool.and_eq_true, decide_eq_true_eq]
  omega
theorem fore_few2 (e : Ec.Engine) (set : List Int) {lo hi : Int} (h1 : 1 ≤ lo) (h3 : hi - lo ≤ 400) : (Ec.foreL e set lo hi).length ≤ 1000 := by
  have := foreN_len e set lo (hi + 1 - lo).toNat
  show (Ec.foreN e set lo (hi + 1 - lo).toNat).length ≤ 1000
  omega
theorem real_few2 (e : Ec.Engine) {lo hi : Int} (h1 : 1 ≤ lo) (h3 : hi - lo ≤ 400) : (Ec.realL e lo hi).length ≤ 1000 := by
  have h := ecls_le e.sky e.nw e.fl (Sp.moonsL e.sky lo hi)
  have h2 := moonsN_le e.sky lo (hi + 1 - lo).toNat
  rw [show Sp.moonsN e.sky lo (hi + 1 - lo).toNat = Sp.moonsL e.sky lo hi from rfl] at h2
  show (Sp.eclsOf e.sky e.nw e.fl (Sp.moonsL e.sky lo hi)).length ≤ 1000
  omega
end Go.Proofs.YtcbodpnmndbgnaaGreatDoor
namespace Go.Proofs.YtcbodpnmndbgnaaGreatDoor
open Go.RowKit
open Sp (rd)
set_option maxRecDepth 100000
set_option maxHeartbeats 2000000
set_option linter.unusedVariables false
theorem l7_beside_any (v : Value) (l : List Sp.Ecl) (x : Sp.Ecl) (late : Int) (w : World) (hv : EclVal w v l) (hl : l.length ≤ 100000) (hd : DaysIn l) (hx : 0 ≤ x.day ∧ x.day ≤ 20000) (hla : 0 ≤ late ∧ late ≤ 30) :
    Calls Tryz.prog 55 #[v, .agg #[.int .i64 x.day, .bool x.full, .int .i64 x.far], .int .i64 late] w fun e w' => e = .returned (.bool (Ec.beside l x late)) ∧ Ext w w' := by
  obtain ⟨A1, c1, rfl, q1⟩ := hv
  rw [show Ec.beside l x late = l.any (bsP x late) from rfl]
  have HQ1 := Lib.hid q1
  have HR0 := Lib.hid (Row.new w 59 #[.int .i64 x.day, .bool x.full, .int .i64 x.far])
  have HE0 := Lib.hid ((Ext.refl w).alloc (.cells #[.int .i64 x.day, .bool x.full, .int .i64 x.far] 59))
  have HD := Lib.hid hd
  clear q1 hd
  go_enter Tryz.func55, Tryz.ntmps55
  go_wp2_with fail
  obtain ⟨W0, hW0⟩ : ∃ W0, w.alloc (.cells #[.int .i64 x.day, .bool x.full, .int .i64 x.far] 59) = W0 := ⟨_, rfl⟩
  rw [hW0] at HR0 HE0 ⊢
  clear hW0
  go_loopw [7] (fun i wr => ∃ k : Nat, k ≤ l.length ∧ i = .int .i64 k ∧ (l.take k).any (bsP x late) = false ∧ Ext W0 wr) (fun i _ => l.length - (intOf i).toNat)
  case atStart => exact ⟨0, Nat.zero_le _, rfl, by simp, Ext.refl _⟩
  case round =>
    obtain ⟨k, hk, rfl, htk, hE⟩ := hrel
    have b0 := (HR0.out.ext hE).cell
    by_cases hlt : k < l.length
    · obtain ⟨b1, o1, rfl, p1⟩ := HQ1.out (by omega)
      have a0 := hE.cell (HE0.out.cell (p1 k hlt).1)
      have a1 := hE.cell (HE0.out.cell (p1 k hlt).2.1)
      have HNX := Lib.hid (fun he => any_take hlt htk he)
      have HIN := Lib.hid (fun he => any_at (P := bsP x late) hlt he)
      have hdm := HD.out l[k] (List.getElem_mem hlt)
      have HE := Lib.hid (HE0.out.trans hE)
      have HE1 := Lib.hid hE
      clear p1 htk hE
      generalize l[k] = m at *
      obtain ⟨md, mf, mr⟩ := m
      obtain ⟨xd, xf, xr⟩ := x
      dsimp only at a0 a1 hdm hx b0
      have HPE : Hid (bsP ⟨xd, xf, xr⟩ late ⟨md, mf, mr⟩ = ((mf == xf) && (decide (xd - late ≤ md) && decide (md ≤ xd + late)))) := Lib.hid rfl
      cases hfe : (mf == xf)
      · have HX := Lib.hid (HNX.out (by rw [HPE.out, hfe]; rfl))
        clear HNX HIN HPE
        go_wp2_with fail
        go_quiet (fail)
        go_wp2_with fail
        refine ⟨⟨k + 1, by omega, by go_num, HX.out, HE1.out.drewN _⟩, by simp [intOf]; omega⟩
      · by_cases hin : xd - late ≤ md
        · by_cases hin2 : md ≤ xd + late
          · have HX := Lib.hid (HIN.out (by rw [HPE.out, hfe, decide_eq_true hin, decide_eq_true hin2]; rfl))
            have hdec : decide (xd - late ≤ md) = true := decide_eq_true hin
            have hdec2 : decide (md ≤ xd + late) = true := decide_eq_true hin2
            clear HNX HIN HPE
            go_wp2_with fail
            go_quiet (fail)
            go_wp2_with fail
            go_ret
            exact ⟨ret_bool (by rw [HX.out]), HE.out.drewN _⟩
          · have HX := Lib.hid (HNX.out (by rw [HPE.out, hfe, decide_eq_true hin, decide_eq_false hin2]; rfl))
            have hdec : decide (xd - late ≤ md) = true := decide_eq_true hin
            have hdec2 : decide (md ≤ xd + late) = false := decide_eq_false hin2
            clear HNX HIN HPE
            go_wp2_with fail
            go_quiet (fail)
            go_wp2_with fail
            refine ⟨⟨k + 1, by omega, by go_num, HX.out, HE1.out.drewN _⟩, by simp [intOf]; omega⟩
        · have HX := Lib.hid (HNX.out (by rw [HPE.out, hfe, decide_eq_false hin]; rfl))
          have hdec : decide (xd - late ≤ md) = false := decide_eq_false hin
          clear HNX HIN HPE
          go_wp2_with fail
          go_quiet (fail)
          go_wp2_with fail
          refine ⟨⟨k + 1, by omega, by go_num, HX.out, HE1.out.drewN _⟩, by simp [intOf]; omega⟩
    · obtain rfl : k = l.length := by omega
      rw [List.take_length] at htk
      have HE := Lib.hid (HE0.out.trans hE)
      have HX := Lib.hid htk
      clear hE htk
      go_wp2_with fail
      go_ret
      exact ⟨ret_bool (by rw [HX.out]), HE.out⟩
end Go.Proofs.YtcbodpnmndbgnaaGreatDoor
namespace Go.Proofs.YtcbodpnmndbgnaaGreatDoor
open Go.RowKit
open Sp (rd)
set_option maxRecDepth 100000
set_option maxHeartbeats 16000000
set_option linter.unusedVariables false
attribute [local go_sem] Oper.semAt_some
def emptyΦ (p : EP) (e : Ec.Engine) (set : List Int) (lo : Int) (hi : Int) (late : Int) (w0 : World) (i : Nat) (v : Value) (w : World) : Prop :=
  match i with
  | 0 => v = .agg #[.slice p.Ab e.sky.bodies.length p.cb, .int .i64 e.sky.nnum, .int .i64 e.sky.nden, .int .i64 e.sky.nstart, .slice p.As e.sun.length p.cs, .slice p.Am e.moon.length p.cm, .slice p.An e.node.length p.cn, .slice p.Af e.feasts.length p.cf, .int .i64 e.nw, .int .i64 e.fl, .int .i64 e.wide]
  | 1 => v = .slice p.At set.length p.ct
  | 2 => v = .int .i64 lo
  | 3 => v = .int .i64 hi
  | 4 => v = .bool true
  | 5 => v = .bool true
  | 6 => v = .int .i64 late
  | 7 => v = .bool true
  | 8 => v = .bool true
  | 9 => AskTup p e set w0 v w
  | 10 => AskTup p e set w0 v w
  | 11 => AskAgg p e set w0 v w
  | 12 => v = .int .i64 0
  | _ => AskNew w0 v w
theorem emptyΦ_mono {p : EP} {e : Ec.Engine} {set : List Int} {lo : Int} {hi : Int} {late : Int} {w0 : World} (i : Nat) (v : Value) (w w' : World) (h : emptyΦ p e set lo hi late w0 i v w) (he : Ext w w') : emptyΦ p e set lo hi late w0 i v w' := by
  unfold emptyΦ at h ⊢
  split at h <;> first
    | exact h
    | exact AskTup.ext h he
    | exact AskAgg.ext h he
    | exact AskNew.ext h he
def EmI (w : World) (base bO : Nat) (e : Ec.Engine) (set : List Int) (M : Nat) (R : List Sp.Ecl) (late : Int) (w5 : World) (pre : List Ecl1) (W : World) : Prop :=
  (∃ v, Out W base bO 50 59 3 v (Ec.without (pre.map (·.1)) R late).length (eclCells (Ec.without (pre.map (·.1)) R late))) ∧ (Below w.heap.size w W ∧ base ≤ W.heap.size) ∧ Seen e set M W ∧ ∀ k, k < bO → k ≠ M → W.heap[k]? = w5.heap[k]?
theorem emI_own {w : World} {base bO : Nat} {e : Ec.Engine} {set : List Int} {M B : Nat} {R : List Sp.Ecl} {late : Int} {w5 : World} (hB : w.heap.size ≤ B) (hM : M < B) (hO : bO ≤ B) (hb : bO ≤ base) : OwnFrom B (EmI w base bO e set M R late w5) := fun _ _ _ _ ⟨⟨v, h⟩, ⟨hb1, hz⟩, hc, hk⟩ hg hr =>
  ⟨⟨v, h.kept hg fun r e => (hr r e).2⟩, ⟨hb1.grown hg hb1.size (fun k e => Nat.le_trans hB (hr k e).1), Nat.le_trans hz hg.size⟩, hc.kept hg (fun e => by have := (hr M e.symm).1; omega), fun k h1 h2 => (hg.block k (by omega) (fun e => by have := (hr k e.symm).1; omega)).trans (hk k h1 h2)⟩
theorem emI_step {w : World} {base bO : Nat} {e : Ec.Engine} {set : List Int} {M : Nat} {R : List Sp.Ecl} {late : Int} {w5 : World} (hM : w.heap.size ≤ M) (hb : bO ≤ base) (s : List Ecl1) (A B : World) (h : EmI w base bO e set M R late w5 s A) (hm : Move e set M A B) : EmI w base bO e set M R late w5 s B :=
  let ⟨⟨v, ho⟩, ⟨hb1, hz⟩, hc, hk⟩ := h
  ⟨⟨v, hm.out hc ho⟩, ⟨hb1.trans (hm.below hM hb1.size), Nat.le_trans hz hm.size⟩, hm.cache, fun k h1 h2 => (hm.block (by omega) h2).trans (hk k h1 h2)⟩
theorem without_snoc (pre : List Ecl1) (y : Ecl1) (R : List Sp.Ecl) (late : Int) : Ec.without ((pre ++ [y]).map (·.1)) R late = if Ec.beside R y.1 late = true then Ec.without (pre.map (·.1)) R late else Ec.without (pre.map (·.1)) R late ++ [y.1] := by
  unfold Ec.without
  rw [List.map_append, List.filter_append]
  cases h : Ec.beside R y.1 late <;> simp [h]
theorem cell_same {w W : World} {p : Addr} {u : Value} (h : w.cell? p = some u) (hb : W.heap[p.block]? = w.heap[p.block]?) : W.cell? p = some u := by
  unfold World.cell? at h ⊢
  rw [hb]
  exact h
theorem EclVal.kept_but {w5 W : World} {M : Nat} {v : Value} {R : List Sp.Ecl} (h : EclVal w5 v R) (hn : ∀ p u, w5.cell? p = some u → p.block ≠ M) (hk : ∀ k, k < w5.heap.size → k ≠ M → W.heap[k]? = w5.heap[k]?) : EclVal W v R := by
  obtain ⟨A, c, rfl, q⟩ := h
  have f : ∀ p u, w5.cell? p = some u → W.cell? p = some u := fun p u hp => cell_same hp (hk _ (lt_of_cell hp) (hn p u hp))
  exact ⟨A, c, rfl, fun h0 => let ⟨b, o, e, p⟩ := q h0; ⟨b, o, e, fun k hk' => ⟨f _ _ (p k hk').1, f _ _ (p k hk').2.1, f _ _ (p k hk').2.2⟩⟩⟩
theorem e_Empty_ok (p : EP) (e : Ec.Engine) (set : List Int) (lo hi late : Int) (w : World) (hm : EngSet w p e set) (hl : EngShort e) (hs : set.length ≤ 100000) (c0 : Ec.engineOk e = true) (c1 : Ec.setOk e.feasts set = true) (c2 : Ec.isSpan lo hi = true) (c3 : Ec.isLate late = true) :
    Calls Tryz.prog 51 #[.agg #[.slice p.Ab e.sky.bodies.length p.cb, .int .i64 e.sky.nnum, .int .i64 e.sky.nden, .int .i64 e.sky.nstart, .slice p.As e.sun.length p.cs, .slice p.Am e.moon.length p.cm, .slice p.An e.node.length p.cn, .slice p.Af e.feasts.length p.cf, .int .i64 e.nw, .int .i64 e.fl, .int .i64 e.wide], .slice p.At set.length p.ct, .int .i64 lo, .int .i64 hi, .int .i64 late] w fun r w' => ∃ v, r = .returned (.tuple #[v, .int .i64 0]) ∧ EclVal w' v (Ec.emptyL e set lo hi late) ∧ Ext w w' := by
  have HM := Lib.hid hm
  have HL := Lib.hid hl
  have hK : Fine e set := ⟨c0, c1⟩
  have HR0 : Hid (Row ((w.alloc (.cells #[.slice p.Ab e.sky.bodies.length p.cb, .int .i64 e.sky.nnum, .int .i64 e.sky.nden, .int .i64 e.sky.nstart, .slice p.As e.sun.length p.cs, .slice p.Am e.moon.length p.cm, .slice p.An e.node.length p.cn, .slice p.Af e.feasts.length p.cf, .int .i64 e.nw, .int .i64 e.fl, .int .i64 e.wide] 32)).alloc (.cells #[.int .i64 late] 3)) w.heap.size 32 #[.slice p.Ab e.sky.bodies.length p.cb, .int .i64 e.sky.nnum, .int .i64 e.sky.nden, .int .i64 e.sky.nstart, .slice p.As e.sun.length p.cs, .slice p.Am e.moon.length p.cm, .slice p.An e.node.length p.cn, .slice p.Af e.feasts.length p.cf, .int .i64 e.nw, .int .i64 e.fl, .int .i64 e.wide]) := Lib.hid ((Row.new w _ _).alloc _)
  have HR1 : Hid (Row ((w.alloc (.cells #[.slice p.Ab e.sky.bodies.length p.cb, .int .i64 e.sky.nnum, .int .i64 e.sky.nden, .int .i64 e.sky.nstart, .slice p.As e.sun.length p.cs, .slice p.Am e.moon.length p.cm, .slice p.An e.node.length p.cn, .slice p.Af e.feasts.length p.cf, .int .i64 e.nw, .int .i64 e.fl, .int .i64 e.wide] 32)).alloc (.cells #[.int .i64 late] 3)) (w.heap.size + 1) 3 #[.int .i64 late]) := Lib.hid (by
    have := Row.new (w.alloc (.cells #[.slice p.Ab e.sky.bodies.length p.cb, .int .i64 e.sky.nnum, .int .i64 e.sky.nden, .int .i64 e.sky.nstart, .slice p.As e.sun.length p.cs, .slice p.Am e.moon.length p.cm, .slice p.An e.node.length p.cn, .slice p.Af e.feasts.length p.cf, .int .i64 e.nw, .int .i64 e.fl, .int .i64 e.wide] 32)) 3 #[.int .i64 late]
    simpa using this)
  have HE0 := Lib.hid (((Ext.refl w).alloc (.cells #[.slice p.Ab e.sky.bodies.length p.cb, .int .i64 e.sky.nnum, .int .i64 e.sky.nden, .int .i64 e.sky.nstart, .slice p.As e.sun.length p.cs, .slice p.Am e.moon.length p.cm, .slice p.An e.node.length p.cn, .slice p.Af e.feasts.length p.cf, .int .i64 e.nw, .int .i64 e.fl, .int .i64 e.wide] 32)).alloc (.cells #[.int .i64 late] 3))
  have hd : 1 ≤ lo ∧ lo ≤ hi ∧ hi ≤ 9000 ∧ hi - lo ≤ 400 := by
    simp only [Ec.isSpan, Sp.inR, Bool.and_eq_true, decide_eq_true_eq] at c2
    omega
  have hla : 0 ≤ late ∧ late ≤ 30 := by
    simp only [Ec.isLate, Sp.inR, Bool.and_eq_true, decide_eq_true_eq] at c3
    omega
  clear hm hl
  refine (callsIn_wide (n := 8)).1 ?_
  refine callsIn_of_wp_marks Tryz.func51 rfl trivial ?_ rfl
  simp only [Tryz.ntmps51, List.size_toArray, List.length_cons, List.length_nil, Nat.reduceAdd, Nat.reduceSub, Array.replicate_succ, Array.replicate_zero, List.push_toArray, List.append_toArray, List.nil_append, List.cons_append]
  refine wpIn_wide.2 ?_
  go_wp2_with fail
  go_step3
  go_wp2_with fail
  obtain ⟨W, hW⟩ : ∃ W, (w.alloc (.cells #[.slice p.Ab e.sky.bodies.length p.cb, .int .i64 e.sky.nnum, .int .i64 e.sky.nden, .int .i64 e.sky.nstart, .slice p.As e.sun.length p.cs, .slice p.Am e.moon.length p.cm, .slice p.An e.node.length p.cn, .slice p.Af e.feasts.length p.cf, .int .i64 e.nw, .int .i64 e.fl, .int .i64 e.wide] 32)).alloc (.cells #[.int .i64 late] 3) = W := ⟨_, rfl⟩
  rw [hW] at HR0 HR1 HE0 ⊢
  clear hW
  refine Code.wp_mono (Q := fun e' a' w' => e' = .normal ∧ ∃ M4 M5 M b, W.heap.size ≤ b ∧ W.heap.size ≤ M ∧ Ext W w' ∧ Row w' b 100 #[.slice p.Ab e.sky.bodies.length p.cb, .int .i64 e.sky.nnum, .int .i64 e.sky.nden, .int .i64 e.sky.nstart, .slice p.As e.sun.length p.cs, .slice p.Am e.moon.length p.cm, .slice p.An e.node.length p.cn, .slice p.Af e.feasts.length p.cf, .int .i64 e.nw, .int .i64 e.fl, .int .i64 e.wide, .slice p.At set.length p.ct, .map (some M)] ∧ Seen e set M w' ∧ a' = (⟨#[.agg #[.slice p.Ab e.sky.bodies.length p.cb, .int .i64 e.sky.nnum, .int .i64 e.sky.nden, .int .i64 e.sky.nstart, .slice p.As e.sun.length p.cs, .slice p.Am e.moon.length p.cm, .slice p.An e.node.length p.cn, .slice p.Af e.feasts.length p.cf, .int .i64 e.nw, .int .i64 e.fl, .int .i64 e.wide], .slice p.At set.length p.ct, .int .i64 lo, .int .i64 hi, .int .i64 late, .pointer (some ⟨w.heap.size, 0, none⟩), undef, undef, undef, .pointer (some ⟨w.heap.size + 1, 0, none⟩), .slice none 0 0, .int .i64 0, .pointer (some ⟨b, 0, none⟩), .int .i64 0, undef, undef, undef, undef, undef, .tuple #[.agg #[.slice p.Ab e.sky.bodies.length p.cb, .int .i64 e.sky.nnum, .int .i64 e.sky.nden, .int .i64 e.sky.nstart, .slice p.As e.sun.length p.cs, .slice p.Am e.moon.length p.cm, .slice p.An e.node.length p.cn, .slice p.Af e.feasts.length p.cf, .int .i64 e.nw, .int .i64 e.fl, .int .i64 e.wide, .slice p.At set.length p.ct, .map (some M5)], .int .i64 0], .agg #[.slice p.Ab e.sky.bodies.length p.cb, .int .i64 e.sky.nnum, .int .i64 e.sky.nden, .int .i64 e.sky.nstart, .slice p.As e.sun.length p.cs, .slice p.Am e.moon.length p.cm, .slice p.An e.node.length p.cn, .slice p.Af e.feasts.length p.cf, .int .i64 e.nw, .int .i64 e.fl, .int .i64 e.wide], .slice p.At set.length p.ct, .int .i64 lo, .int .i64 hi, .bool true, .bool true, .int .i64 late, .bool true, .bool true, .tuple #[.agg #[.slice p.Ab e.sky.bodies.length p.cb, .int .i64 e.sky.nnum, .int .i64 e.sky.nden, .int .i64 e.sky.nstart, .slice p.As e.sun.length p.cs, .slice p.Am e.moon.length p.cm, .slice p.An e.node.length p.cn, .slice p.Af e.feasts.length p.cf, .int .i64 e.nw, .int .i64 e.fl, .int .i64 e.wide, .slice p.At set.length p.ct, .map (some M4)], .int .i64 0], .agg #[.slice p.Ab e.sky.bodies.length p.cb, .int .i64 e.sky.nnum, .int .i64 e.sky.nden, .int .i64 e.sky.nstart, .slice p.As e.sun.length p.cs, .slice p.Am e.moon.length p.cm, .slice p.An e.node.length p.cn, .slice p.Af e.feasts.length p.cf, .int .i64 e.nw, .int .i64 e.fl, .int .i64 e.wide, .slice p.At set.length p.ct, .map (some M)], .int .i64 0, undef, undef, undef, undef, undef, undef, undef, undef, undef, undef, undef, undef, undef, undef, undef, undef, undef, undef, undef, undef, undef, undef, undef, undef, undef, undef, undef, undef, undef, undef, undef, undef, undef, undef, undef, undef, undef, undef, undef, undef, undef, undef, undef, undef, undef, undef], []⟩ : Act)) ?hq (wp_region_free_tail 14 12 (emptyΦ p e set lo hi late W) (by kernel_rfl) (by simp) (by kernel_rfl) (by kernel_rfl) (by kernel_rfl) (by kernel_rfl) emptyΦ_mono ?hob ?hQ ?hZ)
  case hob =>
    intro i o hin ho a wa hE hF
    match i, hin with
    | 0, _ =>
      obtain rfl := Option.some.inj ho
      have h0 : a.tmps[5]?.getD undef = .pointer (some ⟨w.heap.size, 0, none⟩) := evalD (hF.old 5 (by decide))
      have q := (HR0.out.ext hE).cell
      refine Ran.value rfl (v := .agg #[.slice p.Ab e.sky.bodies.length p.cb, .int .i64 e.sky.nnum, .int .i64 e.sky.nden, .int .i64 e.sky.nstart, .slice p.As e.sun.length p.cs, .slice p.Am e.moon.length p.cm, .slice p.An e.node.length p.cn, .slice p.Af e.feasts.length p.cf, .int .i64 e.nw, .int .i64 e.fl, .int .i64 e.wide]) (w1 := wa) ?_ ⟨rfl, Ext.refl _⟩
      go_simp
    | 1, _ =>
      obtain rfl := Option.some.inj ho
      have h0 : a.tmps[1]?.getD undef = .slice p.At set.length p.ct := evalD (hF.old 1 (by decide))
      refine Ran.value rfl (v := .slice p.At set.length p.ct) (w1 := wa) ?_ ⟨rfl, Ext.refl _⟩
      go_simp
    | 2, _ =>
      obtain rfl := Option.some.inj ho
      have h0 : a.tmps[2]?.getD undef = .int .i64 lo := evalD (hF.old 2 (by decide))
      refine Ran.value rfl (v := .int .i64 lo) (w1 := wa) ?_ ⟨rfl, Ext.refl _⟩
      go_simp
    | 3, _ =>
      obtain rfl := Option.some.inj ho
      have h0 : a.tmps[3]?.getD undef = .int .i64 hi := evalD (hF.old 3 (by decide))
      refine Ran.value rfl (v := .int .i64 hi) (w1 := wa) ?_ ⟨rfl, Ext.refl _⟩
      go_simp
    | 4, _ =>
      obtain rfl := Option.some.inj ho
      have h0 : a.tmps[22]?.getD undef = .int .i64 lo := evalD (hF.from_ 2 22 rfl (by decide))
      have h1 : a.tmps[23]?.getD undef = .int .i64 hi := evalD (hF.from_ 3 23 rfl (by decide))
      refine Ran.enter rfl (f := 76) (args := #[.int .i64 lo, .int .i64 hi]) (w1 := wa) ?_ ?_
      · go_simp
      · refine (e_isSpan_any lo hi _).mono ?_
        rintro r w1 ⟨rfl, rfl⟩
        exact ⟨_, rfl, by rw [c2]; rfl, Ext.refl _⟩
    | 5, _ =>
      obtain rfl := Option.some.inj ho
      have h0 : a.tmps[24]?.getD undef = .bool true := evalD (hF.from_ 4 24 rfl (by decide))
      refine Ran.value rfl (v := .bool true) (w1 := wa) ?_ ⟨rfl, Ext.refl _⟩
      go_simp
    | 6, _ =>
      obtain rfl := Option.some.inj ho
      have hg : a.eval (.tmp 25) = .bool true := hF.from_ 5 25 rfl (by decide)
      refine Ran.if_ rfl rfl rfl hg (fun _ => ?_) (fun h => absurd rfl h)
      have h0 : a.tmps[9]?.getD undef = .pointer (some ⟨w.heap.size + 1, 0, none⟩) := evalD (hF.old 9 (by decide))
      have q := (HR1.out.ext hE).cell
      refine Ran.value rfl (v := .int .i64 late) (w1 := wa) ?_ ⟨rfl, Ext.refl _⟩
      go_simp
    | 7, _ =>
      obtain rfl := Option.some.inj ho
      have hg : a.eval (.tmp 25) = .bool true := hF.from_ 5 25 rfl (by decide)
      refine Ran.if_ rfl rfl rfl hg (fun _ => ?_) (fun h => absurd rfl h)
      have h0 : a.tmps[26]?.getD undef = .int .i64 late := evalD (hF.from_ 6 26 rfl (by decide))
      refine Ran.enter rfl (f := 83) (args := #[.int .i64 late]) (w1 := wa) ?_ ?_
      · go_simp
      · refine (e_isLate_any late _).mono ?_
        rintro r w1 ⟨rfl, rfl⟩
        exact ⟨_, rfl, by rw [c3]; rfl, Ext.refl _⟩
    | 8, _ =>
      obtain rfl := Option.some.inj ho
      have h0 : a.tmps[25]?.getD undef = .bool true := evalD (hF.from_ 5 25 rfl (by decide))
      have h1 : a.tmps[27]?.getD undef = .bool true := evalD (hF.from_ 7 27 rfl (by decide))
      refine Ran.value rfl (v := .bool true) (w1 := wa) ?_ ⟨rfl, Ext.refl _⟩
      go_simp
    | 9, _ =>
      obtain rfl := Option.some.inj ho
      have h0 : a.tmps[20]?.getD undef = .agg #[.slice p.Ab e.sky.bodies.length p.cb, .int .i64 e.sky.nnum, .int .i64 e.sky.nden, .int .i64 e.sky.nstart, .slice p.As e.sun.length p.cs, .slice p.Am e.moon.length p.cm, .slice p.An e.node.length p.cn, .slice p.Af e.feasts.length p.cf, .int .i64 e.nw, .int .i64 e.fl, .int .i64 e.wide] := evalD (hF.from_ 0 20 rfl (by decide))
      have h1 : a.tmps[21]?.getD undef = .slice p.At set.length p.ct := evalD (hF.from_ 1 21 rfl (by decide))
      have h2 : a.tmps[28]?.getD undef = .bool true := evalD (hF.from_ 8 28 rfl (by decide))
      refine Ran.enter rfl (f := 69) (args := #[.agg #[.slice p.Ab e.sky.bodies.length p.cb, .int .i64 e.sky.nnum, .int .i64 e.sky.nden, .int .i64 e.sky.nstart, .slice p.As e.sun.length p.cs, .slice p.Am e.moon.length p.cm, .slice p.An e.node.length p.cn, .slice p.Af e.feasts.length p.cf, .int .i64 e.nw, .int .i64 e.fl, .int .i64 e.wide], .slice p.At set.length p.ct, .bool true]) (w1 := wa) ?_ ?_
      · go_simp
      · refine (e_asked_ok p e set wa (HM.out.ext (HE0.out.trans hE)) HL.out hs c0 c1).mono ?_
        rintro r w1 ⟨M, rfl, hM, hC, hX⟩
        exact ⟨_, rfl, ⟨M, rfl, Nat.le_trans hE.size hM, hC⟩, hX⟩
    | 10, _ =>
      obtain rfl := Option.some.inj ho
      obtain ⟨M, h0, hM, hC⟩ : AskTup p e set W (a.eval (.tmp 29)) wa := hF.from_ 9 29 rfl (by decide)
      replace h0 := evalD h0
      refine Ran.value rfl (w1 := wa) (v := .tuple #[.agg #[.slice p.Ab e.sky.bodies.length p.cb, .int .i64 e.sky.nnum, .int .i64 e.sky.nden, .int .i64 e.sky.nstart, .slice p.As e.sun.length p.cs, .slice p.Am e.moon.length p.cm, .slice p.An e.node.length p.cn, .slice p.Af e.feasts.length p.cf, .int .i64 e.nw, .int .i64 e.fl, .int .i64 e.wide, .slice p.At set.length p.ct, .map (some M)], .int .i64 0]) ?_ ⟨⟨M, rfl, hM, hC⟩, Ext.refl _⟩
      go_simp
    | 11, _ =>
      obtain rfl := Option.some.inj ho
      obtain ⟨M, h0, hM, hC⟩ : AskTup p e set W (a.eval (.tmp 19)) wa := hF.from_ 10 19 rfl (by decide)
      replace h0 := evalD h0
      refine Ran.value rfl (w1 := wa) (v := .agg #[.slice p.Ab e.sky.bodies.length p.cb, .int .i64 e.sky.nnum, .int .i64 e.sky.nden, .int .i64 e.sky.nstart, .slice p.As e.sun.length p.cs, .slice p.Am e.moon.length p.cm, .slice p.An e.node.length p.cn, .slice p.Af e.feasts.length p.cf, .int .i64 e.nw, .int .i64 e.fl, .int .i64 e.wide, .slice p.At set.length p.ct, .map (some M)]) ?_ ⟨⟨M, rfl, hM, hC⟩, Ext.refl _⟩
      go_simp
    | 12, _ =>
      obtain rfl := Option.some.inj ho
      obtain ⟨M, h0, hM, hC⟩ : AskTup p e set W (a.eval (.tmp 19)) wa := hF.from_ 10 19 rfl (by decide)
      replace h0 := evalD h0
      refine Ran.value rfl (w1 := wa) (v := .int .i64 0) ?_ ⟨rfl, Ext.refl _⟩
      go_simp
    | 13, _ =>
      obtain rfl := Option.some.inj ho
      refine Ran.value rfl (w1 := wa.alloc (.cells zeroEng 100)) (v := .pointer (some ⟨wa.heap.size, 0, none⟩)) (by kernel_rfl) ⟨⟨wa.heap.size, rfl, hE.size, Row.new _ _ _⟩, (Ext.refl _).alloc _⟩
    | k + 14, hin => omega
  case hQ =>
    intro vs w2 hE hΦ
    have f0 : vs 0 = .agg #[.slice p.Ab e.sky.bodies.length p.cb, .int .i64 e.sky.nnum, .int .i64 e.sky.nden, .int .i64 e.sky.nstart, .slice p.As e.sun.length p.cs, .slice p.Am e.moon.length p.cm, .slice p.An e.node.length p.cn, .slice p.Af e.feasts.length p.cf, .int .i64 e.nw, .int .i64 e.fl, .int .i64 e.wide] := hΦ 0 (by omega)
    have f1 : vs 1 = .slice p.At set.length p.ct := hΦ 1 (by omega)
    have f2 : vs 2 = .int .i64 lo := hΦ 2 (by omega)
    have f3 : vs 3 = .int .i64 hi := hΦ 3 (by omega)
    have f4 : vs 4 = .bool true := hΦ 4 (by omega)
    have f5 : vs 5 = .bool true := hΦ 5 (by omega)
    have f6 : vs 6 = .int .i64 late := hΦ 6 (by omega)
    have f7 : vs 7 = .bool true := hΦ 7 (by omega)
    have f8 : vs 8 = .bool true := hΦ 8 (by omega)
    obtain ⟨M4, f9, _, _⟩ : AskTup p e set W (vs 9) w2 := hΦ 9 (by omega)
    obtain ⟨M5, f10, _, _⟩ : AskTup p e set W (vs 10) w2 := hΦ 10 (by omega)
    obtain ⟨M, f11, hM, hC⟩ : AskAgg p e set W (vs 11) w2 := hΦ 11 (by omega)
    have f12 : vs 12 = .int .i64 0 := hΦ 12 (by omega)
    obtain ⟨b, f13, hb, hr⟩ : AskNew W (vs 13) w2 := hΦ 13 (by omega)
    have hrg : List.range 14 = [0, 1, 2, 3, 4, 5, 6, 7, 8, 9, 10, 11, 12, 13] := rfl
    unfold putAll putS
    simp only [List.length_cons, List.length_nil, List.take_succ_cons, List.take_zero, List.drop_succ_cons, List.drop_zero, Nat.reduceAdd, hrg, List.foldl_cons, List.foldl_nil, dstOf, List.getElem?_cons_succ, List.getElem?_cons_zero, Option.bind_some]
    clear hrg
    rw [f0, f1, f2, f3, f4, f5, f6, f7, f8, f9, f10, f11, f12, f13]
    have c := hr.cell
    simp only [zeroEng] at c
    have fz := hr.free
    have hne : b ≠ M := fun h => (hC.not_row hr) h
    go_wp2
    clear c fz
    obtain ⟨W3, hW3⟩ : ∃ W3, setsAt w2 b 0 [.slice p.Ab e.sky.bodies.length p.cb, .int .i64 e.sky.nnum, .int .i64 e.sky.nden, .int .i64 e.sky.nstart, .slice p.As e.sun.length p.cs, .slice p.Am e.moon.length p.cm, .slice p.An e.node.length p.cn, .slice p.Af e.feasts.length p.cf, .int .i64 e.nw, .int .i64 e.fl, .int .i64 e.wide, .slice p.At set.length p.ct, .map (some M)] = W3 := ⟨_, rfl⟩
    have hR3 : Row W3 b 100 #[.slice p.Ab e.sky.bodies.length p.cb, .int .i64 e.sky.nnum, .int .i64 e.sky.nden, .int .i64 e.sky.nstart, .slice p.As e.sun.length p.cs, .slice p.Am e.moon.length p.cm, .slice p.An e.node.length p.cn, .slice p.Af e.feasts.length p.cf, .int .i64 e.nw, .int .i64 e.fl, .int .i64 e.wide, .slice p.At set.length p.ct, .map (some M)] := by rw [← hW3]; exact Row.sets (cs := [.slice none 0 0, .int .i64 0, .int .i64 0, .int .i64 0, .slice none 0 0, .slice none 0 0, .slice none 0 0, .slice none 0 0, .int .i64 0, .int .i64 0, .int .i64 0, .slice none 0 0, .map none]) hr _ rfl
    have hE3 : Ext W W3 := by rw [← hW3]; exact Ext.sets hb _ _ _ hE
    have hC3 : Seen e set M W3 := by rw [← hW3]; exact Cache.sets hne _ _ _ hC
    simp only [setsAt, Nat.reduceAdd] at hW3
    try rw [hW3]
    exact ⟨M4, M5, M, b, hb, hM, hE3, hR3, hC3, by simp⟩
  case hZ =>
    intro _ vs w2 hE hΦ on oz hon hoz
    obtain rfl := Option.some.inj hon
    obtain rfl := Option.some.inj hoz
    have f0 : vs 0 = .agg #[.slice p.Ab e.sky.bodies.length p.cb, .int .i64 e.sky.nnum, .int .i64 e.sky.nden, .int .i64 e.sky.nstart, .slice p.As e.sun.length p.cs, .slice p.Am e.moon.length p.cm, .slice p.An e.node.length p.cn, .slice p.Af e.feasts.length p.cf, .int .i64 e.nw, .int .i64 e.fl, .int .i64 e.wide] := hΦ 0 (by omega) (by omega)
    have f1 : vs 1 = .slice p.At set.length p.ct := hΦ 1 (by omega) (by omega)
    have f2 : vs 2 = .int .i64 lo := hΦ 2 (by omega) (by omega)
    have f3 : vs 3 = .int .i64 hi := hΦ 3 (by omega) (by omega)
    have f4 : vs 4 = .bool true := hΦ 4 (by omega) (by omega)
    have f5 : vs 5 = .bool true := hΦ 5 (by omega) (by omega)
    have f6 : vs 6 = .int .i64 late := hΦ 6 (by omega) (by omega)
    have f7 : vs 7 = .bool true := hΦ 7 (by omega) (by omega)
    have f8 : vs 8 = .bool true := hΦ 8 (by omega) (by omega)
    obtain ⟨M4, f9, _, _⟩ : AskTup p e set W (vs 9) w2 := hΦ 9 (by omega) (by omega)
    obtain ⟨M5, f10, _, _⟩ : AskTup p e set W (vs 10) w2 := hΦ 10 (by omega) (by omega)
    obtain ⟨M, f11, hM, hC⟩ : AskAgg p e set W (vs 11) w2 := hΦ 11 (by omega) (by omega)
    obtain ⟨b, f13, hb, hr⟩ : AskNew W (vs 13) w2 := hΦ 13 (by omega) (by omega)
    have hrg : (List.range 14).filter (· ≠ 12) = [0, 1, 2, 3, 4, 5, 6, 7, 8, 9, 10, 11, 13] := by decide
    rw [hrg]
    unfold putS
    simp only [List.take_succ_cons, List.take_zero, List.drop_succ_cons, List.drop_zero, Nat.reduceAdd, List.foldl_cons, List.foldl_nil, dstOf, List.getElem?_cons_succ, List.getElem?_cons_zero, Option.bind_some]
    clear hrg
    rw [f0, f1, f2, f3, f4, f5, f6, f7, f8, f9, f10, f11, f13]
    have c := hr.cell
    simp only [zeroEng] at c
    have fz := hr.free
    have hne : b ≠ M := fun h => (hC.not_row hr) h
    go_wp2
    clear c fz
    obtain ⟨W3, hW3⟩ : ∃ W3, setsAt w2 b 0 [.slice p.Ab e.sky.bodies.length p.cb, .int .i64 e.sky.nnum, .int .i64 e.sky.nden, .int .i64 e.sky.nstart, .slice p.As e.sun.length p.cs, .slice p.Am e.moon.length p.cm, .slice p.An e.node.length p.cn, .slice p.Af e.feasts.length p.cf, .int .i64 e.nw, .int .i64 e.fl, .int .i64 e.wide, .slice p.At set.length p.ct, .map (some M)] = W3 := ⟨_, rfl⟩
    have hR3 : Row W3 b 100 #[.slice p.Ab e.sky.bodies.length p.cb, .int .i64 e.sky.nnum, .int .i64 e.sky.nden, .int .i64 e.sky.nstart, .slice p.As e.sun.length p.cs, .slice p.Am e.moon.length p.cm, .slice p.An e.node.length p.cn, .slice p.Af e.feasts.length p.cf, .int .i64 e.nw, .int .i64 e.fl, .int .i64 e.wide, .slice p.At set.length p.ct, .map (some M)] := by rw [← hW3]; exact Row.sets (cs := [.slice none 0 0, .int .i64 0, .int .i64 0, .int .i64 0, .slice none 0 0, .slice none 0 0, .slice none 0 0, .slice none 0 0, .int .i64 0, .int .i64 0, .int .i64 0, .slice none 0 0, .map none]) hr _ rfl
    have hE3 : Ext W W3 := by rw [← hW3]; exact Ext.sets hb _ _ _ hE
    have hC3 : Seen e set M W3 := by rw [← hW3]; exact Cache.sets hne _ _ _ hC
    simp only [setsAt, Nat.reduceAdd] at hW3
    try rw [hW3]
    exact ⟨M4, M5, M, b, hb, hM, hE3, hR3, hC3, by simp⟩
  case hq =>
    rintro e' a' w3 ⟨rfl, M4, M5, M, b, hb, hM, hE3, hR3, hC3, rfl⟩
    have c := hR3.cell
    have HE3 := Lib.hid (HE0.out.trans hE3)
    have HL3 := Lib.hid (HR1.out.ext hE3)
    have HR3 := Lib.hid hR3
    have HC3 := Lib.hid hC3
    have cl := HL3.out.cell
    clear hE3 hR3 hC3
    go_wp2_with fail
    refine (e_real_any p e set M (lo - late) (hi + late) _ hK (HM.out.ext HE3.out) HL.out.sky (by omega) (by omega) (by omega) (by omega) (by omega)).mono ?_
    rintro r w4 ⟨v1, rfl, hv1, hE4⟩
    clear c cl
    obtain ⟨A1, cp1, rfl, q1⟩ := hv1
    obtain ⟨R, hR⟩ : ∃ R, Ec.realL e (max 1 (lo - late)) (hi + late) = R := ⟨_, rfl⟩
    have HRL := Lib.hid hR
    rw [hR] at q1 ⊢
    clear hR
    have HE4 := Lib.hid (HE3.out.trans hE4)
    have HR4 := Lib.hid (HR3.out.ext hE4)
    have HL4 := Lib.hid (HL3.out.ext hE4)
    have HC4 := Lib.hid (HC3.out.ext hE4)
    have HQ4 := Lib.hid q1
    clear hE4 q1 HR3 HL3 HC3 HE3
    have x1 := HE4.out.alloc (.cells #[.slice A1 R.length cp1] 50)
    have x2 := HR4.out.alloc (.cells #[.slice A1 R.length cp1] 50)
    have x3 := HL4.out.alloc (.cells #[.slice A1 R.length cp1] 50)
    have x4 := HC4.out.ext ((Ext.refl w4).alloc (.cells #[.slice A1 R.length cp1] 50))
    have x5 := Row.new w4 50 #[.slice A1 R.length cp1]
    have x6 : EclVal (w4.alloc (.cells #[.slice A1 R.length cp1] 50)) (.slice A1 R.length cp1) R := EclVal.ext ⟨A1, cp1, rfl, HQ4.out⟩ ((Ext.refl w4).alloc _)
    have x7 : w4.heap.size + 1 = (w4.alloc (.cells #[.slice A1 R.length cp1] 50)).heap.size := by simp
    have hltb := lts HR4.out.lt
    go_wp2_with fail
    obtain ⟨w5, hw5⟩ : ∃ W, w4.alloc (.cells #[.slice A1 R.length cp1] 50) = W := ⟨_, rfl⟩
    rw [hw5] at x1 x2 x3 x4 x5 x6 x7 ⊢
    clear hw5
    have HE5 := Lib.hid x1
    have HR5 := Lib.hid x2
    have HL5 := Lib.hid x3
    have HC5 := Lib.hid x4
    have H14 := Lib.hid x5
    have HV5 := Lib.hid x6
    have c := x2.cell
    have HO := Lib.hid (Out.new w5 (w5.heap.size + 4) 50 59 3)
    have HC6 := Lib.hid (x4.ext ((Ext.refl w5).alloc (.cells #[.slice none 0 0] 50)))
    have HE6 := Lib.hid (x1.alloc (.cells #[.slice none 0 0] 50))
    have hlt := lts x2.lt
    clear x1 x2 x3 x4 x5 x6 hltb
    go_wp2_with fail
    go_step3
    go_wp2_with fail
    refine (e_foretold_any p e set M lo hi _).mono ?_
    rintro r w7 ⟨rfl, rfl⟩
    have hz4 : (w5.alloc (.cells #[.slice none 0 0] 50)).heap.size = w5.heap.size + 1 := World.size_alloc _ _
    have HI := Lib.hid (foreIn_new (p := p) lo hi HE6.out HC6.out)
    have HF := Lib.hid (foreW_F p e set M lo hi (w5.alloc (.cells #[.slice none 0 0] 50)))
    have HO5 := Lib.hid (HO.out.ext (foreW_ext p e set M lo hi (w5.alloc (.cells #[.slice none 0 0] 50))))
    have HX7 := Lib.hid (((Ext.refl w5).alloc (.cells #[.slice none 0 0] 50)).trans (foreW_ext p e set M lo hi (w5.alloc (.cells #[.slice none 0 0] 50))))
    have hsz := foreW_size p e set M lo hi (w5.alloc (.cells #[.slice none 0 0] 50))
    have hM3 := HC5.out.lt
    have hMO : M ≠ w5.heap.size := by omega
    have hw3 := HE5.out.size
    have hMw := Nat.le_trans HE0.out.size hM
    obtain ⟨W7, hW7⟩ : ∃ W7, foreW p e set M lo hi (w5.alloc (.cells #[.slice none 0 0] 50)) = W7 := ⟨_, rfl⟩
    rw [hW7] at HI HF HO5 HX7 hsz ⊢
    clear hW7 c HC6 HO
    rw [hz4] at HI HF hsz ⊢
    go_wp2_with fail
    refine (wpIn_wide (n := 8)).1 ?_
    have HRD : Hid (DaysIn R) := Lib.hid (by rw [← HRL.out]; exact real_days e (by omega) (by omega))
    have hRln : R.length ≤ 100000 := by rw [← HRL.out]; exact real_few e (by omega) (by omega)
    have hkeep7 : ∀ k, k < w5.heap.size → k ≠ M → W7.heap[k]? = w5.heap[k]? := fun k h1 _ => HX7.out.block k h1
    refine wpIn_range_step rfl (by omega) (gf := 133) (lb := #[.pointer (some ⟨w5.heap.size + 1 + 1, 0, none⟩), .pointer (some ⟨w5.heap.size + 1 + 2, 0, none⟩), .pointer (some ⟨w5.heap.size + 1, 0, none⟩)]) rfl trivial (enters_of Tryz.func133 (by kernel_rfl) rfl)
      (fun W' hW' => fore_seq (8 - 1) (by omega) p e set M lo hi w hK HM.out hMw (by omega) (by omega) (by omega) (by omega) (w5.heap.size + 1) W7 HF.out HI.out W' hW')
      (fun h k => keepsEng_t h k) (fun W l o o' h1 h2 h3 h4 => keepsEng_b (by omega) (by omega) (by omega) (by omega) W l o o' h1 h2 h3 h4)
      (fun A B h => Step.keeps h (by omega)) (fun _ => rfl)
      (EmI w (w5.heap.size + 4) w5.heap.size e set M R late w5)
      (fun _ _ _ => False)
      (emI_own (by omega) (by omega) (by omega) (by omega))
      (fun _ _ _ _ _ hs _ _ => hs)
      (emI_step hMw (by omega))
      ⟨⟨_, HO5.out⟩, ⟨HI.out.ext, by omega⟩, HI.out.cache, hkeep7⟩
      (fun x a' W => ∃ Bx, Row W Bx 59 #[.int .i64 x.1.day, .bool x.1.full, .int .i64 x.1.far] ∧ a' = (⟨#[.agg #[.slice p.Ab e.sky.bodies.length p.cb, .int .i64 e.sky.nnum, .int .i64 e.sky.nden, .int .i64 e.sky.nstart, .slice p.As e.sun.length p.cs, .slice p.Am e.moon.length p.cm, .slice p.An e.node.length p.cn, .slice p.Af e.feasts.length p.cf, .int .i64 e.nw, .int .i64 e.fl, .int .i64 e.wide], .slice p.At set.length p.ct, .int .i64 lo, .int .i64 hi, .int .i64 late, .pointer (some ⟨w.heap.size, 0, none⟩), undef, undef, undef, .pointer (some ⟨w.heap.size + 1, 0, none⟩), .slice none 0 0, .int .i64 0, .pointer (some ⟨b, 0, none⟩), .int .i64 0, .pointer (some ⟨w4.heap.size, 0, none⟩), .pointer (some ⟨w5.heap.size, 0, none⟩), .pointer (some ⟨Bx, 0, none⟩), undef, undef, .tuple #[.agg #[.slice p.Ab e.sky.bodies.length p.cb, .int .i64 e.sky.nnum, .int .i64 e.sky.nden, .int .i64 e.sky.nstart, .slice p.As e.sun.length p.cs, .slice p.Am e.moon.length p.cm, .slice p.An e.node.length p.cn, .slice p.Af e.feasts.length p.cf, .int .i64 e.nw, .int .i64 e.fl, .int .i64 e.wide, .slice p.At set.length p.ct, .map (some M5)], .int .i64 0], .agg #[.slice p.Ab e.sky.bodies.length p.cb, .int .i64 e.sky.nnum, .int .i64 e.sky.nden, .int .i64 e.sky.nstart, .slice p.As e.sun.length p.cs, .slice p.Am e.moon.length p.cm, .slice p.An e.node.length p.cn, .slice p.Af e.feasts.length p.cf, .int .i64 e.nw, .int .i64 e.fl, .int .i64 e.wide], .slice p.At set.length p.ct, .int .i64 lo, .int .i64 hi, .bool true, .bool true, .int .i64 late, .bool true, .bool true, .tuple #[.agg #[.slice p.Ab e.sky.bodies.length p.cb, .int .i64 e.sky.nnum, .int .i64 e.sky.nden, .int .i64 e.sky.nstart, .slice p.As e.sun.length p.cs, .slice p.Am e.moon.length p.cm, .slice p.An e.node.length p.cn, .slice p.Af e.feasts.length p.cf, .int .i64 e.nw, .int .i64 e.fl, .int .i64 e.wide, .slice p.At set.length p.ct, .map (some M4)], .int .i64 0], .agg #[.slice p.Ab e.sky.bodies.length p.cb, .int .i64 e.sky.nnum, .int .i64 e.sky.nden, .int .i64 e.sky.nstart, .slice p.As e.sun.length p.cs, .slice p.Am e.moon.length p.cm, .slice p.An e.node.length p.cn, .slice p.Af e.feasts.length p.cf, .int .i64 e.nw, .int .i64 e.fl, .int .i64 e.wide, .slice p.At set.length p.ct, .map (some M)], .int .i64 0, .int .i64 0, .bool false, undef, .agg #[.slice p.Ab e.sky.bodies.length p.cb, .int .i64 e.sky.nnum, .int .i64 e.sky.nden, .int .i64 e.sky.nstart, .slice p.As e.sun.length p.cs, .slice p.Am e.moon.length p.cm, .slice p.An e.node.length p.cn, .slice p.Af e.feasts.length p.cf, .int .i64 e.nw, .int .i64 e.fl, .int .i64 e.wide, .slice p.At set.length p.ct, .map (some M)], .int .i64 lo, .int .i64 late, .int .i64 (lo - late), .int .i64 hi, .int .i64 late, .int .i64 (hi + late), .slice A1 R.length cp1, .agg #[.slice p.Ab e.sky.bodies.length p.cb, .int .i64 e.sky.nnum, .int .i64 e.sky.nden, .int .i64 e.sky.nstart, .slice p.As e.sun.length p.cs, .slice p.Am e.moon.length p.cm, .slice p.An e.node.length p.cn, .slice p.Af e.feasts.length p.cf, .int .i64 e.nw, .int .i64 e.fl, .int .i64 e.wide, .slice p.At set.length p.ct, .map (some M)], .int .i64 lo, .int .i64 hi, foreV (w5.heap.size + 1), .agg #[.int .i64 x.1.day, .bool x.1.full, .int .i64 x.1.far], undef, undef, undef, undef, undef, undef, undef, undef, undef, undef, undef, undef, undef, undef, undef, undef, undef, undef, undef, undef, undef, undef, undef, undef, undef, undef, undef, undef, undef, undef], []⟩ : Act))
      (fun x a' _ X Y row hs hg hr => by obtain ⟨Bx, h1, h2⟩ := hs; exact ⟨Bx, h1.kept hg fun r e => (hr r e).2, h2⟩)
      ?assign ?body ?done ?stop
    case assign =>
      rintro l pre x W K hi' hK'
      simp only [eclV]
      gi_wp2
      obtain ⟨⟨v, hO⟩, ⟨hB, hz⟩, hC, hKp⟩ := hi'
      have hMl := hC.lt
      exact hK' _ _ ((KeepsOthers.alloc _ _).from _) ⟨(Below.refl _ _).alloc (by omega) _, Below.heap_alloc _ _ _ (by omega), Below.heap_alloc _ _ _ (by omega), Below.heap_alloc _ _ _ (by omega)⟩
        ⟨⟨v, hO.ext ((Ext.refl _).alloc _)⟩, ⟨hB.alloc hB.size _, by simp; omega⟩, hC.ext ((Ext.refl _).alloc _), fun k h1 h2 => (Below.heap_alloc _ _ _ (by omega)).trans (hKp k h1 h2)⟩ ⟨_, Row.new _ _ _, rfl⟩
    case body =>
      rintro l pre x a' W hl' ⟨⟨v, hO⟩, ⟨hB, hz⟩, hC, hKp⟩ ⟨Bx, rX, rfl⟩ hlt
      have hMl := hC.lt
      have hln := foreN_len e set (max 1 lo) (hi + 1 - max 1 lo).toNat
      have hpl : pre.length < 1000 := by unfold Ec.foreL at hlt; omega
      obtain ⟨i0, hi0, hz0, hz1, hz2⟩ := info_parts info_ecl
      have r14 : Row W w4.heap.size 50 #[.slice A1 R.length cp1] := (hKp _ H14.out.lt (HC5.out.not_row H14.out)).trans H14.out
      have rL : Row W (w.heap.size + 1) 3 #[.int .i64 late] := (hKp _ HL5.out.lt (HC5.out.not_row HL5.out)).trans HL5.out
      have hV : EclVal W (.slice A1 R.length cp1) R := HV5.out.kept_but (fun p u hp => HC5.out.not_cell hp) hKp
      obtain ⟨A2, cp2, hA2, qR⟩ := hV
      obtain ⟨rfl, rfl⟩ : A1 = A2 ∧ cp1 = cp2 := by cases hA2; exact ⟨rfl, rfl⟩
      have HQR := Lib.hid qR
      clear hA2 qR hln hlt
      have b14 := r14.cell
      have bX := rX.cell
      have HRX := Lib.hid rX
      have HRLt := Lib.hid rL
      have HO := Lib.hid hO
      have hjx := lts rX.lt
      obtain ⟨⟨yd, yf, yr⟩, hy⟩ := x
      dsimp only at bX HRX hy ⊢
      gi_wp2
      clear b14 bX
      gi_loopw [50] (fun i wr => ∃ k : Nat, k ≤ R.length ∧ i = .int .i64 (k : Int) ∧ (R.take k).any (bsP ⟨yd, yf, yr⟩ late) = false ∧ Ext W wr) (fun i _ => R.length - (intOf i).toNat)
      case atStart => exact ⟨0, Nat.zero_le _, rfl, rfl, Ext.refl _⟩
      case round =>
        obtain ⟨k, hk, rfl, htk, hX⟩ := hrel
        have HX := Lib.hid hX
        by_cases hkl : k < R.length
        · obtain ⟨b1, o1, rfl, p1⟩ := HQR.out (by omega)
          have a0 := hX.cell (p1 k hkl).1
          have a1 := hX.cell (p1 k hkl).2.1
          have a2 := hX.cell (p1 k hkl).2.2
          have HNX := Lib.hid (fun he => any_take hkl htk he)
          have HIN := Lib.hid (fun he => any_at (P := bsP ⟨yd, yf, yr⟩ late) hkl he)
          have hdm : 0 ≤ (R[k]).day ∧ (R[k]).day ≤ 20000 := HRD.out _ (List.getElem_mem hkl)
          clear p1 htk hX
          generalize R[k] = m at *
          obtain ⟨md, mf, mr⟩ := m
          dsimp only at a0 a1 a2 hdm
          have HPE : Hid (bsP ⟨yd, yf, yr⟩ late ⟨md, mf, mr⟩ = ((mf == yf) && Sp.inR md (yd - late) (yd + late))) := Lib.hid rfl
          have rX2 := (HRX.out.ext HX.out).alloc (.cells #[.int .i64 md, .bool mf, .int .i64 mr] 59)
          have rL2 := (HRLt.out.ext HX.out).alloc (.cells #[.int .i64 md, .bool mf, .int .i64 mr] 59)
          have rN := Row.new wr 59 #[.int .i64 md, .bool mf, .int .i64 mr]
          have HXN := Lib.hid (HX.out.alloc (.cells #[.int .i64 md, .bool mf, .int .i64 mr] 59))
          have bX := rX2.cell
          have bL := rL2.cell
          have bN := rN.cell
          cases hfe : (mf == yf)
          · have HX3 := Lib.hid (HNX.out (by rw [HPE.out, hfe]; rfl))
            clear HNX HIN HPE
            gi_wp2
            refine ⟨trivial, ?_⟩
            gi_wp2
            go_roundw
            case rel => exact ⟨k + 1, by omega, by go_num, HX3.out, HXN.out⟩
            case measure => simp [intOf]; omega
          · cases hin : Sp.inR md (yd - late) (yd + late)
            · have HX3 := Lib.hid (HNX.out (by rw [HPE.out, hfe, hin]; rfl))
              clear HNX HIN HPE
              gi_wp2
              refine ⟨trivial, CallsIn.inRound l ((callsIn_wide.2 (e_in_any md (yd - late) (yd + late) _)).mono ?_)⟩
              rintro r w' ⟨rfl, rfl⟩
              rw [hin]
              gi_wp2
              go_roundw
              case rel => exact ⟨k + 1, by omega, by go_num, HX3.out, HXN.out⟩
              case measure => simp [intOf]; omega
            · have HX3 := Lib.hid (HIN.out (by rw [HPE.out, hfe, hin]; rfl))
              clear HNX HIN HPE
              gi_wp2
              refine ⟨trivial, CallsIn.inRound l ((callsIn_wide.2 (e_in_any md (yd - late) (yd + late) _)).mono ?_)⟩
              rintro r w' ⟨rfl, rfl⟩
              rw [hin]
              gi_wp2
              have hP := Push.of_ext (bO := w5.heap.size) (v := v) HXN.out
              refine ⟨Push.keepsFrom HO.out hP _, ⟨hP.below HO.out (N := w.heap.size) (by omega) (by omega) hz, Push.old HO.out hP (by omega) hz (by omega), Push.old HO.out hP (by omega) hz (by omega), Push.old HO.out hP (by omega) hz (by omega)⟩, ⟨v, ?_⟩, ⟨hB.trans (hP.below HO.out (N := w.heap.size) (by omega) (by omega) hz), Nat.le_trans hz hP.size⟩, hC.of_block (Push.old HO.out hP (by omega) hz (by omega)), fun k h1 h2 => (Push.old HO.out hP (by omega) hz (by omega)).trans (hKp k h1 h2)⟩
              have := HO.out.ext HXN.out
              rw [without_snoc, if_pos (show Ec.beside R ⟨yd, yf, yr⟩ late = true from HX3.out)]
              exact this
        · obtain rfl : k = R.length := by omega
          rw [List.take_length] at htk
          have HBE := Lib.hid htk
          have hOr := HO.out.ext hX
          have HOr := Lib.hid hOr
          have hzr := hX.size
          have hO5 := hOr.ext ((Ext.refl _).alloc (.cells #[.int .i64 yd, .bool yf, .int .i64 yr] 59))
          have rXr := HRX.out.ext hX
          have r0 := rXr.cell
          have rO := hOr.box.cell 0
          have hlw : (Ec.without (pre.map (·.1)) R late).length ≤ 1000 := Nat.le_trans (List.length_filter_le ..) (by rw [List.length_map]; omega)
          simp only [List.getElem?_toArray, List.getElem?_cons_zero] at rO
          clear htk hX hOr
          gi_wp2_with (gi_at_builtin; refine wpListIn_append_own_at _ rfl _ _ 50 rfl (w5.heap.size + 4) 59 i0 _ 3 24 Tryz.underlying50 hi0 hz0 hz1 hz2 rfl (by decide) v _ _ rfl hO5.own ⟨wr.heap.size, 0, none⟩ 1 1 [.int .i64 yd, .bool yf, .int .i64 yr] rfl rfl (World.news_of_block (cs := #[.int .i64 yd, .bool yf, .int .i64 yr]) (t := 59) (fr := (0, 0)) (heap_alloc_new _ _)) (by simp [Value.oneCell']) (by simp only [maxLen]; omega) (by omega) (by simp; omega) ?_; intro v' w8 hown1 hgrow _ hat; obtain ⟨gg, cap, rfl⟩ := ownsRow_succ hown1; have hc3 := grown_cell hgrow hO5.box hO5.ne 0; have hf3 := grown_free hgrow hO5.box hO5.ne 0; simp only [List.getElem?_toArray, List.getElem?_cons_zero] at hc3)
          have hat' : v.ownBlock = some gg ∨ gg = (wr.alloc (.cells #[.int .i64 yd, .bool yf, .int .i64 yr] 59)).heap.size := by
            rcases hat with e | e
            · exact .inl e.symm
            · exact .inr (by simpa [Value.ownBlock] using e)
          have hpush := hO5.pushed (Ext.refl _) hown1 hgrow hat'
          have hP := (Push.of_ext (bO := w5.heap.size) (v := v) (HX.out.alloc (.cells #[.int .i64 yd, .bool yf, .int .i64 yr] 59))).trans hpush.2
          refine ⟨Push.keepsFrom HO.out hP _, ⟨hP.below HO.out (N := w.heap.size) (by omega) (by omega) hz, Push.old HO.out hP (by omega) hz (by omega), Push.old HO.out hP (by omega) hz (by omega), Push.old HO.out hP (by omega) hz (by omega)⟩, ⟨.slice (some ⟨gg, 0, none⟩) ((Ec.without (pre.map (·.1)) R late).length + 1) cap, ?_⟩, ⟨hB.trans (hP.below HO.out (N := w.heap.size) (by omega) (by omega) hz), Nat.le_trans hz hP.size⟩, hC.of_block (Push.old HO.out hP (by omega) hz (by omega)), fun k h1 h2 => (Push.old HO.out hP (by omega) hz (by omega)).trans (hKp k h1 h2)⟩
          rw [without_snoc, if_neg (show ¬ Ec.beside R ⟨yd, yf, yr⟩ late = true by rw [show Ec.beside R ⟨yd, yf, yr⟩ late = false from HBE.out]; decide)]
          simpa [eclCells] using hpush.1
    case done =>
      rintro D xs W hD hS ⟨⟨v, hO⟩, ⟨hB, hz⟩, hC, hKp⟩ hK'
      have cO := hO.box.cell 0
      simp only [List.getElem?_toArray, List.getElem?_cons_zero] at cO
      go_wp2_with fail
      refine ⟨by simp, .inl ⟨_, _, rfl, run_takeDeferred hK', ?_⟩⟩
      refine ⟨_, results_tmp2 rfl _ _ _, v, rfl, ?_, ?_⟩
      · have := (hO.kept (grownBy_putObj' W D (.deferred none)) (fun r e => by cases e; exact ⟨_, hK', rfl⟩)).own
        have hx : max 1 lo = lo := by omega
        unfold ForeAll at hS
        rw [hx] at hS
        rw [hS, ← HRL.out] at this
        exact EclVal.of_own this
      · exact hB.grown (grownBy_putObj' W D (.deferred none)) hB.size (fun k e => by cases e; omega)
    case stop =>
      rintro D c' pre W _ _ h _
      exact h.elim
end Go.Proofs.YtcbodpnmndbgnaaGreatDoor
