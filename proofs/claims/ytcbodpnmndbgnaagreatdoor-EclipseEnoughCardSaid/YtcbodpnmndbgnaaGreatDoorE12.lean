/- Volume 12 of the texts that the laws of this seat use: EcRef2 EcOpen EcLaws0 EcRef3 EcRef4 EcLaws2 EcLaws3: walks of the program's functions, and plain laws. -/
import Derived.Carry
import Derived.ProofKit
import Derived.Deep.Slices
import Derived.Stop.LaidErr
import Derived.Lib.LaidTab
import Derived.Deep.DeepHandedRow
import Derived.WalkKit
import Derived.Shelf.Vars
import Derived.Test.YtcbodpnmndbgnaaGreatDoorE11
import Derived.Test.YtcbodpnmndbgnaaGreatDoorE04
import Derived.Test.YtcbodpnmndbgnaaGreatDoorE06
import Derived.Test.YtcbodpnmndbgnaaGreatDoorCards
import Derived.Test.YtcbodpnmndbgnaaGreatDoorTie
namespace Go.Proofs.YtcbodpnmndbgnaaGreatDoor
open Go.RowKit
open Sp (rd)
set_option maxRecDepth 100000
set_option maxHeartbeats 2000000
set_option linter.unusedVariables false
theorem r7_Engine_any (p : EP) (e : Ec.Engine) (w : World) (hm : EngAt w p e) (hl : EngShort e) :
    Calls Tryz.prog 16 #[.agg #[.slice p.Ab e.sky.bodies.length p.cb, .int .i64 e.sky.nnum, .int .i64 e.sky.nden, .int .i64 e.sky.nstart, .slice p.As e.sun.length p.cs, .slice p.Am e.moon.length p.cm, .slice p.An e.node.length p.cn, .slice p.Af e.feasts.length p.cf, .int .i64 e.nw, .int .i64 e.fl, .int .i64 e.wide]] w fun r w' => r = .returned (.bool (Ec.engineOk e)) ∧ Ext w w' := by
  have HM := Lib.hid hm
  have HL := Lib.hid hl
  clear hm hl
  have HR0 : Hid (Row (w.alloc (.cells #[.slice p.Ab e.sky.bodies.length p.cb, .int .i64 e.sky.nnum, .int .i64 e.sky.nden, .int .i64 e.sky.nstart, .slice p.As e.sun.length p.cs, .slice p.Am e.moon.length p.cm, .slice p.An e.node.length p.cn, .slice p.Af e.feasts.length p.cf, .int .i64 e.nw, .int .i64 e.fl, .int .i64 e.wide] 32)) w.heap.size 32 #[.slice p.Ab e.sky.bodies.length p.cb, .int .i64 e.sky.nnum, .int .i64 e.sky.nden, .int .i64 e.sky.nstart, .slice p.As e.sun.length p.cs, .slice p.Am e.moon.length p.cm, .slice p.An e.node.length p.cn, .slice p.Af e.feasts.length p.cf, .int .i64 e.nw, .int .i64 e.fl, .int .i64 e.wide]) := Lib.hid (Row.new w _ _)
  have HE0 : Hid (Ext w (w.alloc (.cells #[.slice p.Ab e.sky.bodies.length p.cb, .int .i64 e.sky.nnum, .int .i64 e.sky.nden, .int .i64 e.sky.nstart, .slice p.As e.sun.length p.cs, .slice p.Am e.moon.length p.cm, .slice p.An e.node.length p.cn, .slice p.Af e.feasts.length p.cf, .int .i64 e.nw, .int .i64 e.fl, .int .i64 e.wide] 32))) := Lib.hid ((Ext.refl w).alloc _)
  go_enter Tryz.func16, Tryz.ntmps16
  have b0 := HR0.out.cell
  go_wp2_with fail
  refine (r_Sky_any e.sky p.Ab p.cb _ (HM.out.ext HE0.out).bodies HL.out.sky).mono ?_
  rintro r w1 ⟨rfl, hE1⟩
  have HE1 := Lib.hid (HE0.out.trans hE1)
  have HR1 := Lib.hid (HR0.out.ext hE1)
  clear b0 hE1
  have b1 := HR1.out.cell
  cases hsky : Sp.skyOk e.sky with
  | false =>
    have HN : Hid (Ec.engineOk e = false) := Lib.hid (by simp [Ec.engineOk, hsky])
    go_wp2_with fail
    go_ret
    exact ⟨ret_bool (by rw [HN.out]), HE1.out⟩
  | true =>
    go_wp2_with fail
    refine (r1_Train_any p.As p.cs e.sun _ (HM.out.ext HE1.out).sun HL.out.sun).mono ?_
    rintro r w' ⟨rfl, rfl⟩
    cases hsun : Ec.trainOk e.sun with
    | false =>
      have HN : Hid (Ec.engineOk e = false) := Lib.hid (by simp [Ec.engineOk, hsun])
      go_wp2_with fail
      go_ret
      exact ⟨ret_bool (by rw [HN.out]), HE1.out⟩
    | true =>
      go_wp2_with fail
      refine (r1_Train_any p.Am p.cm e.moon _ (HM.out.ext HE1.out).moon HL.out.moon).mono ?_
      rintro r w' ⟨rfl, rfl⟩
      cases hmoon : Ec.trainOk e.moon with
      | false =>
        have HN : Hid (Ec.engineOk e = false) := Lib.hid (by simp [Ec.engineOk, hmoon])
        go_wp2_with fail
        go_ret
        exact ⟨ret_bool (by rw [HN.out]), HE1.out⟩
      | true =>
        go_wp2_with fail
        refine (r1_Train_any p.An p.cn e.node _ (HM.out.ext HE1.out).node HL.out.node).mono ?_
        rintro r w' ⟨rfl, rfl⟩
        cases hnode : Ec.trainOk e.node with
        | false =>
          have HN : Hid (Ec.engineOk e = false) := Lib.hid (by simp [Ec.engineOk, hnode])
          go_wp2_with fail
          go_ret
          exact ⟨ret_bool (by rw [HN.out]), HE1.out⟩
        | true =>
          go_wp2_with fail
          refine (r1_Feasts_any p.Af p.cf e.feasts _ (HM.out.ext HE1.out).feasts HL.out.feasts).mono ?_
          rintro r w2 ⟨rfl, hE2⟩
          have HE2 := Lib.hid (HE1.out.trans hE2)
          have HR2 := Lib.hid (HR1.out.ext hE2)
          clear b1 hE2
          have b2 := HR2.out.cell
          cases hfeasts : Ec.feastsOk e.feasts with
          | false =>
            have HN : Hid (Ec.engineOk e = false) := Lib.hid (by simp [Ec.engineOk, hfeasts])
            go_wp2_with fail
            go_ret
            exact ⟨ret_bool (by rw [HN.out]), HE2.out⟩
          | true =>
            go_wp2_with fail
            refine (r_Limit_any _ _).mono ?_
            rintro r w' ⟨rfl, rfl⟩
            cases hnw : Sp.isLimit e.nw with
            | false =>
              have HN : Hid (Ec.engineOk e = false) := Lib.hid (by simp [Ec.engineOk, hnw])
              go_wp2_with fail
              go_ret
              exact ⟨ret_bool (by rw [HN.out]), HE2.out⟩
            | true =>
              go_wp2_with fail
              refine (r_Limit_any _ _).mono ?_
              rintro r w' ⟨rfl, rfl⟩
              cases hfl : Sp.isLimit e.fl with
              | false =>
                have HN : Hid (Ec.engineOk e = false) := Lib.hid (by simp [Ec.engineOk, hfl])
                go_wp2_with fail
                go_ret
                exact ⟨ret_bool (by rw [HN.out]), HE2.out⟩
              | true =>
                go_wp2_with fail
                refine (r_Limit_any _ _).mono ?_
                rintro r w' ⟨rfl, rfl⟩
                cases hwide : Sp.isLimit e.wide with
                | false =>
                  have HN : Hid (Ec.engineOk e = false) := Lib.hid (by simp [Ec.engineOk, hwide])
                  go_wp2_with fail
                  go_ret
                  exact ⟨ret_bool (by rw [HN.out]), HE2.out⟩
                | true =>
                  go_wp2_with fail
                  have HK := Lib.hid (skyOk_iff.1 hsky)
                  cases hmo : Sp.isMonth e.sky with
                  | false =>
                    have HN : Hid (Ec.engineOk e = false) := Lib.hid (by simp [Ec.engineOk, hmo])
                    refine (r_Month_no e.sky p.Ab p.cb _ HK.out (HM.out.ext HE2.out).bodies hmo).mono ?_
                    rintro r w3 ⟨rfl, hE3⟩
                    have HE3 := Lib.hid (HE2.out.trans hE3)
                    go_wp2_with fail
                    go_ret
                    exact ⟨ret_bool (by rw [HN.out]), HE3.out⟩
                  | true =>
                    have HN : Hid (Ec.engineOk e = true) := Lib.hid (by simp [Ec.engineOk, hmo, hsky, hsun, hmoon, hnode, hfeasts, hnw, hfl, hwide])
                    refine (r_Month_ok e.sky p.Ab p.cb _ HK.out (HM.out.ext HE2.out).bodies hmo).mono ?_
                    rintro r w3 ⟨rfl, hE3⟩
                    have HE3 := Lib.hid (HE2.out.trans hE3)
                    go_wp2_with fail
                    go_ret
                    exact ⟨ret_bool (by rw [HN.out]), HE3.out⟩
theorem bd_mem {l : List Sp.Body} {k : Nat} (hk : k < l.length) : bd l k ∈ l := by
  unfold bd
  rw [List.getD_eq_getElem?_getD, List.getElem?_eq_getElem hk]
  exact List.getElem_mem hk
/-- Lists whose lengths are int's. -/
structure EngLong (e : Ec.Engine) : Prop where
  bodies : e.sky.bodies.length ≤ 9223372036854775807
  roads : ∀ k, k < e.sky.bodies.length → (bd e.sky.bodies k).road.length ≤ 9223372036854775807
  sun : e.sun.length ≤ 9223372036854775807
  moon : e.moon.length ≤ 9223372036854775807
  node : e.node.length ≤ 9223372036854775807
  feasts : e.feasts.length ≤ 9223372036854775807
def shortB (e : Ec.Engine) (set : List Int) : Bool := (e.sky.bodies.take 7).all (fun b => decide (b.road.length ≤ 10)) && (decide (e.sky.bodies.length ≤ 6) && (decide (e.sun.length ≤ 6) && (decide (e.moon.length ≤ 6) && (decide (e.node.length ≤ 6) && (decide (e.feasts.length ≤ 10) && decide (set.length ≤ 10))))))
structure Shorts (e : Ec.Engine) (set : List Int) : Prop where
  eng : EngShort e
  feasts : e.feasts.length ≤ 10
  set : set.length ≤ 10
theorem shorts_of {e : Ec.Engine} {set : List Int} (h : shortB e set = true) : Shorts e set := by
  simp only [shortB, Bool.and_eq_true, decide_eq_true_eq] at h
  obtain ⟨h1, h2, h3, h4, h5, h6, h7⟩ := h
  rw [List.take_of_length_le (by omega)] at h1
  refine ⟨⟨⟨by omega, fun k hk => ?_⟩, by omega, by omega, by omega, by omega⟩, h6, h7⟩
  have := List.all_eq_true.1 h1 (bd e.sky.bodies k) (bd_mem hk)
  have := of_decide_eq_true this
  omega
theorem getD_bd {l : List Sp.Body} {k : Nat} (hk : k < l.length) : l[k] = bd l k := by
  unfold bd
  rw [List.getD_eq_getElem?_getD, List.getElem?_eq_getElem hk]
  rfl
theorem l7_short_any (p : EP) (e : Ec.Engine) (set : List Int) (w : World) (hm : EngAt w p e) (hl : EngLong e) (hs : set.length ≤ 9223372036854775807) :
    Calls Tryz.prog 15 #[.agg #[.slice p.Ab e.sky.bodies.length p.cb, .int .i64 e.sky.nnum, .int .i64 e.sky.nden, .int .i64 e.sky.nstart, .slice p.As e.sun.length p.cs, .slice p.Am e.moon.length p.cm, .slice p.An e.node.length p.cn, .slice p.Af e.feasts.length p.cf, .int .i64 e.nw, .int .i64 e.fl, .int .i64 e.wide], .slice p.At set.length p.ct] w fun r w' => r = .returned (.bool (shortB e set)) ∧ Ext w w' := by
  have HL := Lib.hid hl
  have HM := Lib.hid hm
  have hl1 := hl.bodies
  have hl2 := hl.sun
  have hl3 := hl.moon
  have hl4 := hl.node
  have hl5 := hl.feasts
  have hr0 : Row (w.alloc (.cells #[.slice p.Ab e.sky.bodies.length p.cb, .int .i64 e.sky.nnum, .int .i64 e.sky.nden, .int .i64 e.sky.nstart, .slice p.As e.sun.length p.cs, .slice p.Am e.moon.length p.cm, .slice p.An e.node.length p.cn, .slice p.Af e.feasts.length p.cf, .int .i64 e.nw, .int .i64 e.fl, .int .i64 e.wide] 32)) w.heap.size 32 #[.slice p.Ab e.sky.bodies.length p.cb, .int .i64 e.sky.nnum, .int .i64 e.sky.nden, .int .i64 e.sky.nstart, .slice p.As e.sun.length p.cs, .slice p.Am e.moon.length p.cm, .slice p.An e.node.length p.cn, .slice p.Af e.feasts.length p.cf, .int .i64 e.nw, .int .i64 e.fl, .int .i64 e.wide] := Row.new w _ _
  have hE0 : Ext w (w.alloc (.cells #[.slice p.Ab e.sky.bodies.length p.cb, .int .i64 e.sky.nnum, .int .i64 e.sky.nden, .int .i64 e.sky.nstart, .slice p.As e.sun.length p.cs, .slice p.Am e.moon.length p.cm, .slice p.An e.node.length p.cn, .slice p.Af e.feasts.length p.cf, .int .i64 e.nw, .int .i64 e.fl, .int .i64 e.wide] 32)) := (Ext.refl w).alloc _
  have HR0 := Lib.hid hr0
  have HE0 := Lib.hid hE0
  clear hm hl hr0 hE0
  go_enter Tryz.func15, Tryz.ntmps15
  go_wp2_with fail
  generalize w.alloc (.cells #[.slice p.Ab e.sky.bodies.length p.cb, .int .i64 e.sky.nnum, .int .i64 e.sky.nden, .int .i64 e.sky.nstart, .slice p.As e.sun.length p.cs, .slice p.Am e.moon.length p.cm, .slice p.An e.node.length p.cn, .slice p.Af e.feasts.length p.cf, .int .i64 e.nw, .int .i64 e.fl, .int .i64 e.wide] 32) = w1 at *
  go_loopw [5] (fun i wr => ∃ k : Nat, k ≤ e.sky.bodies.length ∧ k ≤ 7 ∧ i = .int .i64 k ∧ (e.sky.bodies.take k).all (fun b => decide (b.road.length ≤ 10)) = true ∧ Ext w1 wr) (fun i _ => 7 - (intOf i).toNat)
  case atStart => exact ⟨0, Nat.zero_le _, by omega, rfl, rfl, Ext.refl _⟩
  case round =>
    obtain ⟨k, hk, hk7, rfl, hall, hE⟩ := hrel
    have b0 := (HR0.out.ext hE).cell
    have HE := Lib.hid hE
    by_cases hlt : k < e.sky.bodies.length
    · by_cases hlt7 : k < 7
      · obtain ⟨b, o, hAb, hB⟩ := HM.out.bodies (by omega)
        rw [hAb] at b0 ⊢
        have HB := (hB k hlt).ext (HE0.out.trans hE)
        have hrl := HL.out.roads k hlt
        have hbo : (0 : Int) ≤ (k : Int) ∧ (k : Int) < (e.sky.bodies.length : Int) := by omega
        by_cases hlen : (bd e.sky.bodies k).road.length ≤ 10
        · have HN : Hid ((e.sky.bodies.take (k + 1)).all (fun b => decide (b.road.length ≤ 10)) = true) := Lib.hid (by
            rw [List.take_succ_eq_append_getElem hlt, List.all_append, hall, getD_bd hlt]; simp [hlen])
          clear hall hE hB hAb
          generalize bd e.sky.bodies k = B at *
          obtain ⟨A1, r1, hr1, I1⟩ := HB.road
          clear HB I1
          go_wp2_with fail
          go_roundw
          case rel => exact ⟨k + 1, by omega, by omega, by go_num, HN.out, HE.out⟩
          case measure => simp [intOf]; omega
        · have HN : Hid (shortB e set = false) := Lib.hid (by
            have h1 : (e.sky.bodies.take 7).all (fun b => decide (b.road.length ≤ 10)) = false := by
              rw [List.all_eq_false]
              refine ⟨bd e.sky.bodies k, ?_, by simpa using hlen⟩
              rw [← getD_bd hlt]
              exact List.mem_take_iff_getElem.2 ⟨k, by omega, rfl⟩
            simp [shortB, h1])
          clear hall hE hB hAb
          generalize bd e.sky.bodies k = B at *
          obtain ⟨A1, r1, hr1, I1⟩ := HB.road
          clear HB I1
          go_wp2_with fail
          go_ret
          exact ⟨ret_bool HN.out.symm, HE0.out.trans HE.out⟩
      · have HN : Hid (shortB e set = false) := Lib.hid (by
          have : ¬ e.sky.bodies.length ≤ 6 := by omega
          simp [shortB, this])
        have hn6 : ¬ ((e.sky.bodies.length : Int) ≤ 6) := by omega
        clear hall hE
        go_wp2_with fail
        go_ret
        exact ⟨ret_bool HN.out.symm, HE0.out.trans HE.out⟩
    · obtain rfl : k = e.sky.bodies.length := by omega
      rw [List.take_length] at hall
      have HA := Lib.hid (show (e.sky.bodies.take 7).all (fun b => decide (b.road.length ≤ 10)) = true by rw [List.take_of_length_le hk7]; exact hall)
      clear hall hE
      by_cases g0 : e.sky.bodies.length ≤ 6
      case neg =>
        have HN : Hid (shortB e set = false) := Lib.hid (by simp [shortB, g0])
        have g0' : ¬ ((e.sky.bodies.length : Nat) : Int) ≤ 6 := by omega
        go_wp2_with fail
        go_ret
        exact ⟨ret_bool HN.out.symm, HE0.out.trans HE.out⟩
      have g0' : ((e.sky.bodies.length : Nat) : Int) ≤ 6 := by omega
      by_cases g1 : e.sun.length ≤ 6
      case neg =>
        have HN : Hid (shortB e set = false) := Lib.hid (by simp [shortB, g1])
        have g1' : ¬ ((e.sun.length : Nat) : Int) ≤ 6 := by omega
        go_wp2_with fail
        go_ret
        exact ⟨ret_bool HN.out.symm, HE0.out.trans HE.out⟩
      have g1' : ((e.sun.length : Nat) : Int) ≤ 6 := by omega
      by_cases g2 : e.moon.length ≤ 6
      case neg =>
        have HN : Hid (shortB e set = false) := Lib.hid (by simp [shortB, g2])
        have g2' : ¬ ((e.moon.length : Nat) : Int) ≤ 6 := by omega
        go_wp2_with fail
        go_ret
        exact ⟨ret_bool HN.out.symm, HE0.out.trans HE.out⟩
      have g2' : ((e.moon.length : Nat) : Int) ≤ 6 := by omega
      by_cases g3 : e.node.length ≤ 6
      case neg =>
        have HN : Hid (shortB e set = false) := Lib.hid (by simp [shortB, g3])
        have g3' : ¬ ((e.node.length : Nat) : Int) ≤ 6 := by omega
        go_wp2_with fail
        go_ret
        exact ⟨ret_bool HN.out.symm, HE0.out.trans HE.out⟩
      have g3' : ((e.node.length : Nat) : Int) ≤ 6 := by omega
      by_cases g4 : e.feasts.length ≤ 10
      case neg =>
        have HN : Hid (shortB e set = false) := Lib.hid (by simp [shortB, g4])
        have g4' : ¬ ((e.feasts.length : Nat) : Int) ≤ 10 := by omega
        go_wp2_with fail
        go_ret
        exact ⟨ret_bool HN.out.symm, HE0.out.trans HE.out⟩
      have g4' : ((e.feasts.length : Nat) : Int) ≤ 10 := by omega
      by_cases g5 : set.length ≤ 10
      case neg =>
        have HN : Hid (shortB e set = false) := Lib.hid (by simp [shortB, g5])
        have g5' : ¬ ((set.length : Nat) : Int) ≤ 10 := by omega
        go_wp2_with fail
        go_ret
        exact ⟨ret_bool HN.out.symm, HE0.out.trans HE.out⟩
      have g5' : ((set.length : Nat) : Int) ≤ 10 := by omega
      have HN : Hid (shortB e set = true) := Lib.hid (by simp [shortB, HA.out, g0, g1, g2, g3, g4, g5])
      clear g0 g1 g2 g3 g4 g5
      go_wp2_with fail
      go_ret
      exact ⟨ret_bool HN.out.symm, HE0.out.trans HE.out⟩
end Go.Proofs.YtcbodpnmndbgnaaGreatDoor
namespace Go.Proofs.YtcbodpnmndbgnaaGreatDoor
/-- Lists whose lengths are int's. -/
def Long (l : List Sp.Body) : Prop := l.length ≤ 9223372036854775807 ∧ ∀ k, k < l.length → (bd l k).road.length ≤ 9223372036854775807
end Go.Proofs.YtcbodpnmndbgnaaGreatDoor
namespace Go.Proofs.YtcbodpnmndbgnaaGreatDoor
open Go.ChangeShapes Go.WideShapes Go.ChangeAt Go.RowKit
open Sp (rd)
set_option maxRecDepth 100000
set_option linter.constructorNameAsVariable false
section
variable {H : Type} {enc : TypeId × Value → H} {W : World} {spare : Nat → Bool} {held : Bool} {fuel : Nat} {cs : List Value} {x : DataW H × List MemPlace}
theorem open_road (h : DataW.trod enc Tryz.prog W 0 spare held fuel 30 cs = some x) : ∃ A l c, cs = [.slice A l.length c] ∧ Ints W A l ∧ l.length ≤ maxLen := by
  rcases open_ints Tryz.underlying30 Tryz.underlying3 (by kernel_rfl) h with ⟨rfl, _⟩ | ⟨a, len, cap, zs, rfl, _, hlc, hcm, hzl, _, hc, _⟩
  · exact ⟨none, [], 0, rfl, fun h0 => by simp at h0, Nat.zero_le _⟩
  · have hle : len ≤ zs.length := by rw [hzl]; split <;> omega
    have hlen : (zs.take len).length = len := by rw [List.length_take]; omega
    refine ⟨some a, zs.take len, cap, by rw [hlen], fun h0 => ?_, by omega⟩
    rw [hlen] at h0
    obtain ⟨b, off, rfl, hc2⟩ := ints_at hc (by omega)
    refine ⟨b, off, rfl, fun k hk => ?_⟩
    rw [hlen] at hk
    rw [hc2 k (by omega)]
    unfold Sp.rd
    rw [List.getD_eq_getElem?_getD, List.getD_eq_getElem?_getD, List.getElem?_take_of_lt hk]
theorem list_two {α : Type} {l : List α} (h : l.length = 2) : ∃ a b, l = [a, b] := by
  cases l with
  | nil => simp at h
  | cons a l =>
    cases l with
    | nil => simp at h
    | cons b l =>
      have : l = [] := List.eq_nil_of_length_eq_zero (by simpa using h)
      exact ⟨a, b, by rw [this]⟩
theorem list_four {α : Type} {l : List α} (h : l.length = 4) : ∃ a b c d, l = [a, b, c, d] := by
  cases l with
  | nil => simp at h
  | cons a l =>
    cases l with
    | nil => simp at h
    | cons b l =>
      obtain ⟨c, d, rfl⟩ := list_two (l := l) (by simpa using h)
      exact ⟨a, b, c, d, rfl⟩
theorem get_some {α : Type} {l : List α} {i : Nat} {y : Option α} (h : y = l[i]?) (hi : i < l.length) : ∃ z, y = some z := ⟨l[i], by rw [h, List.getElem?_eq_getElem hi]⟩
theorem c3 : Tryz.prog.cellsOf 3 = 1 := by kernel_rfl
theorem c64 : Tryz.prog.cellsOf 30 = 1 := by kernel_rfl
theorem c24 : Tryz.prog.cellsOf 24 = 2 := by kernel_rfl
theorem c26 : Tryz.prog.cellsOf 26 = 3 := by kernel_rfl
theorem c80 : Tryz.prog.cellsOf 46 = 4 := by kernel_rfl
theorem c22 : Tryz.prog.cellsOf 22 = 1 := by kernel_rfl
theorem c28 : Tryz.prog.cellsOf 28 = 4 := by kernel_rfl
theorem open_period (h : DataW.trod enc Tryz.prog W 0 spare held fuel 24 cs = some x) : ∃ n d : Int, cs = [.int .i64 n, .int .i64 d] := by
  obtain ⟨xs, m, rfl, rfl, hcs, hxs, each⟩ := DataW.trod_struct Tryz.underlying24 h
  obtain ⟨a, b, rfl⟩ := list_two (hcs.trans c24)
  have hx2 : xs.length = 2 := hxs
  obtain ⟨y, hy⟩ := get_some (each 0 _ rfl) (by omega)
  obtain ⟨z, hz⟩ := get_some (each 1 _ rfl) (by omega)
  simp [c3] at hy hz
  obtain ⟨n, hn, _, _⟩ := DataW.trod_int Tryz.underlying3 hy
  obtain ⟨d, hd, _, _⟩ := DataW.trod_int Tryz.underlying3 hz
  simp at hn hd
  exact ⟨n, d, by rw [hn, hd]⟩
theorem open_body (h : DataW.trod enc Tryz.prog W 0 spare held fuel 46 cs = some x) : ∃ (B : Sp.Body) (A : Option Addr) (c : Nat), cs = [.int .i64 B.num, .int .i64 B.den, .int .i64 B.start, .slice A B.road.length c] ∧ Ints W A B.road ∧ B.road.length ≤ maxLen := by
  obtain ⟨xs, m, rfl, rfl, hcs, hxs, each⟩ := DataW.trod_struct Tryz.underlying46 h
  obtain ⟨a, b, c, d, rfl⟩ := list_four (hcs.trans c80)
  have hx2 : xs.length = 3 := hxs
  obtain ⟨y, hy⟩ := get_some (each 0 _ rfl) (by omega)
  obtain ⟨z, hz⟩ := get_some (each 1 _ rfl) (by omega)
  obtain ⟨u, hu⟩ := get_some (each 2 _ rfl) (by omega)
  simp [c3, c24, c64] at hy hz hu
  obtain ⟨n, k, hn⟩ := open_period hy
  obtain ⟨s, hs, _, _⟩ := DataW.trod_int Tryz.underlying3 hz
  obtain ⟨A, l, cc, hr, hI, hm⟩ := open_road hu
  simp at hn hs hr
  exact ⟨⟨n, k, s, l⟩, A, cc, by rw [hn.1, hn.2, hs, hr], hI, hm⟩
theorem open_bodies (h : DataW.trod enc Tryz.prog W 0 spare held fuel 22 cs = some x) : ∃ A l c, cs = [.slice A l.length c] ∧ Bodies W A l ∧ Long l := by
  rcases DataW.trod_slice Tryz.underlying22 h with ⟨rfl, _⟩ | ⟨a, len, cap, elems, rest, n, rfl, rfl, rfl, _, hlc, hcm, hel, each, _, _⟩
  · exact ⟨none, [], 0, rfl, fun h0 => by simp at h0, ⟨by simp, fun k hk => by simp at hk⟩⟩
  · have one : ∀ i, i < len → ∃ B : Sp.Body, ∃ (A : Option Addr) (c : Nat), W.cells? 0 (a.add (i * 4)) 4 = some [.int .i64 B.num, .int .i64 B.den, .int .i64 B.start, .slice A B.road.length c] ∧ Ints W A B.road ∧ B.road.length ≤ maxLen := by
      intro i hi
      have e := each i hi
      rw [c80] at e
      obtain ⟨y, hy⟩ := get_some e (by omega)
      rw [Option.bind_eq_some_iff] at hy
      obtain ⟨cs', h1, h2⟩ := hy
      obtain ⟨B, A, c, rfl, hI, hm⟩ := open_body h2
      exact ⟨B, A, c, h1, hI, hm⟩
    haveI : Inhabited Sp.Body := ⟨Sp.noBody⟩
    obtain ⟨f, hf⟩ := Go.Deep.choose_lt one
    have hll : ((List.range len).map f).length = len := by simp
    have hbd : ∀ k, k < len → bd ((List.range len).map f) k = f k := fun k hk => by
      unfold bd
      rw [List.getD_eq_getElem?_getD, List.getElem?_map, List.getElem?_range hk]
      rfl
    have hmx : (maxLen : Nat) ≤ 9223372036854775807 := by decide
    refine ⟨some a, (List.range len).map f, cap, by rw [hll], fun h0 => ?_, ⟨by omega, fun k hk => ?_⟩⟩
    · rw [hll] at h0
      obtain ⟨A0, c0, hc0, _, _⟩ := hf 0 h0
      have hsp := (World.cells?_some hc0).2.2 0 (by omega)
      obtain ⟨b, off, spot⟩ := a
      have hspot : spot = none := by
        have : W.cell? ⟨b, off, spot⟩ = some (.int .i64 (f 0).num) := by simpa [Addr.add] using hsp
        simpa using World.cell?_spot this
      subst hspot
      refine ⟨b, off, rfl, fun k hk => ?_⟩
      rw [hll] at hk
      rw [hbd k hk]
      obtain ⟨A1, c1, hc1, hI, _⟩ := hf k hk
      have g := (World.cells?_some hc1).2.2
      have g0 := g 0 (by omega)
      have g1 := g 1 (by omega)
      have g2 := g 2 (by omega)
      have g3 := g 3 (by omega)
      simp only [add_plain, Nat.add_zero] at g0 g1 g2 g3
      exact ⟨g0, g1, g2, _, _, g3, hI⟩
    · rw [hll] at hk
      rw [hbd k hk]
      obtain ⟨A1, c1, _, _, hm⟩ := hf k hk
      omega
theorem open_sky_cells (h : DataW.trod enc Tryz.prog W 0 spare held fuel 28 cs = some x) :
    ∃ (s : Sp.Sky) (A : Option Addr) (c : Nat), cs = [.slice A s.bodies.length c, .int .i64 s.nnum, .int .i64 s.nden, .int .i64 s.nstart] ∧ Bodies W A s.bodies ∧ Long s.bodies := by
  obtain ⟨xs, m, rfl, rfl, hcs, hxs, each⟩ := DataW.trod_struct Tryz.underlying28 h
  obtain ⟨a, b, c, d, rfl⟩ := list_four (hcs.trans c28)
  have hx2 : xs.length = 2 := hxs
  obtain ⟨y, hy⟩ := get_some (each 0 _ rfl) (by omega)
  obtain ⟨z, hz⟩ := get_some (each 1 _ rfl) (by omega)
  simp [c22, c26] at hy hz
  obtain ⟨A, l, cc, hr, hB, hL⟩ := open_bodies hy
  obtain ⟨ys, m2, rfl, _, hcs2, hxs2, each2⟩ := DataW.trod_struct Tryz.underlying26 hz
  have hx3 : ys.length = 2 := hxs2
  obtain ⟨p, hp⟩ := get_some (each2 0 _ rfl) (by omega)
  obtain ⟨q, hq⟩ := get_some (each2 1 _ rfl) (by omega)
  simp [c24, c3] at hp hq
  obtain ⟨n, k, hn⟩ := open_period hp
  obtain ⟨st, hs, _, _⟩ := DataW.trod_int Tryz.underlying3 hq
  simp at hr hn hs
  exact ⟨⟨l, n, k, st⟩, A, cc, by rw [hr, hn.1, hn.2, hs], hB, hL⟩
theorem list_more {α : Type} {l : List α} {n : Nat} (h : l.length = n + 1) : ∃ a t, l = a :: t ∧ t.length = n := by
  cases l with
  | nil => simp at h
  | cons a t => exact ⟨a, t, rfl, by simpa using h⟩
theorem cPair : Tryz.prog.cellsOf 140 = 2 := by kernel_rfl
theorem cPairs : Tryz.prog.cellsOf 29 = 1 := by kernel_rfl
theorem cEng : Tryz.prog.cellsOf 32 = 11 := by kernel_rfl
theorem open_pair (h : DataW.trod enc Tryz.prog W 0 spare held fuel 140 cs = some x) : ∃ q : Ec.Pair, cs = [.int .i64 q.drives, .int .i64 q.driven] := by
  obtain ⟨xs, m, rfl, rfl, hcs, hxs, each⟩ := DataW.trod_struct Tryz.underlying140 h
  obtain ⟨a, b, rfl⟩ := list_two (hcs.trans cPair)
  have hx2 : xs.length = 2 := hxs
  obtain ⟨y, hy⟩ := get_some (each 0 _ rfl) (by omega)
  obtain ⟨z, hz⟩ := get_some (each 1 _ rfl) (by omega)
  simp [c3] at hy hz
  obtain ⟨n, hn, _, _⟩ := DataW.trod_int Tryz.underlying3 hy
  obtain ⟨d, hd, _, _⟩ := DataW.trod_int Tryz.underlying3 hz
  simp at hn hd
  exact ⟨⟨n, d⟩, by rw [hn, hd]⟩
theorem open_pairs (h : DataW.trod enc Tryz.prog W 0 spare held fuel 29 cs = some x) : ∃ A l c, cs = [.slice A l.length c] ∧ Pairs W A l ∧ l.length ≤ maxLen := by
  rcases DataW.trod_slice Tryz.underlying29 h with ⟨rfl, _⟩ | ⟨a, len, cap, elems, rest, n, rfl, rfl, rfl, _, hlc, hcm, hel, each, _, _⟩
  · exact ⟨none, [], 0, rfl, fun h0 => by simp at h0, Nat.zero_le _⟩
  · have one : ∀ i, i < len → ∃ B : Ec.Pair, W.cells? 0 (a.add (i * 2)) 2 = some [.int .i64 B.drives, .int .i64 B.driven] := by
      intro i hi
      have e := each i hi
      rw [cPair] at e
      obtain ⟨y, hy⟩ := get_some e (by omega)
      rw [Option.bind_eq_some_iff] at hy
      obtain ⟨cs', h1, h2⟩ := hy
      obtain ⟨B, rfl⟩ := open_pair h2
      exact ⟨B, h1⟩
    haveI : Inhabited Ec.Pair := ⟨Ec.noPair⟩
    obtain ⟨f, hf⟩ := Go.Deep.choose_lt one
    have hll : ((List.range len).map f).length = len := by simp
    have hbd : ∀ k, k < len → pd ((List.range len).map f) k = f k := fun k hk => by
      unfold pd
      rw [List.getD_eq_getElem?_getD, List.getElem?_map, List.getElem?_range hk]
      rfl
    refine ⟨some a, (List.range len).map f, cap, by rw [hll], fun h0 => ?_, by omega⟩
    rw [hll] at h0
    have hc0 := hf 0 h0
    have hsp := (World.cells?_some hc0).2.2 0 (by omega)
    obtain ⟨b, off, spot⟩ := a
    have hspot : spot = none := by
      have : W.cell? ⟨b, off, spot⟩ = some (.int .i64 (f 0).drives) := by simpa [Addr.add] using hsp
      simpa using World.cell?_spot this
    subst hspot
    refine ⟨b, off, rfl, fun k hk => ?_⟩
    rw [hll] at hk
    rw [hbd k hk]
    have g := (World.cells?_some (hf k hk)).2.2
    have g0 := g 0 (by omega)
    have g1 := g 1 (by omega)
    simp only [add_plain, Nat.add_zero] at g0 g1
    exact ⟨g0, g1⟩
theorem open_engine {v : Value} {d : DataW H} {ps : List MemPlace} {r : Reach} {base : Nat} (hval : Value.okWide Tryz.prog W r base 32 v) (h : DataW.Trod enc Tryz.prog W 0 spare held 32 v d ps) :
    ∃ (p : EP) (e : Ec.Engine), v = .agg #[.slice p.Ab e.sky.bodies.length p.cb, .int .i64 e.sky.nnum, .int .i64 e.sky.nden, .int .i64 e.sky.nstart, .slice p.As e.sun.length p.cs, .slice p.Am e.moon.length p.cm, .slice p.An e.node.length p.cn, .slice p.Af e.feasts.length p.cf, .int .i64 e.nw, .int .i64 e.fl, .int .i64 e.wide] ∧ EngAt W p e ∧ EngLong e := by
  obtain ⟨cells, rfl, hsz⟩ := okWide_struct Tryz.underlying32 hval
  obtain ⟨fuel, hd⟩ := h
  obtain ⟨xs, m, rfl, _, hcs, hxs, each⟩ := DataW.trod_struct Tryz.underlying32 hd
  have hlen : (Value.agg cells).cells.toList.length = 11 := hcs.trans cEng
  obtain ⟨a0, t0, h0, n0⟩ := list_more hlen
  obtain ⟨a1, t1, rfl, n1⟩ := list_more n0
  obtain ⟨a2, t2, rfl, n2⟩ := list_more n1
  obtain ⟨a3, t3, rfl, n3⟩ := list_more n2
  obtain ⟨a4, t4, rfl, n4⟩ := list_more n3
  obtain ⟨a5, t5, rfl, n5⟩ := list_more n4
  obtain ⟨a6, t6, rfl, n6⟩ := list_more n5
  obtain ⟨a7, t7, rfl, n7⟩ := list_more n6
  obtain ⟨a8, t8, rfl, n8⟩ := list_more n7
  obtain ⟨a9, t9, rfl, n9⟩ := list_more n8
  obtain ⟨a10, t10, rfl, n10⟩ := list_more n9
  obtain rfl : t10 = [] := List.eq_nil_of_length_eq_zero n10
  rw [h0] at each
  have hx2 : xs.length = 8 := hxs
  obtain ⟨y0, hy0⟩ := get_some (each 0 _ rfl) (by omega)
  obtain ⟨y1, hy1⟩ := get_some (each 1 _ rfl) (by omega)
  obtain ⟨y2, hy2⟩ := get_some (each 2 _ rfl) (by omega)
  obtain ⟨y3, hy3⟩ := get_some (each 3 _ rfl) (by omega)
  obtain ⟨y4, hy4⟩ := get_some (each 4 _ rfl) (by omega)
  obtain ⟨y5, hy5⟩ := get_some (each 5 _ rfl) (by omega)
  obtain ⟨y6, hy6⟩ := get_some (each 6 _ rfl) (by omega)
  obtain ⟨y7, hy7⟩ := get_some (each 7 _ rfl) (by omega)
  simp [c28, cPairs, c64, c3] at hy0 hy1 hy2 hy3 hy4 hy5 hy6 hy7
  obtain ⟨s, Ab, cb, hr0, hB, hL⟩ := open_sky_cells hy0
  obtain ⟨As, sun, ds, hr1, hP1, hl1⟩ := open_pairs hy1
  obtain ⟨Am, moon, dm, hr2, hP2, hl2⟩ := open_pairs hy2
  obtain ⟨An, node, dn, hr3, hP3, hl3⟩ := open_pairs hy3
  obtain ⟨Af, feasts, df, hr4, hI, hl4⟩ := open_road hy4
  obtain ⟨nw, hr5, _, _⟩ := DataW.trod_int Tryz.underlying3 hy5
  obtain ⟨fl, hr6, _, _⟩ := DataW.trod_int Tryz.underlying3 hy6
  obtain ⟨wd, hr7, _, _⟩ := DataW.trod_int Tryz.underlying3 hy7
  simp at hr0 hr1 hr2 hr3 hr4 hr5 hr6 hr7
  have hmx : (maxLen : Nat) ≤ 9223372036854775807 := by decide
  refine ⟨⟨Ab, cb, As, ds, Am, dm, An, dn, Af, df, none, 0⟩, ⟨s, sun, moon, node, feasts, nw, fl, wd⟩, ?_, ⟨hB, hP1, hP2, hP3, hI⟩, ⟨hL.1, hL.2, by simp only; omega, by simp only; omega, by simp only; omega, by simp only; omega⟩⟩
  have : cells = #[a0, a1, a2, a3, a4, a5, a6, a7, a8, a9, a10] := by rw [← Array.toList_inj]; exact (show cells.toList = _ from h0)
  rw [this, hr0.1, hr0.2.1, hr0.2.2.1, hr0.2.2.2, hr1, hr2, hr3, hr4, hr5, hr6, hr7]
theorem open_set {v : Value} {d : DataW H} {ps : List MemPlace} {r : Reach} {base : Nat} (hval : Value.okWide Tryz.prog W r base 30 v) (h : DataW.Trod enc Tryz.prog W 0 spare held 30 v d ps) :
    ∃ (l : List Int) (A : Option Addr) (c : Nat), v = .slice A l.length c ∧ Ints W A l ∧ l.length ≤ maxLen := by
  obtain ⟨a, len, cap, rfl⟩ := okWide_slice Tryz.underlying30 hval
  obtain ⟨fuel, hd⟩ := h
  obtain ⟨A, l, c, hc, hN, hl⟩ := open_road hd
  simp [Value.cells] at hc
  exact ⟨l, A, c, by rw [hc.1, hc.2.1, hc.2.2], hN, hl⟩
end
end Go.Proofs.YtcbodpnmndbgnaaGreatDoor
namespace Go.Proofs.YtcbodpnmndbgnaaGreatDoor
open Go.ChangeShapes Go.WideShapes Go.ChangeAt Go.RowKit
abbrev laidL : List (String × DataW Unit) := [("math/bits.deBruijn32tab", Rows.laid_math_bits_deBruijn32tab), ("math/bits.deBruijn64tab", Rows.laid_math_bits_deBruijn64tab), ("internal/strconv.uint64pow10", Rows.laid_internal_strconv_uint64pow10), ("unicode/utf8.acceptRanges", Rows.laid_unicode_utf8_acceptRanges), ("unicode/utf8.first", Rows.laid_unicode_utf8_first)]
theorem own : ownKnob Tryz.prog.godebug = none := by kernel_rfl
theorem laidOut : laidOutB Tryz.prog = true := by kernel_rfl
theorem gTab : Tryz.prog.globalNamed "internal/strconv.uint64pow10" = some 3 := by kernel_rfl
theorem gTabType : (Tryz.prog.globals[3]?).map (·.type) = some 254 := by kernel_rfl
theorem tabEq : (Rows.laid_internal_strconv_uint64pow10 : DataW Unit) = Lib.tabData .u64 Lib.pow10Tab := by kernel_rfl
theorem env_of {W : World} (h : laidMetH Tryz.prog laidL W) (hs : W.ShapedOpen Tryz.prog) : Env W := by
  have h' : laidMet Tryz.prog laidL W := h
  have h2 := h'.tail.tail
  rw [tabEq] at h2
  exact ⟨Lib.tabIs_of_head gTab gTabType Tryz.underlying254 Tryz.underlying238 (by kernel_rfl) (by kernel_rfl) h2, cell_of_shapedOpen_int (zero := #[.int .i64 0]) (t := 3) hs (of_decide_eq_true (by kernel_rfl)) (by kernel_rfl) rfl (by kernel_rfl) (by kernel_rfl) Tryz.underlying3⟩
/-- A table's cells. -/
def flatN : Nat → DataW Unit → List Value
  | 0, _ => []
  | n + 1, .agg l => l.flatMap (flatN n)
  | _ + 1, .lit (.int k z) => [.int k z]
  | _, _ => []
def layTab (d : DataW Unit) : Obj → Obj
  | .cells _ t fr => .cells (flatN 4 d).toArray t fr
  | o => o
/-- A world for the witness: the settled one, with the library's tables laid. -/
noncomputable def laidWorld (os : Os) : World :=
  { World.holding Tryz.prog os ⟨#[], #[], []⟩ with heap := (((((World.holding Tryz.prog os ⟨#[], #[], []⟩).heap.modify 4 (layTab Rows.laid_math_bits_deBruijn32tab)).modify 5 (layTab Rows.laid_math_bits_deBruijn64tab)).modify 3 (layTab Rows.laid_internal_strconv_uint64pow10)).modify 2 (layTab Rows.laid_unicode_utf8_acceptRanges)).modify 1 (layTab Rows.laid_unicode_utf8_first) }
theorem trodAll_below {H : Type} {enc : TypeId × Value → H} {W W' : World} (hb : Below W.heap.size W W') : ∀ {ts : List TypeId} {vs : List Value} {ds : List (DataW H)} {ps : List MemPlace},
    (∀ t ∈ ts, Tryz.prog.readableRec t = true ∧ t < Tryz.prog.types.size) → DataW.TrodAll enc Tryz.prog W 0 (fun _ => true) true ts vs ds ps → (∀ x ∈ ps, x.block < W.heap.size) →
    DataW.TrodAll enc Tryz.prog W' 0 (fun b => decide (b < W.heap.size)) true ts vs ds ps
  | [], vs, ds, ps, _, h, _ => by
    obtain ⟨rfl, rfl, rfl⟩ := trodAll_nil h
    exact trodAll_mk0
  | t :: ts, vs, ds, ps, hk, h, hlt => by
    obtain ⟨v, vs1, d, ds1, a, b, rfl, rfl, rfl, h1, h2⟩ := trodAll_cons h
    have k := hk t (by simp)
    exact trodAll_cons_mk (Below.trod laidOut k.1 k.2 h1 hb (fun x hx => hlt x (by simp [hx]))) (trodAll_below hb (fun t ht => hk t (by simp [ht])) h2 (fun x hx => hlt x (by simp [hx])))
/-- From the walk to the row's end: the law returns true, and of what was there nothing has turned. -/
theorem post_true {H : Type} {enc : TypeId × Value → H} {f : Func} {s : ChangeSpec} {W W' : World} {args : Array Value} {ds gs : List (DataW H)} {before : List MemPlace}
    (hW : DataW.Whole enc Tryz.prog f.params.toList s.vars false W args.toList ds gs before) (hv : s.vars = []) (hr : f.resultTypes = #[4]) (hE : Ext W W')
    (hk : ∀ t ∈ f.params.toList, Tryz.prog.readableRec t = true ∧ t < Tryz.prog.types.size) (h1 : (s.fn H (ds ++ gs)).results = [.lit (.bool true)]) (h2 : (s.fn H (ds ++ gs)).args = ds) (h3 : (s.fn H (ds ++ gs)).vars = []) :
    s.post enc Tryz.prog f false true false false W args (.bool true) W' := by
  have hW0 := hW
  obtain ⟨p, q, hA, hV, rfl, hfz, hnd⟩ := hW
  rw [hv] at hV
  obtain ⟨rfl, rfl⟩ := trodVars_none hV
  have hlt : ∀ x ∈ p, x.block < W.heap.size := fun x hx => by simpa using hW0.lt x (by simpa using hx)
  refine ⟨ds, [], p ++ [], [], p, [], hW0, ?_, ?_, ?_, ?_, fun h => by cases h⟩
  · rw [h1, hr]
    exact trodAll_cons_mk (shut_bool Tryz.underlying4 _) trodAll_mk0
  · rw [h2]
    exact trodAll_below hE hk hA hlt
  · rw [h3, hv]
    rfl
  · exact World.keptBut_mono (fun _ f => f.elim) (Below.frame hE (fun _ => False))
end Go.Proofs.YtcbodpnmndbgnaaGreatDoor
namespace Go.Proofs.YtcbodpnmndbgnaaGreatDoor
open Go
set_option maxRecDepth 100000
theorem io_eq : Tryz.prog.initOrder = "harness 6e42cd4d63d2f10fb99d533d30ec03d60e03dcb61978a7b528b853a6a76d9ab6 cut " ++ "at tellurion/tellurionlaw07.EclipseKept tellurion/tellurionlaw07.EclipseForetells tellurion/tellurionlaw07.EclipseTold tellurion/tellurionlaw07.EclipseWithins tellurion/tellurionlaw07.EclipseTrusted tellurion/tellurionlaw07.EclipseWidens tellurion/tellurionlaw07.EclipseEnough tellurion/tellurionlaw07.EclipseNever tellurion/tellurionlaw07.EclipseMore tellurion/tellurionlaw07.EclipseHands tellurion/tellurionlaw07.EclipseMisses tellurion/tellurionlaw07.EclipseFound" := by kernel_rfl
theorem words_app (w r : List Char) (h : ∀ c ∈ w, c ≠ (Char.ofNat 32)) : wordsSigns (w ++ (Char.ofNat 32) :: r) = w :: wordsSigns r := by
  induction w with
  | nil => simp [wordsSigns]
  | cons c w ih =>
    have hc : c ≠ (Char.ofNat 32) := h c (by simp)
    have i := ih (fun d hd => h d (by simp [hd]))
    rw [List.cons_append, wordsSigns, i]
    exact hc
theorem sumSigns : isSumSigns "6e42cd4d63d2f10fb99d533d30ec03d60e03dcb61978a7b528b853a6a76d9ab6".toList = true := by decide +kernel
theorem noSp : ∀ c ∈ "6e42cd4d63d2f10fb99d533d30ec03d60e03dcb61978a7b528b853a6a76d9ab6".toList, c ≠ (Char.ofNat 32) := by decide +kernel
theorem noSp1 : ∀ c ∈ "harness".toList, c ≠ (Char.ofNat 32) := by decide +kernel
theorem noSp2 : ∀ c ∈ "cut".toList, c ≠ (Char.ofNat 32) := by decide +kernel
theorem headEq : "harness 6e42cd4d63d2f10fb99d533d30ec03d60e03dcb61978a7b528b853a6a76d9ab6 cut ".toList = "harness".toList ++ (Char.ofNat 32) :: ("6e42cd4d63d2f10fb99d533d30ec03d60e03dcb61978a7b528b853a6a76d9ab6".toList ++ (Char.ofNat 32) :: ("cut".toList ++ [(Char.ofNat 32)])) := by decide +kernel
theorem io_words : ∃ r, wordsSigns Tryz.prog.initOrder.toList = "harness".toList :: "6e42cd4d63d2f10fb99d533d30ec03d60e03dcb61978a7b528b853a6a76d9ab6".toList :: "cut".toList :: r := by
  rw [io_eq, String.toList_append, headEq]
  generalize "at tellurion/tellurionlaw07.EclipseKept tellurion/tellurionlaw07.EclipseForetells tellurion/tellurionlaw07.EclipseTold tellurion/tellurionlaw07.EclipseWithins tellurion/tellurionlaw07.EclipseTrusted tellurion/tellurionlaw07.EclipseWidens tellurion/tellurionlaw07.EclipseEnough tellurion/tellurionlaw07.EclipseNever tellurion/tellurionlaw07.EclipseMore tellurion/tellurionlaw07.EclipseHands tellurion/tellurionlaw07.EclipseMisses tellurion/tellurionlaw07.EclipseFound".toList = r
  refine ⟨wordsSigns r, ?_⟩
  rw [show ("harness".toList ++ (Char.ofNat 32) :: ("6e42cd4d63d2f10fb99d533d30ec03d60e03dcb61978a7b528b853a6a76d9ab6".toList ++ (Char.ofNat 32) :: ("cut".toList ++ [(Char.ofNat 32)]))) ++ r = "harness".toList ++ (Char.ofNat 32) :: ("6e42cd4d63d2f10fb99d533d30ec03d60e03dcb61978a7b528b853a6a76d9ab6".toList ++ (Char.ofNat 32) :: ("cut".toList ++ (Char.ofNat 32) :: r)) by simp only [List.append_assoc, List.cons_append, List.nil_append]]
  rw [words_app _ _ noSp1, words_app _ _ noSp, words_app _ _ noSp2]
theorem behind_at (s : List Char) (r : List (List Char)) (hs : isSumSigns s = true) : behindMainWord ("harness".toList :: s :: r) = r := by
  show (if (("harness".toList == "harness".toList || "harness".toList == "ownmain".toList) && isSumSigns s) = true then r else _) = r
  rw [hs, if_pos (by rw [beq_self_eq_true]; rfl)]
theorem io_behind : ∃ r, behindMainWord (wordsSigns Tryz.prog.initOrder.toList) = "cut".toList :: r := by
  obtain ⟨r, h⟩ := io_words
  exact ⟨r, by rw [h, behind_at _ _ sumSigns]⟩
theorem strip_no (w : List Char) (ws : List (List Char)) : ∀ os : List String, (∀ o ∈ os, (w == o.toList) = false) → stripLifts os (w :: ws) = ([], w :: ws)
  | [], _ => rfl
  | o :: os, h => by
    rw [stripLifts, h o (by simp)]
    exact strip_no w ws os (fun x hx => h x (by simp [hx]))
theorem cutNo : ∀ o ∈ liftWords, ("cut".toList == o.toList) = false := by decide +kernel
theorem lays_no : Tryz.prog.laysLater = false := by kernel_rfl
theorem refl_no : Tryz.prog.bearsReflect = false := by kernel_rfl
theorem door_ok : Tryz.prog.doorFits [] = true := by kernel_rfl
theorem lifts_of {P : Program} {c : List Char} {r : List (List Char)} (h : behindMainWord (wordsSigns P.initOrder.toList) = c :: r) (hs : stripLifts liftWords (c :: r) = ([], c :: r)) (e : (some c == some "carried".toList) = false) : P.liftsFinal = false := by
  unfold Program.liftsFinal Program.headLifts
  rw [h, hs]
  show ((some c == some "carried".toList && _) || _) = false
  rw [e, Bool.false_and, Bool.false_or]
  dsimp only
  split <;> rfl
theorem lifts_no : Tryz.prog.liftsFinal = false := by
  obtain ⟨r, h⟩ := io_behind
  exact lifts_of h (strip_no _ r _ cutNo) (by decide +kernel)
theorem make_of {P : Program} {c : List Char} {r : List (List Char)} (h : behindMainWord (wordsSigns P.initOrder.toList) = c :: r) (e1 : (c == "gc".toList || c == "spec".toList) = false) (e2 : (c == "cut".toList) = true) : P.make = some .cut := by
  unfold Program.make
  rw [h]
  show (if (c == "gc".toList || c == "spec".toList) = true then _ else if (c == "cut".toList || _) = true then _ else _) = _
  rw [e1, e2, if_neg (by decide), if_pos (by rw [Bool.true_or])]
theorem make_cut : Tryz.prog.make = some .cut := by
  obtain ⟨r, h⟩ := io_behind
  exact make_of h (by decide +kernel) (by decide +kernel)
theorem may_of {P : Program} {c : List Char} {r : List (List Char)} (h : behindMainWord (wordsSigns P.initOrder.toList) = c :: r) (hs : stripLifts liftWords (c :: r) = ([], c :: r)) (e : (some c == some "cut".toList) = true) (h1 : P.laysLater = false) (h2 : P.bearsReflect = false) (h3 : P.doorFits [] = true) : P.mayEnter = true := by
  unfold Program.mayEnter
  rw [h]
  dsimp only
  rw [hs, h1, h2, h3]
  show (_ || _ || (some c == some "cut".toList && _ && _ && _ && true)) = true
  rw [e]
  simp only [Bool.not_false, Bool.or_true, Bool.and_true, Bool.true_and, Bool.or_eq_true]
  right
  right
  rfl
theorem may_yes : Tryz.prog.mayEnter = true := by
  obtain ⟨r, h⟩ := io_behind
  exact may_of h (strip_no _ r _ cutNo) (by decide +kernel) lays_no refl_no door_ok
end Go.Proofs.YtcbodpnmndbgnaaGreatDoor
namespace Go.Proofs.YtcbodpnmndbgnaaGreatDoor
open Go
set_option maxRecDepth 100000
theorem main_of {P : Program} {s : List Char} {r : List (List Char)} (h : wordsSigns P.initOrder.toList = "harness".toList :: s :: r) (hs : isSumSigns s = true) : P.mainIs = some (true, s) := by
  unfold Program.mainIs
  rw [h]
  show (if (!isSumSigns s) = true then none else if ("harness".toList == "harness".toList) = true then some (true, s) else _) = some (true, s)
  rw [hs, if_neg (by decide), if_pos (beq_self_eq_true _)]
theorem main_is : Tryz.prog.mainIs = some (true, "6e42cd4d63d2f10fb99d533d30ec03d60e03dcb61978a7b528b853a6a76d9ab6".toList) := by
  obtain ⟨r, h⟩ := io_words
  exact main_of h sumSigns
end Go.Proofs.YtcbodpnmndbgnaaGreatDoor
namespace Go.Proofs.YtcbodpnmndbgnaaGreatDoor
open Go.RowKit
open Sp (rd)
theorem espan_of {lo hi : Int} (h : Ec.isSpan lo hi = true) : 1 ≤ lo ∧ lo ≤ 9000 ∧ lo ≤ hi ∧ hi ≤ 9000 ∧ hi - lo ≤ 400 := by
  simp only [Ec.isSpan, Sp.inR, Bool.and_eq_true, decide_eq_true_eq] at h
  omega
theorem elate_of {n : Int} (h : Ec.isLate n = true) : 0 ≤ n ∧ n ≤ 30 := by
  simp only [Ec.isLate, Sp.inR, Bool.and_eq_true, decide_eq_true_eq] at h
  omega
theorem elate_mk {n : Int} (h1 : 0 ≤ n) (h2 : n ≤ 30) : Ec.isLate n = true := by
  simp only [Ec.isLate, Sp.inR, Bool.and_eq_true, decide_eq_true_eq]
  omega
end Go.Proofs.YtcbodpnmndbgnaaGreatDoor
namespace Go.Proofs.YtcbodpnmndbgnaaGreatDoor
open Go.RowKit
open Sp (rd)
set_option maxRecDepth 100000
set_option maxHeartbeats 2000000
set_option linter.unusedVariables false
theorem eql_ecl (a b c d : Int) (x y : Bool) (w : World) : (binOp .eql 59 (.agg #[.int .i64 a, .bool x, .int .i64 c]) (.agg #[.int .i64 b, .bool y, .int .i64 d])).run Tryz.prog w = .ok (.bool ((a == b) && (x == y) && (c == d))) w := by
  have hf : (Tryz.prog.fieldsOf 59).toList.map (fun f => (f.name, f.type, f.offset)) = [("Day", 3, 0), ("Full", 4, 1), ("Far", 3, 2)] := by kernel_rfl
  obtain ⟨f1, f2, f3, hfs, p1, p2, p3⟩ := map_three hf
  obtain ⟨n1, t1, o1⟩ := field_parts p1
  obtain ⟨n2, t2, o2⟩ := field_parts p2
  obtain ⟨n3, t3, o3⟩ := field_parts p3
  rw [run_eql_struct, run_equalIn_agg w 9999 _ _ _ (by kernel_rfl) (by kernel_rfl), hfs]
  simp [Op.eqFields, n1, t1, o1, n2, t2, o2, n3, t3, o3, part, go_sem]
  by_cases h : a = b <;> by_cases h2 : x = y <;> by_cases h3 : c = d <;> simp [h, h2, h3]
theorem ecl_take {l : List Sp.Ecl} {x : Sp.Ecl} {k : Nat} (hk : k < l.length) (h : ¬ x ∈ l.take k) (hn : ¬ l[k] = x) : ¬ x ∈ l.take (k + 1) := by
  rw [List.take_succ_eq_append_getElem hk]
  intro hh
  rcases List.mem_append.1 hh with h1 | h1
  · exact h h1
  · exact hn (List.mem_singleton.1 h1).symm
theorem l7_listed_any (v : Value) (l : List Sp.Ecl) (x : Sp.Ecl) (w : World) (hv : EclVal w v l) (hl : l.length ≤ 100000) :
    Calls Tryz.prog 32 #[v, .agg #[.int .i64 x.day, .bool x.full, .int .i64 x.far]] w fun e w' => e = .returned (.bool (decide (x ∈ l))) ∧ Ext w w' := by
  obtain ⟨A1, c1, rfl, q1⟩ := hv
  have HQ1 := Lib.hid q1
  have HR0 := Lib.hid (Row.new w 59 #[.int .i64 x.day, .bool x.full, .int .i64 x.far])
  have HE0 := Lib.hid ((Ext.refl w).alloc (.cells #[.int .i64 x.day, .bool x.full, .int .i64 x.far] 59))
  clear q1
  go_enter Tryz.func32, Tryz.ntmps32
  go_wp2_with fail
  obtain ⟨W0, hW0⟩ : ∃ W0, w.alloc (.cells #[.int .i64 x.day, .bool x.full, .int .i64 x.far] 59) = W0 := ⟨_, rfl⟩
  rw [hW0] at HR0 HE0 ⊢
  clear hW0
  go_loopw [5] (fun i wr => ∃ k : Nat, k ≤ l.length ∧ i = .int .i64 k ∧ ¬ x ∈ l.take k ∧ Ext W0 wr) (fun i _ => l.length - (intOf i).toNat)
  case atStart => exact ⟨0, Nat.zero_le _, rfl, by simp, Ext.refl _⟩
  case round =>
    obtain ⟨k, hk, rfl, htk, hE⟩ := hrel
    have b0 := (HR0.out.ext hE).cell
    by_cases hlt : k < l.length
    · obtain ⟨b1, o1, rfl, p1⟩ := HQ1.out (by omega)
      have a0 := hE.cell (HE0.out.cell (p1 k hlt).1)
      have a1 := hE.cell (HE0.out.cell (p1 k hlt).2.1)
      have a2 := hE.cell (HE0.out.cell (p1 k hlt).2.2)
      have HNX := Lib.hid (fun he => ecl_take hlt htk he)
      have HIN := Lib.hid (fun he : l[k] = x => (by rw [← he]; exact List.getElem_mem hlt : x ∈ l))
      have HE := Lib.hid (HE0.out.trans hE)
      have HE1 := Lib.hid hE
      clear p1 htk hE
      generalize l[k] = m at *
      by_cases he : m = x
      · have HX := Lib.hid (HIN.out he)
        subst he
        have hcmp : ∀ w, (binOp .eql 59 (.agg #[.int .i64 m.day, .bool m.full, .int .i64 m.far]) (.agg #[.int .i64 m.day, .bool m.full, .int .i64 m.far])).run Tryz.prog w = .ok (.bool true) w := fun w => by
          rw [eql_ecl]; simp
        clear HNX HIN
        go_wp2_with fail
        go_quiet (fail)
        go_wp2_with fail
        go_ret
        exact ⟨ret_bool (by simp [HX.out]), HE.out.drewN _⟩
      · have HX := Lib.hid (HNX.out he)
        have hcmp : ∀ w, (binOp .eql 59 (.agg #[.int .i64 m.day, .bool m.full, .int .i64 m.far]) (.agg #[.int .i64 x.day, .bool x.full, .int .i64 x.far])).run Tryz.prog w = .ok (.bool false) w := fun w => by
          rw [eql_ecl]
          cases m
          cases x
          simp at he
          simp
          grind
        clear HNX HIN he
        go_wp2_with fail
        go_quiet (fail)
        go_wp2_with fail
        refine ⟨⟨k + 1, by omega, by go_num, HX.out, HE1.out.drewN _⟩, by simp [intOf]; omega⟩
    · obtain rfl : k = l.length := by omega
      rw [List.take_length] at htk
      have HE := Lib.hid (HE0.out.trans hE)
      have HX := Lib.hid htk
      clear hE htk
      go_wp2_with fail
      go_ret
      exact ⟨ret_bool (by simp [HX.out]), HE.out⟩
end Go.Proofs.YtcbodpnmndbgnaaGreatDoor
namespace Go.Proofs.YtcbodpnmndbgnaaGreatDoor
open Go.RowKit
open Sp (rd)
set_option maxRecDepth 100000
set_option maxHeartbeats 2000000
set_option linter.unusedVariables false
theorem r7_Widened_any (p : EP) (e : Ec.Engine) (n : Int) (w : World) :
    Calls Tryz.prog 46 #[.agg #[.slice p.Ab e.sky.bodies.length p.cb, .int .i64 e.sky.nnum, .int .i64 e.sky.nden, .int .i64 e.sky.nstart, .slice p.As e.sun.length p.cs, .slice p.Am e.moon.length p.cm, .slice p.An e.node.length p.cn, .slice p.Af e.feasts.length p.cf, .int .i64 e.nw, .int .i64 e.fl, .int .i64 e.wide], .int .i64 n] w fun r w' => r = .returned (.agg #[.slice p.Ab e.sky.bodies.length p.cb, .int .i64 e.sky.nnum, .int .i64 e.sky.nden, .int .i64 e.sky.nstart, .slice p.As e.sun.length p.cs, .slice p.Am e.moon.length p.cm, .slice p.An e.node.length p.cn, .slice p.Af e.feasts.length p.cf, .int .i64 e.nw, .int .i64 e.fl, .int .i64 n]) ∧ Ext w w' := by
  have h1 := ((Row.new w 32 #[.slice p.Ab e.sky.bodies.length p.cb, .int .i64 e.sky.nnum, .int .i64 e.sky.nden, .int .i64 e.sky.nstart, .slice p.As e.sun.length p.cs, .slice p.Am e.moon.length p.cm, .slice p.An e.node.length p.cn, .slice p.Af e.feasts.length p.cf, .int .i64 e.nw, .int .i64 e.fl, .int .i64 e.wide]).alloc (.cells #[.slice none 0 0, .int .i64 0, .int .i64 0, .int .i64 0, .slice none 0 0, .slice none 0 0, .slice none 0 0, .slice none 0 0, .int .i64 0, .int .i64 0, .int .i64 0] 32)).alloc (.cells #[.slice p.Ab e.sky.bodies.length p.cb, .int .i64 e.sky.nnum, .int .i64 e.sky.nden, .int .i64 e.sky.nstart, .slice p.As e.sun.length p.cs, .slice p.Am e.moon.length p.cm, .slice p.An e.node.length p.cn, .slice p.Af e.feasts.length p.cf, .int .i64 e.nw, .int .i64 e.fl, .int .i64 e.wide] 32)
  have h2 := (Row.new (w.alloc (.cells #[.slice p.Ab e.sky.bodies.length p.cb, .int .i64 e.sky.nnum, .int .i64 e.sky.nden, .int .i64 e.sky.nstart, .slice p.As e.sun.length p.cs, .slice p.Am e.moon.length p.cm, .slice p.An e.node.length p.cn, .slice p.Af e.feasts.length p.cf, .int .i64 e.nw, .int .i64 e.fl, .int .i64 e.wide] 32)) 32 #[.slice none 0 0, .int .i64 0, .int .i64 0, .int .i64 0, .slice none 0 0, .slice none 0 0, .slice none 0 0, .slice none 0 0, .int .i64 0, .int .i64 0, .int .i64 0]).alloc (.cells #[.slice p.Ab e.sky.bodies.length p.cb, .int .i64 e.sky.nnum, .int .i64 e.sky.nden, .int .i64 e.sky.nstart, .slice p.As e.sun.length p.cs, .slice p.Am e.moon.length p.cm, .slice p.An e.node.length p.cn, .slice p.Af e.feasts.length p.cf, .int .i64 e.nw, .int .i64 e.fl, .int .i64 e.wide] 32)
  have h3 := Row.new ((w.alloc (.cells #[.slice p.Ab e.sky.bodies.length p.cb, .int .i64 e.sky.nnum, .int .i64 e.sky.nden, .int .i64 e.sky.nstart, .slice p.As e.sun.length p.cs, .slice p.Am e.moon.length p.cm, .slice p.An e.node.length p.cn, .slice p.Af e.feasts.length p.cf, .int .i64 e.nw, .int .i64 e.fl, .int .i64 e.wide] 32)).alloc (.cells #[.slice none 0 0, .int .i64 0, .int .i64 0, .int .i64 0, .slice none 0 0, .slice none 0 0, .slice none 0 0, .slice none 0 0, .int .i64 0, .int .i64 0, .int .i64 0] 32)) 32 #[.slice p.Ab e.sky.bodies.length p.cb, .int .i64 e.sky.nnum, .int .i64 e.sky.nden, .int .i64 e.sky.nstart, .slice p.As e.sun.length p.cs, .slice p.Am e.moon.length p.cm, .slice p.An e.node.length p.cn, .slice p.Af e.feasts.length p.cf, .int .i64 e.nw, .int .i64 e.fl, .int .i64 e.wide]
  have hE := (((Ext.refl w).alloc (.cells #[.slice p.Ab e.sky.bodies.length p.cb, .int .i64 e.sky.nnum, .int .i64 e.sky.nden, .int .i64 e.sky.nstart, .slice p.As e.sun.length p.cs, .slice p.Am e.moon.length p.cm, .slice p.An e.node.length p.cn, .slice p.Af e.feasts.length p.cf, .int .i64 e.nw, .int .i64 e.fl, .int .i64 e.wide] 32)).alloc (.cells #[.slice none 0 0, .int .i64 0, .int .i64 0, .int .i64 0, .slice none 0 0, .slice none 0 0, .slice none 0 0, .slice none 0 0, .int .i64 0, .int .i64 0, .int .i64 0] 32)).alloc (.cells #[.slice p.Ab e.sky.bodies.length p.cb, .int .i64 e.sky.nnum, .int .i64 e.sky.nden, .int .i64 e.sky.nstart, .slice p.As e.sun.length p.cs, .slice p.Am e.moon.length p.cm, .slice p.An e.node.length p.cn, .slice p.Af e.feasts.length p.cf, .int .i64 e.nw, .int .i64 e.fl, .int .i64 e.wide] 32)
  simp only [World.size_alloc] at h2 h3
  have HR2 := Lib.hid h2
  have HR3 := Lib.hid h3
  have HE := Lib.hid hE
  have b1 := (Row.new w 32 #[.slice p.Ab e.sky.bodies.length p.cb, .int .i64 e.sky.nnum, .int .i64 e.sky.nden, .int .i64 e.sky.nstart, .slice p.As e.sun.length p.cs, .slice p.Am e.moon.length p.cm, .slice p.An e.node.length p.cn, .slice p.Af e.feasts.length p.cf, .int .i64 e.nw, .int .i64 e.fl, .int .i64 e.wide]).alloc (.cells #[.slice none 0 0, .int .i64 0, .int .i64 0, .int .i64 0, .slice none 0 0, .slice none 0 0, .slice none 0 0, .slice none 0 0, .int .i64 0, .int .i64 0, .int .i64 0] 32)
  have B1 := Lib.hid b1
  clear h1 h2 h3 hE b1
  go_enter Tryz.func46, Tryz.ntmps46
  apply wp_seq_k
  intro K0 h0
  have H0 := Lib.hid h0
  clear h0
  go_wp2_with fail
  refine H0.out _ _ ?_
  clear H0
  apply wp_seq_k
  intro K1 h1
  have H1 := Lib.hid h1
  clear h1
  have c1 := B1.out.cell
  go_wp2_with fail
  refine H1.out _ _ ?_
  clear H1 c1 B1
  obtain ⟨W, hW⟩ : ∃ W, ((w.alloc (.cells #[.slice p.Ab e.sky.bodies.length p.cb, .int .i64 e.sky.nnum, .int .i64 e.sky.nden, .int .i64 e.sky.nstart, .slice p.As e.sun.length p.cs, .slice p.Am e.moon.length p.cm, .slice p.An e.node.length p.cn, .slice p.Af e.feasts.length p.cf, .int .i64 e.nw, .int .i64 e.fl, .int .i64 e.wide] 32)).alloc (.cells #[.slice none 0 0, .int .i64 0, .int .i64 0, .int .i64 0, .slice none 0 0, .slice none 0 0, .slice none 0 0, .slice none 0 0, .int .i64 0, .int .i64 0, .int .i64 0] 32)).alloc (.cells #[.slice p.Ab e.sky.bodies.length p.cb, .int .i64 e.sky.nnum, .int .i64 e.sky.nden, .int .i64 e.sky.nstart, .slice p.As e.sun.length p.cs, .slice p.Am e.moon.length p.cm, .slice p.An e.node.length p.cn, .slice p.Af e.feasts.length p.cf, .int .i64 e.nw, .int .i64 e.fl, .int .i64 e.wide] 32) = W := ⟨_, rfl⟩
  try rw [hW]
  rw [hW] at HR2 HR3 HE
  clear hW
  apply wp_seq_k
  intro K2 h2
  have H2 := Lib.hid h2
  clear h2
  have c3 := HR3.out.cell
  have f3 := HR3.out.free
  go_wp2_with fail
  refine H2.out _ _ ?_
  clear H2 c3 f3
  have HR5 : Hid (Row (W.setCell ⟨w.heap.size + 1 + 1, 10, none⟩ (.int .i64 n)) (w.heap.size + 1 + 1) 32 #[.slice p.Ab e.sky.bodies.length p.cb, .int .i64 e.sky.nnum, .int .i64 e.sky.nden, .int .i64 e.sky.nstart, .slice p.As e.sun.length p.cs, .slice p.Am e.moon.length p.cm, .slice p.An e.node.length p.cn, .slice p.Af e.feasts.length p.cf, .int .i64 e.nw, .int .i64 e.fl, .int .i64 n]) := Lib.hid (HR3.out.set_ 10 (.int .i64 n))
  have HR4 : Hid (Row (W.setCell ⟨w.heap.size + 1 + 1, 10, none⟩ (.int .i64 n)) (w.heap.size + 1) 32 #[.slice none 0 0, .int .i64 0, .int .i64 0, .int .i64 0, .slice none 0 0, .slice none 0 0, .slice none 0 0, .slice none 0 0, .int .i64 0, .int .i64 0, .int .i64 0]) := Lib.hid (HR2.out.far (p := ⟨w.heap.size + 1 + 1, 10, none⟩) (by simp) _)
  have HE2 : Hid (Ext w (W.setCell ⟨w.heap.size + 1 + 1, 10, none⟩ (.int .i64 n))) := Lib.hid (HE.out.setCell (p := ⟨w.heap.size + 1 + 1, 10, none⟩) (by simp; omega) _)
  obtain ⟨W2, hW2⟩ : ∃ W2, W.setCell ⟨w.heap.size + 1 + 1, 10, none⟩ (.int .i64 n) = W2 := ⟨_, rfl⟩
  try rw [hW2]
  rw [hW2] at HR5 HR4 HE2
  clear hW2 HR2 HR3 HE
  have c5 := HR5.out.cell
  have c4 := HR4.out.cell
  have f4 := HR4.out.free
  go_wp2_with fail
  all_goals clear c5 c4 f4
  obtain ⟨W5, hW5⟩ : ∃ W5, setsAt W2 (w.heap.size + 1) 0 [.slice p.Ab e.sky.bodies.length p.cb, .int .i64 e.sky.nnum, .int .i64 e.sky.nden, .int .i64 e.sky.nstart, .slice p.As e.sun.length p.cs, .slice p.Am e.moon.length p.cm, .slice p.An e.node.length p.cn, .slice p.Af e.feasts.length p.cf, .int .i64 e.nw, .int .i64 e.fl, .int .i64 n] = W5 := ⟨_, rfl⟩
  have hR5 : Row W5 (w.heap.size + 1) 32 #[.slice p.Ab e.sky.bodies.length p.cb, .int .i64 e.sky.nnum, .int .i64 e.sky.nden, .int .i64 e.sky.nstart, .slice p.As e.sun.length p.cs, .slice p.Am e.moon.length p.cm, .slice p.An e.node.length p.cn, .slice p.Af e.feasts.length p.cf, .int .i64 e.nw, .int .i64 e.fl, .int .i64 n] := by rw [← hW5]; exact Row.sets (cs := [.slice none 0 0, .int .i64 0, .int .i64 0, .int .i64 0, .slice none 0 0, .slice none 0 0, .slice none 0 0, .slice none 0 0, .int .i64 0, .int .i64 0, .int .i64 0]) HR4.out _ rfl
  have hE5 : Ext w W5 := by rw [← hW5]; exact Ext.sets (Nat.le_succ _) _ _ _ HE2.out
  simp only [setsAt, Nat.reduceAdd] at hW5
  rw [hW5]
  clear hW5
  refine bodyPost_ret (results_cell_row rfl _ _ (w.heap.size + 1) 32 _ (0, 0) _ rfl hR5 Tryz.underlying32 rfl (by kernel_rfl)) rfl ?_
  exact ⟨rfl, hE5⟩
end Go.Proofs.YtcbodpnmndbgnaaGreatDoor
namespace Go.Proofs.YtcbodpnmndbgnaaGreatDoor
open Go.RowKit
open Sp (rd)
theorem widened_ok {e : Ec.Engine} {n : Int} (h : Ec.engineOk e = true) (h1 : 0 ≤ n) (h2 : n ≤ 5400) : Ec.engineOk (Ec.widened e n) = true := by
  have hn : Sp.isLimit n = true := inR_iff.2 ⟨h1, h2⟩
  simp only [Ec.engineOk, Bool.and_eq_true] at h ⊢
  exact ⟨h.1, h.2.1, h.2.2.1, h.2.2.2.1, h.2.2.2.2.1, hn⟩
theorem widened_set {w : World} {p : EP} {e : Ec.Engine} {set : List Int} (n : Int) (h : EngSet w p e set) : EngSet w p (Ec.widened e n) set := ⟨⟨h.eng.bodies, h.eng.sun, h.eng.moon, h.eng.node, h.eng.feasts⟩, h.set⟩
theorem widened_short {e : Ec.Engine} (n : Int) (h : EngShort e) : EngShort (Ec.widened e n) := ⟨h.sky, h.sun, h.moon, h.node, h.feasts⟩
theorem real_len (e : Ec.Engine) (lo hi : Int) (h1 : lo ≤ hi) (h2 : hi - lo ≤ 490) : (Ec.realL e lo hi).length ≤ 1000 := by
  have a := ecls_le e.sky e.nw e.fl (Sp.moonsL e.sky lo hi)
  have b := moonsN_le e.sky lo (hi + 1 - lo).toNat
  have c : (Sp.moonsL e.sky lo hi).length = (Sp.moonsN e.sky lo (hi + 1 - lo).toNat).length := rfl
  have d : (Ec.realL e lo hi).length = (Sp.eclsOf e.sky e.nw e.fl (Sp.moonsL e.sky lo hi)).length := rfl
  omega
theorem missed_len (e : Ec.Engine) (set : List Int) (lo hi late : Int) (h1 : lo ≤ hi) (h2 : hi - lo ≤ 490) : (Ec.missedL e set lo hi late).length ≤ 1000 :=
  Nat.le_trans (List.length_filter_le _ _) (real_len e lo hi h1 h2)
end Go.Proofs.YtcbodpnmndbgnaaGreatDoor
namespace Go.Proofs.YtcbodpnmndbgnaaGreatDoor
open Sp (rd)
theorem cmpL_first : ∀ (a b : List Int) (k : Nat), a.length = b.length → Ec.cmpL a b ≤ 0 → k < a.length → (∀ j, j < k → rd b j = rd a j) → rd b k ≠ rd a k → rd a k < rd b k := by
  intro a
  induction a with
  | nil => intro b k _ _ hk; simp at hk
  | cons x l ih =>
    intro b k hl hc hk he hn
    cases b with
    | nil => simp at hl
    | cons y m =>
      simp only [Ec.cmpL] at hc
      cases k with
      | zero =>
        have hn' : y ≠ x := hn
        show x < y
        split at hc
        · assumption
        · split at hc
          · omega
          · omega
      | succ k =>
        have h0 : y = x := he 0 (by omega)
        subst h0
        rw [if_neg (by omega), if_neg (by omega)] at hc
        exact ih m k (by simpa using hl) hc (by simpa using hk) (fun j hj => he (j + 1) (by omega)) hn
theorem doc_first {good : List Int → Bool} {n : Nat} {y : List Int} (h : Ec.docSet good n = some y) {z : List Int} (hz : Ec.Incr n 0 z) (hg : good z = true) (hl : z.length = y.length) {k : Nat} (hk : k < y.length) (he : ∀ j, j < k → rd z j = rd y j) (hn : rd z k ≠ rd y k) : rd y k < rd z k := by
  obtain ⟨_, _, c⟩ := Ec.find_least (Ec.allN_sorted n) h
  have hc := c z ((Ec.allN_mem ..).2 hz) hg
  unfold Ec.setCmp at hc
  rw [if_neg (by omega), if_neg (by omega)] at hc
  exact cmpL_first y z k hl.symm hc hk he hn
theorem incr_mk {n : Int} : ∀ (l : List Int) (k : Int), (∀ i, i < l.length → rd l i < n) → (∀ i, i + 1 < l.length → rd l i < rd l (i + 1)) → (0 < l.length → k ≤ rd l 0) → Ec.Incr n k l := by
  intro l
  induction l with
  | nil => intro k _ _ _; trivial
  | cons x l ih =>
    intro k h1 h2 h3
    refine ⟨h3 (by simp), h1 0 (by simp), ih (x + 1) (fun i hi => h1 (i + 1) (by simpa using hi)) (fun i hi => h2 (i + 1) (by simpa using hi)) (fun h0 => ?_)⟩
    have := h2 0 (by simpa using h0)
    have e0 : rd (x :: l) 0 = x := rfl
    have e1 : rd (x :: l) (0 + 1) = rd l 0 := rfl
    omega
theorem incr_of_set {feasts set : List Int} (h : Ec.setOk feasts set = true) : Ec.Incr feasts.length 0 set := by
  have hr := Ec.rising_at (show Ec.risingN set 0 ((feasts.length : Int) - 1) set.length = true from h)
  exact incr_mk set 0 (fun i hi => by have := (hr i hi).1.2; omega) (fun i hi => (hr (i + 1) hi).2 (by omega)) (fun h0 => (hr 0 h0).1.1)
end Go.Proofs.YtcbodpnmndbgnaaGreatDoor
