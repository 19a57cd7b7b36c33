/- Volume 13 of the texts that the laws of this seat use: EcRef2 EcOpen EcLaws0 EcRef3 EcLaws1 EcRef4 EcRef5 EcRef7: walks of the program's functions, and plain laws. -/
import Derived.Carry
import Derived.ProofKit
import Derived.Deep.Slices
import Derived.Stop.LaidErr
import Derived.Lib.LaidTab
import Derived.Deep.DeepHandedRow
import Derived.WalkKit
import Derived.Shelf.Vars
import Derived.Lib.MinMax
import Derived.Test.YtcbodpnmndbgnaaGreatDoorG12
import Derived.Test.YtcbodpnmndbgnaaGreatDoorG03
import Derived.Test.YtcbodpnmndbgnaaGreatDoorG04
import Derived.Test.YtcbodpnmndbgnaaGreatDoorG05
import Derived.Test.YtcbodpnmndbgnaaGreatDoorG06
import Derived.Test.YtcbodpnmndbgnaaGreatDoorCards
import Derived.Test.YtcbodpnmndbgnaaGreatDoorTie
namespace Go.Proofs.YtcbodpnmndbgnaaGreatDoor
open Go.RowKit
open Sp (rd)
set_option maxRecDepth 100000
set_option maxHeartbeats 2000000
set_option linter.unusedVariables false
theorem r7_Engine_any (p : EP) (e : Ec.Engine) (w : World) (hm : EngAt w p e) (hl : EngShort e) :
  Calls Tryz.prog 16 #[.agg #[.slice p.Ab e.sky.bodies.length p.cb, .int .i64 e.sky.nnum, .int .i64 e.sky.nden, .int .i64 e.sky.nstart, .slice p.As e.sun.length p.cs, .slice p.Am e.moon.length p.cm, .slice p.An e.node.length p.cn, .slice p.Af e.feasts.length p.cf, .int .i64 e.nw, .int .i64 e.fl, .int .i64 e.wide]] w fun r w' => r = .returned (.bool (Ec.engineOk e)) ∧ Ext w w' := by
 have HM := Lib.hid hm
 have HL := Lib.hid hl
 clear hm hl
 have HR0 : Hid (Row (w.alloc (.cells #[.slice p.Ab e.sky.bodies.length p.cb, .int .i64 e.sky.nnum, .int .i64 e.sky.nden, .int .i64 e.sky.nstart, .slice p.As e.sun.length p.cs, .slice p.Am e.moon.length p.cm, .slice p.An e.node.length p.cn, .slice p.Af e.feasts.length p.cf, .int .i64 e.nw, .int .i64 e.fl, .int .i64 e.wide] 32)) w.heap.size 32 #[.slice p.Ab e.sky.bodies.length p.cb, .int .i64 e.sky.nnum, .int .i64 e.sky.nden, .int .i64 e.sky.nstart, .slice p.As e.sun.length p.cs, .slice p.Am e.moon.length p.cm, .slice p.An e.node.length p.cn, .slice p.Af e.feasts.length p.cf, .int .i64 e.nw, .int .i64 e.fl, .int .i64 e.wide]) := Lib.hid (Row.new w _ _)
 have HE0 : Hid (Ext w (w.alloc (.cells #[.slice p.Ab e.sky.bodies.length p.cb, .int .i64 e.sky.nnum, .int .i64 e.sky.nden, .int .i64 e.sky.nstart, .slice p.As e.sun.length p.cs, .slice p.Am e.moon.length p.cm, .slice p.An e.node.length p.cn, .slice p.Af e.feasts.length p.cf, .int .i64 e.nw, .int .i64 e.fl, .int .i64 e.wide] 32))) := Lib.hid ((Ext.refl w).alloc _)
 go_enter Tryz.func16, Tryz.ntmps16
 have b0 := HR0.out.cell
 go_wp2_with fail
 refine (r_Sky_any e.sky p.Ab p.cb _ (HM.out.ext HE0.out).bodies HL.out.sky).mono ?_
 rintro r w1 ⟨rfl, hE1⟩
 have HE1 := Lib.hid (HE0.out.trans hE1)
 have HR1 := Lib.hid (HR0.out.ext hE1)
 clear b0 hE1
 have b1 := HR1.out.cell
 cases hsky : Sp.skyOk e.sky with
 | false =>
  have HN : Hid (Ec.engineOk e = false) := Lib.hid (by simp [Ec.engineOk, hsky])
  go_wp2_with fail
  go_ret
  exact ⟨ret_bool (by rw [HN.out]), HE1.out⟩
 | true =>
  go_wp2_with fail
  refine (r1_Train_any p.As p.cs e.sun _ (HM.out.ext HE1.out).sun HL.out.sun).mono ?_
  rintro r w' ⟨rfl, rfl⟩
  cases hsun : Ec.trainOk e.sun with
  | false =>
   have HN : Hid (Ec.engineOk e = false) := Lib.hid (by simp [Ec.engineOk, hsun])
   go_wp2_with fail
   go_ret
   exact ⟨ret_bool (by rw [HN.out]), HE1.out⟩
  | true =>
   go_wp2_with fail
   refine (r1_Train_any p.Am p.cm e.moon _ (HM.out.ext HE1.out).moon HL.out.moon).mono ?_
   rintro r w' ⟨rfl, rfl⟩
   cases hmoon : Ec.trainOk e.moon with
   | false =>
    have HN : Hid (Ec.engineOk e = false) := Lib.hid (by simp [Ec.engineOk, hmoon])
    go_wp2_with fail
    go_ret
    exact ⟨ret_bool (by rw [HN.out]), HE1.out⟩
   | true =>
    go_wp2_with fail
    refine (r1_Train_any p.An p.cn e.node _ (HM.out.ext HE1.out).node HL.out.node).mono ?_
    rintro r w' ⟨rfl, rfl⟩
    cases hnode : Ec.trainOk e.node with
    | false =>
     have HN : Hid (Ec.engineOk e = false) := Lib.hid (by simp [Ec.engineOk, hnode])
     go_wp2_with fail
     go_ret
     exact ⟨ret_bool (by rw [HN.out]), HE1.out⟩
    | true =>
     go_wp2_with fail
     refine (r1_Feasts_any p.Af p.cf e.feasts _ (HM.out.ext HE1.out).feasts HL.out.feasts).mono ?_
     rintro r w2 ⟨rfl, hE2⟩
     have HE2 := Lib.hid (HE1.out.trans hE2)
     have HR2 := Lib.hid (HR1.out.ext hE2)
     clear b1 hE2
     have b2 := HR2.out.cell
     cases hfeasts : Ec.feastsOk e.feasts with
     | false =>
      have HN : Hid (Ec.engineOk e = false) := Lib.hid (by simp [Ec.engineOk, hfeasts])
      go_wp2_with fail
      go_ret
      exact ⟨ret_bool (by rw [HN.out]), HE2.out⟩
     | true =>
      go_wp2_with fail
      refine (r_Limit_any _ _).mono ?_
      rintro r w' ⟨rfl, rfl⟩
      cases hnw : Sp.isLimit e.nw with
      | false =>
       have HN : Hid (Ec.engineOk e = false) := Lib.hid (by simp [Ec.engineOk, hnw])
       go_wp2_with fail
       go_ret
       exact ⟨ret_bool (by rw [HN.out]), HE2.out⟩
      | true =>
       go_wp2_with fail
       refine (r_Limit_any _ _).mono ?_
       rintro r w' ⟨rfl, rfl⟩
       cases hfl : Sp.isLimit e.fl with
       | false =>
        have HN : Hid (Ec.engineOk e = false) := Lib.hid (by simp [Ec.engineOk, hfl])
        go_wp2_with fail
        go_ret
        exact ⟨ret_bool (by rw [HN.out]), HE2.out⟩
       | true =>
        go_wp2_with fail
        refine (r_Limit_any _ _).mono ?_
        rintro r w' ⟨rfl, rfl⟩
        cases hwide : Sp.isLimit e.wide with
        | false =>
         have HN : Hid (Ec.engineOk e = false) := Lib.hid (by simp [Ec.engineOk, hwide])
         go_wp2_with fail
         go_ret
         exact ⟨ret_bool (by rw [HN.out]), HE2.out⟩
        | true =>
         go_wp2_with fail
         have HK := Lib.hid (skyOk_iff.1 hsky)
         cases hmo : Sp.isMonth e.sky with
         | false =>
          have HN : Hid (Ec.engineOk e = false) := Lib.hid (by simp [Ec.engineOk, hmo])
          refine (r_Month_no e.sky p.Ab p.cb _ HK.out (HM.out.ext HE2.out).bodies hmo).mono ?_
          rintro r w3 ⟨rfl, hE3⟩
          have HE3 := Lib.hid (HE2.out.trans hE3)
          go_wp2_with fail
          go_ret
          exact ⟨ret_bool (by rw [HN.out]), HE3.out⟩
         | true =>
          have HN : Hid (Ec.engineOk e = true) := Lib.hid (by simp [Ec.engineOk, hmo, hsky, hsun, hmoon, hnode, hfeasts, hnw, hfl, hwide])
          refine (r_Month_ok e.sky p.Ab p.cb _ HK.out (HM.out.ext HE2.out).bodies hmo).mono ?_
          rintro r w3 ⟨rfl, hE3⟩
          have HE3 := Lib.hid (HE2.out.trans hE3)
          go_wp2_with fail
          go_ret
          exact ⟨ret_bool (by rw [HN.out]), HE3.out⟩
theorem bd_mem {l : List Sp.Body} {k : Nat} (hk : k < l.length) : bd l k ∈ l := by
 unfold bd
 rw [List.getD_eq_getElem?_getD, List.getElem?_eq_getElem hk]
 exact List.getElem_mem hk
structure EngLong (e : Ec.Engine) : Prop where
 bodies : e.sky.bodies.length ≤ 9223372036854775807
 roads : ∀ k, k < e.sky.bodies.length → (bd e.sky.bodies k).road.length ≤ 9223372036854775807
 sun : e.sun.length ≤ 9223372036854775807
 moon : e.moon.length ≤ 9223372036854775807
 node : e.node.length ≤ 9223372036854775807
 feasts : e.feasts.length ≤ 9223372036854775807
def shortB (e : Ec.Engine) (set : List Int) : Bool := (e.sky.bodies.take 7).all (fun b => decide (b.road.length ≤ 10)) && (decide (e.sky.bodies.length ≤ 6) && (decide (e.sun.length ≤ 6) && (decide (e.moon.length ≤ 6) && (decide (e.node.length ≤ 6) && (decide (e.feasts.length ≤ 10) && decide (set.length ≤ 10))))))
structure Shorts (e : Ec.Engine) (set : List Int) : Prop where
 eng : EngShort e
 feasts : e.feasts.length ≤ 10
 set : set.length ≤ 10
theorem shorts_of {e : Ec.Engine} {set : List Int} (h : shortB e set = true) : Shorts e set := by
 simp only [shortB, Bool.and_eq_true, decide_eq_true_eq] at h
 obtain ⟨h1, h2, h3, h4, h5, h6, h7⟩ := h
 rw [List.take_of_length_le (by omega)] at h1
 refine ⟨⟨⟨by omega, fun k hk => ?_⟩, by omega, by omega, by omega, by omega⟩, h6, h7⟩
 have := List.all_eq_true.1 h1 (bd e.sky.bodies k) (bd_mem hk)
 have := of_decide_eq_true this
 omega
theorem getD_bd {l : List Sp.Body} {k : Nat} (hk : k < l.length) : l[k] = bd l k := by
 unfold bd
 rw [List.getD_eq_getElem?_getD, List.getElem?_eq_getElem hk]
 rfl
theorem l7_short_any (p : EP) (e : Ec.Engine) (set : List Int) (w : World) (hm : EngAt w p e) (hl : EngLong e) (hs : set.length ≤ 9223372036854775807) :
  Calls Tryz.prog 15 #[.agg #[.slice p.Ab e.sky.bodies.length p.cb, .int .i64 e.sky.nnum, .int .i64 e.sky.nden, .int .i64 e.sky.nstart, .slice p.As e.sun.length p.cs, .slice p.Am e.moon.length p.cm, .slice p.An e.node.length p.cn, .slice p.Af e.feasts.length p.cf, .int .i64 e.nw, .int .i64 e.fl, .int .i64 e.wide], .slice p.At set.length p.ct] w fun r w' => r = .returned (.bool (shortB e set)) ∧ Ext w w' := by
 have HL := Lib.hid hl
 have HM := Lib.hid hm
 have hl1 := hl.bodies
 have hl2 := hl.sun
 have hl3 := hl.moon
 have hl4 := hl.node
 have hl5 := hl.feasts
 have hr0 : Row (w.alloc (.cells #[.slice p.Ab e.sky.bodies.length p.cb, .int .i64 e.sky.nnum, .int .i64 e.sky.nden, .int .i64 e.sky.nstart, .slice p.As e.sun.length p.cs, .slice p.Am e.moon.length p.cm, .slice p.An e.node.length p.cn, .slice p.Af e.feasts.length p.cf, .int .i64 e.nw, .int .i64 e.fl, .int .i64 e.wide] 32)) w.heap.size 32 #[.slice p.Ab e.sky.bodies.length p.cb, .int .i64 e.sky.nnum, .int .i64 e.sky.nden, .int .i64 e.sky.nstart, .slice p.As e.sun.length p.cs, .slice p.Am e.moon.length p.cm, .slice p.An e.node.length p.cn, .slice p.Af e.feasts.length p.cf, .int .i64 e.nw, .int .i64 e.fl, .int .i64 e.wide] := Row.new w _ _
 have hE0 : Ext w (w.alloc (.cells #[.slice p.Ab e.sky.bodies.length p.cb, .int .i64 e.sky.nnum, .int .i64 e.sky.nden, .int .i64 e.sky.nstart, .slice p.As e.sun.length p.cs, .slice p.Am e.moon.length p.cm, .slice p.An e.node.length p.cn, .slice p.Af e.feasts.length p.cf, .int .i64 e.nw, .int .i64 e.fl, .int .i64 e.wide] 32)) := (Ext.refl w).alloc _
 have HR0 := Lib.hid hr0
 have HE0 := Lib.hid hE0
 clear hm hl hr0 hE0
 go_enter Tryz.func15, Tryz.ntmps15
 go_wp2_with fail
 generalize w.alloc (.cells #[.slice p.Ab e.sky.bodies.length p.cb, .int .i64 e.sky.nnum, .int .i64 e.sky.nden, .int .i64 e.sky.nstart, .slice p.As e.sun.length p.cs, .slice p.Am e.moon.length p.cm, .slice p.An e.node.length p.cn, .slice p.Af e.feasts.length p.cf, .int .i64 e.nw, .int .i64 e.fl, .int .i64 e.wide] 32) = w1 at *
 go_loopw [5] (fun i wr => ∃ k : Nat, k ≤ e.sky.bodies.length ∧ k ≤ 7 ∧ i = .int .i64 k ∧ (e.sky.bodies.take k).all (fun b => decide (b.road.length ≤ 10)) = true ∧ Ext w1 wr) (fun i _ => 7 - (intOf i).toNat)
 case atStart => exact ⟨0, Nat.zero_le _, by omega, rfl, rfl, Ext.refl _⟩
 case round =>
  obtain ⟨k, hk, hk7, rfl, hall, hE⟩ := hrel
  have b0 := (HR0.out.ext hE).cell
  have HE := Lib.hid hE
  by_cases hlt : k < e.sky.bodies.length
  ·by_cases hlt7 : k < 7
   ·obtain ⟨b, o, hAb, hB⟩ := HM.out.bodies (by omega)
    rw [hAb] at b0 ⊢
    have HB := (hB k hlt).ext (HE0.out.trans hE)
    have hrl := HL.out.roads k hlt
    have hbo : (0 : Int) ≤ (k : Int) ∧ (k : Int) < (e.sky.bodies.length : Int) := by omega
    by_cases hlen : (bd e.sky.bodies k).road.length ≤ 10
    ·have HN : Hid ((e.sky.bodies.take (k + 1)).all (fun b => decide (b.road.length ≤ 10)) = true) := Lib.hid (by
      rw [List.take_succ_eq_append_getElem hlt, List.all_append, hall, getD_bd hlt]; simp [hlen])
     clear hall hE hB hAb
     generalize bd e.sky.bodies k = B at *
     obtain ⟨A1, r1, hr1, I1⟩ := HB.road
     clear HB I1
     go_wp2_with fail
     go_roundw
     case rel => exact ⟨k + 1, by omega, by omega, by go_num, HN.out, HE.out⟩
     case measure => simp [intOf]; omega
    ·have HN : Hid (shortB e set = false) := Lib.hid (by
      have h1 : (e.sky.bodies.take 7).all (fun b => decide (b.road.length ≤ 10)) = false := by
       rw [List.all_eq_false]
       refine ⟨bd e.sky.bodies k, ?_, by simpa using hlen⟩
       rw [← getD_bd hlt]
       exact List.mem_take_iff_getElem.2 ⟨k, by omega, rfl⟩
      simp [shortB, h1])
     clear hall hE hB hAb
     generalize bd e.sky.bodies k = B at *
     obtain ⟨A1, r1, hr1, I1⟩ := HB.road
     clear HB I1
     go_wp2_with fail
     go_ret
     exact ⟨ret_bool HN.out.symm, HE0.out.trans HE.out⟩
   ·have HN : Hid (shortB e set = false) := Lib.hid (by
     have : ¬ e.sky.bodies.length ≤ 6 := by omega
     simp [shortB, this])
    have hn6 : ¬ ((e.sky.bodies.length : Int) ≤ 6) := by omega
    clear hall hE
    go_wp2_with fail
    go_ret
    exact ⟨ret_bool HN.out.symm, HE0.out.trans HE.out⟩
  ·obtain rfl : k = e.sky.bodies.length := by omega
   rw [List.take_length] at hall
   have HA := Lib.hid (show (e.sky.bodies.take 7).all (fun b => decide (b.road.length ≤ 10)) = true by rw [List.take_of_length_le hk7]; exact hall)
   clear hall hE
   by_cases g0 : e.sky.bodies.length ≤ 6
   case neg =>
    have HN : Hid (shortB e set = false) := Lib.hid (by simp [shortB, g0])
    have g0' : ¬ ((e.sky.bodies.length : Nat) : Int) ≤ 6 := by omega
    go_wp2_with fail
    go_ret
    exact ⟨ret_bool HN.out.symm, HE0.out.trans HE.out⟩
   have g0' : ((e.sky.bodies.length : Nat) : Int) ≤ 6 := by omega
   by_cases g1 : e.sun.length ≤ 6
   case neg =>
    have HN : Hid (shortB e set = false) := Lib.hid (by simp [shortB, g1])
    have g1' : ¬ ((e.sun.length : Nat) : Int) ≤ 6 := by omega
    go_wp2_with fail
    go_ret
    exact ⟨ret_bool HN.out.symm, HE0.out.trans HE.out⟩
   have g1' : ((e.sun.length : Nat) : Int) ≤ 6 := by omega
   by_cases g2 : e.moon.length ≤ 6
   case neg =>
    have HN : Hid (shortB e set = false) := Lib.hid (by simp [shortB, g2])
    have g2' : ¬ ((e.moon.length : Nat) : Int) ≤ 6 := by omega
    go_wp2_with fail
    go_ret
    exact ⟨ret_bool HN.out.symm, HE0.out.trans HE.out⟩
   have g2' : ((e.moon.length : Nat) : Int) ≤ 6 := by omega
   by_cases g3 : e.node.length ≤ 6
   case neg =>
    have HN : Hid (shortB e set = false) := Lib.hid (by simp [shortB, g3])
    have g3' : ¬ ((e.node.length : Nat) : Int) ≤ 6 := by omega
    go_wp2_with fail
    go_ret
    exact ⟨ret_bool HN.out.symm, HE0.out.trans HE.out⟩
   have g3' : ((e.node.length : Nat) : Int) ≤ 6 := by omega
   by_cases g4 : e.feasts.length ≤ 10
   case neg =>
    have HN : Hid (shortB e set = false) := Lib.hid (by simp [shortB, g4])
    have g4' : ¬ ((e.feasts.length : Nat) : Int) ≤ 10 := by omega
    go_wp2_with fail
    go_ret
    exact ⟨ret_bool HN.out.symm, HE0.out.trans HE.out⟩
   have g4' : ((e.feasts.length : Nat) : Int) ≤ 10 := by omega
   by_cases g5 : set.length ≤ 10
   case neg =>
    have HN : Hid (shortB e set = false) := Lib.hid (by simp [shortB, g5])
    have g5' : ¬ ((set.length : Nat) : Int) ≤ 10 := by omega
    go_wp2_with fail
    go_ret
    exact ⟨ret_bool HN.out.symm, HE0.out.trans HE.out⟩
   have g5' : ((set.length : Nat) : Int) ≤ 10 := by omega
   have HN : Hid (shortB e set = true) := Lib.hid (by simp [shortB, HA.out, g0, g1, g2, g3, g4, g5])
   clear g0 g1 g2 g3 g4 g5
   go_wp2_with fail
   go_ret
   exact ⟨ret_bool HN.out.symm, HE0.out.trans HE.out⟩
end Go.Proofs.YtcbodpnmndbgnaaGreatDoor
namespace Go.Proofs.YtcbodpnmndbgnaaGreatDoor
def Long (l : List Sp.Body) : Prop := l.length ≤ 9223372036854775807 ∧ ∀ k, k < l.length → (bd l k).road.length ≤ 9223372036854775807
end Go.Proofs.YtcbodpnmndbgnaaGreatDoor
namespace Go.Proofs.YtcbodpnmndbgnaaGreatDoor
open Go.ChangeShapes Go.WideShapes Go.ChangeAt Go.RowKit
open Sp (rd)
set_option maxRecDepth 100000
set_option linter.constructorNameAsVariable false
section
variable {H : Type} {enc : TypeId × Value → H} {W : World} {spare : Nat → Bool} {held : Bool} {fuel : Nat} {cs : List Value} {x : DataW H × List MemPlace}
theorem open_road (h : DataW.trod enc Tryz.prog W 0 spare held fuel 30 cs = some x) : ∃ A l c, cs = [.slice A l.length c] ∧ Ints W A l ∧ l.length ≤ maxLen := by
 rcases open_ints Tryz.underlying30 Tryz.underlying3 (by kernel_rfl) h with ⟨rfl, _⟩ | ⟨a, len, cap, zs, rfl, _, hlc, hcm, hzl, _, hc, _⟩
 ·exact ⟨none, [], 0, rfl, fun h0 => by simp at h0, Nat.zero_le _⟩
 ·have hle : len ≤ zs.length := by rw [hzl]; split <;> omega
  have hlen : (zs.take len).length = len := by rw [List.length_take]; omega
  refine ⟨some a, zs.take len, cap, by rw [hlen], fun h0 => ?_, by omega⟩
  rw [hlen] at h0
  obtain ⟨b, off, rfl, hc2⟩ := ints_at hc (by omega)
  refine ⟨b, off, rfl, fun k hk => ?_⟩
  rw [hlen] at hk
  rw [hc2 k (by omega)]
  unfold Sp.rd
  rw [List.getD_eq_getElem?_getD, List.getD_eq_getElem?_getD, List.getElem?_take_of_lt hk]
theorem list_two {α : Type} {l : List α} (h : l.length = 2) : ∃ a b, l = [a, b] := by
 cases l with
 | nil => simp at h
 | cons a l =>
  cases l with
  | nil => simp at h
  | cons b l =>
   have : l = [] := List.eq_nil_of_length_eq_zero (by simpa using h)
   exact ⟨a, b, by rw [this]⟩
theorem list_four {α : Type} {l : List α} (h : l.length = 4) : ∃ a b c d, l = [a, b, c, d] := by
 cases l with
 | nil => simp at h
 | cons a l =>
  cases l with
  | nil => simp at h
  | cons b l =>
   obtain ⟨c, d, rfl⟩ := list_two (l := l) (by simpa using h)
   exact ⟨a, b, c, d, rfl⟩
theorem get_some {α : Type} {l : List α} {i : Nat} {y : Option α} (h : y = l[i]?) (hi : i < l.length) : ∃ z, y = some z := ⟨l[i], by rw [h, List.getElem?_eq_getElem hi]⟩
theorem c3 : Tryz.prog.cellsOf 3 = 1 := by kernel_rfl
theorem c64 : Tryz.prog.cellsOf 30 = 1 := by kernel_rfl
theorem c24 : Tryz.prog.cellsOf 24 = 2 := by kernel_rfl
theorem c26 : Tryz.prog.cellsOf 26 = 3 := by kernel_rfl
theorem c80 : Tryz.prog.cellsOf 46 = 4 := by kernel_rfl
theorem c22 : Tryz.prog.cellsOf 22 = 1 := by kernel_rfl
theorem c28 : Tryz.prog.cellsOf 28 = 4 := by kernel_rfl
theorem open_period (h : DataW.trod enc Tryz.prog W 0 spare held fuel 24 cs = some x) : ∃ n d : Int, cs = [.int .i64 n, .int .i64 d] := by
 obtain ⟨xs, m, rfl, rfl, hcs, hxs, each⟩ := DataW.trod_struct Tryz.underlying24 h
 obtain ⟨a, b, rfl⟩ := list_two (hcs.trans c24)
 have hx2 : xs.length = 2 := hxs
 obtain ⟨y, hy⟩ := get_some (each 0 _ rfl) (by omega)
 obtain ⟨z, hz⟩ := get_some (each 1 _ rfl) (by omega)
 simp [c3] at hy hz
 obtain ⟨n, hn, _, _⟩ := DataW.trod_int Tryz.underlying3 hy
 obtain ⟨d, hd, _, _⟩ := DataW.trod_int Tryz.underlying3 hz
 simp at hn hd
 exact ⟨n, d, by rw [hn, hd]⟩
theorem open_body (h : DataW.trod enc Tryz.prog W 0 spare held fuel 46 cs = some x) : ∃ (B : Sp.Body) (A : Option Addr) (c : Nat), cs = [.int .i64 B.num, .int .i64 B.den, .int .i64 B.start, .slice A B.road.length c] ∧ Ints W A B.road ∧ B.road.length ≤ maxLen := by
 obtain ⟨xs, m, rfl, rfl, hcs, hxs, each⟩ := DataW.trod_struct Tryz.underlying46 h
 obtain ⟨a, b, c, d, rfl⟩ := list_four (hcs.trans c80)
 have hx2 : xs.length = 3 := hxs
 obtain ⟨y, hy⟩ := get_some (each 0 _ rfl) (by omega)
 obtain ⟨z, hz⟩ := get_some (each 1 _ rfl) (by omega)
 obtain ⟨u, hu⟩ := get_some (each 2 _ rfl) (by omega)
 simp [c3, c24, c64] at hy hz hu
 obtain ⟨n, k, hn⟩ := open_period hy
 obtain ⟨s, hs, _, _⟩ := DataW.trod_int Tryz.underlying3 hz
 obtain ⟨A, l, cc, hr, hI, hm⟩ := open_road hu
 simp at hn hs hr
 exact ⟨⟨n, k, s, l⟩, A, cc, by rw [hn.1, hn.2, hs, hr], hI, hm⟩
theorem open_bodies (h : DataW.trod enc Tryz.prog W 0 spare held fuel 22 cs = some x) : ∃ A l c, cs = [.slice A l.length c] ∧ Bodies W A l ∧ Long l := by
 rcases DataW.trod_slice Tryz.underlying22 h with ⟨rfl, _⟩ | ⟨a, len, cap, elems, rest, n, rfl, rfl, rfl, _, hlc, hcm, hel, each, _, _⟩
 ·exact ⟨none, [], 0, rfl, fun h0 => by simp at h0, ⟨by simp, fun k hk => by simp at hk⟩⟩
 ·have one : ∀ i, i < len → ∃ B : Sp.Body, ∃ (A : Option Addr) (c : Nat), W.cells? 0 (a.add (i * 4)) 4 = some [.int .i64 B.num, .int .i64 B.den, .int .i64 B.start, .slice A B.road.length c] ∧ Ints W A B.road ∧ B.road.length ≤ maxLen := by
   intro i hi
   have e := each i hi
   rw [c80] at e
   obtain ⟨y, hy⟩ := get_some e (by omega)
   rw [Option.bind_eq_some_iff] at hy
   obtain ⟨cs', h1, h2⟩ := hy
   obtain ⟨B, A, c, rfl, hI, hm⟩ := open_body h2
   exact ⟨B, A, c, h1, hI, hm⟩
  haveI : Inhabited Sp.Body := ⟨Sp.noBody⟩
  obtain ⟨f, hf⟩ := Go.Deep.choose_lt one
  have hll : ((List.range len).map f).length = len := by simp
  have hbd : ∀ k, k < len → bd ((List.range len).map f) k = f k := fun k hk => by
   unfold bd
   rw [List.getD_eq_getElem?_getD, List.getElem?_map, List.getElem?_range hk]
   rfl
  have hmx : (maxLen : Nat) ≤ 9223372036854775807 := by decide
  refine ⟨some a, (List.range len).map f, cap, by rw [hll], fun h0 => ?_, ⟨by omega, fun k hk => ?_⟩⟩
  ·rw [hll] at h0
   obtain ⟨A0, c0, hc0, _, _⟩ := hf 0 h0
   have hsp := (World.cells?_some hc0).2.2 0 (by omega)
   obtain ⟨b, off, spot⟩ := a
   have hspot : spot = none := by
    have : W.cell? ⟨b, off, spot⟩ = some (.int .i64 (f 0).num) := by simpa [Addr.add] using hsp
    simpa using World.cell?_spot this
   subst hspot
   refine ⟨b, off, rfl, fun k hk => ?_⟩
   rw [hll] at hk
   rw [hbd k hk]
   obtain ⟨A1, c1, hc1, hI, _⟩ := hf k hk
   have g := (World.cells?_some hc1).2.2
   have g0 := g 0 (by omega)
   have g1 := g 1 (by omega)
   have g2 := g 2 (by omega)
   have g3 := g 3 (by omega)
   simp only [add_plain, Nat.add_zero] at g0 g1 g2 g3
   exact ⟨g0, g1, g2, _, _, g3, hI⟩
  ·rw [hll] at hk
   rw [hbd k hk]
   obtain ⟨A1, c1, _, _, hm⟩ := hf k hk
   omega
theorem open_sky_cells (h : DataW.trod enc Tryz.prog W 0 spare held fuel 28 cs = some x) :
  ∃ (s : Sp.Sky) (A : Option Addr) (c : Nat), cs = [.slice A s.bodies.length c, .int .i64 s.nnum, .int .i64 s.nden, .int .i64 s.nstart] ∧ Bodies W A s.bodies ∧ Long s.bodies := by
 obtain ⟨xs, m, rfl, rfl, hcs, hxs, each⟩ := DataW.trod_struct Tryz.underlying28 h
 obtain ⟨a, b, c, d, rfl⟩ := list_four (hcs.trans c28)
 have hx2 : xs.length = 2 := hxs
 obtain ⟨y, hy⟩ := get_some (each 0 _ rfl) (by omega)
 obtain ⟨z, hz⟩ := get_some (each 1 _ rfl) (by omega)
 simp [c22, c26] at hy hz
 obtain ⟨A, l, cc, hr, hB, hL⟩ := open_bodies hy
 obtain ⟨ys, m2, rfl, _, hcs2, hxs2, each2⟩ := DataW.trod_struct Tryz.underlying26 hz
 have hx3 : ys.length = 2 := hxs2
 obtain ⟨p, hp⟩ := get_some (each2 0 _ rfl) (by omega)
 obtain ⟨q, hq⟩ := get_some (each2 1 _ rfl) (by omega)
 simp [c24, c3] at hp hq
 obtain ⟨n, k, hn⟩ := open_period hp
 obtain ⟨st, hs, _, _⟩ := DataW.trod_int Tryz.underlying3 hq
 simp at hr hn hs
 exact ⟨⟨l, n, k, st⟩, A, cc, by rw [hr, hn.1, hn.2, hs], hB, hL⟩
theorem list_more {α : Type} {l : List α} {n : Nat} (h : l.length = n + 1) : ∃ a t, l = a :: t ∧ t.length = n := by
 cases l with
 | nil => simp at h
 | cons a t => exact ⟨a, t, rfl, by simpa using h⟩
theorem cPair : Tryz.prog.cellsOf 140 = 2 := by kernel_rfl
theorem cPairs : Tryz.prog.cellsOf 29 = 1 := by kernel_rfl
theorem cEng : Tryz.prog.cellsOf 32 = 11 := by kernel_rfl
theorem open_pair (h : DataW.trod enc Tryz.prog W 0 spare held fuel 140 cs = some x) : ∃ q : Ec.Pair, cs = [.int .i64 q.drives, .int .i64 q.driven] := by
 obtain ⟨xs, m, rfl, rfl, hcs, hxs, each⟩ := DataW.trod_struct Tryz.underlying140 h
 obtain ⟨a, b, rfl⟩ := list_two (hcs.trans cPair)
 have hx2 : xs.length = 2 := hxs
 obtain ⟨y, hy⟩ := get_some (each 0 _ rfl) (by omega)
 obtain ⟨z, hz⟩ := get_some (each 1 _ rfl) (by omega)
 simp [c3] at hy hz
 obtain ⟨n, hn, _, _⟩ := DataW.trod_int Tryz.underlying3 hy
 obtain ⟨d, hd, _, _⟩ := DataW.trod_int Tryz.underlying3 hz
 simp at hn hd
 exact ⟨⟨n, d⟩, by rw [hn, hd]⟩
theorem open_pairs (h : DataW.trod enc Tryz.prog W 0 spare held fuel 29 cs = some x) : ∃ A l c, cs = [.slice A l.length c] ∧ Pairs W A l ∧ l.length ≤ maxLen := by
 rcases DataW.trod_slice Tryz.underlying29 h with ⟨rfl, _⟩ | ⟨a, len, cap, elems, rest, n, rfl, rfl, rfl, _, hlc, hcm, hel, each, _, _⟩
 ·exact ⟨none, [], 0, rfl, fun h0 => by simp at h0, Nat.zero_le _⟩
 ·have one : ∀ i, i < len → ∃ B : Ec.Pair, W.cells? 0 (a.add (i * 2)) 2 = some [.int .i64 B.drives, .int .i64 B.driven] := by
   intro i hi
   have e := each i hi
   rw [cPair] at e
   obtain ⟨y, hy⟩ := get_some e (by omega)
   rw [Option.bind_eq_some_iff] at hy
   obtain ⟨cs', h1, h2⟩ := hy
   obtain ⟨B, rfl⟩ := open_pair h2
   exact ⟨B, h1⟩
  haveI : Inhabited Ec.Pair := ⟨Ec.noPair⟩
  obtain ⟨f, hf⟩ := Go.Deep.choose_lt one
  have hll : ((List.range len).map f).length = len := by simp
  have hbd : ∀ k, k < len → pd ((List.range len).map f) k = f k := fun k hk => by
   unfold pd
   rw [List.getD_eq_getElem?_getD, List.getElem?_map, List.getElem?_range hk]
   rfl
  refine ⟨some a, (List.range len).map f, cap, by rw [hll], fun h0 => ?_, by omega⟩
  rw [hll] at h0
  have hc0 := hf 0 h0
  have hsp := (World.cells?_some hc0).2.2 0 (by omega)
  obtain ⟨b, off, spot⟩ := a
  have hspot : spot = none := by
   have : W.cell? ⟨b, off, spot⟩ = some (.int .i64 (f 0).drives) := by simpa [Addr.add] using hsp
   simpa using World.cell?_spot this
  subst hspot
  refine ⟨b, off, rfl, fun k hk => ?_⟩
  rw [hll] at hk
  rw [hbd k hk]
  have g := (World.cells?_some (hf k hk)).2.2
  have g0 := g 0 (by omega)
  have g1 := g 1 (by omega)
  simp only [add_plain, Nat.add_zero] at g0 g1
  exact ⟨g0, g1⟩
theorem open_engine {v : Value} {d : DataW H} {ps : List MemPlace} {r : Reach} {base : Nat} (hval : Value.okWide Tryz.prog W r base 32 v) (h : DataW.Trod enc Tryz.prog W 0 spare held 32 v d ps) :
  ∃ (p : EP) (e : Ec.Engine), v = .agg #[.slice p.Ab e.sky.bodies.length p.cb, .int .i64 e.sky.nnum, .int .i64 e.sky.nden, .int .i64 e.sky.nstart, .slice p.As e.sun.length p.cs, .slice p.Am e.moon.length p.cm, .slice p.An e.node.length p.cn, .slice p.Af e.feasts.length p.cf, .int .i64 e.nw, .int .i64 e.fl, .int .i64 e.wide] ∧ EngAt W p e ∧ EngLong e := by
 obtain ⟨cells, rfl, hsz⟩ := okWide_struct Tryz.underlying32 hval
 obtain ⟨fuel, hd⟩ := h
 obtain ⟨xs, m, rfl, _, hcs, hxs, each⟩ := DataW.trod_struct Tryz.underlying32 hd
 have hlen : (Value.agg cells).cells.toList.length = 11 := hcs.trans cEng
 obtain ⟨a0, t0, h0, n0⟩ := list_more hlen
 obtain ⟨a1, t1, rfl, n1⟩ := list_more n0
 obtain ⟨a2, t2, rfl, n2⟩ := list_more n1
 obtain ⟨a3, t3, rfl, n3⟩ := list_more n2
 obtain ⟨a4, t4, rfl, n4⟩ := list_more n3
 obtain ⟨a5, t5, rfl, n5⟩ := list_more n4
 obtain ⟨a6, t6, rfl, n6⟩ := list_more n5
 obtain ⟨a7, t7, rfl, n7⟩ := list_more n6
 obtain ⟨a8, t8, rfl, n8⟩ := list_more n7
 obtain ⟨a9, t9, rfl, n9⟩ := list_more n8
 obtain ⟨a10, t10, rfl, n10⟩ := list_more n9
 obtain rfl : t10 = [] := List.eq_nil_of_length_eq_zero n10
 rw [h0] at each
 have hx2 : xs.length = 8 := hxs
 obtain ⟨y0, hy0⟩ := get_some (each 0 _ rfl) (by omega)
 obtain ⟨y1, hy1⟩ := get_some (each 1 _ rfl) (by omega)
 obtain ⟨y2, hy2⟩ := get_some (each 2 _ rfl) (by omega)
 obtain ⟨y3, hy3⟩ := get_some (each 3 _ rfl) (by omega)
 obtain ⟨y4, hy4⟩ := get_some (each 4 _ rfl) (by omega)
 obtain ⟨y5, hy5⟩ := get_some (each 5 _ rfl) (by omega)
 obtain ⟨y6, hy6⟩ := get_some (each 6 _ rfl) (by omega)
 obtain ⟨y7, hy7⟩ := get_some (each 7 _ rfl) (by omega)
 simp [c28, cPairs, c64, c3] at hy0 hy1 hy2 hy3 hy4 hy5 hy6 hy7
 obtain ⟨s, Ab, cb, hr0, hB, hL⟩ := open_sky_cells hy0
 obtain ⟨As, sun, ds, hr1, hP1, hl1⟩ := open_pairs hy1
 obtain ⟨Am, moon, dm, hr2, hP2, hl2⟩ := open_pairs hy2
 obtain ⟨An, node, dn, hr3, hP3, hl3⟩ := open_pairs hy3
 obtain ⟨Af, feasts, df, hr4, hI, hl4⟩ := open_road hy4
 obtain ⟨nw, hr5, _, _⟩ := DataW.trod_int Tryz.underlying3 hy5
 obtain ⟨fl, hr6, _, _⟩ := DataW.trod_int Tryz.underlying3 hy6
 obtain ⟨wd, hr7, _, _⟩ := DataW.trod_int Tryz.underlying3 hy7
 simp at hr0 hr1 hr2 hr3 hr4 hr5 hr6 hr7
 have hmx : (maxLen : Nat) ≤ 9223372036854775807 := by decide
 refine ⟨⟨Ab, cb, As, ds, Am, dm, An, dn, Af, df, none, 0⟩, ⟨s, sun, moon, node, feasts, nw, fl, wd⟩, ?_, ⟨hB, hP1, hP2, hP3, hI⟩, ⟨hL.1, hL.2, by simp only; omega, by simp only; omega, by simp only; omega, by simp only; omega⟩⟩
 have : cells = #[a0, a1, a2, a3, a4, a5, a6, a7, a8, a9, a10] := by rw [← Array.toList_inj]; exact (show cells.toList = _ from h0)
 rw [this, hr0.1, hr0.2.1, hr0.2.2.1, hr0.2.2.2, hr1, hr2, hr3, hr4, hr5, hr6, hr7]
theorem open_set {v : Value} {d : DataW H} {ps : List MemPlace} {r : Reach} {base : Nat} (hval : Value.okWide Tryz.prog W r base 30 v) (h : DataW.Trod enc Tryz.prog W 0 spare held 30 v d ps) :
  ∃ (l : List Int) (A : Option Addr) (c : Nat), v = .slice A l.length c ∧ Ints W A l ∧ l.length ≤ maxLen := by
 obtain ⟨a, len, cap, rfl⟩ := okWide_slice Tryz.underlying30 hval
 obtain ⟨fuel, hd⟩ := h
 obtain ⟨A, l, c, hc, hN, hl⟩ := open_road hd
 simp [Value.cells] at hc
 exact ⟨l, A, c, by rw [hc.1, hc.2.1, hc.2.2], hN, hl⟩
end
end Go.Proofs.YtcbodpnmndbgnaaGreatDoor
namespace Go.Proofs.YtcbodpnmndbgnaaGreatDoor
open Go.ChangeShapes Go.WideShapes Go.ChangeAt Go.RowKit
abbrev laidL : List (String × DataW Unit) := [("math/bits.deBruijn32tab", Rows.laid_math_bits_deBruijn32tab), ("math/bits.deBruijn64tab", Rows.laid_math_bits_deBruijn64tab), ("internal/strconv.uint64pow10", Rows.laid_internal_strconv_uint64pow10), ("unicode/utf8.acceptRanges", Rows.laid_unicode_utf8_acceptRanges), ("unicode/utf8.first", Rows.laid_unicode_utf8_first)]
theorem own : ownKnob Tryz.prog.godebug = none := by kernel_rfl
theorem laidOut : laidOutB Tryz.prog = true := by kernel_rfl
theorem gTab : Tryz.prog.globalNamed "internal/strconv.uint64pow10" = some 3 := by kernel_rfl
theorem gTabType : (Tryz.prog.globals[3]?).map (·.type) = some 254 := by kernel_rfl
theorem tabEq : (Rows.laid_internal_strconv_uint64pow10 : DataW Unit) = Lib.tabData .u64 Lib.pow10Tab := by kernel_rfl
theorem env_of {W : World} (h : laidMetH Tryz.prog laidL W) (hs : W.ShapedOpen Tryz.prog) : Env W := by
 have h' : laidMet Tryz.prog laidL W := h
 have h2 := h'.tail.tail
 rw [tabEq] at h2
 exact ⟨Lib.tabIs_of_head gTab gTabType Tryz.underlying254 Tryz.underlying238 (by kernel_rfl) (by kernel_rfl) h2, cell_of_shapedOpen_int (zero := #[.int .i64 0]) (t := 3) hs (of_decide_eq_true (by kernel_rfl)) (by kernel_rfl) rfl (by kernel_rfl) (by kernel_rfl) Tryz.underlying3⟩
def flatN : Nat → DataW Unit → List Value
 | 0, _ => []
 | n + 1, .agg l => l.flatMap (flatN n)
 | _ + 1, .lit (.int k z) => [.int k z]
 | _, _ => []
def layTab (d : DataW Unit) : Obj → Obj
 | .cells _ t fr => .cells (flatN 4 d).toArray t fr
 | o => o
noncomputable def laidWorld (os : Os) : World :=
 { World.holding Tryz.prog os ⟨#[], #[], []⟩ with heap := (((((World.holding Tryz.prog os ⟨#[], #[], []⟩).heap.modify 4 (layTab Rows.laid_math_bits_deBruijn32tab)).modify 5 (layTab Rows.laid_math_bits_deBruijn64tab)).modify 3 (layTab Rows.laid_internal_strconv_uint64pow10)).modify 2 (layTab Rows.laid_unicode_utf8_acceptRanges)).modify 1 (layTab Rows.laid_unicode_utf8_first) }
theorem trodAll_below {H : Type} {enc : TypeId × Value → H} {W W' : World} (hb : Below W.heap.size W W') : ∀ {ts : List TypeId} {vs : List Value} {ds : List (DataW H)} {ps : List MemPlace},
  (∀ t ∈ ts, Tryz.prog.readableRec t = true ∧ t < Tryz.prog.types.size) → DataW.TrodAll enc Tryz.prog W 0 (fun _ => true) true ts vs ds ps → (∀ x ∈ ps, x.block < W.heap.size) →
  DataW.TrodAll enc Tryz.prog W' 0 (fun b => decide (b < W.heap.size)) true ts vs ds ps
 | [], vs, ds, ps, _, h, _ => by
  obtain ⟨rfl, rfl, rfl⟩ := trodAll_nil h
  exact trodAll_mk0
 | t :: ts, vs, ds, ps, hk, h, hlt => by
  obtain ⟨v, vs1, d, ds1, a, b, rfl, rfl, rfl, h1, h2⟩ := trodAll_cons h
  have k := hk t (by simp)
  exact trodAll_cons_mk (Below.trod laidOut k.1 k.2 h1 hb (fun x hx => hlt x (by simp [hx]))) (trodAll_below hb (fun t ht => hk t (by simp [ht])) h2 (fun x hx => hlt x (by simp [hx])))
theorem post_true {H : Type} {enc : TypeId × Value → H} {f : Func} {s : ChangeSpec} {W W' : World} {args : Array Value} {ds gs : List (DataW H)} {before : List MemPlace}
  (hW : DataW.Whole enc Tryz.prog f.params.toList s.vars false W args.toList ds gs before) (hv : s.vars = []) (hr : f.resultTypes = #[4]) (hE : Ext W W')
  (hk : ∀ t ∈ f.params.toList, Tryz.prog.readableRec t = true ∧ t < Tryz.prog.types.size) (h1 : (s.fn H (ds ++ gs)).results = [.lit (.bool true)]) (h2 : (s.fn H (ds ++ gs)).args = ds) (h3 : (s.fn H (ds ++ gs)).vars = []) :
  s.post enc Tryz.prog f false true false false W args (.bool true) W' := by
 have hW0 := hW
 obtain ⟨p, q, hA, hV, rfl, hfz, hnd⟩ := hW
 rw [hv] at hV
 obtain ⟨rfl, rfl⟩ := trodVars_none hV
 have hlt : ∀ x ∈ p, x.block < W.heap.size := fun x hx => by simpa using hW0.lt x (by simpa using hx)
 refine ⟨ds, [], p ++ [], [], p, [], hW0, ?_, ?_, ?_, ?_, fun h => by cases h⟩
 ·rw [h1, hr]
  exact trodAll_cons_mk (shut_bool Tryz.underlying4 _) trodAll_mk0
 ·rw [h2]
  exact trodAll_below hE hk hA hlt
 ·rw [h3, hv]
  rfl
 ·exact World.keptBut_mono (fun _ f => f.elim) (Below.frame hE (fun _ => False))
end Go.Proofs.YtcbodpnmndbgnaaGreatDoor
namespace Go.Proofs.YtcbodpnmndbgnaaGreatDoor
open Go
set_option maxRecDepth 100000
theorem io_eq : Tryz.prog.initOrder = "harness 6e42cd4d63d2f10fb99d533d30ec03d60e03dcb61978a7b528b853a6a76d9ab6 cut " ++ "at tellurion/tellurionlaw07.EclipseKept tellurion/tellurionlaw07.EclipseForetells tellurion/tellurionlaw07.EclipseTold tellurion/tellurionlaw07.EclipseWithins tellurion/tellurionlaw07.EclipseTrusted tellurion/tellurionlaw07.EclipseWidens tellurion/tellurionlaw07.EclipseEnough tellurion/tellurionlaw07.EclipseNever tellurion/tellurionlaw07.EclipseMore tellurion/tellurionlaw07.EclipseHands tellurion/tellurionlaw07.EclipseMisses tellurion/tellurionlaw07.EclipseFound" := by kernel_rfl
theorem words_app (w r : List Char) (h : ∀ c ∈ w, c ≠ (Char.ofNat 32)) : wordsSigns (w ++ (Char.ofNat 32) :: r) = w :: wordsSigns r := by
 induction w with
 | nil => simp [wordsSigns]
 | cons c w ih =>
  have hc : c ≠ (Char.ofNat 32) := h c (by simp)
  have i := ih (fun d hd => h d (by simp [hd]))
  rw [List.cons_append, wordsSigns, i]
  exact hc
theorem sumSigns : isSumSigns "6e42cd4d63d2f10fb99d533d30ec03d60e03dcb61978a7b528b853a6a76d9ab6".toList = true := by decide +kernel
theorem noSp : ∀ c ∈ "6e42cd4d63d2f10fb99d533d30ec03d60e03dcb61978a7b528b853a6a76d9ab6".toList, c ≠ (Char.ofNat 32) := by decide +kernel
theorem noSp1 : ∀ c ∈ "harness".toList, c ≠ (Char.ofNat 32) := by decide +kernel
theorem noSp2 : ∀ c ∈ "cut".toList, c ≠ (Char.ofNat 32) := by decide +kernel
theorem headEq : "harness 6e42cd4d63d2f10fb99d533d30ec03d60e03dcb61978a7b528b853a6a76d9ab6 cut ".toList = "harness".toList ++ (Char.ofNat 32) :: ("6e42cd4d63d2f10fb99d533d30ec03d60e03dcb61978a7b528b853a6a76d9ab6".toList ++ (Char.ofNat 32) :: ("cut".toList ++ [(Char.ofNat 32)])) := by decide +kernel
theorem io_words : ∃ r, wordsSigns Tryz.prog.initOrder.toList = "harness".toList :: "6e42cd4d63d2f10fb99d533d30ec03d60e03dcb61978a7b528b853a6a76d9ab6".toList :: "cut".toList :: r := by
 rw [io_eq, String.toList_append, headEq]
 generalize "at tellurion/tellurionlaw07.EclipseKept tellurion/tellurionlaw07.EclipseForetells tellurion/tellurionlaw07.EclipseTold tellurion/tellurionlaw07.EclipseWithins tellurion/tellurionlaw07.EclipseTrusted tellurion/tellurionlaw07.EclipseWidens tellurion/tellurionlaw07.EclipseEnough tellurion/tellurionlaw07.EclipseNever tellurion/tellurionlaw07.EclipseMore tellurion/tellurionlaw07.EclipseHands tellurion/tellurionlaw07.EclipseMisses tellurion/tellurionlaw07.EclipseFound".toList = r
 refine ⟨wordsSigns r, ?_⟩
 rw [show ("harness".toList ++ (Char.ofNat 32) :: ("6e42cd4d63d2f10fb99d533d30ec03d60e03dcb61978a7b528b853a6a76d9ab6".toList ++ (Char.ofNat 32) :: ("cut".toList ++ [(Char.ofNat 32)]))) ++ r = "harness".toList ++ (Char.ofNat 32) :: ("6e42cd4d63d2f10fb99d533d30ec03d60e03dcb61978a7b528b853a6a76d9ab6".toList ++ (Char.ofNat 32) :: ("cut".toList ++ (Char.ofNat 32) :: r)) by simp only [List.append_assoc, List.cons_append, List.nil_append]]
 rw [words_app _ _ noSp1, words_app _ _ noSp, words_app _ _ noSp2]
theorem behind_at (s : List Char) (r : List (List Char)) (hs : isSumSigns s = true) : behindMainWord ("harness".toList :: s :: r) = r := by
 show (if (("harness".toList == "harness".toList || "harness".toList == "ownmain".toList) && isSumSigns s) = true then r else _) = r
 rw [hs, if_pos (by rw [beq_self_eq_true]; rfl)]
theorem io_behind : ∃ r, behindMainWord (wordsSigns Tryz.prog.initOrder.toList) = "cut".toList :: r := by
 obtain ⟨r, h⟩ := io_words
 exact ⟨r, by rw [h, behind_at _ _ sumSigns]⟩
theorem strip_no (w : List Char) (ws : List (List Char)) : ∀ os : List String, (∀ o ∈ os, (w == o.toList) = false) → stripLifts os (w :: ws) = ([], w :: ws)
 | [], _ => rfl
 | o :: os, h => by
  rw [stripLifts, h o (by simp)]
  exact strip_no w ws os (fun x hx => h x (by simp [hx]))
theorem cutNo : ∀ o ∈ liftWords, ("cut".toList == o.toList) = false := by decide +kernel
theorem lays_no : Tryz.prog.laysLater = false := by kernel_rfl
theorem refl_no : Tryz.prog.bearsReflect = false := by kernel_rfl
theorem door_ok : Tryz.prog.doorFits [] = true := by kernel_rfl
theorem lifts_of {P : Program} {c : List Char} {r : List (List Char)} (h : behindMainWord (wordsSigns P.initOrder.toList) = c :: r) (hs : stripLifts liftWords (c :: r) = ([], c :: r)) (e : (some c == some "carried".toList) = false) : P.liftsFinal = false := by
 unfold Program.liftsFinal Program.headLifts
 rw [h, hs]
 show ((some c == some "carried".toList && _) || _) = false
 rw [e, Bool.false_and, Bool.false_or]
 dsimp only
 split <;> rfl
theorem lifts_no : Tryz.prog.liftsFinal = false := by
 obtain ⟨r, h⟩ := io_behind
 exact lifts_of h (strip_no _ r _ cutNo) (by decide +kernel)
theorem make_of {P : Program} {c : List Char} {r : List (List Char)} (h : behindMainWord (wordsSigns P.initOrder.toList) = c :: r) (e1 : (c == "gc".toList || c == "spec".toList) = false) (e2 : (c == "cut".toList) = true) : P.make = some .cut := by
 unfold Program.make
 rw [h]
 show (if (c == "gc".toList || c == "spec".toList) = true then _ else if (c == "cut".toList || _) = true then _ else _) = _
 rw [e1, e2, if_neg (by decide), if_pos (by rw [Bool.true_or])]
theorem make_cut : Tryz.prog.make = some .cut := by
 obtain ⟨r, h⟩ := io_behind
 exact make_of h (by decide +kernel) (by decide +kernel)
theorem may_of {P : Program} {c : List Char} {r : List (List Char)} (h : behindMainWord (wordsSigns P.initOrder.toList) = c :: r) (hs : stripLifts liftWords (c :: r) = ([], c :: r)) (e : (some c == some "cut".toList) = true) (h1 : P.laysLater = false) (h2 : P.bearsReflect = false) (h3 : P.doorFits [] = true) : P.mayEnter = true := by
 unfold Program.mayEnter
 rw [h]
 dsimp only
 rw [hs, h1, h2, h3]
 show (_ || _ || (some c == some "cut".toList && _ && _ && _ && true)) = true
 rw [e]
 simp only [Bool.not_false, Bool.or_true, Bool.and_true, Bool.true_and, Bool.or_eq_true]
 right
 right
 rfl
theorem may_yes : Tryz.prog.mayEnter = true := by
 obtain ⟨r, h⟩ := io_behind
 exact may_of h (strip_no _ r _ cutNo) (by decide +kernel) lays_no refl_no door_ok
end Go.Proofs.YtcbodpnmndbgnaaGreatDoor
namespace Go.Proofs.YtcbodpnmndbgnaaGreatDoor
open Go
set_option maxRecDepth 100000
theorem main_of {P : Program} {s : List Char} {r : List (List Char)} (h : wordsSigns P.initOrder.toList = "harness".toList :: s :: r) (hs : isSumSigns s = true) : P.mainIs = some (true, s) := by
 unfold Program.mainIs
 rw [h]
 show (if (!isSumSigns s) = true then none else if ("harness".toList == "harness".toList) = true then some (true, s) else _) = some (true, s)
 rw [hs, if_neg (by decide), if_pos (beq_self_eq_true _)]
theorem main_is : Tryz.prog.mainIs = some (true, "6e42cd4d63d2f10fb99d533d30ec03d60e03dcb61978a7b528b853a6a76d9ab6".toList) := by
 obtain ⟨r, h⟩ := io_words
 exact main_of h sumSigns
end Go.Proofs.YtcbodpnmndbgnaaGreatDoor
namespace Go.Proofs.YtcbodpnmndbgnaaGreatDoor
open Go.RowKit
open Sp (rd)
theorem espan_of {lo hi : Int} (h : Ec.isSpan lo hi = true) : 1 ≤ lo ∧ lo ≤ 9000 ∧ lo ≤ hi ∧ hi ≤ 9000 ∧ hi - lo ≤ 400 := by
 simp only [Ec.isSpan, Sp.inR, Bool.and_eq_true, decide_eq_true_eq] at h
 omega
theorem elate_of {n : Int} (h : Ec.isLate n = true) : 0 ≤ n ∧ n ≤ 30 := by
 simp only [Ec.isLate, Sp.inR, Bool.and_eq_true, decide_eq_true_eq] at h
 omega
end Go.Proofs.YtcbodpnmndbgnaaGreatDoor
namespace Go.Proofs.YtcbodpnmndbgnaaGreatDoor
open Go.RowKit
open Sp (rd)
set_option maxRecDepth 100000
set_option maxHeartbeats 2000000
set_option linter.unusedVariables false
theorem r7_near_any (n : Int) (w : World) (h1 : -1000000 ≤ n) (h2 : n ≤ 1000000) : Calls Tryz.prog 81 #[.int .i64 n] w fun e w' => e = .returned (.int .i64 (Ec.near n)) ∧ w = w' := by
 go_enter Tryz.func81, Tryz.ntmps81
 go_wp2_with fail
 refine (r_Less_any (n + 10800) _ (by omega) (by omega)).mono ?_
 rintro e w' ⟨rfl, rfl⟩
 go_wp2_with fail
 go_ret
 exact ⟨rfl, rfl⟩
theorem r7_Far_any (a b c : Int) (w : World) (h : (0 ≤ b ∧ b < 21600) ∧ (0 ≤ c ∧ c < 21600)) : Calls Tryz.prog 31 #[.agg #[.int .i64 a, .int .i64 b, .int .i64 c]] w fun e w' => e = .returned (.int .i64 (min ((b - c) % 21600 % 10800) (10800 - (b - c) % 21600 % 10800))) ∧ Ext w w' := by
 have b0 := (Row.new w 39 #[.int .i64 a, .int .i64 b, .int .i64 c]).cell
 have hE := (Ext.refl w).alloc (.cells #[.int .i64 a, .int .i64 b, .int .i64 c] 39)
 have HL : Hid (∀ W, Calls Tryz.prog 80 #[.int .i64 (b - c)] W fun e w' => e = .returned (.int .i64 ((b - c) % 21600)) ∧ W = w') := Lib.hid fun W => r_Less_any (b - c) W (by omega) (by omega)
 obtain ⟨m, hm⟩ : ∃ m, (b - c) % 21600 = m := ⟨_, rfl⟩
 have hm1 : 0 ≤ m := by omega
 have hm2 : m < 21600 := by omega
 rw [hm] at HL ⊢
 obtain ⟨r, hr⟩ : ∃ r, m % 10800 = r := ⟨_, rfl⟩
 have ht : m.tmod 10800 = r := by rw [Int.tmod_eq_emod_of_nonneg hm1]; exact hr
 have hr1 : 0 ≤ r := by omega
 have hr2 : r < 10800 := by omega
 rw [hr]
 clear hm hr
 go_enter Tryz.func31, Tryz.ntmps31
 go_wp2_with fail
 refine (HL.out _).mono ?_
 rintro e w' ⟨rfl, rfl⟩
 clear b0
 go_wp2_with fail
 go_ret
 exact ⟨rfl, hE⟩
theorem r7_Crossed_any (a b c x y z : Int) (full : Bool) (w : World) (h : ((0 ≤ a ∧ a < 21600) ∧ (0 ≤ b ∧ b < 21600)) ∧ ((0 ≤ x ∧ x < 21600) ∧ (0 ≤ y ∧ y < 21600))) :
  Calls Tryz.prog 33 #[.agg #[.int .i64 a, .int .i64 b, .int .i64 c], .agg #[.int .i64 x, .int .i64 y, .int .i64 z], .bool full] w fun e w' => e = .returned (.bool (Ec.crossB ((b - a) % 21600) ((y - x) % 21600) full)) ∧ Ext w w' := by
 have HR1 := Lib.hid ((Row.new w 39 #[.int .i64 a, .int .i64 b, .int .i64 c]).alloc (.cells #[.int .i64 x, .int .i64 y, .int .i64 z] 39))
 have HR2 := Lib.hid (Row.new (w.alloc (.cells #[.int .i64 a, .int .i64 b, .int .i64 c] 39)) 39 #[.int .i64 x, .int .i64 y, .int .i64 z])
 have HE0 := Lib.hid (((Ext.refl w).alloc (.cells #[.int .i64 a, .int .i64 b, .int .i64 c] 39)).alloc (.cells #[.int .i64 x, .int .i64 y, .int .i64 z] 39))
 simp only [World.size_alloc] at HR2
 obtain ⟨W0, hW0⟩ : ∃ W0, (w.alloc (.cells #[.int .i64 a, .int .i64 b, .int .i64 c] 39)).alloc (.cells #[.int .i64 x, .int .i64 y, .int .i64 z] 39) = W0 := ⟨_, rfl⟩
 have hcr := Ec.cross_ref b a y x full
 obtain ⟨H, hH⟩ : ∃ H, Sp.halfOf full = H := ⟨_, rfl⟩
 have hH2 : H = 0 ∧ full = false ∨ H = 10800 ∧ full = true := by cases full <;> simp_all [Sp.halfOf] <;> omega
 rw [hH] at hcr
 have hd1 : 0 ≤ (b - a - H) % 21600 ∧ (b - a - H) % 21600 < 21600 := by omega
 have hd2 : 0 ≤ (y - x - H) % 21600 ∧ (y - x - H) % 21600 < 21600 := by omega
 have HL1 : Hid (∀ W, Calls Tryz.prog 80 #[.int .i64 (b - a - H)] W fun e w' => e = .returned (.int .i64 ((b - a - H) % 21600)) ∧ Ext W w') := Lib.hid fun W => (r_Less_any (b - a - H) W (by omega) (by omega)).mono fun e w' ⟨h1, h2⟩ => ⟨h1, h2 ▸ Ext.refl _⟩
 have HL2 : Hid (∀ W, Calls Tryz.prog 80 #[.int .i64 (y - x - H)] W fun e w' => e = .returned (.int .i64 ((y - x - H) % 21600)) ∧ Ext W w') := Lib.hid fun W => (r_Less_any (y - x - H) W (by omega) (by omega)).mono fun e w' ⟨h1, h2⟩ => ⟨h1, h2 ▸ Ext.refl _⟩
 rw [hcr]
 clear hcr
 obtain ⟨P, hP⟩ : ∃ P, (b - a - H) % 21600 = P := ⟨_, rfl⟩
 obtain ⟨Q, hQ⟩ : ∃ Q, (y - x - H) % 21600 = Q := ⟨_, rfl⟩
 rw [hP] at hd1 HL1 ⊢
 rw [hQ] at hd2 HL2 ⊢
 clear hP hQ
 have HN : Hid (∀ W, Calls Tryz.prog 81 #[.int .i64 (Q - P)] W fun e w' => e = .returned (.int .i64 (Ec.near (Q - P))) ∧ W = w') := Lib.hid fun W => r7_near_any (Q - P) W (by omega) (by omega)
 have hn1 : -10800 ≤ Ec.near (Q - P) ∧ Ec.near (Q - P) < 10800 := by unfold Ec.near; omega
 obtain ⟨B, hB⟩ : ∃ B, Ec.near (Q - P) = B := ⟨_, rfl⟩
 rw [hB] at HN hn1 ⊢
 clear hB
 rcases hH2 with ⟨rfl, rfl⟩ | ⟨rfl, rfl⟩
 all_goals
  clear hH
  try simp only [Int.sub_zero] at HL1 HL2
  go_enter Tryz.func33, Tryz.ntmps33
  go_wp2_with fail
  try rw [hW0]
  refine wp_region_later (by kernel_rfl) (by kernel_rfl) (fun W hW => ?_)
  have q1 := fun X : Later W => (Row.ext (by rw [hW, ← hW0]; exact HR1.out : Row W w.heap.size 39 #[.int .i64 a, .int .i64 b, .int .i64 c]) X.ext).cell
  have q2 := fun X : Later W => (Row.ext (by rw [hW, ← hW0]; exact HR2.out : Row W (w.heap.size + 1) 39 #[.int .i64 x, .int .i64 y, .int .i64 z]) X.ext).cell
  have HE1 : Hid (Ext w W) := Lib.hid (by rw [hW, ← hW0]; exact HE0.out)
  clear hW hW0 HR1 HR2 HE0
  repeat (go_big_quiet_step (fail))
  go_big_quiet_step ((go_at_call 80; exact Later.call (HL1.out _)))
  repeat (go_big_quiet_step (fail))
  go_big_quiet_step ((go_at_call 80; exact Later.call (HL2.out _)))
  repeat (go_big_quiet_step (fail))
  refine wpQuiet_nil ?_
  rintro ⟨w3, hE3⟩
  dsimp only
  have HE3 := Lib.hid (HE1.out.trans hE3)
  clear hE3 q1 q2
  go_wp2_with fail
  refine (HN.out _).mono ?_
  rintro e w' ⟨rfl, rfl⟩
  by_cases hb : 0 < B <;> by_cases hc : 21600 ≤ P + B
  all_goals
   go_wp2_with fail
   all_goals
    go_ret
    exact ⟨ret_bool (by simp [hb, hc]), HE3.out⟩
end Go.Proofs.YtcbodpnmndbgnaaGreatDoor
namespace Go.Proofs.YtcbodpnmndbgnaaGreatDoor
open Go.RowKit
open Sp (rd)
theorem hand_sun (e : Ec.Engine) (set : List Int) (d : Int) : 0 ≤ Ec.sunAt e set d ∧ Ec.sunAt e set d < 21600 := by
 unfold Ec.sunAt
 exact ⟨Int.emod_nonneg _ (by omega), Int.emod_lt_of_pos _ (by omega)⟩
theorem hand_moon (e : Ec.Engine) (set : List Int) (d : Int) : 0 ≤ Ec.moonAt e set d ∧ Ec.moonAt e set d < 21600 := by
 unfold Ec.moonAt
 exact ⟨Int.emod_nonneg _ (by omega), Int.emod_lt_of_pos _ (by omega)⟩
theorem hand_node (e : Ec.Engine) (set : List Int) (d : Int) : 0 ≤ Ec.nodeAt e set d ∧ Ec.nodeAt e set d < 21600 := by
 unfold Ec.nodeAt
 exact ⟨Int.emod_nonneg _ (by omega), Int.emod_lt_of_pos _ (by omega)⟩
end Go.Proofs.YtcbodpnmndbgnaaGreatDoor
namespace Go.Proofs.YtcbodpnmndbgnaaGreatDoor
open Go.RowKit
open Sp (rd)
set_option maxRecDepth 100000
set_option maxHeartbeats 2000000
set_option linter.unusedVariables false
theorem r7_Widened_any (p : EP) (e : Ec.Engine) (n : Int) (w : World) :
  Calls Tryz.prog 46 #[.agg #[.slice p.Ab e.sky.bodies.length p.cb, .int .i64 e.sky.nnum, .int .i64 e.sky.nden, .int .i64 e.sky.nstart, .slice p.As e.sun.length p.cs, .slice p.Am e.moon.length p.cm, .slice p.An e.node.length p.cn, .slice p.Af e.feasts.length p.cf, .int .i64 e.nw, .int .i64 e.fl, .int .i64 e.wide], .int .i64 n] w fun r w' => r = .returned (.agg #[.slice p.Ab e.sky.bodies.length p.cb, .int .i64 e.sky.nnum, .int .i64 e.sky.nden, .int .i64 e.sky.nstart, .slice p.As e.sun.length p.cs, .slice p.Am e.moon.length p.cm, .slice p.An e.node.length p.cn, .slice p.Af e.feasts.length p.cf, .int .i64 e.nw, .int .i64 e.fl, .int .i64 n]) ∧ Ext w w' := by
 have h1 := ((Row.new w 32 #[.slice p.Ab e.sky.bodies.length p.cb, .int .i64 e.sky.nnum, .int .i64 e.sky.nden, .int .i64 e.sky.nstart, .slice p.As e.sun.length p.cs, .slice p.Am e.moon.length p.cm, .slice p.An e.node.length p.cn, .slice p.Af e.feasts.length p.cf, .int .i64 e.nw, .int .i64 e.fl, .int .i64 e.wide]).alloc (.cells #[.slice none 0 0, .int .i64 0, .int .i64 0, .int .i64 0, .slice none 0 0, .slice none 0 0, .slice none 0 0, .slice none 0 0, .int .i64 0, .int .i64 0, .int .i64 0] 32)).alloc (.cells #[.slice p.Ab e.sky.bodies.length p.cb, .int .i64 e.sky.nnum, .int .i64 e.sky.nden, .int .i64 e.sky.nstart, .slice p.As e.sun.length p.cs, .slice p.Am e.moon.length p.cm, .slice p.An e.node.length p.cn, .slice p.Af e.feasts.length p.cf, .int .i64 e.nw, .int .i64 e.fl, .int .i64 e.wide] 32)
 have h2 := (Row.new (w.alloc (.cells #[.slice p.Ab e.sky.bodies.length p.cb, .int .i64 e.sky.nnum, .int .i64 e.sky.nden, .int .i64 e.sky.nstart, .slice p.As e.sun.length p.cs, .slice p.Am e.moon.length p.cm, .slice p.An e.node.length p.cn, .slice p.Af e.feasts.length p.cf, .int .i64 e.nw, .int .i64 e.fl, .int .i64 e.wide] 32)) 32 #[.slice none 0 0, .int .i64 0, .int .i64 0, .int .i64 0, .slice none 0 0, .slice none 0 0, .slice none 0 0, .slice none 0 0, .int .i64 0, .int .i64 0, .int .i64 0]).alloc (.cells #[.slice p.Ab e.sky.bodies.length p.cb, .int .i64 e.sky.nnum, .int .i64 e.sky.nden, .int .i64 e.sky.nstart, .slice p.As e.sun.length p.cs, .slice p.Am e.moon.length p.cm, .slice p.An e.node.length p.cn, .slice p.Af e.feasts.length p.cf, .int .i64 e.nw, .int .i64 e.fl, .int .i64 e.wide] 32)
 have h3 := Row.new ((w.alloc (.cells #[.slice p.Ab e.sky.bodies.length p.cb, .int .i64 e.sky.nnum, .int .i64 e.sky.nden, .int .i64 e.sky.nstart, .slice p.As e.sun.length p.cs, .slice p.Am e.moon.length p.cm, .slice p.An e.node.length p.cn, .slice p.Af e.feasts.length p.cf, .int .i64 e.nw, .int .i64 e.fl, .int .i64 e.wide] 32)).alloc (.cells #[.slice none 0 0, .int .i64 0, .int .i64 0, .int .i64 0, .slice none 0 0, .slice none 0 0, .slice none 0 0, .slice none 0 0, .int .i64 0, .int .i64 0, .int .i64 0] 32)) 32 #[.slice p.Ab e.sky.bodies.length p.cb, .int .i64 e.sky.nnum, .int .i64 e.sky.nden, .int .i64 e.sky.nstart, .slice p.As e.sun.length p.cs, .slice p.Am e.moon.length p.cm, .slice p.An e.node.length p.cn, .slice p.Af e.feasts.length p.cf, .int .i64 e.nw, .int .i64 e.fl, .int .i64 e.wide]
 have hE := (((Ext.refl w).alloc (.cells #[.slice p.Ab e.sky.bodies.length p.cb, .int .i64 e.sky.nnum, .int .i64 e.sky.nden, .int .i64 e.sky.nstart, .slice p.As e.sun.length p.cs, .slice p.Am e.moon.length p.cm, .slice p.An e.node.length p.cn, .slice p.Af e.feasts.length p.cf, .int .i64 e.nw, .int .i64 e.fl, .int .i64 e.wide] 32)).alloc (.cells #[.slice none 0 0, .int .i64 0, .int .i64 0, .int .i64 0, .slice none 0 0, .slice none 0 0, .slice none 0 0, .slice none 0 0, .int .i64 0, .int .i64 0, .int .i64 0] 32)).alloc (.cells #[.slice p.Ab e.sky.bodies.length p.cb, .int .i64 e.sky.nnum, .int .i64 e.sky.nden, .int .i64 e.sky.nstart, .slice p.As e.sun.length p.cs, .slice p.Am e.moon.length p.cm, .slice p.An e.node.length p.cn, .slice p.Af e.feasts.length p.cf, .int .i64 e.nw, .int .i64 e.fl, .int .i64 e.wide] 32)
 simp only [World.size_alloc] at h2 h3
 have HR2 := Lib.hid h2
 have HR3 := Lib.hid h3
 have HE := Lib.hid hE
 have b1 := (Row.new w 32 #[.slice p.Ab e.sky.bodies.length p.cb, .int .i64 e.sky.nnum, .int .i64 e.sky.nden, .int .i64 e.sky.nstart, .slice p.As e.sun.length p.cs, .slice p.Am e.moon.length p.cm, .slice p.An e.node.length p.cn, .slice p.Af e.feasts.length p.cf, .int .i64 e.nw, .int .i64 e.fl, .int .i64 e.wide]).alloc (.cells #[.slice none 0 0, .int .i64 0, .int .i64 0, .int .i64 0, .slice none 0 0, .slice none 0 0, .slice none 0 0, .slice none 0 0, .int .i64 0, .int .i64 0, .int .i64 0] 32)
 have B1 := Lib.hid b1
 clear h1 h2 h3 hE b1
 go_enter Tryz.func46, Tryz.ntmps46
 apply wp_seq_k
 intro K0 h0
 have H0 := Lib.hid h0
 clear h0
 go_wp2_with fail
 refine H0.out _ _ ?_
 clear H0
 apply wp_seq_k
 intro K1 h1
 have H1 := Lib.hid h1
 clear h1
 have c1 := B1.out.cell
 go_wp2_with fail
 refine H1.out _ _ ?_
 clear H1 c1 B1
 obtain ⟨W, hW⟩ : ∃ W, ((w.alloc (.cells #[.slice p.Ab e.sky.bodies.length p.cb, .int .i64 e.sky.nnum, .int .i64 e.sky.nden, .int .i64 e.sky.nstart, .slice p.As e.sun.length p.cs, .slice p.Am e.moon.length p.cm, .slice p.An e.node.length p.cn, .slice p.Af e.feasts.length p.cf, .int .i64 e.nw, .int .i64 e.fl, .int .i64 e.wide] 32)).alloc (.cells #[.slice none 0 0, .int .i64 0, .int .i64 0, .int .i64 0, .slice none 0 0, .slice none 0 0, .slice none 0 0, .slice none 0 0, .int .i64 0, .int .i64 0, .int .i64 0] 32)).alloc (.cells #[.slice p.Ab e.sky.bodies.length p.cb, .int .i64 e.sky.nnum, .int .i64 e.sky.nden, .int .i64 e.sky.nstart, .slice p.As e.sun.length p.cs, .slice p.Am e.moon.length p.cm, .slice p.An e.node.length p.cn, .slice p.Af e.feasts.length p.cf, .int .i64 e.nw, .int .i64 e.fl, .int .i64 e.wide] 32) = W := ⟨_, rfl⟩
 try rw [hW]
 rw [hW] at HR2 HR3 HE
 clear hW
 apply wp_seq_k
 intro K2 h2
 have H2 := Lib.hid h2
 clear h2
 have c3 := HR3.out.cell
 have f3 := HR3.out.free
 go_wp2_with fail
 refine H2.out _ _ ?_
 clear H2 c3 f3
 have HR5 : Hid (Row (W.setCell ⟨w.heap.size + 1 + 1, 10, none⟩ (.int .i64 n)) (w.heap.size + 1 + 1) 32 #[.slice p.Ab e.sky.bodies.length p.cb, .int .i64 e.sky.nnum, .int .i64 e.sky.nden, .int .i64 e.sky.nstart, .slice p.As e.sun.length p.cs, .slice p.Am e.moon.length p.cm, .slice p.An e.node.length p.cn, .slice p.Af e.feasts.length p.cf, .int .i64 e.nw, .int .i64 e.fl, .int .i64 n]) := Lib.hid (HR3.out.set_ 10 (.int .i64 n))
 have HR4 : Hid (Row (W.setCell ⟨w.heap.size + 1 + 1, 10, none⟩ (.int .i64 n)) (w.heap.size + 1) 32 #[.slice none 0 0, .int .i64 0, .int .i64 0, .int .i64 0, .slice none 0 0, .slice none 0 0, .slice none 0 0, .slice none 0 0, .int .i64 0, .int .i64 0, .int .i64 0]) := Lib.hid (HR2.out.far (p := ⟨w.heap.size + 1 + 1, 10, none⟩) (by simp) _)
 have HE2 : Hid (Ext w (W.setCell ⟨w.heap.size + 1 + 1, 10, none⟩ (.int .i64 n))) := Lib.hid (HE.out.setCell (p := ⟨w.heap.size + 1 + 1, 10, none⟩) (by simp; omega) _)
 obtain ⟨W2, hW2⟩ : ∃ W2, W.setCell ⟨w.heap.size + 1 + 1, 10, none⟩ (.int .i64 n) = W2 := ⟨_, rfl⟩
 try rw [hW2]
 rw [hW2] at HR5 HR4 HE2
 clear hW2 HR2 HR3 HE
 have c5 := HR5.out.cell
 have c4 := HR4.out.cell
 have f4 := HR4.out.free
 go_wp2_with fail
 all_goals clear c5 c4 f4
 obtain ⟨W5, hW5⟩ : ∃ W5, setsAt W2 (w.heap.size + 1) 0 [.slice p.Ab e.sky.bodies.length p.cb, .int .i64 e.sky.nnum, .int .i64 e.sky.nden, .int .i64 e.sky.nstart, .slice p.As e.sun.length p.cs, .slice p.Am e.moon.length p.cm, .slice p.An e.node.length p.cn, .slice p.Af e.feasts.length p.cf, .int .i64 e.nw, .int .i64 e.fl, .int .i64 n] = W5 := ⟨_, rfl⟩
 have hR5 : Row W5 (w.heap.size + 1) 32 #[.slice p.Ab e.sky.bodies.length p.cb, .int .i64 e.sky.nnum, .int .i64 e.sky.nden, .int .i64 e.sky.nstart, .slice p.As e.sun.length p.cs, .slice p.Am e.moon.length p.cm, .slice p.An e.node.length p.cn, .slice p.Af e.feasts.length p.cf, .int .i64 e.nw, .int .i64 e.fl, .int .i64 n] := by rw [← hW5]; exact Row.sets (cs := [.slice none 0 0, .int .i64 0, .int .i64 0, .int .i64 0, .slice none 0 0, .slice none 0 0, .slice none 0 0, .slice none 0 0, .int .i64 0, .int .i64 0, .int .i64 0]) HR4.out _ rfl
 have hE5 : Ext w W5 := by rw [← hW5]; exact Ext.sets (Nat.le_succ _) _ _ _ HE2.out
 simp only [setsAt, Nat.reduceAdd] at hW5
 rw [hW5]
 clear hW5
 refine bodyPost_ret (results_cell_row rfl _ _ (w.heap.size + 1) 32 _ (0, 0) _ rfl hR5 Tryz.underlying32 rfl (by kernel_rfl)) rfl ?_
 exact ⟨rfl, hE5⟩
theorem r7_Target_any (num den : Int) (w : World) : Calls Tryz.prog 22 #[.agg #[.int .i64 num, .int .i64 den]] w fun e w' => e = .returned (.agg #[.int .i64 den, .int .i64 num]) ∧ Ext w w' := by
 have h1 := ((Row.new w 24 #[.int .i64 num, .int .i64 den]).alloc (.cells #[.int .i64 0, .int .i64 0] 43))
 have h2 := Row.new (w.alloc (.cells #[.int .i64 num, .int .i64 den] 24)) 43 #[.int .i64 den, .int .i64 num]
 have hE := ((Ext.refl w).alloc (.cells #[.int .i64 num, .int .i64 den] 24)).alloc (.cells #[.int .i64 den, .int .i64 num] 43)
 simp only [World.size_alloc] at h2
 have HR2 := Lib.hid h2
 have HE := Lib.hid hE
 have c1 := h1.cell
 clear h1 h2 hE
 go_enter Tryz.func22, Tryz.ntmps22
 go_wp2_with fail
 refine bodyPost_ret (results_cell_row rfl _ _ (w.heap.size + 1) 43 _ (0, 0) _ rfl HR2.out Tryz.underlying43 rfl (by kernel_rfl)) rfl ?_
 exact ⟨rfl, HE.out⟩
theorem r1_Gcd_any (x y : Nat) (w : World) (hx : x ≤ 1000000000) (hy : y ≤ 1000000000) :
  Calls Tryz.prog 197 #[.int .i64 (x : Int), .int .i64 (y : Int)] w fun e w' => e = .returned (.int .i64 (Nat.gcd x y : Int)) ∧ Ext w w' := by
 go_enter Tryz.func197, Tryz.ntmps197
 go_wp2_with fail
 go_loopw [0, 1] (fun a b wr => ∃ p q : Nat, a = .int .i64 (p : Int) ∧ b = .int .i64 (q : Int) ∧ Nat.gcd x y = Nat.gcd p q ∧ p ≤ 1000000000 ∧ q ≤ 1000000000 ∧ Ext w wr) (fun _ b _ => (intOf b).toNat)
 case atStart => exact ⟨x, y, rfl, rfl, rfl, hx, hy, Ext.refl _⟩
 case round =>
  obtain ⟨p, q, rfl, rfl, hg, hp, hq, hE⟩ := hrel
  have HG := Lib.hid hg
  have HE := Lib.hid hE
  clear hg hE
  by_cases h0 : 0 < q
  ·have hm : (p : Int).tmod (q : Int) = ((p % q : Nat) : Int) := by rw [Int.tmod_eq_emod_of_nonneg (by omega)]; rfl
   have hlt := Nat.mod_lt p h0
   go_wp2_with fail
   go_quiet (fail)
   go_wp2_with fail
   refine ⟨⟨q, p % q, rfl, by go_num, by rw [HG.out, ngcd_step], hq, by omega, HE.out.drewN _⟩, by simp [intOf]; omega⟩
  ·obtain rfl : q = 0 := by omega
   go_wp2_with fail
   go_ret
   exact ⟨by rw [HG.out, Nat.gcd_zero_right]; rfl, HE.out⟩
def redΦ (N D G NQ DQ : Nat) (pa : Nat) (w0 : World) (i : Nat) (v : Value) (w : World) : Prop :=
 match i with
 | 0 => v = .pointer (some ⟨pa, 0, none⟩)
 | 1 => v = .int .i64 (N : Int)
 | 2 => v = .int .i64 (G : Int)
 | 3 => v = .int .i64 (NQ : Int)
 | 4 => v = .pointer (some ⟨pa, 1, none⟩)
 | 5 => v = .int .i64 (D : Int)
 | 6 => v = .int .i64 (G : Int)
 | 7 => v = .int .i64 (DQ : Int)
 | _ => v = .agg #[.int .i64 (NQ : Int), .int .i64 (DQ : Int)]
theorem redΦ_mono {N D G NQ DQ : Nat} {pa : Nat} {w0 : World} (i : Nat) (v : Value) (w w' : World) (h : redΦ N D G NQ DQ pa w0 i v w) (he : Ext w w') : redΦ N D G NQ DQ pa w0 i v w' := by
 unfold redΦ at h ⊢
 split at h <;> first
  | exact h
  | exact MkAt.ext h he
  | exact fun hg => MkAt.ext (h hg) he
theorem r1_Reduced_any (N D : Nat) (w : World) (hN : N ≤ 1000000000) (hD : D ≤ 1000000000) (hD1 : 1 ≤ D) :
  Calls Tryz.prog 174 #[.agg #[.int .i64 (N : Int), .int .i64 (D : Int)]] w fun e w' => e = .returned (.agg #[.int .i64 ((N / Nat.gcd N D : Nat) : Int), .int .i64 ((D / Nat.gcd N D : Nat) : Int)]) ∧ Ext w w' := by
 have h1 := (Row.new w 43 #[.int .i64 (N : Int), .int .i64 (D : Int)]).alloc (.cells #[.int .i64 0, .int .i64 0] 43)
 have h2 := Row.new (w.alloc (.cells #[.int .i64 (N : Int), .int .i64 (D : Int)] 43)) 43 #[.int .i64 0, .int .i64 0]
 have hE := ((Ext.refl w).alloc (.cells #[.int .i64 (N : Int), .int .i64 (D : Int)] 43)).alloc (.cells #[.int .i64 0, .int .i64 0] 43)
 simp only [World.size_alloc] at h2
 have hg1 : 1 ≤ Nat.gcd N D := Nat.gcd_pos_of_pos_right N hD1
 have hgl : Nat.gcd N D ≤ D := Nat.gcd_le_right N hD1
 have HG0 := Lib.hid (fun W => r1_Gcd_any N D W hN hD)
 obtain ⟨G, hG⟩ : ∃ G, Nat.gcd N D = G := ⟨_, rfl⟩
 rw [hG] at hg1 hgl HG0 ⊢
 obtain ⟨NQ, hNQ⟩ : ∃ q, N / G = q := ⟨_, rfl⟩
 obtain ⟨DQ, hDQ⟩ : ∃ q, D / G = q := ⟨_, rfl⟩
 have hn9 : NQ ≤ N := by rw [← hNQ]; exact Nat.div_le_self _ _
 have hd9 : DQ ≤ D := by rw [← hDQ]; exact Nat.div_le_self _ _
 have HQ : Hid ((N : Int).tdiv (G : Int) = (NQ : Int) ∧ (D : Int).tdiv (G : Int) = (DQ : Int)) := Lib.hid ⟨by rw [Int.tdiv_eq_ediv_of_nonneg (by omega), ← hNQ]; rfl, by rw [Int.tdiv_eq_ediv_of_nonneg (by omega), ← hDQ]; rfl⟩
 have HG : Hid ((0 : Int) < (G : Int)) := Lib.hid (by omega)
 rw [hNQ, hDQ]
 clear hG hNQ hDQ hD1
 have HR1 := Lib.hid h1
 have HR2 := Lib.hid h2
 have HE := Lib.hid hE
 have c1 := h1.cell
 clear h1 h2 hE
 go_enter Tryz.func174, Tryz.ntmps174
 go_wp2_with fail
 refine (HG0.out _).mono ?_
 rintro e W ⟨rfl, hE1⟩
 have HA := Lib.hid (HR1.out.ext hE1)
 have HR := Lib.hid (HR2.out.ext hE1)
 have HE1 := Lib.hid (HE.out.trans hE1)
 clear hE1 c1 HR1 HR2 HE
 go_wp2_with fail
 obtain ⟨pa, hpa⟩ : ∃ pa, w.heap.size = pa := ⟨_, rfl⟩
 rw [hpa] at HA HR ⊢
 have HPA := Lib.hid hpa
 clear hpa
 refine wp_region_free_tail 9 9 (redΦ N D G NQ DQ pa W) (by kernel_rfl) (by simp) (by kernel_rfl) (by kernel_rfl) (by kernel_rfl) (by kernel_rfl) redΦ_mono ?hob ?hQ (fun h => absurd h (by omega))
 case hob =>
  intro i o hin ho a wa hE hF
  match i, hin with
  | 0, _ =>
   cases ho
   have h0 : a.tmps[1]?.getD undef = .pointer (some ⟨pa, 0, none⟩) := evalD (hF.old 1 (by decide))
   refine Ran.value rfl (v := .pointer (some ⟨pa, 0, none⟩)) (w1 := wa) ?_ ⟨rfl, Ext.refl _⟩
   go_simp
  | 1, _ =>
   cases ho
   have h0 : a.tmps[9]?.getD undef = .pointer (some ⟨pa, 0, none⟩) := evalD ((hF.from_ 0 9 rfl (by decide)))
   have q := (Row.ext (HA.out) hE).cell
   refine Ran.value rfl (v := .int .i64 (N : Int)) (w1 := wa) ?_ ⟨rfl, Ext.refl _⟩
   go_simp
  | 2, _ =>
   cases ho
   have h0 : a.tmps[3]?.getD undef = .int .i64 (G : Int) := evalD (hF.old 3 (by decide))
   refine Ran.value rfl (v := .int .i64 (G : Int)) (w1 := wa) ?_ ⟨rfl, Ext.refl _⟩
   go_simp
  | 3, _ =>
   cases ho
   have h0 : a.tmps[10]?.getD undef = .int .i64 (N : Int) := evalD ((hF.from_ 1 10 rfl (by decide)))
   have h1 : a.tmps[11]?.getD undef = .int .i64 (G : Int) := evalD ((hF.from_ 2 11 rfl (by decide)))
   refine Ran.value rfl (v := .int .i64 (NQ : Int)) (w1 := wa) ?_ ⟨rfl, Ext.refl _⟩
   have hq := HQ.out.1
   have hg := HG.out
   have hw : IntKind.i64.wrap (NQ : Int) = (NQ : Int) := IntWalk.i64_in _ ⟨by omega, by omega⟩
   go_simp
   omega
  | 4, _ =>
   cases ho
   have h0 : a.tmps[1]?.getD undef = .pointer (some ⟨pa, 0, none⟩) := evalD (hF.old 1 (by decide))
   refine Ran.value rfl (v := .pointer (some ⟨pa, 1, none⟩)) (w1 := wa) ?_ ⟨rfl, Ext.refl _⟩
   go_simp
  | 5, _ =>
   cases ho
   have h0 : a.tmps[13]?.getD undef = .pointer (some ⟨pa, 1, none⟩) := evalD ((hF.from_ 4 13 rfl (by decide)))
   have q := (Row.ext (HA.out) hE).cell
   refine Ran.value rfl (v := .int .i64 (D : Int)) (w1 := wa) ?_ ⟨rfl, Ext.refl _⟩
   go_simp
  | 6, _ =>
   cases ho
   have h0 : a.tmps[3]?.getD undef = .int .i64 (G : Int) := evalD (hF.old 3 (by decide))
   refine Ran.value rfl (v := .int .i64 (G : Int)) (w1 := wa) ?_ ⟨rfl, Ext.refl _⟩
   go_simp
  | 7, _ =>
   cases ho
   have h0 : a.tmps[14]?.getD undef = .int .i64 (D : Int) := evalD ((hF.from_ 5 14 rfl (by decide)))
   have h1 : a.tmps[15]?.getD undef = .int .i64 (G : Int) := evalD ((hF.from_ 6 15 rfl (by decide)))
   refine Ran.value rfl (v := .int .i64 (DQ : Int)) (w1 := wa) ?_ ⟨rfl, Ext.refl _⟩
   have hq := HQ.out.2
   have hg := HG.out
   have hw : IntKind.i64.wrap (DQ : Int) = (DQ : Int) := IntWalk.i64_in _ ⟨by omega, by omega⟩
   go_simp
   omega
  | 8, _ =>
   cases ho
   have h0 : a.tmps[12]?.getD undef = .int .i64 (NQ : Int) := evalD ((hF.from_ 3 12 rfl (by decide)))
   have h1 : a.tmps[16]?.getD undef = .int .i64 (DQ : Int) := evalD ((hF.from_ 7 16 rfl (by decide)))
   refine Ran.value rfl (v := .agg #[.int .i64 (NQ : Int), .int .i64 (DQ : Int)]) (w1 := wa) ?_ ⟨rfl, Ext.refl _⟩
   go_simp
  | k + 9, hin => omega
 case hQ =>
  intro vs w2 hE hΦ
  have f0 : vs 0 = .pointer (some ⟨pa, 0, none⟩) := hΦ 0 (by omega)
  have f1 : vs 1 = .int .i64 (N : Int) := hΦ 1 (by omega)
  have f2 : vs 2 = .int .i64 (G : Int) := hΦ 2 (by omega)
  have f3 : vs 3 = .int .i64 (NQ : Int) := hΦ 3 (by omega)
  have f4 : vs 4 = .pointer (some ⟨pa, 1, none⟩) := hΦ 4 (by omega)
  have f5 : vs 5 = .int .i64 (D : Int) := hΦ 5 (by omega)
  have f6 : vs 6 = .int .i64 (G : Int) := hΦ 6 (by omega)
  have f7 : vs 7 = .int .i64 (DQ : Int) := hΦ 7 (by omega)
  have f8 : vs 8 = .agg #[.int .i64 (NQ : Int), .int .i64 (DQ : Int)] := hΦ 8 (by omega)
  have hrg : List.range 9 = [0, 1, 2, 3, 4, 5, 6, 7, 8] := rfl
  unfold putAll putS
  simp only [List.length_cons, List.length_nil, List.take_succ_cons, List.take_zero, List.drop_succ_cons, List.drop_zero, Nat.reduceAdd, hrg, List.foldl_cons, List.foldl_nil, dstOf, List.getElem?_cons_succ, List.getElem?_cons_zero, Option.bind_some]
  clear hrg
  rw [f0, f1, f2, f3, f4, f5, f6, f7, f8]
  simp only [Act.put, List.setIfInBounds_toArray, List.set_cons_succ, List.set_cons_zero]
  have HRr := Lib.hid (HR.out.ext hE)
  have c2 := HRr.out.cell
  have fz := HRr.out.free
  have HE2 := Lib.hid (HE1.out.trans hE)
  clear hΦ f0 f1 f2 f3 f4 f5 f6 f7 f8 hE
  go_wp2_with fail
  refine bodyPost_ret (results_cell_row rfl _ _ (pa + 1) 43 _ (0, 0) _ rfl ((HRr.out.set_ 0 (.int .i64 (NQ : Int))).set_ 1 (.int .i64 (DQ : Int))) Tryz.underlying43 rfl (by kernel_rfl)) rfl ?_
  exact ⟨rfl, (HE2.out.setCell (p := ⟨pa + 1, 0, none⟩) (by have := HPA.out; simp; omega) _).setCell (p := ⟨pa + 1, 1, none⟩) (by have := HPA.out; simp; omega) _⟩
def trnΦ (P Q x y : Int) (pb tb to len c k : Nat) (w0 : World) (i : Nat) (v : Value) (w : World) : Prop :=
 match i with
 | 0 => v = .pointer (some ⟨pb, 0, none⟩)
 | 1 => v = .int .i64 P
 | 2 => v = .slice (some ⟨tb, to, none⟩) len c
 | 3 => v = .int .i64 (k : Int)
 | 4 => v = .pointer (some ⟨tb, to + k * 2, none⟩)
 | 5 => v = .pointer (some ⟨tb, to + k * 2, none⟩)
 | 6 => v = .int .i64 x
 | 7 => v = .int .i64 (P * x)
 | 8 => v = .pointer (some ⟨pb, 1, none⟩)
 | 9 => v = .int .i64 Q
 | 10 => v = .slice (some ⟨tb, to, none⟩) len c
 | 11 => v = .int .i64 (k : Int)
 | 12 => v = .pointer (some ⟨tb, to + k * 2, none⟩)
 | 13 => v = .pointer (some ⟨tb, to + k * 2 + 1, none⟩)
 | 14 => v = .int .i64 y
 | 15 => v = .int .i64 (Q * y)
 | _ => v = .agg #[.int .i64 (P * x), .int .i64 (Q * y)]
theorem trnΦ_mono {P Q x y : Int} {pb tb to len c k : Nat} {w0 : World} (i : Nat) (v : Value) (w w' : World) (h : trnΦ P Q x y pb tb to len c k w0 i v w) (he : Ext w w') : trnΦ P Q x y pb tb to len c k w0 i v w' := by
 unfold trnΦ at h ⊢
 split at h <;> first
  | exact h
  | exact MkAt.ext h he
  | exact fun hg => MkAt.ext (h hg) he
theorem pd_take (f : Ec.Pair → Int) (l : List Ec.Pair) {k : Nat} (hk : k < l.length) : (l.take (k + 1)).foldl (fun n p => n * f p) 1 = (l.take k).foldl (fun n p => n * f p) 1 * f (pd l k) := by
 rw [List.take_succ_eq_append_getElem hk, List.foldl_append]
 simp only [List.foldl_cons, List.foldl_nil]
 unfold pd
 rw [List.getD_eq_getElem?_getD, List.getElem?_eq_getElem hk]
 rfl
theorem TrainOk.taken {l : List Ec.Pair} (h : TrainOk l) (k : Nat) : (1 ≤ Ec.drivesP (l.take k) ∧ Ec.drivesP (l.take k) ≤ 216000) ∧ (1 ≤ Ec.drivenP (l.take k) ∧ Ec.drivenP (l.take k) ≤ 216000) := by
 have hl : (l.take k).length ≤ 3 := by rw [List.length_take]; have := h.n3; omega
 exact ⟨prod_bounds (·.drives) _ _ rfl hl fun p hp => (h.mem p (List.mem_of_mem_take hp)).1, prod_bounds (·.driven) _ _ rfl hl fun p hp => (h.mem p (List.mem_of_mem_take hp)).2⟩
theorem turns_nat {l : List Ec.Pair} {N D : Nat} (h1 : Ec.drivesP l = N) (h2 : Ec.drivenP l = D) : ((N / Nat.gcd N D : Nat) : Int) = Ec.turnsN l ∧ ((D / Nat.gcd N D : Nat) : Int) = Ec.turnsD l := by
 unfold Ec.turnsN Ec.turnsD Ec.turnsG
 rw [h1, h2]
 exact ⟨by rw [Int.natCast_ediv]; rfl, by rw [Int.natCast_ediv]; rfl⟩
theorem r1_Turns_any (A : Option Addr) (c : Nat) (l : List Ec.Pair) (w : World) (hm : Pairs w A l) (hK : TrainOk l) :
  Calls Tryz.prog 141 #[.slice A l.length c] w fun e w' => e = .returned (.agg #[.int .i64 (Ec.turnsN l), .int .i64 (Ec.turnsD l)]) ∧ Ext w w' := by
 have hn3 := hK.n3
 have g1 := (Row.new w 43 #[.int .i64 0, .int .i64 0]).alloc (.cells #[.int .i64 1, .int .i64 1] 43)
 have g2 := Row.new (w.alloc (.cells #[.int .i64 0, .int .i64 0] 43)) 43 #[.int .i64 1, .int .i64 1]
 have gE := ((Ext.refl w).alloc (.cells #[.int .i64 0, .int .i64 0] 43)).alloc (.cells #[.int .i64 1, .int .i64 1] 43)
 simp only [World.size_alloc] at g2
 have HM := Lib.hid hm
 have HK := Lib.hid hK
 have G1 := Lib.hid g1
 have G2 := Lib.hid g2
 have GE := Lib.hid gE
 clear hm hK g1 g2 gE
 go_enter Tryz.func141, Tryz.ntmps141
 go_wp2_with fail
 obtain ⟨pa, hpa⟩ : ∃ pa, w.heap.size = pa := ⟨_, rfl⟩
 have HPA := Lib.hid hpa
 rw [hpa] at G1 G2 ⊢
 clear hpa
 obtain ⟨pb, hpb⟩ : ∃ pb, pa + 1 = pb := ⟨_, rfl⟩
 have HPB := Lib.hid hpb
 rw [hpb] at G2 ⊢
 clear hpb
 go_loopw [4] (fun i wr => ∃ k : Nat, k ≤ l.length ∧ i = .int .i64 k ∧ Row wr pb 43 #[.int .i64 (Ec.drivesP (l.take k)), .int .i64 (Ec.drivenP (l.take k))] ∧ Row wr pa 43 #[.int .i64 0, .int .i64 0] ∧ Ext w wr) (fun i _ => l.length - (intOf i).toNat)
 case atStart => exact ⟨0, Nat.zero_le _, rfl, G2.out, G1.out, GE.out⟩
 case round =>
  obtain ⟨k, hk, rfl, h2, h1, hE⟩ := hrel
  clear G1 G2 GE
  have HB := Lib.hid h2
  have HA := Lib.hid h1
  have HE := Lib.hid hE
  clear h1
  by_cases hlt : k < l.length
  ·obtain ⟨tb, to, rfl, hc⟩ := HM.out (by omega)
   obtain ⟨c0, c1⟩ := hc k hlt
   have HC := Lib.hid (And.intro (HE.out.cell c0) (HE.out.cell c1))
   have hb1 := HK.out.taken k
   have hb2 := HK.out.all k hlt
   have HT := Lib.hid (And.intro (pd_take (·.drives) l hlt) (pd_take (·.driven) l hlt))
   clear hc c0 c1 h2 hE
   obtain ⟨x, hx⟩ : ∃ x, (pd l k).drives = x := ⟨_, rfl⟩
   obtain ⟨y, hy⟩ : ∃ y, (pd l k).driven = y := ⟨_, rfl⟩
   obtain ⟨P, hP⟩ : ∃ P, Ec.drivesP (l.take k) = P := ⟨_, rfl⟩
   obtain ⟨Q, hQ⟩ : ∃ Q, Ec.drivenP (l.take k) = Q := ⟨_, rfl⟩
   rw [hx, hy] at hb2 HC
   rw [hP, hQ] at hb1 HB
   have HT2 : Hid (Ec.drivesP (l.take (k + 1)) = P * x ∧ Ec.drivenP (l.take (k + 1)) = Q * y) := Lib.hid ⟨by rw [← hP, ← hx]; exact HT.out.1, by rw [← hQ, ← hy]; exact HT.out.2⟩
   clear hx hy hP hQ HT
   have m1 := mul_bounds0 (a := P) (b := x) (A := 216000) (B := 60) (by omega) (by omega) (by omega) (by omega)
   have m2 := mul_bounds0 (a := Q) (b := y) (A := 216000) (B := 60) (by omega) (by omega) (by omega) (by omega)
   have HP : Hid (IntKind.i64.wrap (P * x) = P * x ∧ IntKind.i64.wrap (Q * y) = Q * y) := Lib.hid ⟨IntWalk.i64_in _ ⟨by omega, by omega⟩, IntWalk.i64_in _ ⟨by omega, by omega⟩⟩
   have HK2 : Hid ((0 : Int) ≤ k ∧ (k : Int) < l.length) := Lib.hid ⟨by omega, by omega⟩
   obtain ⟨len, hlen⟩ : ∃ n, l.length = n := ⟨_, rfl⟩
   rw [hlen] at hlt hk HK2 hn3 ⊢
   have HLN := Lib.hid hlen
   clear hlen m1 m2 hb1 hb2
   have HK := HK2
   have b2 := HB.out.cell
   go_wp2_with fail
   clear b2
   refine wp_region_free_tail 17 17 (trnΦ P Q x y pb tb to len c k wr) (by kernel_rfl) (by simp) (by kernel_rfl) (by kernel_rfl) (by kernel_rfl) (by kernel_rfl) trnΦ_mono ?hob ?hQ (fun h => absurd h (by omega))
   case hob =>
    intro i o hin ho a wa hE hF
    match i, hin with
    | 0, _ =>
     cases ho
     have h0 : a.tmps[3]?.getD undef = .pointer (some ⟨pb, 0, none⟩) := evalD (hF.old 3 (by decide))
     refine Ran.value rfl (v := .pointer (some ⟨pb, 0, none⟩)) (w1 := wa) ?_ ⟨rfl, Ext.refl _⟩
     go_simp
    | 1, _ =>
     cases ho
     have h0 : a.tmps[12]?.getD undef = .pointer (some ⟨pb, 0, none⟩) := evalD ((hF.from_ 0 12 rfl (by decide)))
     have q := (Row.ext (HB.out) hE).cell
     refine Ran.value rfl (v := .int .i64 P) (w1 := wa) ?_ ⟨rfl, Ext.refl _⟩
     go_simp
    | 2, _ =>
     cases ho
     have h0 : a.tmps[0]?.getD undef = .slice (some ⟨tb, to, none⟩) len c := evalD (hF.old 0 (by decide))
     refine Ran.value rfl (v := .slice (some ⟨tb, to, none⟩) len c) (w1 := wa) ?_ ⟨rfl, Ext.refl _⟩
     go_simp
    | 3, _ =>
     cases ho
     have h0 : a.tmps[4]?.getD undef = .int .i64 (k : Int) := evalD (hF.old 4 (by decide))
     refine Ran.value rfl (v := .int .i64 (k : Int)) (w1 := wa) ?_ ⟨rfl, Ext.refl _⟩
     go_simp
    | 4, _ =>
     cases ho
     have h0 : a.tmps[14]?.getD undef = .slice (some ⟨tb, to, none⟩) len c := evalD ((hF.from_ 2 14 rfl (by decide)))
     have h1 : a.tmps[15]?.getD undef = .int .i64 (k : Int) := evalD ((hF.from_ 3 15 rfl (by decide)))
     refine Ran.value rfl (v := .pointer (some ⟨tb, to + k * 2, none⟩)) (w1 := wa) ?_ ⟨rfl, Ext.refl _⟩
     have hk := HK.out
     go_simp
    | 5, _ =>
     cases ho
     have h0 : a.tmps[16]?.getD undef = .pointer (some ⟨tb, to + k * 2, none⟩) := evalD ((hF.from_ 4 16 rfl (by decide)))
     refine Ran.value rfl (v := .pointer (some ⟨tb, to + k * 2, none⟩)) (w1 := wa) ?_ ⟨rfl, Ext.refl _⟩
     go_simp
    | 6, _ =>
     cases ho
     have h0 : a.tmps[17]?.getD undef = .pointer (some ⟨tb, to + k * 2, none⟩) := evalD (hF.from_ 5 17 rfl (by decide))
     have q := hE.cell HC.out.1
     refine Ran.value rfl (v := .int .i64 x) (w1 := wa) ?_ ⟨rfl, Ext.refl _⟩
     go_simp
    | 7, _ =>
     cases ho
     have h0 : a.tmps[13]?.getD undef = .int .i64 P := evalD ((hF.from_ 1 13 rfl (by decide)))
     have h1 : a.tmps[18]?.getD undef = .int .i64 x := evalD ((hF.from_ 6 18 rfl (by decide)))
     refine Ran.value rfl (v := .int .i64 (P * x)) (w1 := wa) ?_ ⟨rfl, Ext.refl _⟩
     have hb := HP.out.1
     go_simp
    | 8, _ =>
     cases ho
     have h0 : a.tmps[3]?.getD undef = .pointer (some ⟨pb, 0, none⟩) := evalD (hF.old 3 (by decide))
     refine Ran.value rfl (v := .pointer (some ⟨pb, 1, none⟩)) (w1 := wa) ?_ ⟨rfl, Ext.refl _⟩
     go_simp
    | 9, _ =>
     cases ho
     have h0 : a.tmps[20]?.getD undef = .pointer (some ⟨pb, 1, none⟩) := evalD ((hF.from_ 8 20 rfl (by decide)))
     have q := (Row.ext (HB.out) hE).cell
     refine Ran.value rfl (v := .int .i64 Q) (w1 := wa) ?_ ⟨rfl, Ext.refl _⟩
     go_simp
    | 10, _ =>
     cases ho
     have h0 : a.tmps[0]?.getD undef = .slice (some ⟨tb, to, none⟩) len c := evalD (hF.old 0 (by decide))
     refine Ran.value rfl (v := .slice (some ⟨tb, to, none⟩) len c) (w1 := wa) ?_ ⟨rfl, Ext.refl _⟩
     go_simp
    | 11, _ =>
     cases ho
     have h0 : a.tmps[4]?.getD undef = .int .i64 (k : Int) := evalD (hF.old 4 (by decide))
     refine Ran.value rfl (v := .int .i64 (k : Int)) (w1 := wa) ?_ ⟨rfl, Ext.refl _⟩
     go_simp
    | 12, _ =>
     cases ho
     have h0 : a.tmps[22]?.getD undef = .slice (some ⟨tb, to, none⟩) len c := evalD ((hF.from_ 10 22 rfl (by decide)))
     have h1 : a.tmps[23]?.getD undef = .int .i64 (k : Int) := evalD ((hF.from_ 11 23 rfl (by decide)))
     refine Ran.value rfl (v := .pointer (some ⟨tb, to + k * 2, none⟩)) (w1 := wa) ?_ ⟨rfl, Ext.refl _⟩
     have hk := HK.out
     go_simp
    | 13, _ =>
     cases ho
     have h0 : a.tmps[24]?.getD undef = .pointer (some ⟨tb, to + k * 2, none⟩) := evalD ((hF.from_ 12 24 rfl (by decide)))
     refine Ran.value rfl (v := .pointer (some ⟨tb, to + k * 2 + 1, none⟩)) (w1 := wa) ?_ ⟨rfl, Ext.refl _⟩
     go_simp
    | 14, _ =>
     cases ho
     have h0 : a.tmps[25]?.getD undef = .pointer (some ⟨tb, to + k * 2 + 1, none⟩) := evalD (hF.from_ 13 25 rfl (by decide))
     have q := hE.cell HC.out.2
     refine Ran.value rfl (v := .int .i64 y) (w1 := wa) ?_ ⟨rfl, Ext.refl _⟩
     go_simp
    | 15, _ =>
     cases ho
     have h0 : a.tmps[21]?.getD undef = .int .i64 Q := evalD ((hF.from_ 9 21 rfl (by decide)))
     have h1 : a.tmps[26]?.getD undef = .int .i64 y := evalD ((hF.from_ 14 26 rfl (by decide)))
     refine Ran.value rfl (v := .int .i64 (Q * y)) (w1 := wa) ?_ ⟨rfl, Ext.refl _⟩
     have hb := HP.out.2
     go_simp
    | 16, _ =>
     cases ho
     have h0 : a.tmps[19]?.getD undef = .int .i64 (P * x) := evalD ((hF.from_ 7 19 rfl (by decide)))
     have h1 : a.tmps[27]?.getD undef = .int .i64 (Q * y) := evalD ((hF.from_ 15 27 rfl (by decide)))
     refine Ran.value rfl (v := .agg #[.int .i64 (P * x), .int .i64 (Q * y)]) (w1 := wa) ?_ ⟨rfl, Ext.refl _⟩
     go_simp
    | k + 17, hin => omega
   case hQ =>
    intro vs w2 hE hΦ
    have f0 : vs 0 = .pointer (some ⟨pb, 0, none⟩) := hΦ 0 (by omega)
    have f1 : vs 1 = .int .i64 P := hΦ 1 (by omega)
    have f2 : vs 2 = .slice (some ⟨tb, to, none⟩) len c := hΦ 2 (by omega)
    have f3 : vs 3 = .int .i64 (k : Int) := hΦ 3 (by omega)
    have f4 : vs 4 = .pointer (some ⟨tb, to + k * 2, none⟩) := hΦ 4 (by omega)
    have f5 : vs 5 = .pointer (some ⟨tb, to + k * 2, none⟩) := hΦ 5 (by omega)
    have f6 : vs 6 = .int .i64 x := hΦ 6 (by omega)
    have f7 : vs 7 = .int .i64 (P * x) := hΦ 7 (by omega)
    have f8 : vs 8 = .pointer (some ⟨pb, 1, none⟩) := hΦ 8 (by omega)
    have f9 : vs 9 = .int .i64 Q := hΦ 9 (by omega)
    have f10 : vs 10 = .slice (some ⟨tb, to, none⟩) len c := hΦ 10 (by omega)
    have f11 : vs 11 = .int .i64 (k : Int) := hΦ 11 (by omega)
    have f12 : vs 12 = .pointer (some ⟨tb, to + k * 2, none⟩) := hΦ 12 (by omega)
    have f13 : vs 13 = .pointer (some ⟨tb, to + k * 2 + 1, none⟩) := hΦ 13 (by omega)
    have f14 : vs 14 = .int .i64 y := hΦ 14 (by omega)
    have f15 : vs 15 = .int .i64 (Q * y) := hΦ 15 (by omega)
    have f16 : vs 16 = .agg #[.int .i64 (P * x), .int .i64 (Q * y)] := hΦ 16 (by omega)
    have hrg : List.range 17 = [0, 1, 2, 3, 4, 5, 6, 7, 8, 9, 10, 11, 12, 13, 14, 15, 16] := rfl
    unfold putAll putS
    simp only [List.length_cons, List.length_nil, List.take_succ_cons, List.take_zero, List.drop_succ_cons, List.drop_zero, Nat.reduceAdd, hrg, List.foldl_cons, List.foldl_nil, dstOf, List.getElem?_cons_succ, List.getElem?_cons_zero, Option.bind_some]
    clear hrg
    rw [f0, f1, f2, f3, f4, f5, f6, f7, f8, f9, f10, f11, f12, f13, f14, f15, f16]
    simp only [Act.put, List.setIfInBounds_toArray, List.set_cons_succ, List.set_cons_zero]
    have HB2 := Lib.hid (HB.out.ext hE)
    have HA2 := Lib.hid (HA.out.ext hE)
    have HE2 := Lib.hid (HE.out.trans hE)
    clear hΦ f0 f1 f2 f3 f4 f5 f6 f7 f8 f9 f10 f11 f12 f13 f14 f15 f16 hE
    have b2 := HB2.out.cell
    have fz := HB2.out.free
    go_wp2_with fail
    refine ⟨⟨k + 1, by omega, by go_num, ?_, ?_, ?_⟩, by simp [intOf]; omega⟩
    ·rw [HT2.out.1, HT2.out.2]; exact ((HB2.out.set_ 0 (.int .i64 (P * x))).set_ 1 (.int .i64 (Q * y)))
    ·exact ((HA2.out.far (p := ⟨pb, 0, none⟩) (by have := HPB.out; simp; omega) _).far (p := ⟨pb, 1, none⟩) (by have := HPB.out; simp; omega) _)
    ·exact (HE2.out.setCell (p := ⟨pb, 0, none⟩) (by have := HPA.out; have := HPB.out; simp; omega) _).setCell (p := ⟨pb, 1, none⟩) (by have := HPA.out; have := HPB.out; simp; omega) _
  ·obtain rfl : k = l.length := by omega
   rw [List.take_length] at HB
   have hp := HK.out.prods
   obtain ⟨N, hN⟩ := Int.eq_ofNat_of_zero_le (show 0 ≤ Ec.drivesP l by omega)
   obtain ⟨D, hD⟩ := Int.eq_ofNat_of_zero_le (show 0 ≤ Ec.drivenP l by omega)
   have HQ := Lib.hid (turns_nat hN hD)
   rw [hN, hD] at hp HB
   clear h2 hE hN hD
   have b2 := HB.out.cell
   go_wp2_with fail
   refine (r1_Reduced_any N D wr (by omega) (by omega) (by omega)).mono ?_
   rintro e W ⟨rfl, hE1⟩
   rw [HQ.out.1, HQ.out.2]
   have HR := Lib.hid (HA.out.ext hE1)
   have HE1 := Lib.hid (HE.out.trans hE1)
   clear b2 hE1
   have c2 := HR.out.cell
   have fz := HR.out.free
   go_wp2_with fail
   refine bodyPost_ret (results_cell_row rfl _ _ pa 43 _ (0, 0) _ rfl ((HR.out.set_ 0 (.int .i64 (Ec.turnsN l))).set_ 1 (.int .i64 (Ec.turnsD l))) Tryz.underlying43 rfl (by kernel_rfl)) rfl ?_
   exact ⟨rfl, (HE1.out.setCell (p := ⟨pa, 0, none⟩) (by have := HPA.out; have := HPB.out; simp; omega) _).setCell (p := ⟨pa, 1, none⟩) (by have := HPA.out; have := HPB.out; simp; omega) _⟩
theorem shown_parts (N D num den L turn : Int) (hN : 1 ≤ N ∧ N ≤ 216000) (hD : 1 ≤ D ∧ D ≤ 216000) (h1 : 1 ≤ num ∧ num ≤ 10000) (h3 : 1 ≤ den ∧ den ≤ 10000) (hL : 0 ≤ L ∧ L ≤ 10000) (h5 : L ≤ turn ∧ turn ≤ 10000) :
  ∃ R1 R2 R3 : Int, ((num * L).tmod den = R1 ∧ (0 ≤ R1 * D ∧ R1 * D ≤ 2160000000)) ∧ ((N * (turn - L)).tmod D = R2 ∧ (0 ≤ R2 * den ∧ R2 * den ≤ 2160000000)) ∧ ((R1 * D + R2 * den).tmod (den * D) = R3 ∧ (0 ≤ R3 ∧ R3 ≤ 2160000000)) ∧
   (R3 * 21600).tdiv (den * D) = (num * L * D + N * (turn - L) * den) % (D * den) * 21600 / (D * den) ∧ ((0 ≤ num * L ∧ num * L ≤ 100000000) ∧ (0 ≤ N * (turn - L) ∧ N * (turn - L) ≤ 2160000000) ∧ (1 ≤ den * D ∧ den * D ≤ 2160000000)) := by
 have p1 := mul_bounds0 (a := num) (b := L) (A := 10000) (B := 10000) (by omega) (by omega) (by omega) (by omega)
 have p2 := mul_bounds0 (a := N) (b := turn - L) (A := 216000) (B := 10000) (by omega) (by omega) (by omega) (by omega)
 have p3 := mul_bounds0 (a := den) (b := D) (A := 10000) (B := 216000) (by omega) (by omega) (by omega) (by omega)
 have p4 : 1 * 1 ≤ den * D := Int.mul_le_mul (by omega) (by omega) (by omega) (by omega)
 have e1 := Int.emod_nonneg (num * L) (show den ≠ 0 by omega)
 have e2 := Int.emod_lt_of_pos (num * L) (show 0 < den by omega)
 have e3 := Int.emod_nonneg (N * (turn - L)) (show D ≠ 0 by omega)
 have e4 := Int.emod_lt_of_pos (N * (turn - L)) (show 0 < D by omega)
 have q1 := mul_bounds0 (a := num * L % den) (b := D) (A := 10000) (B := 216000) (by omega) (by omega) (by omega) (by omega)
 have q2 := mul_bounds0 (a := N * (turn - L) % D) (b := den) (A := 216000) (B := 10000) (by omega) (by omega) (by omega) (by omega)
 have e5 := Int.emod_nonneg (num * L % den * D + N * (turn - L) % D * den) (show den * D ≠ 0 by omega)
 have e6 := Int.emod_lt_of_pos (num * L % den * D + N * (turn - L) % D * den) (show 0 < den * D by omega)
 refine ⟨num * L % den, N * (turn - L) % D, (num * L % den * D + N * (turn - L) % D * den) % (den * D), ⟨by rw [Int.tmod_eq_emod_of_nonneg (by omega)], by omega⟩, ⟨by rw [Int.tmod_eq_emod_of_nonneg (by omega)], by omega⟩, ⟨by rw [Int.tmod_eq_emod_of_nonneg (by omega)], by omega⟩, ?_, by omega, by omega, by omega⟩
 rw [Int.tdiv_eq_ediv_of_nonneg (by omega), Ec.shown_ref (num * L) (N * (turn - L)) den D, Int.mul_comm den D]
theorem r1_Shown_any (A Af At : Option Addr) (c cf ct : Nat) (l : List Ec.Pair) (feasts set : List Int) (num den turn : Int) (w : World) (hm : Pairs w A l) (hf : Ints w Af feasts) (hs : Ints w At set)
  (c0 : Ec.trainOk l = true) (c1 : Ec.feastsOk feasts = true) (c2 : Ec.setOk feasts set = true) (h1 : 1 ≤ num ∧ num ≤ 10000) (h3 : 1 ≤ den ∧ den ≤ 10000) (h5 : 0 ≤ turn ∧ turn ≤ 10000) :
  Calls Tryz.prog 103 #[.slice A l.length c, .agg #[.int .i64 num, .int .i64 den], .slice Af feasts.length cf, .slice At set.length ct, .int .i64 turn] w fun e w' => e = .returned (.int .i64 (Ec.shown l num den feasts set turn)) ∧ Ext w w' := by
 have hK := trainOk_of c0
 have hn3 := hK.n3
 have hf8 := (feasts_at c1).1
 have hs8 := set_len c1 c2
 have HSA := Lib.hid (set_at c2)
 have HFO := Lib.hid (fun k (hk : k < set.length) => feastOf_bounds c1 c2 hk)
 have HUP := Lib.hid (fun i j (hij : i < j) (hj : j < set.length) => Ec.feastOf_lt c1 c2 hij hj)
 have hLB := lastN_bounds c1 c2 turn h5.1 set.length (Nat.le_refl _)
 have HTU := Lib.hid (fun W (h : Pairs W A l) => r1_Turns_any A c l W h hK)
 have HM := Lib.hid hm
 have HF := Lib.hid hf
 have HT := Lib.hid hs
 rw [show Ec.shown l num den feasts set turn = (num * Ec.lastN feasts set turn set.length * Ec.turnsD l + Ec.turnsN l * (turn - Ec.lastN feasts set turn set.length) * den) % (Ec.turnsD l * den) * 21600 / (Ec.turnsD l * den) from rfl]
 obtain ⟨R1, R2, R3, ⟨t1, u1⟩, ⟨t2, u2⟩, ⟨t3, u3⟩, t4, u4, u5, u6⟩ := shown_parts (Ec.turnsN l) (Ec.turnsD l) num den (Ec.lastN feasts set turn set.length) turn hK.turns.1 hK.turns.2 h1 h3 (by omega) (by omega)
 obtain ⟨n1, d1⟩ := hK.turns
 have hvb : 0 ≤ (R3 * 21600).tdiv (den * Ec.turnsD l) ∧ (R3 * 21600).tdiv (den * Ec.turnsD l) < 21600 := by rw [t4]; exact shown_bounds c0 num den feasts set turn h3.1
 rw [← t4]
 clear hm hf hs hK t4
 obtain ⟨L, hL⟩ : ∃ L, Ec.lastN feasts set turn set.length = L := ⟨_, rfl⟩
 obtain ⟨N, hN⟩ : ∃ N, Ec.turnsN l = N := ⟨_, rfl⟩
 obtain ⟨D, hD⟩ : ∃ D, Ec.turnsD l = D := ⟨_, rfl⟩
 rw [hL] at t1 t2 u4 u5 hLB
 rw [hN] at t2 u5 n1 HTU
 rw [hD] at u1 t2 t3 u6 d1 HTU hvb ⊢
 have HL := Lib.hid hL
 clear hL hN hD
 obtain ⟨V, hV⟩ : ∃ V, (R3 * 21600).tdiv (den * D) = V := ⟨_, rfl⟩
 rw [hV] at hvb ⊢
 have HT1 := Lib.hid t1
 have HT2 := Lib.hid t2
 have HT3 := Lib.hid t3
 have HT4 := Lib.hid hV
 clear t1 t2 t3 hV
 go_enter Tryz.func103, Tryz.ntmps103
 go_wp2_with fail
 have HR0 := Lib.hid (Row.new w 43 #[.int .i64 num, .int .i64 den])
 have HE0 : Hid (Ext w (w.alloc (.cells #[.int .i64 num, .int .i64 den] 43))) := Lib.hid ((Ext.refl w).alloc _)
 generalize w.alloc (.cells #[.int .i64 num, .int .i64 den] 43) = w0 at *
 go_loopw [11, 12] (fun x i wr => ∃ k : Nat, k ≤ set.length ∧ i = .int .i64 k ∧ x = .int .i64 (Ec.prevF feasts set k) ∧ (∀ j, j < k → Ec.feastOf feasts set j ≤ turn) ∧ w0 = wr) (fun _ i _ => set.length - (intOf i).toNat)
 case atStart => exact ⟨0, Nat.zero_le _, rfl, rfl, fun j hj => by omega, rfl⟩
 case round =>
  obtain ⟨k, hk, rfl, rfl, hup, rfl⟩ := hrel
  have HUP2 := Lib.hid hup
  clear hup
  have finish : Hid ((∀ j, j < k → Ec.feastOf feasts set j ≤ turn) → (k < set.length → turn < Ec.feastOf feasts set k) → Ec.prevF feasts set k = L) := Lib.hid (fun h1 h2 => by
   rw [← HL.out, Ec.lastN_stop (j := k) hk (fun i hi hin => by
    have hk2 := h2 (by omega)
    rcases Nat.lt_or_ge k i with h | h
    ·have := HUP.out k i h hin; omega
    ·obtain rfl : i = k := by omega
     exact hk2), Ec.last_prev h1])
  by_cases hlt : k < set.length
  ·obtain ⟨bs, os, rfl, hcs⟩ := (HT.out.ext HE0.out) (by omega)
   have hsk := HSA.out k hlt
   obtain ⟨bf, of, rfl, hcf⟩ := (HF.out.ext HE0.out) (by omega)
   have ck := hcs k hlt
   have cf := hcf (rd set k).toNat (by omega)
   have HNX : Hid (Ec.prevF feasts set (k + 1) = rd feasts (rd set k).toNat ∧ Ec.feastOf feasts set k = rd feasts (rd set k).toNat) := Lib.hid ⟨rfl, rfl⟩
   clear hcs hcf
   obtain ⟨s, hs⟩ : ∃ s, rd set k = s := ⟨_, rfl⟩
   rw [hs] at hsk ck cf HNX
   obtain ⟨f, hf⟩ : ∃ f, rd feasts s.toNat = f := ⟨_, rfl⟩
   rw [hf] at cf HNX
   clear hs hf
   by_cases hle : f ≤ turn
   ·clear finish
    go_wp2_with fail
    refine ⟨⟨k + 1, by omega, by go_num, by rw [HNX.out.1], fun j hj => ?_, trivial⟩, by simp [intOf]; omega⟩
    rcases Nat.lt_or_ge j k with h | h
    ·exact HUP2.out j h
    ·obtain rfl : j = k := by omega
     rw [HNX.out.2]; exact hle
   ·have hP := finish.out HUP2.out (fun _ => by rw [HNX.out.2]; omega)
    rw [hP]
    clear hP finish
    go_wp2_with fail
    refine (HTU.out _ (HM.out.ext HE0.out)).mono ?_
    rintro e w1 ⟨rfl, hE1⟩
    clear ck cf
    have HR1 := Lib.hid ((HR0.out.ext hE1).alloc (.cells #[.int .i64 N, .int .i64 D] 43))
    have HR2 := Lib.hid (Row.new w1 43 #[.int .i64 N, .int .i64 D])
    have HEx := Lib.hid ((HE0.out.trans hE1).alloc (.cells #[.int .i64 N, .int .i64 D] 43))
    clear hE1
    go_wp2_with fail
    generalize w1.alloc (.cells #[.int .i64 N, .int .i64 D] 43) = w2 at *
    have b1 := HR1.out.cell
    have b2 := HR2.out.cell
    have t1 := HT1.out
    have t2 := HT2.out
    go_quiet (fail)
    clear t1 t2
    have t3 := HT3.out
    have t4 := HT4.out
    go_wp2_with fail
    go_ret
    exact ⟨rfl, HEx.out.drewN _⟩
  ·obtain rfl : k = set.length := by omega
   have hP := finish.out HUP2.out (fun h => by omega)
   rw [hP]
   clear hP finish
   go_wp2_with fail
   refine (HTU.out _ (HM.out.ext HE0.out)).mono ?_
   rintro e w1 ⟨rfl, hE1⟩
   have HR1 := Lib.hid ((HR0.out.ext hE1).alloc (.cells #[.int .i64 N, .int .i64 D] 43))
   have HR2 := Lib.hid (Row.new w1 43 #[.int .i64 N, .int .i64 D])
   have HEx := Lib.hid ((HE0.out.trans hE1).alloc (.cells #[.int .i64 N, .int .i64 D] 43))
   clear hE1
   go_wp2_with fail
   generalize w1.alloc (.cells #[.int .i64 N, .int .i64 D] 43) = w2 at *
   have b1 := HR1.out.cell
   have b2 := HR2.out.cell
   have t1 := HT1.out
   have t2 := HT2.out
   go_quiet (fail)
   clear t1 t2
   have t3 := HT3.out
   have t4 := HT4.out
   go_wp2_with fail
   go_ret
   exact ⟨rfl, HEx.out.drewN _⟩
end Go.Proofs.YtcbodpnmndbgnaaGreatDoor
