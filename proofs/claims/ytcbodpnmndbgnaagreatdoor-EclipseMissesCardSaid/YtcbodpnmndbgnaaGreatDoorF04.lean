/- Volume 4 of the texts that the laws of this seat use: EcIsEng EcHand EcAt EcCells EcAsk EcFree: walks of the program's functions, and plain laws. -/
import Derived.Outline
import Derived.Carry
import Derived.Great.Frames
import Derived.Test.YtcbodpnmndbgnaaGreatDoorF02
import Derived.Test.YtcbodpnmndbgnaaGreatDoorF03
namespace Go.Proofs.YtcbodpnmndbgnaaGreatDoor
open Go.RowKit
open Sp (rd)
set_option maxRecDepth 100000
set_option maxHeartbeats 1000000
theorem e_isEngine_any (p : EP) (e : Ec.Engine) (w : World) (hm : EngAt w p e) (hl : EngShort e) :
  Calls Tryz.prog 102 #[.agg #[.slice p.Ab e.sky.bodies.length p.cb, .int .i64 e.sky.nnum, .int .i64 e.sky.nden, .int .i64 e.sky.nstart, .slice p.As e.sun.length p.cs, .slice p.Am e.moon.length p.cm, .slice p.An e.node.length p.cn, .slice p.Af e.feasts.length p.cf, .int .i64 e.nw, .int .i64 e.fl, .int .i64 e.wide]] w fun r w' => r = .returned (.bool (Ec.engineOk e)) ∧ Ext w w' := by
 obtain ⟨hs3, hs0, hs1, hs2, hs4⟩ := hl
 have HM := Lib.hid hm
 have HE0 : Hid (Ext w ((w.alloc (.cells #[.slice p.Ab e.sky.bodies.length p.cb, .int .i64 e.sky.nnum, .int .i64 e.sky.nden, .int .i64 e.sky.nstart, .slice p.As e.sun.length p.cs, .slice p.Am e.moon.length p.cm, .slice p.An e.node.length p.cn, .slice p.Af e.feasts.length p.cf, .int .i64 e.nw, .int .i64 e.fl, .int .i64 e.wide] 32)).alloc (.cells #[.slice p.As e.sun.length p.cs, .slice p.Am e.moon.length p.cm, .slice p.An e.node.length p.cn] 29))) := Lib.hid (((Ext.refl w).alloc _).alloc _)
 have HX0 : Hid (Row ((w.alloc (.cells #[.slice p.Ab e.sky.bodies.length p.cb, .int .i64 e.sky.nnum, .int .i64 e.sky.nden, .int .i64 e.sky.nstart, .slice p.As e.sun.length p.cs, .slice p.Am e.moon.length p.cm, .slice p.An e.node.length p.cn, .slice p.Af e.feasts.length p.cf, .int .i64 e.nw, .int .i64 e.fl, .int .i64 e.wide] 32)).alloc (.cells #[.slice p.As e.sun.length p.cs, .slice p.Am e.moon.length p.cm, .slice p.An e.node.length p.cn] 29)) w.heap.size 32 #[.slice p.Ab e.sky.bodies.length p.cb, .int .i64 e.sky.nnum, .int .i64 e.sky.nden, .int .i64 e.sky.nstart, .slice p.As e.sun.length p.cs, .slice p.Am e.moon.length p.cm, .slice p.An e.node.length p.cn, .slice p.Af e.feasts.length p.cf, .int .i64 e.nw, .int .i64 e.fl, .int .i64 e.wide]) := Lib.hid ((Row.new w _ _).alloc _)
 have HL0 : Hid (Row ((w.alloc (.cells #[.slice p.Ab e.sky.bodies.length p.cb, .int .i64 e.sky.nnum, .int .i64 e.sky.nden, .int .i64 e.sky.nstart, .slice p.As e.sun.length p.cs, .slice p.Am e.moon.length p.cm, .slice p.An e.node.length p.cn, .slice p.Af e.feasts.length p.cf, .int .i64 e.nw, .int .i64 e.fl, .int .i64 e.wide] 32)).alloc (.cells #[.slice p.As e.sun.length p.cs, .slice p.Am e.moon.length p.cm, .slice p.An e.node.length p.cn] 29)) (w.heap.size + 1) 29 #[.slice p.As e.sun.length p.cs, .slice p.Am e.moon.length p.cm, .slice p.An e.node.length p.cn]) := Lib.hid (by
  have := Row.new (w.alloc (.cells #[.slice p.Ab e.sky.bodies.length p.cb, .int .i64 e.sky.nnum, .int .i64 e.sky.nden, .int .i64 e.sky.nstart, .slice p.As e.sun.length p.cs, .slice p.Am e.moon.length p.cm, .slice p.An e.node.length p.cn, .slice p.Af e.feasts.length p.cf, .int .i64 e.nw, .int .i64 e.fl, .int .i64 e.wide] 32)) 29 #[.slice p.As e.sun.length p.cs, .slice p.Am e.moon.length p.cm, .slice p.An e.node.length p.cn]
  simpa using this)
 clear hm
 cases c0 : Ec.trainOk e.sun
 ·go_enter Tryz.func102, Tryz.ntmps102
  go_wp2_with fail
  refine wp_loop_rounds 4 ?_
  rw [rounds_succ]
  go_wp2_with fail
  refine (t_Turns_err p.As p.cs e.sun _ (HM.out.sun.ext HE0.out) hs0 c0).mono ?_
  rintro r w9 ⟨rfl, hE9⟩
  have HE9 := Lib.hid (HE0.out.trans hE9)
  clear hE9
  go_wp2_with fail
  go_ret
  exact ⟨ret_bool (by simp [Ec.engineOk, c0]), HE9.out.alloc _⟩
 cases c1 : Ec.trainOk e.moon
 ·go_enter Tryz.func102, Tryz.ntmps102
  go_wp2_with fail
  refine wp_loop_rounds 4 ?_
  rw [rounds_succ]
  go_wp2_with fail
  refine (t_Turns_ok p.As p.cs e.sun _ (HM.out.sun.ext HE0.out) hs0 c0).mono ?_
  rintro r v0 ⟨b0, rfl, hE9⟩
  have HE1 := Lib.hid ((HE0.out.trans hE9).alloc (.cells #[.int .i64 (Ec.turnsN e.sun), .int .i64 (Ec.turnsD e.sun)] 43))
  have HX1 := Lib.hid ((HX0.out.ext hE9).alloc (.cells #[.int .i64 (Ec.turnsN e.sun), .int .i64 (Ec.turnsD e.sun)] 43))
  have HL1 := Lib.hid ((HL0.out.ext hE9).alloc (.cells #[.int .i64 (Ec.turnsN e.sun), .int .i64 (Ec.turnsD e.sun)] 43))
  have x0 := (HX0.out.ext hE9).cell
  have l0 := (HL0.out.ext hE9).cell
  have j0 := lts (HX0.out.ext hE9).lt
  have j1 := lts (HL0.out.ext hE9).lt
  clear hE9
  go_wp2_with fail
  rw [rounds_succ]
  go_wp2_with fail
  refine (t_Turns_err p.Am p.cm e.moon _ (HM.out.moon.ext HE1.out) hs1 c1).mono ?_
  rintro r w9 ⟨rfl, hE9⟩
  have HE9 := Lib.hid (HE1.out.trans hE9)
  clear hE9
  go_wp2_with fail
  go_ret
  exact ⟨ret_bool (by simp [Ec.engineOk, c1]), HE9.out.alloc _⟩
 cases c2 : Ec.trainOk e.node
 ·go_enter Tryz.func102, Tryz.ntmps102
  go_wp2_with fail
  refine wp_loop_rounds 4 ?_
  rw [rounds_succ]
  go_wp2_with fail
  refine (t_Turns_ok p.As p.cs e.sun _ (HM.out.sun.ext HE0.out) hs0 c0).mono ?_
  rintro r v0 ⟨b0, rfl, hE9⟩
  have HE1 := Lib.hid ((HE0.out.trans hE9).alloc (.cells #[.int .i64 (Ec.turnsN e.sun), .int .i64 (Ec.turnsD e.sun)] 43))
  have HX1 := Lib.hid ((HX0.out.ext hE9).alloc (.cells #[.int .i64 (Ec.turnsN e.sun), .int .i64 (Ec.turnsD e.sun)] 43))
  have HL1 := Lib.hid ((HL0.out.ext hE9).alloc (.cells #[.int .i64 (Ec.turnsN e.sun), .int .i64 (Ec.turnsD e.sun)] 43))
  have x0 := (HX0.out.ext hE9).cell
  have l0 := (HL0.out.ext hE9).cell
  have j0 := lts (HX0.out.ext hE9).lt
  have j1 := lts (HL0.out.ext hE9).lt
  clear hE9
  go_wp2_with fail
  rw [rounds_succ]
  go_wp2_with fail
  refine (t_Turns_ok p.Am p.cm e.moon _ (HM.out.moon.ext HE1.out) hs1 c1).mono ?_
  rintro r v1 ⟨b1, rfl, hE9⟩
  have HE2 := Lib.hid ((HE1.out.trans hE9).alloc (.cells #[.int .i64 (Ec.turnsN e.moon), .int .i64 (Ec.turnsD e.moon)] 43))
  have HX2 := Lib.hid ((HX1.out.ext hE9).alloc (.cells #[.int .i64 (Ec.turnsN e.moon), .int .i64 (Ec.turnsD e.moon)] 43))
  have HL2 := Lib.hid ((HL1.out.ext hE9).alloc (.cells #[.int .i64 (Ec.turnsN e.moon), .int .i64 (Ec.turnsD e.moon)] 43))
  clear x0 l0 j0 j1
  have x0 := (HX1.out.ext hE9).cell
  have l0 := (HL1.out.ext hE9).cell
  have j0 := lts (HX1.out.ext hE9).lt
  have j1 := lts (HL1.out.ext hE9).lt
  clear hE9
  go_wp2_with fail
  rw [rounds_succ]
  go_wp2_with fail
  refine (t_Turns_err p.An p.cn e.node _ (HM.out.node.ext HE2.out) hs2 c2).mono ?_
  rintro r w9 ⟨rfl, hE9⟩
  have HE9 := Lib.hid (HE2.out.trans hE9)
  clear hE9
  go_wp2_with fail
  go_ret
  exact ⟨ret_bool (by simp [Ec.engineOk, c2]), HE9.out.alloc _⟩
 cases c3 : Sp.skyOk e.sky
 ·go_enter Tryz.func102, Tryz.ntmps102
  go_wp2_with fail
  refine wp_loop_rounds 4 ?_
  rw [rounds_succ]
  go_wp2_with fail
  refine (t_Turns_ok p.As p.cs e.sun _ (HM.out.sun.ext HE0.out) hs0 c0).mono ?_
  rintro r v0 ⟨b0, rfl, hE9⟩
  have HE1 := Lib.hid ((HE0.out.trans hE9).alloc (.cells #[.int .i64 (Ec.turnsN e.sun), .int .i64 (Ec.turnsD e.sun)] 43))
  have HX1 := Lib.hid ((HX0.out.ext hE9).alloc (.cells #[.int .i64 (Ec.turnsN e.sun), .int .i64 (Ec.turnsD e.sun)] 43))
  have HL1 := Lib.hid ((HL0.out.ext hE9).alloc (.cells #[.int .i64 (Ec.turnsN e.sun), .int .i64 (Ec.turnsD e.sun)] 43))
  have x0 := (HX0.out.ext hE9).cell
  have l0 := (HL0.out.ext hE9).cell
  have j0 := lts (HX0.out.ext hE9).lt
  have j1 := lts (HL0.out.ext hE9).lt
  clear hE9
  go_wp2_with fail
  rw [rounds_succ]
  go_wp2_with fail
  refine (t_Turns_ok p.Am p.cm e.moon _ (HM.out.moon.ext HE1.out) hs1 c1).mono ?_
  rintro r v1 ⟨b1, rfl, hE9⟩
  have HE2 := Lib.hid ((HE1.out.trans hE9).alloc (.cells #[.int .i64 (Ec.turnsN e.moon), .int .i64 (Ec.turnsD e.moon)] 43))
  have HX2 := Lib.hid ((HX1.out.ext hE9).alloc (.cells #[.int .i64 (Ec.turnsN e.moon), .int .i64 (Ec.turnsD e.moon)] 43))
  have HL2 := Lib.hid ((HL1.out.ext hE9).alloc (.cells #[.int .i64 (Ec.turnsN e.moon), .int .i64 (Ec.turnsD e.moon)] 43))
  clear x0 l0 j0 j1
  have x0 := (HX1.out.ext hE9).cell
  have l0 := (HL1.out.ext hE9).cell
  have j0 := lts (HX1.out.ext hE9).lt
  have j1 := lts (HL1.out.ext hE9).lt
  clear hE9
  go_wp2_with fail
  rw [rounds_succ]
  go_wp2_with fail
  refine (t_Turns_ok p.An p.cn e.node _ (HM.out.node.ext HE2.out) hs2 c2).mono ?_
  rintro r v2 ⟨b2, rfl, hE9⟩
  have HE3 := Lib.hid ((HE2.out.trans hE9).alloc (.cells #[.int .i64 (Ec.turnsN e.node), .int .i64 (Ec.turnsD e.node)] 43))
  have HX3 := Lib.hid ((HX2.out.ext hE9).alloc (.cells #[.int .i64 (Ec.turnsN e.node), .int .i64 (Ec.turnsD e.node)] 43))
  have HL3 := Lib.hid ((HL2.out.ext hE9).alloc (.cells #[.int .i64 (Ec.turnsN e.node), .int .i64 (Ec.turnsD e.node)] 43))
  clear x0 l0 j0 j1
  have x0 := (HX2.out.ext hE9).cell
  have l0 := (HL2.out.ext hE9).cell
  have j0 := lts (HX2.out.ext hE9).lt
  have j1 := lts (HL2.out.ext hE9).lt
  clear hE9
  go_wp2_with fail
  rw [rounds_succ]
  go_wp2_with fail
  refine (Month_err e.sky p.Ab p.cb _ (HM.out.bodies.ext HE3.out) hs3 c3).mono ?_
  rintro r w9 ⟨rfl, hE9⟩
  have HE9 := Lib.hid (HE3.out.trans hE9)
  have HX9 := Lib.hid (HX3.out.ext hE9)
  clear x0 l0 j0 j1 hE9
  have x0 := HX9.out.cell
  go_wp2_with fail
  go_ret
  exact ⟨ret_bool (by simp [Ec.engineOk, c3]), HE9.out⟩
 cases c4 : Sp.isMonth e.sky
 ·go_enter Tryz.func102, Tryz.ntmps102
  go_wp2_with fail
  refine wp_loop_rounds 4 ?_
  rw [rounds_succ]
  go_wp2_with fail
  refine (t_Turns_ok p.As p.cs e.sun _ (HM.out.sun.ext HE0.out) hs0 c0).mono ?_
  rintro r v0 ⟨b0, rfl, hE9⟩
  have HE1 := Lib.hid ((HE0.out.trans hE9).alloc (.cells #[.int .i64 (Ec.turnsN e.sun), .int .i64 (Ec.turnsD e.sun)] 43))
  have HX1 := Lib.hid ((HX0.out.ext hE9).alloc (.cells #[.int .i64 (Ec.turnsN e.sun), .int .i64 (Ec.turnsD e.sun)] 43))
  have HL1 := Lib.hid ((HL0.out.ext hE9).alloc (.cells #[.int .i64 (Ec.turnsN e.sun), .int .i64 (Ec.turnsD e.sun)] 43))
  have x0 := (HX0.out.ext hE9).cell
  have l0 := (HL0.out.ext hE9).cell
  have j0 := lts (HX0.out.ext hE9).lt
  have j1 := lts (HL0.out.ext hE9).lt
  clear hE9
  go_wp2_with fail
  rw [rounds_succ]
  go_wp2_with fail
  refine (t_Turns_ok p.Am p.cm e.moon _ (HM.out.moon.ext HE1.out) hs1 c1).mono ?_
  rintro r v1 ⟨b1, rfl, hE9⟩
  have HE2 := Lib.hid ((HE1.out.trans hE9).alloc (.cells #[.int .i64 (Ec.turnsN e.moon), .int .i64 (Ec.turnsD e.moon)] 43))
  have HX2 := Lib.hid ((HX1.out.ext hE9).alloc (.cells #[.int .i64 (Ec.turnsN e.moon), .int .i64 (Ec.turnsD e.moon)] 43))
  have HL2 := Lib.hid ((HL1.out.ext hE9).alloc (.cells #[.int .i64 (Ec.turnsN e.moon), .int .i64 (Ec.turnsD e.moon)] 43))
  clear x0 l0 j0 j1
  have x0 := (HX1.out.ext hE9).cell
  have l0 := (HL1.out.ext hE9).cell
  have j0 := lts (HX1.out.ext hE9).lt
  have j1 := lts (HL1.out.ext hE9).lt
  clear hE9
  go_wp2_with fail
  rw [rounds_succ]
  go_wp2_with fail
  refine (t_Turns_ok p.An p.cn e.node _ (HM.out.node.ext HE2.out) hs2 c2).mono ?_
  rintro r v2 ⟨b2, rfl, hE9⟩
  have HE3 := Lib.hid ((HE2.out.trans hE9).alloc (.cells #[.int .i64 (Ec.turnsN e.node), .int .i64 (Ec.turnsD e.node)] 43))
  have HX3 := Lib.hid ((HX2.out.ext hE9).alloc (.cells #[.int .i64 (Ec.turnsN e.node), .int .i64 (Ec.turnsD e.node)] 43))
  have HL3 := Lib.hid ((HL2.out.ext hE9).alloc (.cells #[.int .i64 (Ec.turnsN e.node), .int .i64 (Ec.turnsD e.node)] 43))
  clear x0 l0 j0 j1
  have x0 := (HX2.out.ext hE9).cell
  have l0 := (HL2.out.ext hE9).cell
  have j0 := lts (HX2.out.ext hE9).lt
  have j1 := lts (HL2.out.ext hE9).lt
  clear hE9
  go_wp2_with fail
  rw [rounds_succ]
  go_wp2_with fail
  refine (MonthNo_ok e.sky p.Ab p.cb _ (HM.out.bodies.ext HE3.out) hs3 c4 c3).mono ?_
  rintro r w9 ⟨rfl, hE9⟩
  have HE9 := Lib.hid (HE3.out.trans hE9)
  have HX9 := Lib.hid (HX3.out.ext hE9)
  clear x0 l0 j0 j1 hE9
  have x0 := HX9.out.cell
  go_wp2_with fail
  go_ret
  exact ⟨ret_bool (by simp [Ec.engineOk, c3, c4]), HE9.out⟩
 by_cases c5 : e.feasts.length ≤ 8
 rotate_left
 ·have c5d : decide ((e.feasts.length : Int) ≤ 8) = false := by simp; omega
  go_enter Tryz.func102, Tryz.ntmps102
  go_wp2_with fail
  refine wp_loop_rounds 4 ?_
  rw [rounds_succ]
  go_wp2_with fail
  refine (t_Turns_ok p.As p.cs e.sun _ (HM.out.sun.ext HE0.out) hs0 c0).mono ?_
  rintro r v0 ⟨b0, rfl, hE9⟩
  have HE1 := Lib.hid ((HE0.out.trans hE9).alloc (.cells #[.int .i64 (Ec.turnsN e.sun), .int .i64 (Ec.turnsD e.sun)] 43))
  have HX1 := Lib.hid ((HX0.out.ext hE9).alloc (.cells #[.int .i64 (Ec.turnsN e.sun), .int .i64 (Ec.turnsD e.sun)] 43))
  have HL1 := Lib.hid ((HL0.out.ext hE9).alloc (.cells #[.int .i64 (Ec.turnsN e.sun), .int .i64 (Ec.turnsD e.sun)] 43))
  have x0 := (HX0.out.ext hE9).cell
  have l0 := (HL0.out.ext hE9).cell
  have j0 := lts (HX0.out.ext hE9).lt
  have j1 := lts (HL0.out.ext hE9).lt
  clear hE9
  go_wp2_with fail
  rw [rounds_succ]
  go_wp2_with fail
  refine (t_Turns_ok p.Am p.cm e.moon _ (HM.out.moon.ext HE1.out) hs1 c1).mono ?_
  rintro r v1 ⟨b1, rfl, hE9⟩
  have HE2 := Lib.hid ((HE1.out.trans hE9).alloc (.cells #[.int .i64 (Ec.turnsN e.moon), .int .i64 (Ec.turnsD e.moon)] 43))
  have HX2 := Lib.hid ((HX1.out.ext hE9).alloc (.cells #[.int .i64 (Ec.turnsN e.moon), .int .i64 (Ec.turnsD e.moon)] 43))
  have HL2 := Lib.hid ((HL1.out.ext hE9).alloc (.cells #[.int .i64 (Ec.turnsN e.moon), .int .i64 (Ec.turnsD e.moon)] 43))
  clear x0 l0 j0 j1
  have x0 := (HX1.out.ext hE9).cell
  have l0 := (HL1.out.ext hE9).cell
  have j0 := lts (HX1.out.ext hE9).lt
  have j1 := lts (HL1.out.ext hE9).lt
  clear hE9
  go_wp2_with fail
  rw [rounds_succ]
  go_wp2_with fail
  refine (t_Turns_ok p.An p.cn e.node _ (HM.out.node.ext HE2.out) hs2 c2).mono ?_
  rintro r v2 ⟨b2, rfl, hE9⟩
  have HE3 := Lib.hid ((HE2.out.trans hE9).alloc (.cells #[.int .i64 (Ec.turnsN e.node), .int .i64 (Ec.turnsD e.node)] 43))
  have HX3 := Lib.hid ((HX2.out.ext hE9).alloc (.cells #[.int .i64 (Ec.turnsN e.node), .int .i64 (Ec.turnsD e.node)] 43))
  have HL3 := Lib.hid ((HL2.out.ext hE9).alloc (.cells #[.int .i64 (Ec.turnsN e.node), .int .i64 (Ec.turnsD e.node)] 43))
  clear x0 l0 j0 j1
  have x0 := (HX2.out.ext hE9).cell
  have l0 := (HL2.out.ext hE9).cell
  have j0 := lts (HX2.out.ext hE9).lt
  have j1 := lts (HL2.out.ext hE9).lt
  clear hE9
  go_wp2_with fail
  rw [rounds_succ]
  go_wp2_with fail
  refine (Month_ok e.sky p.Ab p.cb _ (HM.out.bodies.ext HE3.out) hs3 c4 c3).mono ?_
  rintro r w9 ⟨rfl, hE9⟩
  have HE9 := Lib.hid (HE3.out.trans hE9)
  have HX9 := Lib.hid (HX3.out.ext hE9)
  clear x0 l0 j0 j1 hE9
  have x0 := HX9.out.cell
  go_wp2_with fail
  go_ret
  exact ⟨ret_bool (by simp [Ec.engineOk, Ec.feastsOk, c5]), HE9.out⟩
 have c5d : decide ((e.feasts.length : Int) ≤ 8) = true := by simp; omega
 cases c6 : Ec.rising e.feasts 1 10000
 ·go_enter Tryz.func102, Tryz.ntmps102
  go_wp2_with fail
  refine wp_loop_rounds 4 ?_
  rw [rounds_succ]
  go_wp2_with fail
  refine (t_Turns_ok p.As p.cs e.sun _ (HM.out.sun.ext HE0.out) hs0 c0).mono ?_
  rintro r v0 ⟨b0, rfl, hE9⟩
  have HE1 := Lib.hid ((HE0.out.trans hE9).alloc (.cells #[.int .i64 (Ec.turnsN e.sun), .int .i64 (Ec.turnsD e.sun)] 43))
  have HX1 := Lib.hid ((HX0.out.ext hE9).alloc (.cells #[.int .i64 (Ec.turnsN e.sun), .int .i64 (Ec.turnsD e.sun)] 43))
  have HL1 := Lib.hid ((HL0.out.ext hE9).alloc (.cells #[.int .i64 (Ec.turnsN e.sun), .int .i64 (Ec.turnsD e.sun)] 43))
  have x0 := (HX0.out.ext hE9).cell
  have l0 := (HL0.out.ext hE9).cell
  have j0 := lts (HX0.out.ext hE9).lt
  have j1 := lts (HL0.out.ext hE9).lt
  clear hE9
  go_wp2_with fail
  rw [rounds_succ]
  go_wp2_with fail
  refine (t_Turns_ok p.Am p.cm e.moon _ (HM.out.moon.ext HE1.out) hs1 c1).mono ?_
  rintro r v1 ⟨b1, rfl, hE9⟩
  have HE2 := Lib.hid ((HE1.out.trans hE9).alloc (.cells #[.int .i64 (Ec.turnsN e.moon), .int .i64 (Ec.turnsD e.moon)] 43))
  have HX2 := Lib.hid ((HX1.out.ext hE9).alloc (.cells #[.int .i64 (Ec.turnsN e.moon), .int .i64 (Ec.turnsD e.moon)] 43))
  have HL2 := Lib.hid ((HL1.out.ext hE9).alloc (.cells #[.int .i64 (Ec.turnsN e.moon), .int .i64 (Ec.turnsD e.moon)] 43))
  clear x0 l0 j0 j1
  have x0 := (HX1.out.ext hE9).cell
  have l0 := (HL1.out.ext hE9).cell
  have j0 := lts (HX1.out.ext hE9).lt
  have j1 := lts (HL1.out.ext hE9).lt
  clear hE9
  go_wp2_with fail
  rw [rounds_succ]
  go_wp2_with fail
  refine (t_Turns_ok p.An p.cn e.node _ (HM.out.node.ext HE2.out) hs2 c2).mono ?_
  rintro r v2 ⟨b2, rfl, hE9⟩
  have HE3 := Lib.hid ((HE2.out.trans hE9).alloc (.cells #[.int .i64 (Ec.turnsN e.node), .int .i64 (Ec.turnsD e.node)] 43))
  have HX3 := Lib.hid ((HX2.out.ext hE9).alloc (.cells #[.int .i64 (Ec.turnsN e.node), .int .i64 (Ec.turnsD e.node)] 43))
  have HL3 := Lib.hid ((HL2.out.ext hE9).alloc (.cells #[.int .i64 (Ec.turnsN e.node), .int .i64 (Ec.turnsD e.node)] 43))
  clear x0 l0 j0 j1
  have x0 := (HX2.out.ext hE9).cell
  have l0 := (HL2.out.ext hE9).cell
  have j0 := lts (HX2.out.ext hE9).lt
  have j1 := lts (HL2.out.ext hE9).lt
  clear hE9
  go_wp2_with fail
  rw [rounds_succ]
  go_wp2_with fail
  refine (Month_ok e.sky p.Ab p.cb _ (HM.out.bodies.ext HE3.out) hs3 c4 c3).mono ?_
  rintro r w9 ⟨rfl, hE9⟩
  have HE9 := Lib.hid (HE3.out.trans hE9)
  have HX9 := Lib.hid (HX3.out.ext hE9)
  clear x0 l0 j0 j1 hE9
  have x0 := HX9.out.cell
  go_wp2_with fail
  refine (e_rising_any p.Af p.cf e.feasts 1 10000 _ (HM.out.feasts.ext HE9.out) hs4).mono ?_
  rintro r w8 ⟨rfl, rfl⟩
  go_wp2_with fail
  go_ret
  exact ⟨ret_bool (by simp [Ec.engineOk, Ec.feastsOk, c6]), HE9.out⟩
 cases c7 : Sp.isLimit e.nw
 ·go_enter Tryz.func102, Tryz.ntmps102
  go_wp2_with fail
  refine wp_loop_rounds 4 ?_
  rw [rounds_succ]
  go_wp2_with fail
  refine (t_Turns_ok p.As p.cs e.sun _ (HM.out.sun.ext HE0.out) hs0 c0).mono ?_
  rintro r v0 ⟨b0, rfl, hE9⟩
  have HE1 := Lib.hid ((HE0.out.trans hE9).alloc (.cells #[.int .i64 (Ec.turnsN e.sun), .int .i64 (Ec.turnsD e.sun)] 43))
  have HX1 := Lib.hid ((HX0.out.ext hE9).alloc (.cells #[.int .i64 (Ec.turnsN e.sun), .int .i64 (Ec.turnsD e.sun)] 43))
  have HL1 := Lib.hid ((HL0.out.ext hE9).alloc (.cells #[.int .i64 (Ec.turnsN e.sun), .int .i64 (Ec.turnsD e.sun)] 43))
  have x0 := (HX0.out.ext hE9).cell
  have l0 := (HL0.out.ext hE9).cell
  have j0 := lts (HX0.out.ext hE9).lt
  have j1 := lts (HL0.out.ext hE9).lt
  clear hE9
  go_wp2_with fail
  rw [rounds_succ]
  go_wp2_with fail
  refine (t_Turns_ok p.Am p.cm e.moon _ (HM.out.moon.ext HE1.out) hs1 c1).mono ?_
  rintro r v1 ⟨b1, rfl, hE9⟩
  have HE2 := Lib.hid ((HE1.out.trans hE9).alloc (.cells #[.int .i64 (Ec.turnsN e.moon), .int .i64 (Ec.turnsD e.moon)] 43))
  have HX2 := Lib.hid ((HX1.out.ext hE9).alloc (.cells #[.int .i64 (Ec.turnsN e.moon), .int .i64 (Ec.turnsD e.moon)] 43))
  have HL2 := Lib.hid ((HL1.out.ext hE9).alloc (.cells #[.int .i64 (Ec.turnsN e.moon), .int .i64 (Ec.turnsD e.moon)] 43))
  clear x0 l0 j0 j1
  have x0 := (HX1.out.ext hE9).cell
  have l0 := (HL1.out.ext hE9).cell
  have j0 := lts (HX1.out.ext hE9).lt
  have j1 := lts (HL1.out.ext hE9).lt
  clear hE9
  go_wp2_with fail
  rw [rounds_succ]
  go_wp2_with fail
  refine (t_Turns_ok p.An p.cn e.node _ (HM.out.node.ext HE2.out) hs2 c2).mono ?_
  rintro r v2 ⟨b2, rfl, hE9⟩
  have HE3 := Lib.hid ((HE2.out.trans hE9).alloc (.cells #[.int .i64 (Ec.turnsN e.node), .int .i64 (Ec.turnsD e.node)] 43))
  have HX3 := Lib.hid ((HX2.out.ext hE9).alloc (.cells #[.int .i64 (Ec.turnsN e.node), .int .i64 (Ec.turnsD e.node)] 43))
  have HL3 := Lib.hid ((HL2.out.ext hE9).alloc (.cells #[.int .i64 (Ec.turnsN e.node), .int .i64 (Ec.turnsD e.node)] 43))
  clear x0 l0 j0 j1
  have x0 := (HX2.out.ext hE9).cell
  have l0 := (HL2.out.ext hE9).cell
  have j0 := lts (HX2.out.ext hE9).lt
  have j1 := lts (HL2.out.ext hE9).lt
  clear hE9
  go_wp2_with fail
  rw [rounds_succ]
  go_wp2_with fail
  refine (Month_ok e.sky p.Ab p.cb _ (HM.out.bodies.ext HE3.out) hs3 c4 c3).mono ?_
  rintro r w9 ⟨rfl, hE9⟩
  have HE9 := Lib.hid (HE3.out.trans hE9)
  have HX9 := Lib.hid (HX3.out.ext hE9)
  clear x0 l0 j0 j1 hE9
  have x0 := HX9.out.cell
  go_wp2_with fail
  refine (e_rising_any p.Af p.cf e.feasts 1 10000 _ (HM.out.feasts.ext HE9.out) hs4).mono ?_
  rintro r w8 ⟨rfl, rfl⟩
  go_wp2_with fail
  refine (e_isLimit_any e.nw _).mono ?_
  rintro r w8 ⟨rfl, rfl⟩
  go_wp2_with fail
  go_ret
  exact ⟨ret_bool (by simp [Ec.engineOk, c7]), HE9.out⟩
 cases c8 : Sp.isLimit e.fl
 ·go_enter Tryz.func102, Tryz.ntmps102
  go_wp2_with fail
  refine wp_loop_rounds 4 ?_
  rw [rounds_succ]
  go_wp2_with fail
  refine (t_Turns_ok p.As p.cs e.sun _ (HM.out.sun.ext HE0.out) hs0 c0).mono ?_
  rintro r v0 ⟨b0, rfl, hE9⟩
  have HE1 := Lib.hid ((HE0.out.trans hE9).alloc (.cells #[.int .i64 (Ec.turnsN e.sun), .int .i64 (Ec.turnsD e.sun)] 43))
  have HX1 := Lib.hid ((HX0.out.ext hE9).alloc (.cells #[.int .i64 (Ec.turnsN e.sun), .int .i64 (Ec.turnsD e.sun)] 43))
  have HL1 := Lib.hid ((HL0.out.ext hE9).alloc (.cells #[.int .i64 (Ec.turnsN e.sun), .int .i64 (Ec.turnsD e.sun)] 43))
  have x0 := (HX0.out.ext hE9).cell
  have l0 := (HL0.out.ext hE9).cell
  have j0 := lts (HX0.out.ext hE9).lt
  have j1 := lts (HL0.out.ext hE9).lt
  clear hE9
  go_wp2_with fail
  rw [rounds_succ]
  go_wp2_with fail
  refine (t_Turns_ok p.Am p.cm e.moon _ (HM.out.moon.ext HE1.out) hs1 c1).mono ?_
  rintro r v1 ⟨b1, rfl, hE9⟩
  have HE2 := Lib.hid ((HE1.out.trans hE9).alloc (.cells #[.int .i64 (Ec.turnsN e.moon), .int .i64 (Ec.turnsD e.moon)] 43))
  have HX2 := Lib.hid ((HX1.out.ext hE9).alloc (.cells #[.int .i64 (Ec.turnsN e.moon), .int .i64 (Ec.turnsD e.moon)] 43))
  have HL2 := Lib.hid ((HL1.out.ext hE9).alloc (.cells #[.int .i64 (Ec.turnsN e.moon), .int .i64 (Ec.turnsD e.moon)] 43))
  clear x0 l0 j0 j1
  have x0 := (HX1.out.ext hE9).cell
  have l0 := (HL1.out.ext hE9).cell
  have j0 := lts (HX1.out.ext hE9).lt
  have j1 := lts (HL1.out.ext hE9).lt
  clear hE9
  go_wp2_with fail
  rw [rounds_succ]
  go_wp2_with fail
  refine (t_Turns_ok p.An p.cn e.node _ (HM.out.node.ext HE2.out) hs2 c2).mono ?_
  rintro r v2 ⟨b2, rfl, hE9⟩
  have HE3 := Lib.hid ((HE2.out.trans hE9).alloc (.cells #[.int .i64 (Ec.turnsN e.node), .int .i64 (Ec.turnsD e.node)] 43))
  have HX3 := Lib.hid ((HX2.out.ext hE9).alloc (.cells #[.int .i64 (Ec.turnsN e.node), .int .i64 (Ec.turnsD e.node)] 43))
  have HL3 := Lib.hid ((HL2.out.ext hE9).alloc (.cells #[.int .i64 (Ec.turnsN e.node), .int .i64 (Ec.turnsD e.node)] 43))
  clear x0 l0 j0 j1
  have x0 := (HX2.out.ext hE9).cell
  have l0 := (HL2.out.ext hE9).cell
  have j0 := lts (HX2.out.ext hE9).lt
  have j1 := lts (HL2.out.ext hE9).lt
  clear hE9
  go_wp2_with fail
  rw [rounds_succ]
  go_wp2_with fail
  refine (Month_ok e.sky p.Ab p.cb _ (HM.out.bodies.ext HE3.out) hs3 c4 c3).mono ?_
  rintro r w9 ⟨rfl, hE9⟩
  have HE9 := Lib.hid (HE3.out.trans hE9)
  have HX9 := Lib.hid (HX3.out.ext hE9)
  clear x0 l0 j0 j1 hE9
  have x0 := HX9.out.cell
  go_wp2_with fail
  refine (e_rising_any p.Af p.cf e.feasts 1 10000 _ (HM.out.feasts.ext HE9.out) hs4).mono ?_
  rintro r w8 ⟨rfl, rfl⟩
  go_wp2_with fail
  refine (e_isLimit_any e.nw _).mono ?_
  rintro r w8 ⟨rfl, rfl⟩
  go_wp2_with fail
  refine (e_isLimit_any e.fl _).mono ?_
  rintro r w8 ⟨rfl, rfl⟩
  go_wp2_with fail
  go_ret
  exact ⟨ret_bool (by simp [Ec.engineOk, c8]), HE9.out⟩
 cases c9 : Sp.isLimit e.wide
 ·go_enter Tryz.func102, Tryz.ntmps102
  go_wp2_with fail
  refine wp_loop_rounds 4 ?_
  rw [rounds_succ]
  go_wp2_with fail
  refine (t_Turns_ok p.As p.cs e.sun _ (HM.out.sun.ext HE0.out) hs0 c0).mono ?_
  rintro r v0 ⟨b0, rfl, hE9⟩
  have HE1 := Lib.hid ((HE0.out.trans hE9).alloc (.cells #[.int .i64 (Ec.turnsN e.sun), .int .i64 (Ec.turnsD e.sun)] 43))
  have HX1 := Lib.hid ((HX0.out.ext hE9).alloc (.cells #[.int .i64 (Ec.turnsN e.sun), .int .i64 (Ec.turnsD e.sun)] 43))
  have HL1 := Lib.hid ((HL0.out.ext hE9).alloc (.cells #[.int .i64 (Ec.turnsN e.sun), .int .i64 (Ec.turnsD e.sun)] 43))
  have x0 := (HX0.out.ext hE9).cell
  have l0 := (HL0.out.ext hE9).cell
  have j0 := lts (HX0.out.ext hE9).lt
  have j1 := lts (HL0.out.ext hE9).lt
  clear hE9
  go_wp2_with fail
  rw [rounds_succ]
  go_wp2_with fail
  refine (t_Turns_ok p.Am p.cm e.moon _ (HM.out.moon.ext HE1.out) hs1 c1).mono ?_
  rintro r v1 ⟨b1, rfl, hE9⟩
  have HE2 := Lib.hid ((HE1.out.trans hE9).alloc (.cells #[.int .i64 (Ec.turnsN e.moon), .int .i64 (Ec.turnsD e.moon)] 43))
  have HX2 := Lib.hid ((HX1.out.ext hE9).alloc (.cells #[.int .i64 (Ec.turnsN e.moon), .int .i64 (Ec.turnsD e.moon)] 43))
  have HL2 := Lib.hid ((HL1.out.ext hE9).alloc (.cells #[.int .i64 (Ec.turnsN e.moon), .int .i64 (Ec.turnsD e.moon)] 43))
  clear x0 l0 j0 j1
  have x0 := (HX1.out.ext hE9).cell
  have l0 := (HL1.out.ext hE9).cell
  have j0 := lts (HX1.out.ext hE9).lt
  have j1 := lts (HL1.out.ext hE9).lt
  clear hE9
  go_wp2_with fail
  rw [rounds_succ]
  go_wp2_with fail
  refine (t_Turns_ok p.An p.cn e.node _ (HM.out.node.ext HE2.out) hs2 c2).mono ?_
  rintro r v2 ⟨b2, rfl, hE9⟩
  have HE3 := Lib.hid ((HE2.out.trans hE9).alloc (.cells #[.int .i64 (Ec.turnsN e.node), .int .i64 (Ec.turnsD e.node)] 43))
  have HX3 := Lib.hid ((HX2.out.ext hE9).alloc (.cells #[.int .i64 (Ec.turnsN e.node), .int .i64 (Ec.turnsD e.node)] 43))
  have HL3 := Lib.hid ((HL2.out.ext hE9).alloc (.cells #[.int .i64 (Ec.turnsN e.node), .int .i64 (Ec.turnsD e.node)] 43))
  clear x0 l0 j0 j1
  have x0 := (HX2.out.ext hE9).cell
  have l0 := (HL2.out.ext hE9).cell
  have j0 := lts (HX2.out.ext hE9).lt
  have j1 := lts (HL2.out.ext hE9).lt
  clear hE9
  go_wp2_with fail
  rw [rounds_succ]
  go_wp2_with fail
  refine (Month_ok e.sky p.Ab p.cb _ (HM.out.bodies.ext HE3.out) hs3 c4 c3).mono ?_
  rintro r w9 ⟨rfl, hE9⟩
  have HE9 := Lib.hid (HE3.out.trans hE9)
  have HX9 := Lib.hid (HX3.out.ext hE9)
  clear x0 l0 j0 j1 hE9
  have x0 := HX9.out.cell
  go_wp2_with fail
  refine (e_rising_any p.Af p.cf e.feasts 1 10000 _ (HM.out.feasts.ext HE9.out) hs4).mono ?_
  rintro r w8 ⟨rfl, rfl⟩
  go_wp2_with fail
  refine (e_isLimit_any e.nw _).mono ?_
  rintro r w8 ⟨rfl, rfl⟩
  go_wp2_with fail
  refine (e_isLimit_any e.fl _).mono ?_
  rintro r w8 ⟨rfl, rfl⟩
  go_wp2_with fail
  refine (e_isLimit_any e.wide _).mono ?_
  rintro r w8 ⟨rfl, rfl⟩
  go_wp2_with fail
  go_ret
  exact ⟨ret_bool (by simp [Ec.engineOk, c9]), HE9.out⟩
 go_enter Tryz.func102, Tryz.ntmps102
 go_wp2_with fail
 refine wp_loop_rounds 4 ?_
 rw [rounds_succ]
 go_wp2_with fail
 refine (t_Turns_ok p.As p.cs e.sun _ (HM.out.sun.ext HE0.out) hs0 c0).mono ?_
 rintro r v0 ⟨b0, rfl, hE9⟩
 have HE1 := Lib.hid ((HE0.out.trans hE9).alloc (.cells #[.int .i64 (Ec.turnsN e.sun), .int .i64 (Ec.turnsD e.sun)] 43))
 have HX1 := Lib.hid ((HX0.out.ext hE9).alloc (.cells #[.int .i64 (Ec.turnsN e.sun), .int .i64 (Ec.turnsD e.sun)] 43))
 have HL1 := Lib.hid ((HL0.out.ext hE9).alloc (.cells #[.int .i64 (Ec.turnsN e.sun), .int .i64 (Ec.turnsD e.sun)] 43))
 have x0 := (HX0.out.ext hE9).cell
 have l0 := (HL0.out.ext hE9).cell
 have j0 := lts (HX0.out.ext hE9).lt
 have j1 := lts (HL0.out.ext hE9).lt
 clear hE9
 go_wp2_with fail
 rw [rounds_succ]
 go_wp2_with fail
 refine (t_Turns_ok p.Am p.cm e.moon _ (HM.out.moon.ext HE1.out) hs1 c1).mono ?_
 rintro r v1 ⟨b1, rfl, hE9⟩
 have HE2 := Lib.hid ((HE1.out.trans hE9).alloc (.cells #[.int .i64 (Ec.turnsN e.moon), .int .i64 (Ec.turnsD e.moon)] 43))
 have HX2 := Lib.hid ((HX1.out.ext hE9).alloc (.cells #[.int .i64 (Ec.turnsN e.moon), .int .i64 (Ec.turnsD e.moon)] 43))
 have HL2 := Lib.hid ((HL1.out.ext hE9).alloc (.cells #[.int .i64 (Ec.turnsN e.moon), .int .i64 (Ec.turnsD e.moon)] 43))
 clear x0 l0 j0 j1
 have x0 := (HX1.out.ext hE9).cell
 have l0 := (HL1.out.ext hE9).cell
 have j0 := lts (HX1.out.ext hE9).lt
 have j1 := lts (HL1.out.ext hE9).lt
 clear hE9
 go_wp2_with fail
 rw [rounds_succ]
 go_wp2_with fail
 refine (t_Turns_ok p.An p.cn e.node _ (HM.out.node.ext HE2.out) hs2 c2).mono ?_
 rintro r v2 ⟨b2, rfl, hE9⟩
 have HE3 := Lib.hid ((HE2.out.trans hE9).alloc (.cells #[.int .i64 (Ec.turnsN e.node), .int .i64 (Ec.turnsD e.node)] 43))
 have HX3 := Lib.hid ((HX2.out.ext hE9).alloc (.cells #[.int .i64 (Ec.turnsN e.node), .int .i64 (Ec.turnsD e.node)] 43))
 have HL3 := Lib.hid ((HL2.out.ext hE9).alloc (.cells #[.int .i64 (Ec.turnsN e.node), .int .i64 (Ec.turnsD e.node)] 43))
 clear x0 l0 j0 j1
 have x0 := (HX2.out.ext hE9).cell
 have l0 := (HL2.out.ext hE9).cell
 have j0 := lts (HX2.out.ext hE9).lt
 have j1 := lts (HL2.out.ext hE9).lt
 clear hE9
 go_wp2_with fail
 rw [rounds_succ]
 go_wp2_with fail
 refine (Month_ok e.sky p.Ab p.cb _ (HM.out.bodies.ext HE3.out) hs3 c4 c3).mono ?_
 rintro r w9 ⟨rfl, hE9⟩
 have HE9 := Lib.hid (HE3.out.trans hE9)
 have HX9 := Lib.hid (HX3.out.ext hE9)
 clear x0 l0 j0 j1 hE9
 have x0 := HX9.out.cell
 go_wp2_with fail
 refine (e_rising_any p.Af p.cf e.feasts 1 10000 _ (HM.out.feasts.ext HE9.out) hs4).mono ?_
 rintro r w8 ⟨rfl, rfl⟩
 go_wp2_with fail
 refine (e_isLimit_any e.nw _).mono ?_
 rintro r w8 ⟨rfl, rfl⟩
 go_wp2_with fail
 refine (e_isLimit_any e.fl _).mono ?_
 rintro r w8 ⟨rfl, rfl⟩
 go_wp2_with fail
 refine (e_isLimit_any e.wide _).mono ?_
 rintro r w8 ⟨rfl, rfl⟩
 go_wp2_with fail
 go_ret
 exact ⟨ret_bool (by simp [Ec.engineOk, Ec.feastsOk, c0, c1, c2, c3, c4, c5, c6, c7, c8, c9]), HE9.out⟩
end Go.Proofs.YtcbodpnmndbgnaaGreatDoor
namespace Go.Proofs.YtcbodpnmndbgnaaGreatDoor
open Go.RowKit
open Sp (rd)
set_option maxRecDepth 100000
set_option maxHeartbeats 1000000
theorem e_sun_any (p : EP) (e : Ec.Engine) (set : List Int) (M : Nat) (day : Int) (w : World) (hK : Fine e set) (hm : EngSet w p e set) (h1 : 0 ≤ day) (h2 : day ≤ 9030) :
  Calls Tryz.prog 123 #[.agg #[.slice p.Ab e.sky.bodies.length p.cb, .int .i64 e.sky.nnum, .int .i64 e.sky.nden, .int .i64 e.sky.nstart, .slice p.As e.sun.length p.cs, .slice p.Am e.moon.length p.cm, .slice p.An e.node.length p.cn, .slice p.Af e.feasts.length p.cf, .int .i64 e.nw, .int .i64 e.fl, .int .i64 e.wide, .slice p.At set.length p.ct, .map (some M)], .int .i64 day] w fun r w' => r = .returned (.int .i64 (Ec.sunAt e set day)) ∧ Ext w w' := by
 have hn2 := hK.sky.n2
 have hB := hK.sky.body (i := 0) (by omega) (by omega)
 obtain ⟨k1, k2, k3, k4, k5, k6, k7, _, _, _⟩ := hB
 have hT := (engineOk_parts hK.eng).1.1
 have hs := shown_bounds hT (Sp.body e.sky 0).den (Sp.body e.sky 0).num e.feasts set day k1
 obtain ⟨b, o, hb, hBA⟩ := hm.eng.bodies.at_ (i := 0) (by omega) (by omega)
 obtain ⟨hnum, hden, hstart, A, rc, hroad, _⟩ := hBA
 have hlt := lts (lt_of_cell hnum)
 simp only [Int.reduceToNat, Nat.reduceMul, Nat.add_zero] at hnum hden hstart hroad hlt
 have hFIN : Hid (Ec.sunAt e set day = ((Sp.body e.sky 0).start + Ec.shown e.sun (Sp.body e.sky 0).den (Sp.body e.sky 0).num e.feasts set day) % 21600) := Lib.hid rfl
 have HK := Lib.hid hK
 obtain ⟨Ab, cb, As, cs, Am, cm, An, cn, Af, cf, At, ct⟩ := p
 obtain rfl : Ab = some ⟨b, o, none⟩ := hb
 have HM := Lib.hid hm
 clear hK hm
 rw [hFIN.out]
 dsimp only
 generalize (Sp.body e.sky 0).num = num at *
 generalize (Sp.body e.sky 0).den = den at *
 generalize (Sp.body e.sky 0).start = start at *
 obtain ⟨HS, hHS⟩ : ∃ S, Ec.shown e.sun den num e.feasts set day = S := ⟨_, rfl⟩
 have HSH := Lib.hid hHS
 rw [hHS] at hs ⊢
 clear hHS hFIN
 go_enter Tryz.func123, Tryz.ntmps123
 go_wp2_with fail
 refine wp_region_later (by kernel_rfl) (by kernel_rfl) (fun W hW => ?_)
 have q1 := Later.block (w := W) (by rw [hW]; exact (blocks2 _ _ _).1)
 have q2 := Later.block (w := W) (by rw [hW]; exact (blocks2 _ _ _).2)
 have hE0 : Ext w W := by rw [hW]; exact ((Ext.refl _).alloc _).alloc _
 clear hW hnum hden hstart hroad hlt
 have HB := Lib.hid (fun x : Later W => HM.out.ext (hE0.trans x.ext))
 have HCS := Lib.hid (fun x : Later W => by have := e_shown_any ⟨some ⟨b, o, none⟩, cb, As, cs, Am, cm, An, cn, Af, cf, At, ct⟩ e set M As cs e.sun num den day x.world HK.out (HB.out x) (HB.out x).eng.sun hT (by omega) (by omega) (by omega) (by omega) (by omega) (by omega); rw [HSH.out] at this; exact this)
 repeat (go_big_quiet_step ((first | (go_at_call 163; exact Later.call (HCS.out _)) | (go_at_call 131; exact Later.call ((e_around_any _ _ (by omega) (by omega)).mono fun _ _ ⟨h, h'⟩ => ⟨h, h' ▸ Ext.refl _⟩)))))
 refine wpQuiet_nil ?_
 rintro ⟨W1, hE⟩
 go_wp2
 go_ret
 exact ⟨rfl, hE0.trans hE⟩
theorem e_moon_any (p : EP) (e : Ec.Engine) (set : List Int) (M : Nat) (day : Int) (w : World) (hK : Fine e set) (hm : EngSet w p e set) (h1 : 0 ≤ day) (h2 : day ≤ 9030) :
  Calls Tryz.prog 124 #[.agg #[.slice p.Ab e.sky.bodies.length p.cb, .int .i64 e.sky.nnum, .int .i64 e.sky.nden, .int .i64 e.sky.nstart, .slice p.As e.sun.length p.cs, .slice p.Am e.moon.length p.cm, .slice p.An e.node.length p.cn, .slice p.Af e.feasts.length p.cf, .int .i64 e.nw, .int .i64 e.fl, .int .i64 e.wide, .slice p.At set.length p.ct, .map (some M)], .int .i64 day] w fun r w' => r = .returned (.int .i64 (Ec.moonAt e set day)) ∧ Ext w w' := by
 have hn2 := hK.sky.n2
 have hB := hK.sky.body (i := 1) (by omega) (by omega)
 obtain ⟨k1, k2, k3, k4, k5, k6, k7, _, _, _⟩ := hB
 have hT := (engineOk_parts hK.eng).1.2.1
 have hs := shown_bounds hT (Sp.body e.sky 1).den (Sp.body e.sky 1).num e.feasts set day k1
 obtain ⟨b, o, hb, hBA⟩ := hm.eng.bodies.at_ (i := 1) (by omega) (by omega)
 obtain ⟨hnum, hden, hstart, A, rc, hroad, _⟩ := hBA
 have hlt := lts (lt_of_cell hnum)
 simp only [Int.reduceToNat, Nat.reduceMul] at hnum hden hstart hroad hlt
 have hFIN : Hid (Ec.moonAt e set day = ((Sp.body e.sky 1).start + Ec.shown e.moon (Sp.body e.sky 1).den (Sp.body e.sky 1).num e.feasts set day) % 21600) := Lib.hid rfl
 have HK := Lib.hid hK
 obtain ⟨Ab, cb, As, cs, Am, cm, An, cn, Af, cf, At, ct⟩ := p
 obtain rfl : Ab = some ⟨b, o, none⟩ := hb
 have HM := Lib.hid hm
 clear hK hm
 rw [hFIN.out]
 dsimp only
 generalize (Sp.body e.sky 1).num = num at *
 generalize (Sp.body e.sky 1).den = den at *
 generalize (Sp.body e.sky 1).start = start at *
 obtain ⟨HS, hHS⟩ : ∃ S, Ec.shown e.moon den num e.feasts set day = S := ⟨_, rfl⟩
 have HSH := Lib.hid hHS
 rw [hHS] at hs ⊢
 clear hHS hFIN
 go_enter Tryz.func124, Tryz.ntmps124
 go_wp2_with fail
 refine wp_region_later (by kernel_rfl) (by kernel_rfl) (fun W hW => ?_)
 have q1 := Later.block (w := W) (by rw [hW]; exact (blocks2 _ _ _).1)
 have q2 := Later.block (w := W) (by rw [hW]; exact (blocks2 _ _ _).2)
 have hE0 : Ext w W := by rw [hW]; exact ((Ext.refl _).alloc _).alloc _
 clear hW hnum hden hstart hroad hlt
 have HB := Lib.hid (fun x : Later W => HM.out.ext (hE0.trans x.ext))
 have HCS := Lib.hid (fun x : Later W => by have := e_shown_any ⟨some ⟨b, o, none⟩, cb, As, cs, Am, cm, An, cn, Af, cf, At, ct⟩ e set M Am cm e.moon num den day x.world HK.out (HB.out x) (HB.out x).eng.moon hT (by omega) (by omega) (by omega) (by omega) (by omega) (by omega); rw [HSH.out] at this; exact this)
 repeat (go_big_quiet_step ((first | (go_at_call 163; exact Later.call (HCS.out _)) | (go_at_call 131; exact Later.call ((e_around_any _ _ (by omega) (by omega)).mono fun _ _ ⟨h, h'⟩ => ⟨h, h' ▸ Ext.refl _⟩)))))
 refine wpQuiet_nil ?_
 rintro ⟨W1, hE⟩
 go_wp2
 go_ret
 exact ⟨rfl, hE0.trans hE⟩
theorem e_node_any (p : EP) (e : Ec.Engine) (set : List Int) (M : Nat) (day : Int) (w : World) (hK : Fine e set) (hm : EngSet w p e set) (h1 : 0 ≤ day) (h2 : day ≤ 9030) :
  Calls Tryz.prog 125 #[.agg #[.slice p.Ab e.sky.bodies.length p.cb, .int .i64 e.sky.nnum, .int .i64 e.sky.nden, .int .i64 e.sky.nstart, .slice p.As e.sun.length p.cs, .slice p.Am e.moon.length p.cm, .slice p.An e.node.length p.cn, .slice p.Af e.feasts.length p.cf, .int .i64 e.nw, .int .i64 e.fl, .int .i64 e.wide, .slice p.At set.length p.ct, .map (some M)], .int .i64 day] w fun r w' => r = .returned (.int .i64 (Ec.nodeAt e set day)) ∧ Ext w w' := by
 obtain ⟨_, _, k1, k2, k3, k4, _, k5, k6, _⟩ := hK.sky
 have hT := (engineOk_parts hK.eng).1.2.2
 have hs := shown_bounds hT e.sky.nden e.sky.nnum e.feasts set day k1
 have hFIN : Hid (Ec.nodeAt e set day = (e.sky.nstart - Ec.shown e.node e.sky.nden e.sky.nnum e.feasts set day) % 21600) := Lib.hid rfl
 have HK := Lib.hid hK
 have HM := Lib.hid hm
 clear hK hm
 rw [hFIN.out]
 obtain ⟨HS, hHS⟩ : ∃ S, Ec.shown e.node e.sky.nden e.sky.nnum e.feasts set day = S := ⟨_, rfl⟩
 have HSH := Lib.hid hHS
 rw [hHS] at hs ⊢
 clear hHS hFIN
 go_enter Tryz.func125, Tryz.ntmps125
 go_wp2_with fail
 refine wp_region_later (by kernel_rfl) (by kernel_rfl) (fun W hW => ?_)
 have q1 := Later.block (w := W) (by rw [hW]; exact blocks1 _ _)
 have hE0 : Ext w W := by rw [hW]; exact (Ext.refl _).alloc _
 clear hW
 have HB := Lib.hid (fun x : Later W => HM.out.ext (hE0.trans x.ext))
 have HCS := Lib.hid (fun x : Later W => by have := e_shown_any p e set M p.An p.cn e.node e.sky.nnum e.sky.nden day x.world HK.out (HB.out x) (HB.out x).eng.node hT (by omega) (by omega) (by omega) (by omega) (by omega) (by omega); rw [HSH.out] at this; exact this)
 repeat (go_big_quiet_step ((first | (go_at_call 163; exact Later.call (HCS.out _)) | (go_at_call 131; exact Later.call ((e_around_any _ _ (by omega) (by omega)).mono fun _ _ ⟨h, h'⟩ => ⟨h, h' ▸ Ext.refl _⟩)))))
 refine wpQuiet_nil ?_
 rintro ⟨W1, hE⟩
 go_wp2
 go_ret
 exact ⟨rfl, hE0.trans hE⟩
end Go.Proofs.YtcbodpnmndbgnaaGreatDoor
namespace Go.Proofs.YtcbodpnmndbgnaaGreatDoor
open Go.RowKit
open Sp (rd)
set_option maxRecDepth 100000
set_option maxHeartbeats 1000000
/-- The hands on a day, as a value. -/
def handsF (e : Ec.Engine) (set : List Int) (d : Int) : Value := .agg #[.int .i64 (Ec.sunAt e set d), .int .i64 (Ec.moonAt e set d), .int .i64 (Ec.nodeAt e set d)]
abbrev Seen (e : Ec.Engine) (set : List Int) (M : Nat) (w : World) : Prop := Cache Tryz.prog 3 (handsF e set) M w
abbrev Move (e : Ec.Engine) (set : List Int) (M : Nat) (w w' : World) : Prop := Step Tryz.prog 3 (handsF e set) M w w'
theorem und_seen : Tryz.prog.underlying 98 = some (.map 3 39) := Tryz.underlying98
theorem zero_hands (w : World) : (zeroValue 39).run Tryz.prog w = .ok (.agg #[.int .i64 0, .int .i64 0, .int .i64 0]) w := by kernel_rfl
theorem pickF0 (x0 x1 x2 : Value) (w : World) : (Instr.index 155 (.agg #[x0, x1, x2]) (.int .i64 0)).run Tryz.prog w = .ok x0 w := by kernel_rfl
theorem pickF1 (x0 x1 x2 : Value) (w : World) : (Instr.index 155 (.agg #[x0, x1, x2]) (.int .i64 1)).run Tryz.prog w = .ok x1 w := by kernel_rfl
theorem pickF2 (x0 x1 x2 : Value) (w : World) : (Instr.index 155 (.agg #[x0, x1, x2]) (.int .i64 2)).run Tryz.prog w = .ok x2 w := by kernel_rfl
theorem hand_bounds {e : Ec.Engine} {set : List Int} (d : Int) : (0 ≤ Ec.sunAt e set d ∧ Ec.sunAt e set d < 21600) ∧ (0 ≤ Ec.moonAt e set d ∧ Ec.moonAt e set d < 21600) ∧ (0 ≤ Ec.nodeAt e set d ∧ Ec.nodeAt e set d < 21600) :=
  ⟨emod_bounds _ 21600 (by omega), emod_bounds _ 21600 (by omega), emod_bounds _ 21600 (by omega)⟩
theorem e_at_any (p : EP) (e : Ec.Engine) (set : List Int) (M : Nat) (day : Int) (w : World) (hK : Fine e set) (hm : EngSet w p e set) (hc : Seen e set M w) (h1 : 0 ≤ day) (h2 : day ≤ 9030) :
    Calls Tryz.prog 71 #[.agg #[.slice p.Ab e.sky.bodies.length p.cb, .int .i64 e.sky.nnum, .int .i64 e.sky.nden, .int .i64 e.sky.nstart, .slice p.As e.sun.length p.cs, .slice p.Am e.moon.length p.cm, .slice p.An e.node.length p.cn, .slice p.Af e.feasts.length p.cf, .int .i64 e.nw, .int .i64 e.fl, .int .i64 e.wide, .slice p.At set.length p.ct, .map (some M)], .int .i64 day] w fun r w' => r = .returned (.agg #[.int .i64 (Ec.sunAt e set day), .int .i64 (Ec.moonAt e set day), .int .i64 (Ec.nodeAt e set day)]) ∧ Move e set M w w' := by
  have hwf : (Lit.int .i64 day).wf = true := WalkArith.wf_i64 (by omega)
  have hE0 : Ext w ((w.alloc (.cells #[.slice p.Ab e.sky.bodies.length p.cb, .int .i64 e.sky.nnum, .int .i64 e.sky.nden, .int .i64 e.sky.nstart, .slice p.As e.sun.length p.cs, .slice p.Am e.moon.length p.cm, .slice p.An e.node.length p.cn, .slice p.Af e.feasts.length p.cf, .int .i64 e.nw, .int .i64 e.fl, .int .i64 e.wide, .slice p.At set.length p.ct, .map (some M)] 100)).alloc (.cells #[.int .i64 0, .int .i64 0, .int .i64 0] 39)) := ((Ext.refl w).alloc _).alloc _
  have hmf : ∀ (fn : Fn) (first cap : Array Value) (w : World), (Instr.makeFunc fn first cap).run Tryz.prog w = .ok (.func fn first cap) w := fun _ _ _ _ => rfl
  rcases (hc.ext hE0).lookup Tryz.underlying3 und_seen (zero_hands _) hwf with hr | hr
  · have HK := Lib.hid hK
    have HM := Lib.hid hm
    have HC := Lib.hid hc
    have i0 := pickF0
    have i1 := pickF1
    have i2 := pickF2
    clear hK hm hc hE0
    go_enter Tryz.func71, Tryz.ntmps71
    go_wp2_with fail
    have hE4 : Ext w ((((w.alloc (.cells #[.slice p.Ab e.sky.bodies.length p.cb, .int .i64 e.sky.nnum, .int .i64 e.sky.nden, .int .i64 e.sky.nstart, .slice p.As e.sun.length p.cs, .slice p.Am e.moon.length p.cm, .slice p.An e.node.length p.cn, .slice p.Af e.feasts.length p.cf, .int .i64 e.nw, .int .i64 e.fl, .int .i64 e.wide, .slice p.At set.length p.ct, .map (some M)] 100)).alloc (.cells #[.int .i64 0, .int .i64 0, .int .i64 0] 39)).alloc (.cells #[.int .i64 0, .int .i64 0, .int .i64 0] 39)).alloc (.cells #[.int .i64 0, .int .i64 0, .int .i64 0] 154)) := ((((Ext.refl w).alloc _).alloc _).alloc _).alloc _
    have rX : Row ((((w.alloc (.cells #[.slice p.Ab e.sky.bodies.length p.cb, .int .i64 e.sky.nnum, .int .i64 e.sky.nden, .int .i64 e.sky.nstart, .slice p.As e.sun.length p.cs, .slice p.Am e.moon.length p.cm, .slice p.An e.node.length p.cn, .slice p.Af e.feasts.length p.cf, .int .i64 e.nw, .int .i64 e.fl, .int .i64 e.wide, .slice p.At set.length p.ct, .map (some M)] 100)).alloc (.cells #[.int .i64 0, .int .i64 0, .int .i64 0] 39)).alloc (.cells #[.int .i64 0, .int .i64 0, .int .i64 0] 39)).alloc (.cells #[.int .i64 0, .int .i64 0, .int .i64 0] 154)) w.heap.size 100 #[.slice p.Ab e.sky.bodies.length p.cb, .int .i64 e.sky.nnum, .int .i64 e.sky.nden, .int .i64 e.sky.nstart, .slice p.As e.sun.length p.cs, .slice p.Am e.moon.length p.cm, .slice p.An e.node.length p.cn, .slice p.Af e.feasts.length p.cf, .int .i64 e.nw, .int .i64 e.fl, .int .i64 e.wide, .slice p.At set.length p.ct, .map (some M)] := (((Row.new w _ _).alloc _).alloc _).alloc _
    have rR : Row ((((w.alloc (.cells #[.slice p.Ab e.sky.bodies.length p.cb, .int .i64 e.sky.nnum, .int .i64 e.sky.nden, .int .i64 e.sky.nstart, .slice p.As e.sun.length p.cs, .slice p.Am e.moon.length p.cm, .slice p.An e.node.length p.cn, .slice p.Af e.feasts.length p.cf, .int .i64 e.nw, .int .i64 e.fl, .int .i64 e.wide, .slice p.At set.length p.ct, .map (some M)] 100)).alloc (.cells #[.int .i64 0, .int .i64 0, .int .i64 0] 39)).alloc (.cells #[.int .i64 0, .int .i64 0, .int .i64 0] 39)).alloc (.cells #[.int .i64 0, .int .i64 0, .int .i64 0] 154)) (w.heap.size + 1) 39 #[.int .i64 0, .int .i64 0, .int .i64 0] := by
      have := ((Row.new (w.alloc (.cells #[.slice p.Ab e.sky.bodies.length p.cb, .int .i64 e.sky.nnum, .int .i64 e.sky.nden, .int .i64 e.sky.nstart, .slice p.As e.sun.length p.cs, .slice p.Am e.moon.length p.cm, .slice p.An e.node.length p.cn, .slice p.Af e.feasts.length p.cf, .int .i64 e.nw, .int .i64 e.fl, .int .i64 e.wide, .slice p.At set.length p.ct, .map (some M)] 100)) 39 #[.int .i64 0, .int .i64 0, .int .i64 0]).alloc (.cells #[.int .i64 0, .int .i64 0, .int .i64 0] 39)).alloc (.cells #[.int .i64 0, .int .i64 0, .int .i64 0] 154)
      simpa using this
    have rA : Row ((((w.alloc (.cells #[.slice p.Ab e.sky.bodies.length p.cb, .int .i64 e.sky.nnum, .int .i64 e.sky.nden, .int .i64 e.sky.nstart, .slice p.As e.sun.length p.cs, .slice p.Am e.moon.length p.cm, .slice p.An e.node.length p.cn, .slice p.Af e.feasts.length p.cf, .int .i64 e.nw, .int .i64 e.fl, .int .i64 e.wide, .slice p.At set.length p.ct, .map (some M)] 100)).alloc (.cells #[.int .i64 0, .int .i64 0, .int .i64 0] 39)).alloc (.cells #[.int .i64 0, .int .i64 0, .int .i64 0] 39)).alloc (.cells #[.int .i64 0, .int .i64 0, .int .i64 0] 154)) (w.heap.size + 1 + 1 + 1) 154 #[.int .i64 0, .int .i64 0, .int .i64 0] := by
      have := Row.new (((w.alloc (.cells #[.slice p.Ab e.sky.bodies.length p.cb, .int .i64 e.sky.nnum, .int .i64 e.sky.nden, .int .i64 e.sky.nstart, .slice p.As e.sun.length p.cs, .slice p.Am e.moon.length p.cm, .slice p.An e.node.length p.cn, .slice p.Af e.feasts.length p.cf, .int .i64 e.nw, .int .i64 e.fl, .int .i64 e.wide, .slice p.At set.length p.ct, .map (some M)] 100)).alloc (.cells #[.int .i64 0, .int .i64 0, .int .i64 0] 39)).alloc (.cells #[.int .i64 0, .int .i64 0, .int .i64 0] 39)) 154 #[.int .i64 0, .int .i64 0, .int .i64 0]
      simpa using this
    have HE4 := Lib.hid hE4
    have HX := Lib.hid rX
    have HR := Lib.hid rR
    have HA := Lib.hid rA
    clear hE4 rX rR rA hr
    refine wp_loop_rounds 4 ?_
    rw [rounds_succ]
    go_wp2_with fail
    refine (e_sun_any p e set M day _ HK.out (HM.out.ext HE4.out) h1 h2).mono ?_
    rintro r w1 ⟨rfl, hE⟩
    have HX1 := Lib.hid (HX.out.ext hE)
    have HR1 := Lib.hid (HR.out.ext hE)
    have HA1 := Lib.hid (HA.out.ext hE)
    have HE1 := Lib.hid (HE4.out.trans hE)
    have a0 := HA1.out.cell
    have f0 := HA1.out.free
    clear hE
    go_wp2_with fail
    rw [rounds_succ]
    go_wp2_with fail
    refine (e_moon_any p e set M day _ HK.out (HM.out.ext (HE1.out.setCell (p := ⟨w.heap.size + 1 + 1 + 1, 0, none⟩) (by simp <;> omega) _)) h1 h2).mono ?_
    rintro r w2 ⟨rfl, hE⟩
    have HX2 := Lib.hid ((HX1.out.far (p := ⟨w.heap.size + 1 + 1 + 1, 0, none⟩) (by simp <;> omega) _).ext hE)
    have HR2 := Lib.hid ((HR1.out.far (p := ⟨w.heap.size + 1 + 1 + 1, 0, none⟩) (by simp <;> omega) _).ext hE)
    have HA2 : Hid (Row w2 (w.heap.size + 1 + 1 + 1) 154 #[.int .i64 (Ec.sunAt e set day), .int .i64 0, .int .i64 0]) := Lib.hid ((HA1.out.set_ 0 _).ext hE)
    have HE2 := Lib.hid ((HE1.out.setCell (p := ⟨w.heap.size + 1 + 1 + 1, 0, none⟩) (by simp <;> omega) _).trans hE)
    clear hE a0 f0
    have a0 := HA2.out.cell
    have f0 := HA2.out.free
    go_wp2_with fail
    rw [rounds_succ]
    go_wp2_with fail
    refine (e_node_any p e set M day _ HK.out (HM.out.ext (HE2.out.setCell (p := ⟨w.heap.size + 1 + 1 + 1, 1, none⟩) (by simp <;> omega) _)) h1 h2).mono ?_
    rintro r w3 ⟨rfl, hE⟩
    have HX3 := Lib.hid ((HX2.out.far (p := ⟨w.heap.size + 1 + 1 + 1, 1, none⟩) (by simp <;> omega) _).ext hE)
    have HR3 := Lib.hid ((HR2.out.far (p := ⟨w.heap.size + 1 + 1 + 1, 1, none⟩) (by simp <;> omega) _).ext hE)
    have HA3 : Hid (Row w3 (w.heap.size + 1 + 1 + 1) 154 #[.int .i64 (Ec.sunAt e set day), .int .i64 (Ec.moonAt e set day), .int .i64 0]) := Lib.hid ((HA2.out.set_ 1 _).ext hE)
    have HE3 := Lib.hid ((HE2.out.setCell (p := ⟨w.heap.size + 1 + 1 + 1, 1, none⟩) (by simp <;> omega) _).trans hE)
    clear hE a0 f0
    have a0 := HA3.out.cell
    have f0 := HA3.out.free
    have HX4 := Lib.hid (HX3.out.far (p := ⟨w.heap.size + 1 + 1 + 1, 2, none⟩) (by simp <;> omega) (.int .i64 (Ec.nodeAt e set day)))
    have HR4 := Lib.hid (HR3.out.far (p := ⟨w.heap.size + 1 + 1 + 1, 2, none⟩) (by simp <;> omega) (.int .i64 (Ec.nodeAt e set day)))
    have HE5 := Lib.hid (HE3.out.setCell (p := ⟨w.heap.size + 1 + 1 + 1, 2, none⟩) (by simp <;> omega) (.int .i64 (Ec.nodeAt e set day)))
    have x3 := HX3.out.cell
    have j0 := lts HX3.out.lt
    have j1 := lts HR3.out.lt
    have HH : Hid (Row ((w3.setCell ⟨w.heap.size + 1 + 1 + 1, 2, none⟩ (.int .i64 (Ec.nodeAt e set day))).alloc (.cells #[.int .i64 (Ec.sunAt e set day), .int .i64 (Ec.moonAt e set day), .int .i64 (Ec.nodeAt e set day)] 39)) w3.heap.size 39 #[.int .i64 (Ec.sunAt e set day), .int .i64 (Ec.moonAt e set day), .int .i64 (Ec.nodeAt e set day)]) := Lib.hid (by
      have := Row.new (w3.setCell ⟨w.heap.size + 1 + 1 + 1, 2, none⟩ (.int .i64 (Ec.nodeAt e set day))) 39 #[.int .i64 (Ec.sunAt e set day), .int .i64 (Ec.moonAt e set day), .int .i64 (Ec.nodeAt e set day)]
      simpa using this)
    have HR5 := Lib.hid (HR4.out.alloc (.cells #[.int .i64 (Ec.sunAt e set day), .int .i64 (Ec.moonAt e set day), .int .i64 (Ec.nodeAt e set day)] 39))
    have HE6 := Lib.hid (HE5.out.alloc (.cells #[.int .i64 (Ec.sunAt e set day), .int .i64 (Ec.moonAt e set day), .int .i64 (Ec.nodeAt e set day)] 39))
    go_wp2_with fail
    rw [rounds_succ]
    go_wp2_with (at_mapUpdate; refine wpList_store_cache _ rfl _ _ _ _ rfl _ Tryz.underlying3 und_seen rfl (HC.out.ext HE6.out) day rfl rfl hwf h1 (by omega) ?_; intro w5 hc5 hg5; have HS5 : Hid (Step _ _ _ _ _ w5) := Lib.hid ⟨hg5, hc5⟩; have HH5 := Lib.hid (HS5.out.row (HC.out.ext HE6.out) HH.out); have HR6 := Lib.hid (HS5.out.row (HC.out.ext HE6.out) HR5.out); have hh := HH5.out.cell; have rr := HR6.out.cell; have rf := HR6.out.free; clear hg5 hc5 x3 a0 f0)
    have HF := Lib.hid ((((Step.of_ext HC.out HE6.out).trans HS5.out).setCell HC.out (p := ⟨w.heap.size + 1, 0, none⟩) (Nat.le_succ _) (.int .i64 (Ec.sunAt e set day))).setCell HC.out (p := ⟨w.heap.size + 1, 1, none⟩) (Nat.le_succ _) (.int .i64 (Ec.moonAt e set day)))
    exact bodyPost_ret (v := .agg #[.int .i64 (Ec.sunAt e set day), .int .i64 (Ec.moonAt e set day), .int .i64 (Ec.nodeAt e set day)]) (by simp [results, Tryz.results71, go_sem, rr]) rfl ⟨rfl, HF.out.setCell HC.out (p := ⟨w.heap.size + 1, 2, none⟩) (Nat.le_succ _) _⟩
  · have HC := Lib.hid hc
    clear hm hE0
    simp only [handsF] at hr
    go_enter Tryz.func71, Tryz.ntmps71
    go_wp2_with fail
    exact bodyPost_ret (v := .agg #[.int .i64 (Ec.sunAt e set day), .int .i64 (Ec.moonAt e set day), .int .i64 (Ec.nodeAt e set day)]) (by simp [results, Tryz.results71, go_sem]) rfl ⟨rfl, Step.of_ext HC.out ((((Ext.refl w).alloc _).alloc _).alloc _)⟩
theorem e_lead_any (p : EP) (e : Ec.Engine) (set : List Int) (M : Nat) (day : Int) (w : World) (hK : Fine e set) (hm : EngSet w p e set) (hc : Seen e set M w) (h1 : 0 ≤ day) (h2 : day ≤ 9030) :
    Calls Tryz.prog 137 #[.agg #[.slice p.Ab e.sky.bodies.length p.cb, .int .i64 e.sky.nnum, .int .i64 e.sky.nden, .int .i64 e.sky.nstart, .slice p.As e.sun.length p.cs, .slice p.Am e.moon.length p.cm, .slice p.An e.node.length p.cn, .slice p.Af e.feasts.length p.cf, .int .i64 e.nw, .int .i64 e.fl, .int .i64 e.wide, .slice p.At set.length p.ct, .map (some M)], .int .i64 day] w fun r w' => r = .returned (.int .i64 (Ec.leadAt e set day)) ∧ Move e set M w w' := by
  obtain ⟨⟨a1, a2⟩, ⟨b1, b2⟩, _⟩ := hand_bounds (e := e) (set := set) day
  have hE0 := (Ext.refl w).alloc (.cells #[.slice p.Ab e.sky.bodies.length p.cb, .int .i64 e.sky.nnum, .int .i64 e.sky.nden, .int .i64 e.sky.nstart, .slice p.As e.sun.length p.cs, .slice p.Am e.moon.length p.cm, .slice p.An e.node.length p.cn, .slice p.Af e.feasts.length p.cf, .int .i64 e.nw, .int .i64 e.fl, .int .i64 e.wide, .slice p.At set.length p.ct, .map (some M)] 100)
  have HK := Lib.hid hK
  have HM := Lib.hid (hm.ext hE0)
  have HC := Lib.hid (hc.ext hE0)
  have HS0 := Lib.hid (Step.of_ext hc hE0)
  clear hK hm hc hE0
  go_enter Tryz.func137, Tryz.ntmps137
  go_wp2_with fail
  refine (e_at_any p e set M day _ HK.out HM.out HC.out h1 h2).mono ?_
  rintro r w1 ⟨rfl, hS⟩
  have HS := Lib.hid (HS0.out.trans hS)
  clear hS
  go_wp2_with fail
  refine (e_around_any _ _ (by omega) (by omega)).mono ?_
  rintro r w2 ⟨rfl, rfl⟩
  go_wp2_with fail
  go_ret
  exact ⟨rfl, HS.out.ext ((Ext.refl _).alloc _)⟩
theorem e_far_any (p : EP) (e : Ec.Engine) (set : List Int) (M : Nat) (day : Int) (w : World) (hK : Fine e set) (hm : EngSet w p e set) (hc : Seen e set M w) (h1 : 0 ≤ day) (h2 : day ≤ 9030) :
    Calls Tryz.prog 89 #[.agg #[.slice p.Ab e.sky.bodies.length p.cb, .int .i64 e.sky.nnum, .int .i64 e.sky.nden, .int .i64 e.sky.nstart, .slice p.As e.sun.length p.cs, .slice p.Am e.moon.length p.cm, .slice p.An e.node.length p.cn, .slice p.Af e.feasts.length p.cf, .int .i64 e.nw, .int .i64 e.fl, .int .i64 e.wide, .slice p.At set.length p.ct, .map (some M)], .int .i64 day] w fun r w' => r = .returned (.int .i64 (Ec.farAt e set day)) ∧ Move e set M w w' := by
  obtain ⟨_, ⟨b1, b2⟩, c1, c2⟩ := hand_bounds (e := e) (set := set) day
  have hE0 := (Ext.refl w).alloc (.cells #[.slice p.Ab e.sky.bodies.length p.cb, .int .i64 e.sky.nnum, .int .i64 e.sky.nden, .int .i64 e.sky.nstart, .slice p.As e.sun.length p.cs, .slice p.Am e.moon.length p.cm, .slice p.An e.node.length p.cn, .slice p.Af e.feasts.length p.cf, .int .i64 e.nw, .int .i64 e.fl, .int .i64 e.wide, .slice p.At set.length p.ct, .map (some M)] 100)
  have HK := Lib.hid hK
  have HM := Lib.hid (hm.ext hE0)
  have HC := Lib.hid (hc.ext hE0)
  have HS0 := Lib.hid (Step.of_ext hc hE0)
  have m1 := emod_bounds (Ec.moonAt e set day - Ec.nodeAt e set day) 21600 (by omega)
  have m2 := emod_bounds ((Ec.moonAt e set day - Ec.nodeAt e set day) % 21600) 10800 (by omega)
  clear hK hm hc hE0
  go_enter Tryz.func89, Tryz.ntmps89
  go_wp2_with fail
  refine (e_at_any p e set M day _ HK.out HM.out HC.out h1 h2).mono ?_
  rintro r w1 ⟨rfl, hS⟩
  have HS := Lib.hid (HS0.out.trans hS)
  clear hS
  go_wp2_with fail
  refine (e_around_any _ _ (by omega) (by omega)).mono ?_
  rintro r w2 ⟨rfl, rfl⟩
  go_wp2_with fail
  all_goals
    go_ret
    exact ⟨ret_int (by unfold Ec.farAt; dsimp only; omega), HS.out.ext ((Ext.refl _).alloc _)⟩
theorem far_bounds (e : Ec.Engine) (set : List Int) (d : Int) : 0 ≤ Ec.farAt e set d ∧ Ec.farAt e set d ≤ 5400 := by
  have m2 := emod_bounds ((Ec.moonAt e set d - Ec.nodeAt e set d) % 21600) 10800 (by omega)
  unfold Ec.farAt
  dsimp only
  omega
theorem lead_bounds (e : Ec.Engine) (set : List Int) (d : Int) : 0 ≤ Ec.leadAt e set d ∧ Ec.leadAt e set d < 21600 := emod_bounds _ 21600 (by omega)
theorem near_bounds (n : Int) : -10800 ≤ Ec.near n ∧ Ec.near n < 10800 := by
  unfold Ec.near
  omega
theorem ta_e_new (w : World) : (Instr.typeAssert (.iface 161 (.agg #[])) 116 162 true).run Tryz.prog w = .ok (.tuple #[.agg #[], .bool false]) w := by kernel_rfl
theorem ta_e_full (w : World) : (Instr.typeAssert (.iface 162 (.agg #[])) 116 162 true).run Tryz.prog w = .ok (.tuple #[.agg #[], .bool true]) w := by kernel_rfl
theorem e_new_full (w : World) : Calls Tryz.prog 257 #[.agg #[]] w fun e w' => e = .returned (.bool false) ∧ Ext w w' := by
  go_enter Tryz.func257, Tryz.ntmps257
  go_wp2_with fail
  go_ret
  exact ⟨rfl, (Ext.refl _).alloc _⟩
theorem e_full_full (w : World) : Calls Tryz.prog 258 #[.agg #[]] w fun e w' => e = .returned (.bool true) ∧ Ext w w' := by
  go_enter Tryz.func258, Tryz.ntmps258
  go_wp2_with fail
  go_ret
  exact ⟨rfl, (Ext.refl _).alloc _⟩
theorem e_has_false (p : EP) (e : Ec.Engine) (set : List Int) (M : Nat) (day : Int) (w : World) (hK : Fine e set) (hm : EngSet w p e set) (hc : Seen e set M w) (h1 : 1 ≤ day) (h2 : day ≤ 9030) :
    Calls Tryz.prog 88 #[.agg #[.slice p.Ab e.sky.bodies.length p.cb, .int .i64 e.sky.nnum, .int .i64 e.sky.nden, .int .i64 e.sky.nstart, .slice p.As e.sun.length p.cs, .slice p.Am e.moon.length p.cm, .slice p.An e.node.length p.cn, .slice p.Af e.feasts.length p.cf, .int .i64 e.nw, .int .i64 e.fl, .int .i64 e.wide, .slice p.At set.length p.ct, .map (some M)], .iface 161 (.agg #[]), .int .i64 day] w fun r w' => r = .returned (.bool (Ec.hasB e set day false)) ∧ Move e set M w w' := by
  obtain ⟨a1, a2⟩ := lead_bounds e set (day - 1)
  obtain ⟨b1, b2⟩ := lead_bounds e set day
  have hE0 := (Ext.refl w).alloc (.cells #[.slice p.Ab e.sky.bodies.length p.cb, .int .i64 e.sky.nnum, .int .i64 e.sky.nden, .int .i64 e.sky.nstart, .slice p.As e.sun.length p.cs, .slice p.Am e.moon.length p.cm, .slice p.An e.node.length p.cn, .slice p.Af e.feasts.length p.cf, .int .i64 e.nw, .int .i64 e.fl, .int .i64 e.wide, .slice p.At set.length p.ct, .map (some M)] 100)
  have HFIN : Hid (Ec.hasB e set day false = Ec.crossB (Ec.leadAt e set (day - 1)) (Ec.leadAt e set day) false) := Lib.hid rfl
  have HK := Lib.hid hK
  have HM := Lib.hid (hm.ext hE0)
  have HC := Lib.hid (hc.ext hE0)
  have HS0 := Lib.hid (Step.of_ext hc hE0)
  have HR0 := Lib.hid (Row.new w 100 #[.slice p.Ab e.sky.bodies.length p.cb, .int .i64 e.sky.nnum, .int .i64 e.sky.nden, .int .i64 e.sky.nstart, .slice p.As e.sun.length p.cs, .slice p.Am e.moon.length p.cm, .slice p.An e.node.length p.cn, .slice p.Af e.feasts.length p.cf, .int .i64 e.nw, .int .i64 e.fl, .int .i64 e.wide, .slice p.At set.length p.ct, .map (some M)])
  have tT := ta_e_new
  clear hK hm hc hE0
  obtain ⟨L0, hL0⟩ : ∃ L0, Ec.leadAt e set (day - 1) = L0 := ⟨_, rfl⟩
  obtain ⟨L1, hL1⟩ : ∃ L1, Ec.leadAt e set day = L1 := ⟨_, rfl⟩
  rw [hL0] at a1 a2 HFIN
  rw [hL1] at b1 b2 HFIN
  have H0 := Lib.hid hL0
  have H1 := Lib.hid hL1
  clear hL0 hL1
  obtain ⟨G, hG⟩ : ∃ G, Ec.near (L1 - L0) = G := ⟨_, rfl⟩
  have HG := Lib.hid hG
  have n := near_bounds (L1 - L0)
  have HX : Hid (Ec.crossB L0 L1 false = (decide (0 < G) && decide (21600 ≤ L0 + G))) := Lib.hid (by
    unfold Ec.crossB
    rw [hG]
    simp only [Sp.halfOf, Bool.false_eq_true, if_false, Int.sub_zero, Int.emod_eq_of_lt a1 a2])
  rw [hG] at n
  obtain ⟨n1, n2⟩ := n
  clear hG
  skip
  by_cases hg : 0 < G
  all_goals
    have HGD := Lib.hid hg
    go_enter Tryz.func88, Tryz.ntmps88
    go_wp2_with fail
    refine (e_lead_any p e set M (day - 1) _ HK.out HM.out HC.out (by omega) (by omega)).mono ?_
    rintro r w1 ⟨rfl, hS⟩
    rw [H0.out]
    have HM1 := Lib.hid (HM.out.stay (hS.stays HC.out))
    have HC1 := Lib.hid hS.cache
    have HS1 := Lib.hid (HS0.out.trans hS)
    have hr := hS.row HC.out HR0.out
    have b0 := hr.cell
    clear hS
    go_wp2_with fail
    refine (e_lead_any p e set M day _ HK.out HM1.out HC1.out (by omega) (by omega)).mono ?_
    rintro r w2 ⟨rfl, hS⟩
    rw [H1.out]
    have HS2 := Lib.hid (HS1.out.trans hS)
    clear hS b0 hr
    go_wp2_with fail
    refine (e_signed_any _ _ (by omega) (by omega)).mono ?_
    rintro r w3 ⟨rfl, rfl⟩
    rw [HG.out]
    go_wp2_with fail
    go_ret
    exact ⟨ret_bool (by rw [HFIN.out, HX.out]; have h9 := HGD.out; first | (simp [h9]; done) | (simp; omega)), HS2.out⟩
theorem e_has_true (p : EP) (e : Ec.Engine) (set : List Int) (M : Nat) (day : Int) (w : World) (hK : Fine e set) (hm : EngSet w p e set) (hc : Seen e set M w) (h1 : 1 ≤ day) (h2 : day ≤ 9030) :
    Calls Tryz.prog 88 #[.agg #[.slice p.Ab e.sky.bodies.length p.cb, .int .i64 e.sky.nnum, .int .i64 e.sky.nden, .int .i64 e.sky.nstart, .slice p.As e.sun.length p.cs, .slice p.Am e.moon.length p.cm, .slice p.An e.node.length p.cn, .slice p.Af e.feasts.length p.cf, .int .i64 e.nw, .int .i64 e.fl, .int .i64 e.wide, .slice p.At set.length p.ct, .map (some M)], .iface 162 (.agg #[]), .int .i64 day] w fun r w' => r = .returned (.bool (Ec.hasB e set day true)) ∧ Move e set M w w' := by
  obtain ⟨a1, a2⟩ := lead_bounds e set (day - 1)
  obtain ⟨b1, b2⟩ := lead_bounds e set day
  have hE0 := (Ext.refl w).alloc (.cells #[.slice p.Ab e.sky.bodies.length p.cb, .int .i64 e.sky.nnum, .int .i64 e.sky.nden, .int .i64 e.sky.nstart, .slice p.As e.sun.length p.cs, .slice p.Am e.moon.length p.cm, .slice p.An e.node.length p.cn, .slice p.Af e.feasts.length p.cf, .int .i64 e.nw, .int .i64 e.fl, .int .i64 e.wide, .slice p.At set.length p.ct, .map (some M)] 100)
  have HFIN : Hid (Ec.hasB e set day true = Ec.crossB (Ec.leadAt e set (day - 1)) (Ec.leadAt e set day) true) := Lib.hid rfl
  have HK := Lib.hid hK
  have HM := Lib.hid (hm.ext hE0)
  have HC := Lib.hid (hc.ext hE0)
  have HS0 := Lib.hid (Step.of_ext hc hE0)
  have HR0 := Lib.hid (Row.new w 100 #[.slice p.Ab e.sky.bodies.length p.cb, .int .i64 e.sky.nnum, .int .i64 e.sky.nden, .int .i64 e.sky.nstart, .slice p.As e.sun.length p.cs, .slice p.Am e.moon.length p.cm, .slice p.An e.node.length p.cn, .slice p.Af e.feasts.length p.cf, .int .i64 e.nw, .int .i64 e.fl, .int .i64 e.wide, .slice p.At set.length p.ct, .map (some M)])
  have tT := ta_e_full
  clear hK hm hc hE0
  obtain ⟨L0, hL0⟩ : ∃ L0, Ec.leadAt e set (day - 1) = L0 := ⟨_, rfl⟩
  obtain ⟨L1, hL1⟩ : ∃ L1, Ec.leadAt e set day = L1 := ⟨_, rfl⟩
  rw [hL0] at a1 a2 HFIN
  rw [hL1] at b1 b2 HFIN
  have H0 := Lib.hid hL0
  have H1 := Lib.hid hL1
  clear hL0 hL1
  obtain ⟨G, hG⟩ : ∃ G, Ec.near (L1 - L0) = G := ⟨_, rfl⟩
  have HG := Lib.hid hG
  have n := near_bounds (L1 - L0)
  have HX : Hid (Ec.crossB L0 L1 true = (decide (0 < G) && decide (21600 ≤ (L0 - 10800) % 21600 + G))) := Lib.hid (by
    unfold Ec.crossB
    rw [hG]
    simp only [Sp.halfOf, if_true])
  rw [hG] at n
  obtain ⟨n1, n2⟩ := n
  clear hG
  have m1 := emod_bounds (L0 - 10800) 21600 (by omega)
  by_cases hg : 0 < G
  all_goals
    have HGD := Lib.hid hg
    go_enter Tryz.func88, Tryz.ntmps88
    go_wp2_with fail
    refine (e_lead_any p e set M (day - 1) _ HK.out HM.out HC.out (by omega) (by omega)).mono ?_
    rintro r w1 ⟨rfl, hS⟩
    rw [H0.out]
    have HM1 := Lib.hid (HM.out.stay (hS.stays HC.out))
    have HC1 := Lib.hid hS.cache
    have HS1 := Lib.hid (HS0.out.trans hS)
    have hr := hS.row HC.out HR0.out
    have b0 := hr.cell
    clear hS
    go_wp2_with fail
    refine (e_lead_any p e set M day _ HK.out HM1.out HC1.out (by omega) (by omega)).mono ?_
    rintro r w2 ⟨rfl, hS⟩
    rw [H1.out]
    have HS2 := Lib.hid (HS1.out.trans hS)
    clear hS b0 hr
    go_wp2_with fail
    refine (e_signed_any _ _ (by omega) (by omega)).mono ?_
    rintro r w3 ⟨rfl, rfl⟩
    rw [HG.out]
    go_wp2_with fail
    refine (e_around_any _ _ (by omega) (by omega)).mono ?_
    rintro r w3 ⟨rfl, rfl⟩
    go_wp2_with fail
    go_ret
    exact ⟨ret_bool (by rw [HFIN.out, HX.out]; have h9 := HGD.out; first | (simp [h9]; done) | (simp; omega)), HS2.out⟩
theorem e_limit_false (p : EP) (e : Ec.Engine) (set : List Int) (M : Nat) (w : World) :
    Calls Tryz.prog 90 #[.agg #[.slice p.Ab e.sky.bodies.length p.cb, .int .i64 e.sky.nnum, .int .i64 e.sky.nden, .int .i64 e.sky.nstart, .slice p.As e.sun.length p.cs, .slice p.Am e.moon.length p.cm, .slice p.An e.node.length p.cn, .slice p.Af e.feasts.length p.cf, .int .i64 e.nw, .int .i64 e.fl, .int .i64 e.wide, .slice p.At set.length p.ct, .map (some M)], .iface 161 (.agg #[])] w fun r w' => r = .returned (.int .i64 (Ec.limitOf e false)) ∧ Ext w w' := by
  have hn : ∀ w, (nilAhead 372 161 (.agg #[]) "tellurion/eclipse.full").run Tryz.prog w = .ok (some false) w := fun _ => by kernel_rfl
  have hn' : ∀ w, (method 372 161 (.agg #[]) "tellurion/eclipse.full").run Tryz.prog w = .ok (257, .agg #[]) w := fun _ => by kernel_rfl
  go_enter Tryz.func90, Tryz.ntmps90
  go_wp2_with fail
  refine (e_new_full _).mono ?_
  rintro r w1 ⟨rfl, hE⟩
  have hb := ((Row.new w 100 #[.slice p.Ab e.sky.bodies.length p.cb, .int .i64 e.sky.nnum, .int .i64 e.sky.nden, .int .i64 e.sky.nstart, .slice p.As e.sun.length p.cs, .slice p.Am e.moon.length p.cm, .slice p.An e.node.length p.cn, .slice p.Af e.feasts.length p.cf, .int .i64 e.nw, .int .i64 e.fl, .int .i64 e.wide, .slice p.At set.length p.ct, .map (some M)]).ext hE).cell
  replace hE := ((Ext.refl w).alloc _).trans hE
  go_wp2_with fail
  go_ret
  exact ⟨rfl, hE⟩
theorem e_limit_true (p : EP) (e : Ec.Engine) (set : List Int) (M : Nat) (w : World) :
    Calls Tryz.prog 90 #[.agg #[.slice p.Ab e.sky.bodies.length p.cb, .int .i64 e.sky.nnum, .int .i64 e.sky.nden, .int .i64 e.sky.nstart, .slice p.As e.sun.length p.cs, .slice p.Am e.moon.length p.cm, .slice p.An e.node.length p.cn, .slice p.Af e.feasts.length p.cf, .int .i64 e.nw, .int .i64 e.fl, .int .i64 e.wide, .slice p.At set.length p.ct, .map (some M)], .iface 162 (.agg #[])] w fun r w' => r = .returned (.int .i64 (Ec.limitOf e true)) ∧ Ext w w' := by
  have hn : ∀ w, (nilAhead 372 162 (.agg #[]) "tellurion/eclipse.full").run Tryz.prog w = .ok (some false) w := fun _ => by kernel_rfl
  have hn' : ∀ w, (method 372 162 (.agg #[]) "tellurion/eclipse.full").run Tryz.prog w = .ok (258, .agg #[]) w := fun _ => by kernel_rfl
  go_enter Tryz.func90, Tryz.ntmps90
  go_wp2_with fail
  refine (e_full_full _).mono ?_
  rintro r w1 ⟨rfl, hE⟩
  have hb := ((Row.new w 100 #[.slice p.Ab e.sky.bodies.length p.cb, .int .i64 e.sky.nnum, .int .i64 e.sky.nden, .int .i64 e.sky.nstart, .slice p.As e.sun.length p.cs, .slice p.Am e.moon.length p.cm, .slice p.An e.node.length p.cn, .slice p.Af e.feasts.length p.cf, .int .i64 e.nw, .int .i64 e.fl, .int .i64 e.wide, .slice p.At set.length p.ct, .map (some M)]).ext hE).cell
  replace hE := ((Ext.refl w).alloc _).trans hE
  go_wp2_with fail
  go_ret
  exact ⟨rfl, hE⟩
end Go.Proofs.YtcbodpnmndbgnaaGreatDoor
namespace Go.Proofs.YtcbodpnmndbgnaaGreatDoor
open Go.RowKit
/-- Values stored one behind the other into a block. -/
def setsAt (W : World) (g : Nat) : Nat → List Value → World
  | _, [] => W
  | i, v :: vs => setsAt (W.setCell ⟨g, i, none⟩ v) g (i + 1) vs
theorem Row.sets_ {g : Nat} {t : TypeId} : ∀ (vs pre rest : List Value) (W : World), Row W g t (pre ++ rest).toArray → rest.length = vs.length → Row (setsAt W g pre.length vs) g t (pre ++ vs).toArray
  | [], pre, rest, W, h, hl => by
    obtain rfl : rest = [] := List.eq_nil_of_length_eq_zero (by simpa using hl)
    exact h
  | _ :: _, _, [], _, _, hl => by simp at hl
  | v :: vs, pre, x :: rest, W, h, hl => by
    have h1 := h.set_ pre.length v
    have h2 : ((pre ++ x :: rest).toArray.setIfInBounds pre.length v) = ((pre ++ [v]) ++ rest).toArray := by simp
    rw [h2] at h1
    have := Row.sets_ vs (pre ++ [v]) rest _ h1 (by simpa using hl)
    simp only [List.length_append, List.length_cons, List.length_nil, List.append_assoc, List.cons_append, List.nil_append] at this
    exact this
theorem Row.sets {g : Nat} {t : TypeId} {W : World} {cs : List Value} (h : Row W g t cs.toArray) (vs : List Value) (hl : cs.length = vs.length) : Row (setsAt W g 0 vs) g t vs.toArray := Row.sets_ vs [] cs W h hl
theorem Ext.sets {w : World} {g : Nat} (hg : w.heap.size ≤ g) : ∀ (vs : List Value) (i : Nat) (W : World), Ext w W → Ext w (setsAt W g i vs)
  | [], _, _, h => h
  | v :: vs, i, _, h => Ext.sets hg vs (i + 1) _ (h.setCell (p := ⟨g, i, none⟩) hg v)
theorem Cache.sets {P : Program} {kt : TypeId} {f : Int → Value} {M g : Nat} (hg : g ≠ M) : ∀ (vs : List Value) (i : Nat) (W : World), Cache P kt f M W → Cache P kt f M (setsAt W g i vs)
  | [], _, _, h => h
  | v :: vs, i, _, h => Cache.sets hg vs (i + 1) _ (h.far ⟨g, i, none⟩ v hg)
end Go.Proofs.YtcbodpnmndbgnaaGreatDoor
namespace Go.Proofs.YtcbodpnmndbgnaaGreatDoor
open Go.RowKit
open Sp (rd)
set_option maxRecDepth 100000
set_option maxHeartbeats 1000000
def zeroEng : Array Value := #[.slice none 0 0, .int .i64 0, .int .i64 0, .int .i64 0, .slice none 0 0, .slice none 0 0, .slice none 0 0, .slice none 0 0, .int .i64 0, .int .i64 0, .int .i64 0, .slice none 0 0, .map none]
/-- What asked hands back for an engine and settings as defined. -/
def AskPost (p : EP) (e : Ec.Engine) (set : List Int) (w : World) (r : Ending) (w' : World) : Prop :=
  ∃ M, r = .returned (.tuple #[.agg #[.slice p.Ab e.sky.bodies.length p.cb, .int .i64 e.sky.nnum, .int .i64 e.sky.nden, .int .i64 e.sky.nstart, .slice p.As e.sun.length p.cs, .slice p.Am e.moon.length p.cm, .slice p.An e.node.length p.cn, .slice p.Af e.feasts.length p.cf, .int .i64 e.nw, .int .i64 e.fl, .int .i64 e.wide, .slice p.At set.length p.ct, .map (some M)], .int .i64 0]) ∧ w.heap.size ≤ M ∧ Seen e set M w' ∧ Ext w w'
theorem e_asked_ok (p : EP) (e : Ec.Engine) (set : List Int) (w : World) (hm : EngSet w p e set) (hl : EngShort e) (hs : set.length ≤ 100000) (c0 : Ec.engineOk e = true) (c1 : Ec.setOk e.feasts set = true) :
    Calls Tryz.prog 69 #[.agg #[.slice p.Ab e.sky.bodies.length p.cb, .int .i64 e.sky.nnum, .int .i64 e.sky.nden, .int .i64 e.sky.nstart, .slice p.As e.sun.length p.cs, .slice p.Am e.moon.length p.cm, .slice p.An e.node.length p.cn, .slice p.Af e.feasts.length p.cf, .int .i64 e.nw, .int .i64 e.fl, .int .i64 e.wide], .slice p.At set.length p.ct, .bool true] w (AskPost p e set w) := by
  have HM := Lib.hid hm
  have HL := Lib.hid hl
  have hf := hl.feasts
  have c1' : Ec.rising set 0 ((e.feasts.length : Int) - 1) = true := c1
  have HR0 : Hid (Row ((w.alloc (.cells #[.slice p.Ab e.sky.bodies.length p.cb, .int .i64 e.sky.nnum, .int .i64 e.sky.nden, .int .i64 e.sky.nstart, .slice p.As e.sun.length p.cs, .slice p.Am e.moon.length p.cm, .slice p.An e.node.length p.cn, .slice p.Af e.feasts.length p.cf, .int .i64 e.nw, .int .i64 e.fl, .int .i64 e.wide] 32)).alloc (.cells #[.slice none 0 0, .int .i64 0, .int .i64 0, .int .i64 0, .slice none 0 0, .slice none 0 0, .slice none 0 0, .slice none 0 0, .int .i64 0, .int .i64 0, .int .i64 0, .slice none 0 0, .map none] 100)) w.heap.size 32 #[.slice p.Ab e.sky.bodies.length p.cb, .int .i64 e.sky.nnum, .int .i64 e.sky.nden, .int .i64 e.sky.nstart, .slice p.As e.sun.length p.cs, .slice p.Am e.moon.length p.cm, .slice p.An e.node.length p.cn, .slice p.Af e.feasts.length p.cf, .int .i64 e.nw, .int .i64 e.fl, .int .i64 e.wide]) := Lib.hid ((Row.new w _ _).alloc _)
  have HR1 : Hid (Row ((w.alloc (.cells #[.slice p.Ab e.sky.bodies.length p.cb, .int .i64 e.sky.nnum, .int .i64 e.sky.nden, .int .i64 e.sky.nstart, .slice p.As e.sun.length p.cs, .slice p.Am e.moon.length p.cm, .slice p.An e.node.length p.cn, .slice p.Af e.feasts.length p.cf, .int .i64 e.nw, .int .i64 e.fl, .int .i64 e.wide] 32)).alloc (.cells #[.slice none 0 0, .int .i64 0, .int .i64 0, .int .i64 0, .slice none 0 0, .slice none 0 0, .slice none 0 0, .slice none 0 0, .int .i64 0, .int .i64 0, .int .i64 0, .slice none 0 0, .map none] 100)) (w.heap.size + 1) 100 #[.slice none 0 0, .int .i64 0, .int .i64 0, .int .i64 0, .slice none 0 0, .slice none 0 0, .slice none 0 0, .slice none 0 0, .int .i64 0, .int .i64 0, .int .i64 0, .slice none 0 0, .map none]) := Lib.hid (by
    have := Row.new (w.alloc (.cells #[.slice p.Ab e.sky.bodies.length p.cb, .int .i64 e.sky.nnum, .int .i64 e.sky.nden, .int .i64 e.sky.nstart, .slice p.As e.sun.length p.cs, .slice p.Am e.moon.length p.cm, .slice p.An e.node.length p.cn, .slice p.Af e.feasts.length p.cf, .int .i64 e.nw, .int .i64 e.fl, .int .i64 e.wide] 32)) 100 #[.slice none 0 0, .int .i64 0, .int .i64 0, .int .i64 0, .slice none 0 0, .slice none 0 0, .slice none 0 0, .slice none 0 0, .int .i64 0, .int .i64 0, .int .i64 0, .slice none 0 0, .map none]
    simpa using this)
  clear hm hl
  go_enter Tryz.func69, Tryz.ntmps69
  go_wp2_with fail
  refine (e_isEngine_any p e _ (HM.out.eng.ext (((Ext.refl w).alloc _).alloc _)) HL.out).mono ?_
  rintro r w1 ⟨rfl, hE⟩
  have HE := Lib.hid ((((Ext.refl w).alloc _).alloc _).trans hE)
  have HX := Lib.hid (HR0.out.ext hE)
  have HR := Lib.hid (HR1.out.ext hE)
  have x0 := HX.out.cell
  clear hE
  go_wp2_with fail
  refine (e_rising_any p.At p.ct set 0 _ _ (HM.out.set.ext HE.out) hs).mono ?_
  rintro r w2 ⟨rfl, rfl⟩
  have HRA := Lib.hid (HR.out.alloc (.map #[] 0))
  have HXA := Lib.hid (HX.out.alloc (.map #[] 0))
  have HCA := Lib.hid (Cache.new Tryz.prog 3 (handsF e set) w1)
  have HEA := Lib.hid (HE.out.alloc (.map #[] 0))
  have hsz := HE.out.size
  have hr1 := HR.out.lt
  obtain ⟨W2, hW2⟩ : ∃ W2, w1.alloc (.map #[] 0) = W2 := ⟨_, rfl⟩
  rw [hW2] at HRA HCA HEA HXA
  have hmm : (Instr.makeMap 98 none).run Tryz.prog w1 = .ok (.map (some w1.heap.size)) W2 := by rw [← hW2]; rfl
  have r0 := HRA.out.cell
  have x1 := HXA.out.cell
  have f0 := HRA.out.free
  clear hW2
  have hne : w.heap.size + 1 ≠ w1.heap.size := by omega
  go_wp2_with fail
  all_goals clear x0 x1
  clear r0 f0
  obtain ⟨W3, hW3⟩ : ∃ W3, setsAt W2 (w.heap.size + 1) 0 [.slice p.Ab e.sky.bodies.length p.cb, .int .i64 e.sky.nnum, .int .i64 e.sky.nden, .int .i64 e.sky.nstart, .slice p.As e.sun.length p.cs, .slice p.Am e.moon.length p.cm, .slice p.An e.node.length p.cn, .slice p.Af e.feasts.length p.cf, .int .i64 e.nw, .int .i64 e.fl, .int .i64 e.wide, .slice p.At set.length p.ct, .map (some w1.heap.size)] = W3 := ⟨_, rfl⟩
  have hR3 : Row W3 (w.heap.size + 1) 100 #[.slice p.Ab e.sky.bodies.length p.cb, .int .i64 e.sky.nnum, .int .i64 e.sky.nden, .int .i64 e.sky.nstart, .slice p.As e.sun.length p.cs, .slice p.Am e.moon.length p.cm, .slice p.An e.node.length p.cn, .slice p.Af e.feasts.length p.cf, .int .i64 e.nw, .int .i64 e.fl, .int .i64 e.wide, .slice p.At set.length p.ct, .map (some w1.heap.size)] := by rw [← hW3]; exact Row.sets (cs := [.slice none 0 0, .int .i64 0, .int .i64 0, .int .i64 0, .slice none 0 0, .slice none 0 0, .slice none 0 0, .slice none 0 0, .int .i64 0, .int .i64 0, .int .i64 0, .slice none 0 0, .map none]) HRA.out _ rfl
  have hE3 : Ext w W3 := by rw [← hW3]; exact Ext.sets (Nat.le_succ _) _ _ _ HEA.out
  have hC3 : Seen e set w1.heap.size W3 := by rw [← hW3]; exact Cache.sets hne _ _ _ HCA.out
  simp only [setsAt, Nat.reduceAdd] at hW3
  rw [hW3]
  clear hW3
  have r3 := hR3.cell
  refine bodyPost_ret (v := .tuple #[.agg #[.slice p.Ab e.sky.bodies.length p.cb, .int .i64 e.sky.nnum, .int .i64 e.sky.nden, .int .i64 e.sky.nstart, .slice p.As e.sun.length p.cs, .slice p.Am e.moon.length p.cm, .slice p.An e.node.length p.cn, .slice p.Af e.feasts.length p.cf, .int .i64 e.nw, .int .i64 e.fl, .int .i64 e.wide, .slice p.At set.length p.ct, .map (some w1.heap.size)], .int .i64 0]) ?_ rfl ⟨_, rfl, (by omega), hC3, hE3⟩
  have c0 := r3 0
  have c1 := r3 1
  have c2 := r3 2
  have c3 := r3 3
  have c4 := r3 4
  have c5 := r3 5
  have c6 := r3 6
  have c7 := r3 7
  have c8 := r3 8
  have c9 := r3 9
  have c10 := r3 10
  have c11 := r3 11
  have c12 := r3 12
  clear r3
  simp only [List.getElem?_toArray, List.getElem?_cons_zero, List.getElem?_cons_succ] at c0 c1 c2 c3 c4 c5 c6 c7 c8 c9 c10 c11 c12
  simp [results, Tryz.results69, asAddr, go_sem, c0, c1, c2, c3, c4, c5, c6, c7, c8, c9, c10, c11, c12]
theorem e_asked_err (p : EP) (e : Ec.Engine) (set : List Int) (fine : Bool) (w : World) (hm : EngSet w p e set) (hl : EngShort e) (hs : set.length ≤ 100000) (h : (Ec.engineOk e && (Ec.setOk e.feasts set && fine)) = false) :
    Calls Tryz.prog 69 #[.agg #[.slice p.Ab e.sky.bodies.length p.cb, .int .i64 e.sky.nnum, .int .i64 e.sky.nden, .int .i64 e.sky.nstart, .slice p.As e.sun.length p.cs, .slice p.Am e.moon.length p.cm, .slice p.An e.node.length p.cn, .slice p.Af e.feasts.length p.cf, .int .i64 e.nw, .int .i64 e.fl, .int .i64 e.wide], .slice p.At set.length p.ct, .bool fine] w fun r w' => r = .returned (.tuple #[.agg #[.slice none 0 0, .int .i64 0, .int .i64 0, .int .i64 0, .slice none 0 0, .slice none 0 0, .slice none 0 0, .slice none 0 0, .int .i64 0, .int .i64 0, .int .i64 0, .slice none 0 0, .map none], .int .i64 2]) ∧ Ext w w' := by
  have HM := Lib.hid hm
  have HL := Lib.hid hl
  have hf := hl.feasts
  have HR0 : Hid (Row ((w.alloc (.cells #[.slice p.Ab e.sky.bodies.length p.cb, .int .i64 e.sky.nnum, .int .i64 e.sky.nden, .int .i64 e.sky.nstart, .slice p.As e.sun.length p.cs, .slice p.Am e.moon.length p.cm, .slice p.An e.node.length p.cn, .slice p.Af e.feasts.length p.cf, .int .i64 e.nw, .int .i64 e.fl, .int .i64 e.wide] 32)).alloc (.cells #[.slice none 0 0, .int .i64 0, .int .i64 0, .int .i64 0, .slice none 0 0, .slice none 0 0, .slice none 0 0, .slice none 0 0, .int .i64 0, .int .i64 0, .int .i64 0, .slice none 0 0, .map none] 100)) w.heap.size 32 #[.slice p.Ab e.sky.bodies.length p.cb, .int .i64 e.sky.nnum, .int .i64 e.sky.nden, .int .i64 e.sky.nstart, .slice p.As e.sun.length p.cs, .slice p.Am e.moon.length p.cm, .slice p.An e.node.length p.cn, .slice p.Af e.feasts.length p.cf, .int .i64 e.nw, .int .i64 e.fl, .int .i64 e.wide]) := Lib.hid ((Row.new w _ _).alloc _)
  have HR1 : Hid (Row ((w.alloc (.cells #[.slice p.Ab e.sky.bodies.length p.cb, .int .i64 e.sky.nnum, .int .i64 e.sky.nden, .int .i64 e.sky.nstart, .slice p.As e.sun.length p.cs, .slice p.Am e.moon.length p.cm, .slice p.An e.node.length p.cn, .slice p.Af e.feasts.length p.cf, .int .i64 e.nw, .int .i64 e.fl, .int .i64 e.wide] 32)).alloc (.cells #[.slice none 0 0, .int .i64 0, .int .i64 0, .int .i64 0, .slice none 0 0, .slice none 0 0, .slice none 0 0, .slice none 0 0, .int .i64 0, .int .i64 0, .int .i64 0, .slice none 0 0, .map none] 100)) (w.heap.size + 1) 100 #[.slice none 0 0, .int .i64 0, .int .i64 0, .int .i64 0, .slice none 0 0, .slice none 0 0, .slice none 0 0, .slice none 0 0, .int .i64 0, .int .i64 0, .int .i64 0, .slice none 0 0, .map none]) := Lib.hid (by
    have := Row.new (w.alloc (.cells #[.slice p.Ab e.sky.bodies.length p.cb, .int .i64 e.sky.nnum, .int .i64 e.sky.nden, .int .i64 e.sky.nstart, .slice p.As e.sun.length p.cs, .slice p.Am e.moon.length p.cm, .slice p.An e.node.length p.cn, .slice p.Af e.feasts.length p.cf, .int .i64 e.nw, .int .i64 e.fl, .int .i64 e.wide] 32)) 100 #[.slice none 0 0, .int .i64 0, .int .i64 0, .int .i64 0, .slice none 0 0, .slice none 0 0, .slice none 0 0, .slice none 0 0, .int .i64 0, .int .i64 0, .int .i64 0, .slice none 0 0, .map none]
    simpa using this)
  clear hm hl
  cases c0 : Ec.engineOk e
  · clear h
    go_enter Tryz.func69, Tryz.ntmps69
    go_wp2_with fail
    refine (e_isEngine_any p e _ (HM.out.eng.ext (((Ext.refl w).alloc _).alloc _)) HL.out).mono ?_
    rintro r w1 ⟨rfl, hE⟩
    have HE := Lib.hid ((((Ext.refl w).alloc _).alloc _).trans hE)
    have HX := Lib.hid (HR0.out.ext hE)
    have HR := Lib.hid (HR1.out.ext hE)
    have x0 := HX.out.cell
    have r0 := HR.out.cell
    have f0 := HR.out.free
    clear hE
    go_wp2_with fail
    clear r0 f0 x0
    obtain ⟨W3, hW3⟩ : ∃ W3, setsAt w1 (w.heap.size + 1) 0 [.slice none 0 0, .int .i64 0, .int .i64 0, .int .i64 0, .slice none 0 0, .slice none 0 0, .slice none 0 0, .slice none 0 0, .int .i64 0, .int .i64 0, .int .i64 0, .slice none 0 0, .map none] = W3 := ⟨_, rfl⟩
    have hR3 : Row W3 (w.heap.size + 1) 100 #[.slice none 0 0, .int .i64 0, .int .i64 0, .int .i64 0, .slice none 0 0, .slice none 0 0, .slice none 0 0, .slice none 0 0, .int .i64 0, .int .i64 0, .int .i64 0, .slice none 0 0, .map none] := by rw [← hW3]; exact Row.sets (cs := [.slice none 0 0, .int .i64 0, .int .i64 0, .int .i64 0, .slice none 0 0, .slice none 0 0, .slice none 0 0, .slice none 0 0, .int .i64 0, .int .i64 0, .int .i64 0, .slice none 0 0, .map none]) HR.out _ rfl
    have hE3 : Ext w W3 := by rw [← hW3]; exact Ext.sets (Nat.le_succ _) _ _ _ HE.out
    simp only [setsAt, Nat.reduceAdd] at hW3
    rw [hW3]
    clear hW3
    have r3 := hR3.cell
    refine bodyPost_ret (v := .tuple #[.agg #[.slice none 0 0, .int .i64 0, .int .i64 0, .int .i64 0, .slice none 0 0, .slice none 0 0, .slice none 0 0, .slice none 0 0, .int .i64 0, .int .i64 0, .int .i64 0, .slice none 0 0, .map none], .int .i64 2]) ?_ rfl ⟨rfl, hE3⟩
    have c0 := r3 0
    have c1 := r3 1
    have c2 := r3 2
    have c3 := r3 3
    have c4 := r3 4
    have c5 := r3 5
    have c6 := r3 6
    have c7 := r3 7
    have c8 := r3 8
    have c9 := r3 9
    have c10 := r3 10
    have c11 := r3 11
    have c12 := r3 12
    clear r3
    simp only [List.getElem?_toArray, List.getElem?_cons_zero, List.getElem?_cons_succ] at c0 c1 c2 c3 c4 c5 c6 c7 c8 c9 c10 c11 c12
    simp [results, Tryz.results69, asAddr, go_sem, c0, c1, c2, c3, c4, c5, c6, c7, c8, c9, c10, c11, c12]
  cases c1 : Ec.setOk e.feasts set
  · have c1d : Ec.rising set 0 ((e.feasts.length : Int) - 1) = false := c1
    clear h
    go_enter Tryz.func69, Tryz.ntmps69
    go_wp2_with fail
    refine (e_isEngine_any p e _ (HM.out.eng.ext (((Ext.refl w).alloc _).alloc _)) HL.out).mono ?_
    rintro r w1 ⟨rfl, hE⟩
    have HE := Lib.hid ((((Ext.refl w).alloc _).alloc _).trans hE)
    have HX := Lib.hid (HR0.out.ext hE)
    have HR := Lib.hid (HR1.out.ext hE)
    have x0 := HX.out.cell
    have r0 := HR.out.cell
    have f0 := HR.out.free
    clear hE
    go_wp2_with fail
    refine (e_rising_any p.At p.ct set 0 _ _ (HM.out.set.ext HE.out) hs).mono ?_
    rintro r w2 ⟨rfl, rfl⟩
    go_wp2_with fail
    clear r0 f0 x0
    obtain ⟨W3, hW3⟩ : ∃ W3, setsAt w1 (w.heap.size + 1) 0 [.slice none 0 0, .int .i64 0, .int .i64 0, .int .i64 0, .slice none 0 0, .slice none 0 0, .slice none 0 0, .slice none 0 0, .int .i64 0, .int .i64 0, .int .i64 0, .slice none 0 0, .map none] = W3 := ⟨_, rfl⟩
    have hR3 : Row W3 (w.heap.size + 1) 100 #[.slice none 0 0, .int .i64 0, .int .i64 0, .int .i64 0, .slice none 0 0, .slice none 0 0, .slice none 0 0, .slice none 0 0, .int .i64 0, .int .i64 0, .int .i64 0, .slice none 0 0, .map none] := by rw [← hW3]; exact Row.sets (cs := [.slice none 0 0, .int .i64 0, .int .i64 0, .int .i64 0, .slice none 0 0, .slice none 0 0, .slice none 0 0, .slice none 0 0, .int .i64 0, .int .i64 0, .int .i64 0, .slice none 0 0, .map none]) HR.out _ rfl
    have hE3 : Ext w W3 := by rw [← hW3]; exact Ext.sets (Nat.le_succ _) _ _ _ HE.out
    simp only [setsAt, Nat.reduceAdd] at hW3
    rw [hW3]
    clear hW3
    have r3 := hR3.cell
    refine bodyPost_ret (v := .tuple #[.agg #[.slice none 0 0, .int .i64 0, .int .i64 0, .int .i64 0, .slice none 0 0, .slice none 0 0, .slice none 0 0, .slice none 0 0, .int .i64 0, .int .i64 0, .int .i64 0, .slice none 0 0, .map none], .int .i64 2]) ?_ rfl ⟨rfl, hE3⟩
    have c0 := r3 0
    have c1 := r3 1
    have c2 := r3 2
    have c3 := r3 3
    have c4 := r3 4
    have c5 := r3 5
    have c6 := r3 6
    have c7 := r3 7
    have c8 := r3 8
    have c9 := r3 9
    have c10 := r3 10
    have c11 := r3 11
    have c12 := r3 12
    clear r3
    simp only [List.getElem?_toArray, List.getElem?_cons_zero, List.getElem?_cons_succ] at c0 c1 c2 c3 c4 c5 c6 c7 c8 c9 c10 c11 c12
    simp [results, Tryz.results69, asAddr, go_sem, c0, c1, c2, c3, c4, c5, c6, c7, c8, c9, c10, c11, c12]
  cases fine
  · have c1d : Ec.rising set 0 ((e.feasts.length : Int) - 1) = true := c1
    clear h
    go_enter Tryz.func69, Tryz.ntmps69
    go_wp2_with fail
    refine (e_isEngine_any p e _ (HM.out.eng.ext (((Ext.refl w).alloc _).alloc _)) HL.out).mono ?_
    rintro r w1 ⟨rfl, hE⟩
    have HE := Lib.hid ((((Ext.refl w).alloc _).alloc _).trans hE)
    have HX := Lib.hid (HR0.out.ext hE)
    have HR := Lib.hid (HR1.out.ext hE)
    have x0 := HX.out.cell
    have r0 := HR.out.cell
    have f0 := HR.out.free
    clear hE
    go_wp2_with fail
    refine (e_rising_any p.At p.ct set 0 _ _ (HM.out.set.ext HE.out) hs).mono ?_
    rintro r w2 ⟨rfl, rfl⟩
    go_wp2_with fail
    clear r0 f0 x0
    obtain ⟨W3, hW3⟩ : ∃ W3, setsAt w1 (w.heap.size + 1) 0 [.slice none 0 0, .int .i64 0, .int .i64 0, .int .i64 0, .slice none 0 0, .slice none 0 0, .slice none 0 0, .slice none 0 0, .int .i64 0, .int .i64 0, .int .i64 0, .slice none 0 0, .map none] = W3 := ⟨_, rfl⟩
    have hR3 : Row W3 (w.heap.size + 1) 100 #[.slice none 0 0, .int .i64 0, .int .i64 0, .int .i64 0, .slice none 0 0, .slice none 0 0, .slice none 0 0, .slice none 0 0, .int .i64 0, .int .i64 0, .int .i64 0, .slice none 0 0, .map none] := by rw [← hW3]; exact Row.sets (cs := [.slice none 0 0, .int .i64 0, .int .i64 0, .int .i64 0, .slice none 0 0, .slice none 0 0, .slice none 0 0, .slice none 0 0, .int .i64 0, .int .i64 0, .int .i64 0, .slice none 0 0, .map none]) HR.out _ rfl
    have hE3 : Ext w W3 := by rw [← hW3]; exact Ext.sets (Nat.le_succ _) _ _ _ HE.out
    simp only [setsAt, Nat.reduceAdd] at hW3
    rw [hW3]
    clear hW3
    have r3 := hR3.cell
    refine bodyPost_ret (v := .tuple #[.agg #[.slice none 0 0, .int .i64 0, .int .i64 0, .int .i64 0, .slice none 0 0, .slice none 0 0, .slice none 0 0, .slice none 0 0, .int .i64 0, .int .i64 0, .int .i64 0, .slice none 0 0, .map none], .int .i64 2]) ?_ rfl ⟨rfl, hE3⟩
    have c0 := r3 0
    have c1 := r3 1
    have c2 := r3 2
    have c3 := r3 3
    have c4 := r3 4
    have c5 := r3 5
    have c6 := r3 6
    have c7 := r3 7
    have c8 := r3 8
    have c9 := r3 9
    have c10 := r3 10
    have c11 := r3 11
    have c12 := r3 12
    clear r3
    simp only [List.getElem?_toArray, List.getElem?_cons_zero, List.getElem?_cons_succ] at c0 c1 c2 c3 c4 c5 c6 c7 c8 c9 c10 c11 c12
    simp [results, Tryz.results69, asAddr, go_sem, c0, c1, c2, c3, c4, c5, c6, c7, c8, c9, c10, c11, c12]
  · simp [c0, c1] at h
end Go.Proofs.YtcbodpnmndbgnaaGreatDoor
namespace Go.Proofs.YtcbodpnmndbgnaaGreatDoor
open Go.RowKit
theorem nodup_sub_le : ∀ (A S : List Nat), A.Nodup → (∀ x ∈ A, x ∈ S) → A.length ≤ S.length
  | [], _, _, _ => Nat.zero_le _
  | x :: A, S, hd, h => by
    obtain ⟨hx, hd'⟩ := List.nodup_cons.1 hd
    have hm := h x (by simp)
    have h1 := nodup_sub_le A (S.erase x) hd' (fun y hy => (List.mem_erase_of_ne (fun e => by subst e; exact hx hy)).2 (h y (by simp [hy])))
    rw [List.length_erase_of_mem hm] at h1
    have := List.length_pos_of_mem hm
    simp only [List.length_cons]
    omega
theorem nodup_le' {S : List Nat} {N : Nat} (hd : S.Nodup) (h : ∀ x ∈ S, x < N) : S.length ≤ N := by
  simpa using nodup_sub_le S (List.range N) hd fun x hx => List.mem_range.2 (h x hx)
/-- The slot that an operation of a list writes. -/
def dstOf (l : List Oper) (i : Nat) : Option Tmp := (l[i]?).bind (·.dst)
/-- The values vs of the operations S, laid into a frame. -/
def putS (l : List Oper) (vs : Nat → Value) (S : List Nat) (a : Act) : Act := S.foldl (fun a i => a.put (dstOf l i) (vs i)) a
def putAll (l : List Oper) (vs : Nat → Value) (a : Act) : Act := putS l vs (List.range l.length) a
theorem putS_off {l : List Oper} {vs : Nat → Value} {d : Tmp} : ∀ (S : List Nat) (a : Act), (∀ i ∈ S, dstOf l i ≠ some d) → (putS l vs S a).eval (.tmp d) = a.eval (.tmp d)
  | [], _, _ => rfl
  | x :: S, a, h => by
    have h1 := putS_off (vs := vs) S (a.put (dstOf l x) (vs x)) (fun i hi => h i (by simp [hi]))
    refine h1.trans (Act.eval_put fun d' hd e => ?_)
    have := h x (by simp)
    rw [hd] at this
    exact this (by cases e; rfl)
theorem put_size (a : Act) (d : Option Tmp) (v : Value) : (a.put d v).tmps.size = a.tmps.size := by cases d <;> simp [Act.put]
theorem putS_on {l : List Oper} {vs : Nat → Value} {d : Tmp} {j : Nat} (hj : dstOf l j = some d) : ∀ (S : List Nat) (a : Act), d < a.tmps.size → (∀ i ∈ S, dstOf l i = some d → i = j) → j ∈ S → (putS l vs S a).eval (.tmp d) = vs j
  | [], _, _, _, h => by cases h
  | x :: S, a, hd, hu, h => by
    by_cases hS : j ∈ S
    · exact putS_on hj S (a.put (dstOf l x) (vs x)) (by rw [put_size]; exact hd) (fun i hi => hu i (by simp [hi])) hS
    · obtain rfl : j = x := by
        rcases List.mem_cons.1 h with e | e
        · exact e
        · exact absurd e hS
      have h1 := putS_off (l := l) (vs := vs) (d := d) S (a.put (dstOf l j) (vs j)) (fun i hi e => hS (hu i (by simp [hi]) e ▸ hi))
      refine h1.trans ?_
      rw [hj]
      exact Act.eval_put_same a d (vs j) hd
theorem putS_congr {l : List Oper} {vs us : Nat → Value} : ∀ (S : List Nat) (a : Act), (∀ i ∈ S, vs i = us i) → putS l vs S a = putS l us S a
  | [], _, _ => rfl
  | x :: S, a, h => by
    show putS l vs S (a.put (dstOf l x) (vs x)) = putS l us S (a.put (dstOf l x) (us x))
    rw [h x (by simp)]
    exact putS_congr S _ fun i hi => h i (by simp [hi])
def noSel (o : Oper) : Bool := match o.op with | .select _ _ => false | _ => true
theorem noSel_spec {o : Oper} (h : noSel o = true) : ∀ cs b, o.op ≠ .select cs b := by
  intro cs b e
  unfold noSel at h
  rw [e] at h
  cases h
/-- No select; edges and guards point backwards; slots are written once, and read behind that alone. -/
def freeB (l : List Oper) (N : Nat) : Bool :=
  (List.range l.length).all fun i => match l[i]? with
    | none => true
    | some o => (match o.guard with | none => true | some (g, _) => decide (g < i)) && (noSel o && ((o.after.all fun e => !Region.binds .any e || decide (e.on < i)) && ((match o.dst with | none => true | some d => decide (d < N) && !(o.looksAt l.toArray).contains d) &&
      ((List.range l.length).all fun j => decide (j = i) || (match dstOf l j with | none => true | some d => o.dst != some d && (!(o.looksAt l.toArray).contains d || Region.waitsFor .any l.toArray i j))))))
structure FreeOp (l : List Oper) (N : Nat) (i : Nat) (o : Oper) : Prop where
  guard : ∀ g b, o.guard = some (g, b) → g < i
  sel : ∀ cs b, o.op ≠ .select cs b
  back : ∀ e ∈ o.after, Region.binds .any e = true → e.on < i
  own : ∀ d, o.dst = some d → d < N ∧ d ∉ o.looksAt l.toArray
  apart : ∀ j d, j < l.length → j ≠ i → dstOf l j = some d → o.dst ≠ some d ∧ (d ∈ o.looksAt l.toArray → ∃ e ∈ o.after, Region.binds .any e = true ∧ e.on = j)
theorem freeB_spec {l : List Oper} {N : Nat} (h : freeB l N = true) {i : Nat} {o : Oper} (ho : l[i]? = some o) : FreeOp l N i o := by
  have hi : i < l.length := (List.getElem?_eq_some_iff.1 ho).1
  have h1 := List.all_eq_true.1 h i (List.mem_range.2 hi)
  simp only [ho, Bool.and_eq_true] at h1
  obtain ⟨hg, hs, hb, hw, ha⟩ := h1
  refine ⟨fun g b hgb => by rw [hgb] at hg; simpa using hg, noSel_spec hs, fun e he hbi => by simpa [hbi] using (Array.all_eq_true_iff_forall_mem.1 hb) e he, fun d hd => ?_, fun j d hj hji hd => ?_⟩
  · rw [hd] at hw
    simp only [Bool.and_eq_true, decide_eq_true_eq, Bool.not_eq_true', List.contains_eq_mem, decide_eq_false_iff_not] at hw
    exact hw
  · have h2 := List.all_eq_true.1 ha j (List.mem_range.2 hj)
    simp only [hd, Bool.or_eq_true, decide_eq_true_eq, Bool.and_eq_true, bne_iff_ne, Bool.not_eq_true', List.contains_eq_mem, decide_eq_false_iff_not] at h2
    rcases h2 with h2 | ⟨h2, h3⟩
    · exact absurd h2 hji
    · refine ⟨h2, fun hl => ?_⟩
      rcases h3 with h3 | h3
      · exact absurd hl h3
      · obtain ⟨oj, hoj, hh⟩ := Region.waitsFor_spec h3
        have : oj = o := by
          simp only [List.getElem?_toArray] at hoj
          rw [ho] at hoj
          exact (Option.some.inj hoj).symm
        rw [this] at hh
        exact hh
/-- What an operation finds in the slots that it reads. -/
structure Finds (l : List Oper) (Φ : Nat → Value → World → Prop) (a0 : Act) (o : Oper) (a : Act) (w : World) : Prop where
  from_ : ∀ j d, dstOf l j = some d → d ∈ o.looksAt l.toArray → Φ j (a.eval (.tmp d)) w
  old : ∀ d, (∀ j, j < l.length → dstOf l j ≠ some d) → a.eval (.tmp d) = a0.eval (.tmp d)
/-- An operation runs, or is passed over, and what it yields is as G says. -/
def Ran (P : Program) (ops : Array Oper) (o : Oper) (a : Act) (w : World) (G : Value → World → Prop) : Prop :=
  if Region.wanted o (yielded ops a.tmps) = true then Oper.wp P o a w (fun a' w' => ∃ v, a' = a.put o.dst v ∧ G v w') (fun _ _ _ => False) else G undef w
theorem Ran.plain {P : Program} {ops : Array Oper} {o : Oper} {a : Act} {w : World} {G : Value → World → Prop} (hg : o.guard = none) (h : Oper.wp P o a w (fun a' w' => ∃ v, a' = a.put o.dst v ∧ G v w') (fun _ _ _ => False)) : Ran P ops o a w G := by
  unfold Ran
  rw [if_pos (by simp [Region.wanted, hg])]
  exact h
theorem wanted_of {ops : Array Oper} {o oj : Oper} {a : Act} {j : Nat} {d : Tmp} {want b : Bool} (hg : o.guard = some (j, want)) (hj : ops[j]? = some oj) (hd : oj.dst = some d) (he : a.eval (.tmp d) = .bool b) : Region.wanted o (yielded ops a.tmps) = (b == want) := by
  have h1 : a.tmps[d]? = some (.bool b) := by
    simp only [Act.eval, Array.getD_eq_getD_getElem?] at he
    cases h : a.tmps[d]? with
    | none => rw [h] at he; cases he
    | some x => rw [h] at he; simpa using he
  simp [Region.wanted, hg, yielded, hj, hd, h1]
end Go.Proofs.YtcbodpnmndbgnaaGreatDoor
