/- Volume 5 of the texts that the laws of this seat use: EcIsEng EcHand EcAt EcCells EcAsk EcSets EcSets2 EcCmp EcRan EcBalls EcShades TpRuled TpOwn: walks of the program's functions, and plain laws. -/
import Derived.Outline
import Derived.Carry
import Derived.BigQuiet
import Derived.Below
import Derived.Test.YtimkmokomohgjaaGreatR01
import Derived.Test.YtimkmokomohgjaaGreatR02
import Derived.Test.YtimkmokomohgjaaGreatR03
import Derived.Test.YtimkmokomohgjaaGreatR04
namespace Go.Proofs.YtimkmokomohgjaaGreat
open Go.RowKit
open Sp (rd)
set_option maxRecDepth 100000
set_option maxHeartbeats 1000000
theorem e_isEngine_any (p : EP) (e : Ec.Engine) (w : World) (hm : EngAt w p e) (hl : EngShort e) :
    Calls Tryz.prog 129 #[.agg #[.slice p.Ab e.sky.bodies.length p.cb, .int .i64 e.sky.nnum, .int .i64 e.sky.nden, .int .i64 e.sky.nstart, .slice p.As e.sun.length p.cs, .slice p.Am e.moon.length p.cm, .slice p.An e.node.length p.cn, .slice p.Af e.feasts.length p.cf, .int .i64 e.nw, .int .i64 e.fl, .int .i64 e.wide]] w fun r w' => r = .returned (.bool (Ec.engineOk e)) ∧ Ext w w' := by
  obtain ⟨hs3, hs0, hs1, hs2, hs4⟩ := hl
  have HM := Lib.hid hm
  have HE0 : Hid (Ext w ((w.alloc (.cells #[.slice p.Ab e.sky.bodies.length p.cb, .int .i64 e.sky.nnum, .int .i64 e.sky.nden, .int .i64 e.sky.nstart, .slice p.As e.sun.length p.cs, .slice p.Am e.moon.length p.cm, .slice p.An e.node.length p.cn, .slice p.Af e.feasts.length p.cf, .int .i64 e.nw, .int .i64 e.fl, .int .i64 e.wide] 83)).alloc (.cells #[.slice p.As e.sun.length p.cs, .slice p.Am e.moon.length p.cm, .slice p.An e.node.length p.cn] 78))) := Lib.hid (((Ext.refl w).alloc _).alloc _)
  have HX0 : Hid (Row ((w.alloc (.cells #[.slice p.Ab e.sky.bodies.length p.cb, .int .i64 e.sky.nnum, .int .i64 e.sky.nden, .int .i64 e.sky.nstart, .slice p.As e.sun.length p.cs, .slice p.Am e.moon.length p.cm, .slice p.An e.node.length p.cn, .slice p.Af e.feasts.length p.cf, .int .i64 e.nw, .int .i64 e.fl, .int .i64 e.wide] 83)).alloc (.cells #[.slice p.As e.sun.length p.cs, .slice p.Am e.moon.length p.cm, .slice p.An e.node.length p.cn] 78)) w.heap.size 83 #[.slice p.Ab e.sky.bodies.length p.cb, .int .i64 e.sky.nnum, .int .i64 e.sky.nden, .int .i64 e.sky.nstart, .slice p.As e.sun.length p.cs, .slice p.Am e.moon.length p.cm, .slice p.An e.node.length p.cn, .slice p.Af e.feasts.length p.cf, .int .i64 e.nw, .int .i64 e.fl, .int .i64 e.wide]) := Lib.hid ((Row.new w _ _).alloc _)
  have HL0 : Hid (Row ((w.alloc (.cells #[.slice p.Ab e.sky.bodies.length p.cb, .int .i64 e.sky.nnum, .int .i64 e.sky.nden, .int .i64 e.sky.nstart, .slice p.As e.sun.length p.cs, .slice p.Am e.moon.length p.cm, .slice p.An e.node.length p.cn, .slice p.Af e.feasts.length p.cf, .int .i64 e.nw, .int .i64 e.fl, .int .i64 e.wide] 83)).alloc (.cells #[.slice p.As e.sun.length p.cs, .slice p.Am e.moon.length p.cm, .slice p.An e.node.length p.cn] 78)) (w.heap.size + 1) 78 #[.slice p.As e.sun.length p.cs, .slice p.Am e.moon.length p.cm, .slice p.An e.node.length p.cn]) := Lib.hid (by
    have := Row.new (w.alloc (.cells #[.slice p.Ab e.sky.bodies.length p.cb, .int .i64 e.sky.nnum, .int .i64 e.sky.nden, .int .i64 e.sky.nstart, .slice p.As e.sun.length p.cs, .slice p.Am e.moon.length p.cm, .slice p.An e.node.length p.cn, .slice p.Af e.feasts.length p.cf, .int .i64 e.nw, .int .i64 e.fl, .int .i64 e.wide] 83)) 78 #[.slice p.As e.sun.length p.cs, .slice p.Am e.moon.length p.cm, .slice p.An e.node.length p.cn]
    simpa using this)
  clear hm
  cases c0 : Ec.trainOk e.sun
  · go_enter Tryz.func129, Tryz.ntmps129
    go_wp2_with fail
    refine wp_loop_rounds 4 ?_
    rw [rounds_succ]
    go_wp2_with fail
    refine (t_Turns_err p.As p.cs e.sun _ (HM.out.sun.ext HE0.out) hs0 c0).mono ?_
    rintro r w9 ⟨rfl, hE9⟩
    have HE9 := Lib.hid (HE0.out.trans hE9)
    clear hE9
    go_wp2_with fail
    go_ret
    exact ⟨ret_bool (by simp [Ec.engineOk, c0]), HE9.out.alloc _⟩
  cases c1 : Ec.trainOk e.moon
  · go_enter Tryz.func129, Tryz.ntmps129
    go_wp2_with fail
    refine wp_loop_rounds 4 ?_
    rw [rounds_succ]
    go_wp2_with fail
    refine (t_Turns_ok p.As p.cs e.sun _ (HM.out.sun.ext HE0.out) hs0 c0).mono ?_
    rintro r v0 ⟨b0, rfl, hE9⟩
    have HE1 := Lib.hid ((HE0.out.trans hE9).alloc (.cells #[.int .i64 (Ec.turnsN e.sun), .int .i64 (Ec.turnsD e.sun)] 69))
    have HX1 := Lib.hid ((HX0.out.ext hE9).alloc (.cells #[.int .i64 (Ec.turnsN e.sun), .int .i64 (Ec.turnsD e.sun)] 69))
    have HL1 := Lib.hid ((HL0.out.ext hE9).alloc (.cells #[.int .i64 (Ec.turnsN e.sun), .int .i64 (Ec.turnsD e.sun)] 69))
    have x0 := (HX0.out.ext hE9).cell
    have l0 := (HL0.out.ext hE9).cell
    have j0 := lts (HX0.out.ext hE9).lt
    have j1 := lts (HL0.out.ext hE9).lt
    clear hE9
    go_wp2_with fail
    rw [rounds_succ]
    go_wp2_with fail
    refine (t_Turns_err p.Am p.cm e.moon _ (HM.out.moon.ext HE1.out) hs1 c1).mono ?_
    rintro r w9 ⟨rfl, hE9⟩
    have HE9 := Lib.hid (HE1.out.trans hE9)
    clear hE9
    go_wp2_with fail
    go_ret
    exact ⟨ret_bool (by simp [Ec.engineOk, c1]), HE9.out.alloc _⟩
  cases c2 : Ec.trainOk e.node
  · go_enter Tryz.func129, Tryz.ntmps129
    go_wp2_with fail
    refine wp_loop_rounds 4 ?_
    rw [rounds_succ]
    go_wp2_with fail
    refine (t_Turns_ok p.As p.cs e.sun _ (HM.out.sun.ext HE0.out) hs0 c0).mono ?_
    rintro r v0 ⟨b0, rfl, hE9⟩
    have HE1 := Lib.hid ((HE0.out.trans hE9).alloc (.cells #[.int .i64 (Ec.turnsN e.sun), .int .i64 (Ec.turnsD e.sun)] 69))
    have HX1 := Lib.hid ((HX0.out.ext hE9).alloc (.cells #[.int .i64 (Ec.turnsN e.sun), .int .i64 (Ec.turnsD e.sun)] 69))
    have HL1 := Lib.hid ((HL0.out.ext hE9).alloc (.cells #[.int .i64 (Ec.turnsN e.sun), .int .i64 (Ec.turnsD e.sun)] 69))
    have x0 := (HX0.out.ext hE9).cell
    have l0 := (HL0.out.ext hE9).cell
    have j0 := lts (HX0.out.ext hE9).lt
    have j1 := lts (HL0.out.ext hE9).lt
    clear hE9
    go_wp2_with fail
    rw [rounds_succ]
    go_wp2_with fail
    refine (t_Turns_ok p.Am p.cm e.moon _ (HM.out.moon.ext HE1.out) hs1 c1).mono ?_
    rintro r v1 ⟨b1, rfl, hE9⟩
    have HE2 := Lib.hid ((HE1.out.trans hE9).alloc (.cells #[.int .i64 (Ec.turnsN e.moon), .int .i64 (Ec.turnsD e.moon)] 69))
    have HX2 := Lib.hid ((HX1.out.ext hE9).alloc (.cells #[.int .i64 (Ec.turnsN e.moon), .int .i64 (Ec.turnsD e.moon)] 69))
    have HL2 := Lib.hid ((HL1.out.ext hE9).alloc (.cells #[.int .i64 (Ec.turnsN e.moon), .int .i64 (Ec.turnsD e.moon)] 69))
    clear x0 l0 j0 j1
    have x0 := (HX1.out.ext hE9).cell
    have l0 := (HL1.out.ext hE9).cell
    have j0 := lts (HX1.out.ext hE9).lt
    have j1 := lts (HL1.out.ext hE9).lt
    clear hE9
    go_wp2_with fail
    rw [rounds_succ]
    go_wp2_with fail
    refine (t_Turns_err p.An p.cn e.node _ (HM.out.node.ext HE2.out) hs2 c2).mono ?_
    rintro r w9 ⟨rfl, hE9⟩
    have HE9 := Lib.hid (HE2.out.trans hE9)
    clear hE9
    go_wp2_with fail
    go_ret
    exact ⟨ret_bool (by simp [Ec.engineOk, c2]), HE9.out.alloc _⟩
  cases c3 : Sp.skyOk e.sky
  · go_enter Tryz.func129, Tryz.ntmps129
    go_wp2_with fail
    refine wp_loop_rounds 4 ?_
    rw [rounds_succ]
    go_wp2_with fail
    refine (t_Turns_ok p.As p.cs e.sun _ (HM.out.sun.ext HE0.out) hs0 c0).mono ?_
    rintro r v0 ⟨b0, rfl, hE9⟩
    have HE1 := Lib.hid ((HE0.out.trans hE9).alloc (.cells #[.int .i64 (Ec.turnsN e.sun), .int .i64 (Ec.turnsD e.sun)] 69))
    have HX1 := Lib.hid ((HX0.out.ext hE9).alloc (.cells #[.int .i64 (Ec.turnsN e.sun), .int .i64 (Ec.turnsD e.sun)] 69))
    have HL1 := Lib.hid ((HL0.out.ext hE9).alloc (.cells #[.int .i64 (Ec.turnsN e.sun), .int .i64 (Ec.turnsD e.sun)] 69))
    have x0 := (HX0.out.ext hE9).cell
    have l0 := (HL0.out.ext hE9).cell
    have j0 := lts (HX0.out.ext hE9).lt
    have j1 := lts (HL0.out.ext hE9).lt
    clear hE9
    go_wp2_with fail
    rw [rounds_succ]
    go_wp2_with fail
    refine (t_Turns_ok p.Am p.cm e.moon _ (HM.out.moon.ext HE1.out) hs1 c1).mono ?_
    rintro r v1 ⟨b1, rfl, hE9⟩
    have HE2 := Lib.hid ((HE1.out.trans hE9).alloc (.cells #[.int .i64 (Ec.turnsN e.moon), .int .i64 (Ec.turnsD e.moon)] 69))
    have HX2 := Lib.hid ((HX1.out.ext hE9).alloc (.cells #[.int .i64 (Ec.turnsN e.moon), .int .i64 (Ec.turnsD e.moon)] 69))
    have HL2 := Lib.hid ((HL1.out.ext hE9).alloc (.cells #[.int .i64 (Ec.turnsN e.moon), .int .i64 (Ec.turnsD e.moon)] 69))
    clear x0 l0 j0 j1
    have x0 := (HX1.out.ext hE9).cell
    have l0 := (HL1.out.ext hE9).cell
    have j0 := lts (HX1.out.ext hE9).lt
    have j1 := lts (HL1.out.ext hE9).lt
    clear hE9
    go_wp2_with fail
    rw [rounds_succ]
    go_wp2_with fail
    refine (t_Turns_ok p.An p.cn e.node _ (HM.out.node.ext HE2.out) hs2 c2).mono ?_
    rintro r v2 ⟨b2, rfl, hE9⟩
    have HE3 := Lib.hid ((HE2.out.trans hE9).alloc (.cells #[.int .i64 (Ec.turnsN e.node), .int .i64 (Ec.turnsD e.node)] 69))
    have HX3 := Lib.hid ((HX2.out.ext hE9).alloc (.cells #[.int .i64 (Ec.turnsN e.node), .int .i64 (Ec.turnsD e.node)] 69))
    have HL3 := Lib.hid ((HL2.out.ext hE9).alloc (.cells #[.int .i64 (Ec.turnsN e.node), .int .i64 (Ec.turnsD e.node)] 69))
    clear x0 l0 j0 j1
    have x0 := (HX2.out.ext hE9).cell
    have l0 := (HL2.out.ext hE9).cell
    have j0 := lts (HX2.out.ext hE9).lt
    have j1 := lts (HL2.out.ext hE9).lt
    clear hE9
    go_wp2_with fail
    rw [rounds_succ]
    go_wp2_with fail
    refine (Month_err e.sky p.Ab p.cb _ (HM.out.bodies.ext HE3.out) hs3 c3).mono ?_
    rintro r w9 ⟨rfl, hE9⟩
    have HE9 := Lib.hid (HE3.out.trans hE9)
    have HX9 := Lib.hid (HX3.out.ext hE9)
    clear x0 l0 j0 j1 hE9
    have x0 := HX9.out.cell
    go_wp2_with fail
    go_ret
    exact ⟨ret_bool (by simp [Ec.engineOk, c3]), HE9.out⟩
  cases c4 : Sp.isMonth e.sky
  · go_enter Tryz.func129, Tryz.ntmps129
    go_wp2_with fail
    refine wp_loop_rounds 4 ?_
    rw [rounds_succ]
    go_wp2_with fail
    refine (t_Turns_ok p.As p.cs e.sun _ (HM.out.sun.ext HE0.out) hs0 c0).mono ?_
    rintro r v0 ⟨b0, rfl, hE9⟩
    have HE1 := Lib.hid ((HE0.out.trans hE9).alloc (.cells #[.int .i64 (Ec.turnsN e.sun), .int .i64 (Ec.turnsD e.sun)] 69))
    have HX1 := Lib.hid ((HX0.out.ext hE9).alloc (.cells #[.int .i64 (Ec.turnsN e.sun), .int .i64 (Ec.turnsD e.sun)] 69))
    have HL1 := Lib.hid ((HL0.out.ext hE9).alloc (.cells #[.int .i64 (Ec.turnsN e.sun), .int .i64 (Ec.turnsD e.sun)] 69))
    have x0 := (HX0.out.ext hE9).cell
    have l0 := (HL0.out.ext hE9).cell
    have j0 := lts (HX0.out.ext hE9).lt
    have j1 := lts (HL0.out.ext hE9).lt
    clear hE9
    go_wp2_with fail
    rw [rounds_succ]
    go_wp2_with fail
    refine (t_Turns_ok p.Am p.cm e.moon _ (HM.out.moon.ext HE1.out) hs1 c1).mono ?_
    rintro r v1 ⟨b1, rfl, hE9⟩
    have HE2 := Lib.hid ((HE1.out.trans hE9).alloc (.cells #[.int .i64 (Ec.turnsN e.moon), .int .i64 (Ec.turnsD e.moon)] 69))
    have HX2 := Lib.hid ((HX1.out.ext hE9).alloc (.cells #[.int .i64 (Ec.turnsN e.moon), .int .i64 (Ec.turnsD e.moon)] 69))
    have HL2 := Lib.hid ((HL1.out.ext hE9).alloc (.cells #[.int .i64 (Ec.turnsN e.moon), .int .i64 (Ec.turnsD e.moon)] 69))
    clear x0 l0 j0 j1
    have x0 := (HX1.out.ext hE9).cell
    have l0 := (HL1.out.ext hE9).cell
    have j0 := lts (HX1.out.ext hE9).lt
    have j1 := lts (HL1.out.ext hE9).lt
    clear hE9
    go_wp2_with fail
    rw [rounds_succ]
    go_wp2_with fail
    refine (t_Turns_ok p.An p.cn e.node _ (HM.out.node.ext HE2.out) hs2 c2).mono ?_
    rintro r v2 ⟨b2, rfl, hE9⟩
    have HE3 := Lib.hid ((HE2.out.trans hE9).alloc (.cells #[.int .i64 (Ec.turnsN e.node), .int .i64 (Ec.turnsD e.node)] 69))
    have HX3 := Lib.hid ((HX2.out.ext hE9).alloc (.cells #[.int .i64 (Ec.turnsN e.node), .int .i64 (Ec.turnsD e.node)] 69))
    have HL3 := Lib.hid ((HL2.out.ext hE9).alloc (.cells #[.int .i64 (Ec.turnsN e.node), .int .i64 (Ec.turnsD e.node)] 69))
    clear x0 l0 j0 j1
    have x0 := (HX2.out.ext hE9).cell
    have l0 := (HL2.out.ext hE9).cell
    have j0 := lts (HX2.out.ext hE9).lt
    have j1 := lts (HL2.out.ext hE9).lt
    clear hE9
    go_wp2_with fail
    rw [rounds_succ]
    go_wp2_with fail
    refine (MonthNo_ok e.sky p.Ab p.cb _ (HM.out.bodies.ext HE3.out) hs3 c4 c3).mono ?_
    rintro r w9 ⟨rfl, hE9⟩
    have HE9 := Lib.hid (HE3.out.trans hE9)
    have HX9 := Lib.hid (HX3.out.ext hE9)
    clear x0 l0 j0 j1 hE9
    have x0 := HX9.out.cell
    go_wp2_with fail
    go_ret
    exact ⟨ret_bool (by simp [Ec.engineOk, c3, c4]), HE9.out⟩
  by_cases c5 : e.feasts.length ≤ 8
  rotate_left
  · have c5d : decide ((e.feasts.length : Int) ≤ 8) = false := by simp; omega
    go_enter Tryz.func129, Tryz.ntmps129
    go_wp2_with fail
    refine wp_loop_rounds 4 ?_
    rw [rounds_succ]
    go_wp2_with fail
    refine (t_Turns_ok p.As p.cs e.sun _ (HM.out.sun.ext HE0.out) hs0 c0).mono ?_
    rintro r v0 ⟨b0, rfl, hE9⟩
    have HE1 := Lib.hid ((HE0.out.trans hE9).alloc (.cells #[.int .i64 (Ec.turnsN e.sun), .int .i64 (Ec.turnsD e.sun)] 69))
    have HX1 := Lib.hid ((HX0.out.ext hE9).alloc (.cells #[.int .i64 (Ec.turnsN e.sun), .int .i64 (Ec.turnsD e.sun)] 69))
    have HL1 := Lib.hid ((HL0.out.ext hE9).alloc (.cells #[.int .i64 (Ec.turnsN e.sun), .int .i64 (Ec.turnsD e.sun)] 69))
    have x0 := (HX0.out.ext hE9).cell
    have l0 := (HL0.out.ext hE9).cell
    have j0 := lts (HX0.out.ext hE9).lt
    have j1 := lts (HL0.out.ext hE9).lt
    clear hE9
    go_wp2_with fail
    rw [rounds_succ]
    go_wp2_with fail
    refine (t_Turns_ok p.Am p.cm e.moon _ (HM.out.moon.ext HE1.out) hs1 c1).mono ?_
    rintro r v1 ⟨b1, rfl, hE9⟩
    have HE2 := Lib.hid ((HE1.out.trans hE9).alloc (.cells #[.int .i64 (Ec.turnsN e.moon), .int .i64 (Ec.turnsD e.moon)] 69))
    have HX2 := Lib.hid ((HX1.out.ext hE9).alloc (.cells #[.int .i64 (Ec.turnsN e.moon), .int .i64 (Ec.turnsD e.moon)] 69))
    have HL2 := Lib.hid ((HL1.out.ext hE9).alloc (.cells #[.int .i64 (Ec.turnsN e.moon), .int .i64 (Ec.turnsD e.moon)] 69))
    clear x0 l0 j0 j1
    have x0 := (HX1.out.ext hE9).cell
    have l0 := (HL1.out.ext hE9).cell
    have j0 := lts (HX1.out.ext hE9).lt
    have j1 := lts (HL1.out.ext hE9).lt
    clear hE9
    go_wp2_with fail
    rw [rounds_succ]
    go_wp2_with fail
    refine (t_Turns_ok p.An p.cn e.node _ (HM.out.node.ext HE2.out) hs2 c2).mono ?_
    rintro r v2 ⟨b2, rfl, hE9⟩
    have HE3 := Lib.hid ((HE2.out.trans hE9).alloc (.cells #[.int .i64 (Ec.turnsN e.node), .int .i64 (Ec.turnsD e.node)] 69))
    have HX3 := Lib.hid ((HX2.out.ext hE9).alloc (.cells #[.int .i64 (Ec.turnsN e.node), .int .i64 (Ec.turnsD e.node)] 69))
    have HL3 := Lib.hid ((HL2.out.ext hE9).alloc (.cells #[.int .i64 (Ec.turnsN e.node), .int .i64 (Ec.turnsD e.node)] 69))
    clear x0 l0 j0 j1
    have x0 := (HX2.out.ext hE9).cell
    have l0 := (HL2.out.ext hE9).cell
    have j0 := lts (HX2.out.ext hE9).lt
    have j1 := lts (HL2.out.ext hE9).lt
    clear hE9
    go_wp2_with fail
    rw [rounds_succ]
    go_wp2_with fail
    refine (Month_ok e.sky p.Ab p.cb _ (HM.out.bodies.ext HE3.out) hs3 c4 c3).mono ?_
    rintro r w9 ⟨rfl, hE9⟩
    have HE9 := Lib.hid (HE3.out.trans hE9)
    have HX9 := Lib.hid (HX3.out.ext hE9)
    clear x0 l0 j0 j1 hE9
    have x0 := HX9.out.cell
    go_wp2_with fail
    go_ret
    exact ⟨ret_bool (by simp [Ec.engineOk, Ec.feastsOk, c5]), HE9.out⟩
  have c5d : decide ((e.feasts.length : Int) ≤ 8) = true := by simp; omega
  cases c6 : Ec.rising e.feasts 1 10000
  · go_enter Tryz.func129, Tryz.ntmps129
    go_wp2_with fail
    refine wp_loop_rounds 4 ?_
    rw [rounds_succ]
    go_wp2_with fail
    refine (t_Turns_ok p.As p.cs e.sun _ (HM.out.sun.ext HE0.out) hs0 c0).mono ?_
    rintro r v0 ⟨b0, rfl, hE9⟩
    have HE1 := Lib.hid ((HE0.out.trans hE9).alloc (.cells #[.int .i64 (Ec.turnsN e.sun), .int .i64 (Ec.turnsD e.sun)] 69))
    have HX1 := Lib.hid ((HX0.out.ext hE9).alloc (.cells #[.int .i64 (Ec.turnsN e.sun), .int .i64 (Ec.turnsD e.sun)] 69))
    have HL1 := Lib.hid ((HL0.out.ext hE9).alloc (.cells #[.int .i64 (Ec.turnsN e.sun), .int .i64 (Ec.turnsD e.sun)] 69))
    have x0 := (HX0.out.ext hE9).cell
    have l0 := (HL0.out.ext hE9).cell
    have j0 := lts (HX0.out.ext hE9).lt
    have j1 := lts (HL0.out.ext hE9).lt
    clear hE9
    go_wp2_with fail
    rw [rounds_succ]
    go_wp2_with fail
    refine (t_Turns_ok p.Am p.cm e.moon _ (HM.out.moon.ext HE1.out) hs1 c1).mono ?_
    rintro r v1 ⟨b1, rfl, hE9⟩
    have HE2 := Lib.hid ((HE1.out.trans hE9).alloc (.cells #[.int .i64 (Ec.turnsN e.moon), .int .i64 (Ec.turnsD e.moon)] 69))
    have HX2 := Lib.hid ((HX1.out.ext hE9).alloc (.cells #[.int .i64 (Ec.turnsN e.moon), .int .i64 (Ec.turnsD e.moon)] 69))
    have HL2 := Lib.hid ((HL1.out.ext hE9).alloc (.cells #[.int .i64 (Ec.turnsN e.moon), .int .i64 (Ec.turnsD e.moon)] 69))
    clear x0 l0 j0 j1
    have x0 := (HX1.out.ext hE9).cell
    have l0 := (HL1.out.ext hE9).cell
    have j0 := lts (HX1.out.ext hE9).lt
    have j1 := lts (HL1.out.ext hE9).lt
    clear hE9
    go_wp2_with fail
    rw [rounds_succ]
    go_wp2_with fail
    refine (t_Turns_ok p.An p.cn e.node _ (HM.out.node.ext HE2.out) hs2 c2).mono ?_
    rintro r v2 ⟨b2, rfl, hE9⟩
    have HE3 := Lib.hid ((HE2.out.trans hE9).alloc (.cells #[.int .i64 (Ec.turnsN e.node), .int .i64 (Ec.turnsD e.node)] 69))
    have HX3 := Lib.hid ((HX2.out.ext hE9).alloc (.cells #[.int .i64 (Ec.turnsN e.node), .int .i64 (Ec.turnsD e.node)] 69))
    have HL3 := Lib.hid ((HL2.out.ext hE9).alloc (.cells #[.int .i64 (Ec.turnsN e.node), .int .i64 (Ec.turnsD e.node)] 69))
    clear x0 l0 j0 j1
    have x0 := (HX2.out.ext hE9).cell
    have l0 := (HL2.out.ext hE9).cell
    have j0 := lts (HX2.out.ext hE9).lt
    have j1 := lts (HL2.out.ext hE9).lt
    clear hE9
    go_wp2_with fail
    rw [rounds_succ]
    go_wp2_with fail
    refine (Month_ok e.sky p.Ab p.cb _ (HM.out.bodies.ext HE3.out) hs3 c4 c3).mono ?_
    rintro r w9 ⟨rfl, hE9⟩
    have HE9 := Lib.hid (HE3.out.trans hE9)
    have HX9 := Lib.hid (HX3.out.ext hE9)
    clear x0 l0 j0 j1 hE9
    have x0 := HX9.out.cell
    go_wp2_with fail
    refine (e_rising_any p.Af p.cf e.feasts 1 10000 _ (HM.out.feasts.ext HE9.out) hs4).mono ?_
    rintro r w8 ⟨rfl, rfl⟩
    go_wp2_with fail
    go_ret
    exact ⟨ret_bool (by simp [Ec.engineOk, Ec.feastsOk, c6]), HE9.out⟩
  cases c7 : Sp.isLimit e.nw
  · go_enter Tryz.func129, Tryz.ntmps129
    go_wp2_with fail
    refine wp_loop_rounds 4 ?_
    rw [rounds_succ]
    go_wp2_with fail
    refine (t_Turns_ok p.As p.cs e.sun _ (HM.out.sun.ext HE0.out) hs0 c0).mono ?_
    rintro r v0 ⟨b0, rfl, hE9⟩
    have HE1 := Lib.hid ((HE0.out.trans hE9).alloc (.cells #[.int .i64 (Ec.turnsN e.sun), .int .i64 (Ec.turnsD e.sun)] 69))
    have HX1 := Lib.hid ((HX0.out.ext hE9).alloc (.cells #[.int .i64 (Ec.turnsN e.sun), .int .i64 (Ec.turnsD e.sun)] 69))
    have HL1 := Lib.hid ((HL0.out.ext hE9).alloc (.cells #[.int .i64 (Ec.turnsN e.sun), .int .i64 (Ec.turnsD e.sun)] 69))
    have x0 := (HX0.out.ext hE9).cell
    have l0 := (HL0.out.ext hE9).cell
    have j0 := lts (HX0.out.ext hE9).lt
    have j1 := lts (HL0.out.ext hE9).lt
    clear hE9
    go_wp2_with fail
    rw [rounds_succ]
    go_wp2_with fail
    refine (t_Turns_ok p.Am p.cm e.moon _ (HM.out.moon.ext HE1.out) hs1 c1).mono ?_
    rintro r v1 ⟨b1, rfl, hE9⟩
    have HE2 := Lib.hid ((HE1.out.trans hE9).alloc (.cells #[.int .i64 (Ec.turnsN e.moon), .int .i64 (Ec.turnsD e.moon)] 69))
    have HX2 := Lib.hid ((HX1.out.ext hE9).alloc (.cells #[.int .i64 (Ec.turnsN e.moon), .int .i64 (Ec.turnsD e.moon)] 69))
    have HL2 := Lib.hid ((HL1.out.ext hE9).alloc (.cells #[.int .i64 (Ec.turnsN e.moon), .int .i64 (Ec.turnsD e.moon)] 69))
    clear x0 l0 j0 j1
    have x0 := (HX1.out.ext hE9).cell
    have l0 := (HL1.out.ext hE9).cell
    have j0 := lts (HX1.out.ext hE9).lt
    have j1 := lts (HL1.out.ext hE9).lt
    clear hE9
    go_wp2_with fail
    rw [rounds_succ]
    go_wp2_with fail
    refine (t_Turns_ok p.An p.cn e.node _ (HM.out.node.ext HE2.out) hs2 c2).mono ?_
    rintro r v2 ⟨b2, rfl, hE9⟩
    have HE3 := Lib.hid ((HE2.out.trans hE9).alloc (.cells #[.int .i64 (Ec.turnsN e.node), .int .i64 (Ec.turnsD e.node)] 69))
    have HX3 := Lib.hid ((HX2.out.ext hE9).alloc (.cells #[.int .i64 (Ec.turnsN e.node), .int .i64 (Ec.turnsD e.node)] 69))
    have HL3 := Lib.hid ((HL2.out.ext hE9).alloc (.cells #[.int .i64 (Ec.turnsN e.node), .int .i64 (Ec.turnsD e.node)] 69))
    clear x0 l0 j0 j1
    have x0 := (HX2.out.ext hE9).cell
    have l0 := (HL2.out.ext hE9).cell
    have j0 := lts (HX2.out.ext hE9).lt
    have j1 := lts (HL2.out.ext hE9).lt
    clear hE9
    go_wp2_with fail
    rw [rounds_succ]
    go_wp2_with fail
    refine (Month_ok e.sky p.Ab p.cb _ (HM.out.bodies.ext HE3.out) hs3 c4 c3).mono ?_
    rintro r w9 ⟨rfl, hE9⟩
    have HE9 := Lib.hid (HE3.out.trans hE9)
    have HX9 := Lib.hid (HX3.out.ext hE9)
    clear x0 l0 j0 j1 hE9
    have x0 := HX9.out.cell
    go_wp2_with fail
    refine (e_rising_any p.Af p.cf e.feasts 1 10000 _ (HM.out.feasts.ext HE9.out) hs4).mono ?_
    rintro r w8 ⟨rfl, rfl⟩
    go_wp2_with fail
    refine (e_isLimit_any e.nw _).mono ?_
    rintro r w8 ⟨rfl, rfl⟩
    go_wp2_with fail
    go_ret
    exact ⟨ret_bool (by simp [Ec.engineOk, c7]), HE9.out⟩
  cases c8 : Sp.isLimit e.fl
  · go_enter Tryz.func129, Tryz.ntmps129
    go_wp2_with fail
    refine wp_loop_rounds 4 ?_
    rw [rounds_succ]
    go_wp2_with fail
    refine (t_Turns_ok p.As p.cs e.sun _ (HM.out.sun.ext HE0.out) hs0 c0).mono ?_
    rintro r v0 ⟨b0, rfl, hE9⟩
    have HE1 := Lib.hid ((HE0.out.trans hE9).alloc (.cells #[.int .i64 (Ec.turnsN e.sun), .int .i64 (Ec.turnsD e.sun)] 69))
    have HX1 := Lib.hid ((HX0.out.ext hE9).alloc (.cells #[.int .i64 (Ec.turnsN e.sun), .int .i64 (Ec.turnsD e.sun)] 69))
    have HL1 := Lib.hid ((HL0.out.ext hE9).alloc (.cells #[.int .i64 (Ec.turnsN e.sun), .int .i64 (Ec.turnsD e.sun)] 69))
    have x0 := (HX0.out.ext hE9).cell
    have l0 := (HL0.out.ext hE9).cell
    have j0 := lts (HX0.out.ext hE9).lt
    have j1 := lts (HL0.out.ext hE9).lt
    clear hE9
    go_wp2_with fail
    rw [rounds_succ]
    go_wp2_with fail
    refine (t_Turns_ok p.Am p.cm e.moon _ (HM.out.moon.ext HE1.out) hs1 c1).mono ?_
    rintro r v1 ⟨b1, rfl, hE9⟩
    have HE2 := Lib.hid ((HE1.out.trans hE9).alloc (.cells #[.int .i64 (Ec.turnsN e.moon), .int .i64 (Ec.turnsD e.moon)] 69))
    have HX2 := Lib.hid ((HX1.out.ext hE9).alloc (.cells #[.int .i64 (Ec.turnsN e.moon), .int .i64 (Ec.turnsD e.moon)] 69))
    have HL2 := Lib.hid ((HL1.out.ext hE9).alloc (.cells #[.int .i64 (Ec.turnsN e.moon), .int .i64 (Ec.turnsD e.moon)] 69))
    clear x0 l0 j0 j1
    have x0 := (HX1.out.ext hE9).cell
    have l0 := (HL1.out.ext hE9).cell
    have j0 := lts (HX1.out.ext hE9).lt
    have j1 := lts (HL1.out.ext hE9).lt
    clear hE9
    go_wp2_with fail
    rw [rounds_succ]
    go_wp2_with fail
    refine (t_Turns_ok p.An p.cn e.node _ (HM.out.node.ext HE2.out) hs2 c2).mono ?_
    rintro r v2 ⟨b2, rfl, hE9⟩
    have HE3 := Lib.hid ((HE2.out.trans hE9).alloc (.cells #[.int .i64 (Ec.turnsN e.node), .int .i64 (Ec.turnsD e.node)] 69))
    have HX3 := Lib.hid ((HX2.out.ext hE9).alloc (.cells #[.int .i64 (Ec.turnsN e.node), .int .i64 (Ec.turnsD e.node)] 69))
    have HL3 := Lib.hid ((HL2.out.ext hE9).alloc (.cells #[.int .i64 (Ec.turnsN e.node), .int .i64 (Ec.turnsD e.node)] 69))
    clear x0 l0 j0 j1
    have x0 := (HX2.out.ext hE9).cell
    have l0 := (HL2.out.ext hE9).cell
    have j0 := lts (HX2.out.ext hE9).lt
    have j1 := lts (HL2.out.ext hE9).lt
    clear hE9
    go_wp2_with fail
    rw [rounds_succ]
    go_wp2_with fail
    refine (Month_ok e.sky p.Ab p.cb _ (HM.out.bodies.ext HE3.out) hs3 c4 c3).mono ?_
    rintro r w9 ⟨rfl, hE9⟩
    have HE9 := Lib.hid (HE3.out.trans hE9)
    have HX9 := Lib.hid (HX3.out.ext hE9)
    clear x0 l0 j0 j1 hE9
    have x0 := HX9.out.cell
    go_wp2_with fail
    refine (e_rising_any p.Af p.cf e.feasts 1 10000 _ (HM.out.feasts.ext HE9.out) hs4).mono ?_
    rintro r w8 ⟨rfl, rfl⟩
    go_wp2_with fail
    refine (e_isLimit_any e.nw _).mono ?_
    rintro r w8 ⟨rfl, rfl⟩
    go_wp2_with fail
    refine (e_isLimit_any e.fl _).mono ?_
    rintro r w8 ⟨rfl, rfl⟩
    go_wp2_with fail
    go_ret
    exact ⟨ret_bool (by simp [Ec.engineOk, c8]), HE9.out⟩
  cases c9 : Sp.isLimit e.wide
  · go_enter Tryz.func129, Tryz.ntmps129
    go_wp2_with fail
    refine wp_loop_rounds 4 ?_
    rw [rounds_succ]
    go_wp2_with fail
    refine (t_Turns_ok p.As p.cs e.sun _ (HM.out.sun.ext HE0.out) hs0 c0).mono ?_
    rintro r v0 ⟨b0, rfl, hE9⟩
    have HE1 := Lib.hid ((HE0.out.trans hE9).alloc (.cells #[.int .i64 (Ec.turnsN e.sun), .int .i64 (Ec.turnsD e.sun)] 69))
    have HX1 := Lib.hid ((HX0.out.ext hE9).alloc (.cells #[.int .i64 (Ec.turnsN e.sun), .int .i64 (Ec.turnsD e.sun)] 69))
    have HL1 := Lib.hid ((HL0.out.ext hE9).alloc (.cells #[.int .i64 (Ec.turnsN e.sun), .int .i64 (Ec.turnsD e.sun)] 69))
    have x0 := (HX0.out.ext hE9).cell
    have l0 := (HL0.out.ext hE9).cell
    have j0 := lts (HX0.out.ext hE9).lt
    have j1 := lts (HL0.out.ext hE9).lt
    clear hE9
    go_wp2_with fail
    rw [rounds_succ]
    go_wp2_with fail
    refine (t_Turns_ok p.Am p.cm e.moon _ (HM.out.moon.ext HE1.out) hs1 c1).mono ?_
    rintro r v1 ⟨b1, rfl, hE9⟩
    have HE2 := Lib.hid ((HE1.out.trans hE9).alloc (.cells #[.int .i64 (Ec.turnsN e.moon), .int .i64 (Ec.turnsD e.moon)] 69))
    have HX2 := Lib.hid ((HX1.out.ext hE9).alloc (.cells #[.int .i64 (Ec.turnsN e.moon), .int .i64 (Ec.turnsD e.moon)] 69))
    have HL2 := Lib.hid ((HL1.out.ext hE9).alloc (.cells #[.int .i64 (Ec.turnsN e.moon), .int .i64 (Ec.turnsD e.moon)] 69))
    clear x0 l0 j0 j1
    have x0 := (HX1.out.ext hE9).cell
    have l0 := (HL1.out.ext hE9).cell
    have j0 := lts (HX1.out.ext hE9).lt
    have j1 := lts (HL1.out.ext hE9).lt
    clear hE9
    go_wp2_with fail
    rw [rounds_succ]
    go_wp2_with fail
    refine (t_Turns_ok p.An p.cn e.node _ (HM.out.node.ext HE2.out) hs2 c2).mono ?_
    rintro r v2 ⟨b2, rfl, hE9⟩
    have HE3 := Lib.hid ((HE2.out.trans hE9).alloc (.cells #[.int .i64 (Ec.turnsN e.node), .int .i64 (Ec.turnsD e.node)] 69))
    have HX3 := Lib.hid ((HX2.out.ext hE9).alloc (.cells #[.int .i64 (Ec.turnsN e.node), .int .i64 (Ec.turnsD e.node)] 69))
    have HL3 := Lib.hid ((HL2.out.ext hE9).alloc (.cells #[.int .i64 (Ec.turnsN e.node), .int .i64 (Ec.turnsD e.node)] 69))
    clear x0 l0 j0 j1
    have x0 := (HX2.out.ext hE9).cell
    have l0 := (HL2.out.ext hE9).cell
    have j0 := lts (HX2.out.ext hE9).lt
    have j1 := lts (HL2.out.ext hE9).lt
    clear hE9
    go_wp2_with fail
    rw [rounds_succ]
    go_wp2_with fail
    refine (Month_ok e.sky p.Ab p.cb _ (HM.out.bodies.ext HE3.out) hs3 c4 c3).mono ?_
    rintro r w9 ⟨rfl, hE9⟩
    have HE9 := Lib.hid (HE3.out.trans hE9)
    have HX9 := Lib.hid (HX3.out.ext hE9)
    clear x0 l0 j0 j1 hE9
    have x0 := HX9.out.cell
    go_wp2_with fail
    refine (e_rising_any p.Af p.cf e.feasts 1 10000 _ (HM.out.feasts.ext HE9.out) hs4).mono ?_
    rintro r w8 ⟨rfl, rfl⟩
    go_wp2_with fail
    refine (e_isLimit_any e.nw _).mono ?_
    rintro r w8 ⟨rfl, rfl⟩
    go_wp2_with fail
    refine (e_isLimit_any e.fl _).mono ?_
    rintro r w8 ⟨rfl, rfl⟩
    go_wp2_with fail
    refine (e_isLimit_any e.wide _).mono ?_
    rintro r w8 ⟨rfl, rfl⟩
    go_wp2_with fail
    go_ret
    exact ⟨ret_bool (by simp [Ec.engineOk, c9]), HE9.out⟩
  go_enter Tryz.func129, Tryz.ntmps129
  go_wp2_with fail
  refine wp_loop_rounds 4 ?_
  rw [rounds_succ]
  go_wp2_with fail
  refine (t_Turns_ok p.As p.cs e.sun _ (HM.out.sun.ext HE0.out) hs0 c0).mono ?_
  rintro r v0 ⟨b0, rfl, hE9⟩
  have HE1 := Lib.hid ((HE0.out.trans hE9).alloc (.cells #[.int .i64 (Ec.turnsN e.sun), .int .i64 (Ec.turnsD e.sun)] 69))
  have HX1 := Lib.hid ((HX0.out.ext hE9).alloc (.cells #[.int .i64 (Ec.turnsN e.sun), .int .i64 (Ec.turnsD e.sun)] 69))
  have HL1 := Lib.hid ((HL0.out.ext hE9).alloc (.cells #[.int .i64 (Ec.turnsN e.sun), .int .i64 (Ec.turnsD e.sun)] 69))
  have x0 := (HX0.out.ext hE9).cell
  have l0 := (HL0.out.ext hE9).cell
  have j0 := lts (HX0.out.ext hE9).lt
  have j1 := lts (HL0.out.ext hE9).lt
  clear hE9
  go_wp2_with fail
  rw [rounds_succ]
  go_wp2_with fail
  refine (t_Turns_ok p.Am p.cm e.moon _ (HM.out.moon.ext HE1.out) hs1 c1).mono ?_
  rintro r v1 ⟨b1, rfl, hE9⟩
  have HE2 := Lib.hid ((HE1.out.trans hE9).alloc (.cells #[.int .i64 (Ec.turnsN e.moon), .int .i64 (Ec.turnsD e.moon)] 69))
  have HX2 := Lib.hid ((HX1.out.ext hE9).alloc (.cells #[.int .i64 (Ec.turnsN e.moon), .int .i64 (Ec.turnsD e.moon)] 69))
  have HL2 := Lib.hid ((HL1.out.ext hE9).alloc (.cells #[.int .i64 (Ec.turnsN e.moon), .int .i64 (Ec.turnsD e.moon)] 69))
  clear x0 l0 j0 j1
  have x0 := (HX1.out.ext hE9).cell
  have l0 := (HL1.out.ext hE9).cell
  have j0 := lts (HX1.out.ext hE9).lt
  have j1 := lts (HL1.out.ext hE9).lt
  clear hE9
  go_wp2_with fail
  rw [rounds_succ]
  go_wp2_with fail
  refine (t_Turns_ok p.An p.cn e.node _ (HM.out.node.ext HE2.out) hs2 c2).mono ?_
  rintro r v2 ⟨b2, rfl, hE9⟩
  have HE3 := Lib.hid ((HE2.out.trans hE9).alloc (.cells #[.int .i64 (Ec.turnsN e.node), .int .i64 (Ec.turnsD e.node)] 69))
  have HX3 := Lib.hid ((HX2.out.ext hE9).alloc (.cells #[.int .i64 (Ec.turnsN e.node), .int .i64 (Ec.turnsD e.node)] 69))
  have HL3 := Lib.hid ((HL2.out.ext hE9).alloc (.cells #[.int .i64 (Ec.turnsN e.node), .int .i64 (Ec.turnsD e.node)] 69))
  clear x0 l0 j0 j1
  have x0 := (HX2.out.ext hE9).cell
  have l0 := (HL2.out.ext hE9).cell
  have j0 := lts (HX2.out.ext hE9).lt
  have j1 := lts (HL2.out.ext hE9).lt
  clear hE9
  go_wp2_with fail
  rw [rounds_succ]
  go_wp2_with fail
  refine (Month_ok e.sky p.Ab p.cb _ (HM.out.bodies.ext HE3.out) hs3 c4 c3).mono ?_
  rintro r w9 ⟨rfl, hE9⟩
  have HE9 := Lib.hid (HE3.out.trans hE9)
  have HX9 := Lib.hid (HX3.out.ext hE9)
  clear x0 l0 j0 j1 hE9
  have x0 := HX9.out.cell
  go_wp2_with fail
  refine (e_rising_any p.Af p.cf e.feasts 1 10000 _ (HM.out.feasts.ext HE9.out) hs4).mono ?_
  rintro r w8 ⟨rfl, rfl⟩
  go_wp2_with fail
  refine (e_isLimit_any e.nw _).mono ?_
  rintro r w8 ⟨rfl, rfl⟩
  go_wp2_with fail
  refine (e_isLimit_any e.fl _).mono ?_
  rintro r w8 ⟨rfl, rfl⟩
  go_wp2_with fail
  refine (e_isLimit_any e.wide _).mono ?_
  rintro r w8 ⟨rfl, rfl⟩
  go_wp2_with fail
  go_ret
  exact ⟨ret_bool (by simp [Ec.engineOk, Ec.feastsOk, c0, c1, c2, c3, c4, c5, c6, c7, c8, c9]), HE9.out⟩
end Go.Proofs.YtimkmokomohgjaaGreat
namespace Go.Proofs.YtimkmokomohgjaaGreat
open Go.RowKit
open Sp (rd)
set_option maxRecDepth 100000
set_option maxHeartbeats 1000000
theorem e_sun_any (p : EP) (e : Ec.Engine) (set : List Int) (M : Nat) (day : Int) (w : World) (hK : Fine e set) (hm : EngSet w p e set) (h1 : 0 ≤ day) (h2 : day ≤ 9030) :
    Calls Tryz.prog 131 #[.agg #[.slice p.Ab e.sky.bodies.length p.cb, .int .i64 e.sky.nnum, .int .i64 e.sky.nden, .int .i64 e.sky.nstart, .slice p.As e.sun.length p.cs, .slice p.Am e.moon.length p.cm, .slice p.An e.node.length p.cn, .slice p.Af e.feasts.length p.cf, .int .i64 e.nw, .int .i64 e.fl, .int .i64 e.wide, .slice p.At set.length p.ct, .map (some M)], .int .i64 day] w fun r w' => r = .returned (.int .i64 (Ec.sunAt e set day)) ∧ Ext w w' := by
  have hn2 := hK.sky.n2
  have hB := hK.sky.body (i := 0) (by omega) (by omega)
  obtain ⟨k1, k2, k3, k4, k5, k6, k7, _, _, _⟩ := hB
  have hT := (engineOk_parts hK.eng).1.1
  have hs := shown_bounds hT (Sp.body e.sky 0).den (Sp.body e.sky 0).num e.feasts set day k1
  obtain ⟨b, o, hb, hBA⟩ := hm.eng.bodies.at_ (i := 0) (by omega) (by omega)
  obtain ⟨hnum, hden, hstart, A, rc, hroad, _⟩ := hBA
  have hlt := lts (lt_of_cell hnum)
  simp only [Int.reduceToNat, Nat.reduceMul, Nat.add_zero] at hnum hden hstart hroad hlt
  have hFIN : Hid (Ec.sunAt e set day = ((Sp.body e.sky 0).start + Ec.shown e.sun (Sp.body e.sky 0).den (Sp.body e.sky 0).num e.feasts set day) % 21600) := Lib.hid rfl
  have HK := Lib.hid hK
  obtain ⟨Ab, cb, As, cs, Am, cm, An, cn, Af, cf, At, ct⟩ := p
  obtain rfl : Ab = some ⟨b, o, none⟩ := hb
  have HM := Lib.hid hm
  clear hK hm
  rw [hFIN.out]
  dsimp only
  generalize (Sp.body e.sky 0).num = num at *
  generalize (Sp.body e.sky 0).den = den at *
  generalize (Sp.body e.sky 0).start = start at *
  obtain ⟨HS, hHS⟩ : ∃ S, Ec.shown e.sun den num e.feasts set day = S := ⟨_, rfl⟩
  have HSH := Lib.hid hHS
  rw [hHS] at hs ⊢
  clear hHS hFIN
  go_enter Tryz.func131, Tryz.ntmps131
  go_wp2_with fail
  refine wp_region_later (by kernel_rfl) (by kernel_rfl) (fun W hW => ?_)
  have q1 := Later.block (w := W) (by rw [hW]; exact (blocks2 _ _ _).1)
  have q2 := Later.block (w := W) (by rw [hW]; exact (blocks2 _ _ _).2)
  have hE0 : Ext w W := by rw [hW]; exact ((Ext.refl _).alloc _).alloc _
  clear hW hnum hden hstart hroad hlt
  have HB := Lib.hid (fun x : Later W => HM.out.ext (hE0.trans x.ext))
  have HCS := Lib.hid (fun x : Later W => by have := e_shown_any ⟨some ⟨b, o, none⟩, cb, As, cs, Am, cm, An, cn, Af, cf, At, ct⟩ e set M As cs e.sun num den day x.world HK.out (HB.out x) (HB.out x).eng.sun hT (by omega) (by omega) (by omega) (by omega) (by omega) (by omega); rw [HSH.out] at this; exact this)
  repeat (go_big_quiet_step ((first | (go_at_call 181; exact Later.call (HCS.out _)) | (go_at_call 138; exact Later.call ((e_around_any _ _ (by omega) (by omega)).mono fun _ _ ⟨h, h'⟩ => ⟨h, h' ▸ Ext.refl _⟩)))))
  refine wpQuiet_nil ?_
  rintro ⟨W1, hE⟩
  go_wp2
  go_ret
  exact ⟨rfl, hE0.trans hE⟩
theorem e_moon_any (p : EP) (e : Ec.Engine) (set : List Int) (M : Nat) (day : Int) (w : World) (hK : Fine e set) (hm : EngSet w p e set) (h1 : 0 ≤ day) (h2 : day ≤ 9030) :
    Calls Tryz.prog 132 #[.agg #[.slice p.Ab e.sky.bodies.length p.cb, .int .i64 e.sky.nnum, .int .i64 e.sky.nden, .int .i64 e.sky.nstart, .slice p.As e.sun.length p.cs, .slice p.Am e.moon.length p.cm, .slice p.An e.node.length p.cn, .slice p.Af e.feasts.length p.cf, .int .i64 e.nw, .int .i64 e.fl, .int .i64 e.wide, .slice p.At set.length p.ct, .map (some M)], .int .i64 day] w fun r w' => r = .returned (.int .i64 (Ec.moonAt e set day)) ∧ Ext w w' := by
  have hn2 := hK.sky.n2
  have hB := hK.sky.body (i := 1) (by omega) (by omega)
  obtain ⟨k1, k2, k3, k4, k5, k6, k7, _, _, _⟩ := hB
  have hT := (engineOk_parts hK.eng).1.2.1
  have hs := shown_bounds hT (Sp.body e.sky 1).den (Sp.body e.sky 1).num e.feasts set day k1
  obtain ⟨b, o, hb, hBA⟩ := hm.eng.bodies.at_ (i := 1) (by omega) (by omega)
  obtain ⟨hnum, hden, hstart, A, rc, hroad, _⟩ := hBA
  have hlt := lts (lt_of_cell hnum)
  simp only [Int.reduceToNat, Nat.reduceMul] at hnum hden hstart hroad hlt
  have hFIN : Hid (Ec.moonAt e set day = ((Sp.body e.sky 1).start + Ec.shown e.moon (Sp.body e.sky 1).den (Sp.body e.sky 1).num e.feasts set day) % 21600) := Lib.hid rfl
  have HK := Lib.hid hK
  obtain ⟨Ab, cb, As, cs, Am, cm, An, cn, Af, cf, At, ct⟩ := p
  obtain rfl : Ab = some ⟨b, o, none⟩ := hb
  have HM := Lib.hid hm
  clear hK hm
  rw [hFIN.out]
  dsimp only
  generalize (Sp.body e.sky 1).num = num at *
  generalize (Sp.body e.sky 1).den = den at *
  generalize (Sp.body e.sky 1).start = start at *
  obtain ⟨HS, hHS⟩ : ∃ S, Ec.shown e.moon den num e.feasts set day = S := ⟨_, rfl⟩
  have HSH := Lib.hid hHS
  rw [hHS] at hs ⊢
  clear hHS hFIN
  go_enter Tryz.func132, Tryz.ntmps132
  go_wp2_with fail
  refine wp_region_later (by kernel_rfl) (by kernel_rfl) (fun W hW => ?_)
  have q1 := Later.block (w := W) (by rw [hW]; exact (blocks2 _ _ _).1)
  have q2 := Later.block (w := W) (by rw [hW]; exact (blocks2 _ _ _).2)
  have hE0 : Ext w W := by rw [hW]; exact ((Ext.refl _).alloc _).alloc _
  clear hW hnum hden hstart hroad hlt
  have HB := Lib.hid (fun x : Later W => HM.out.ext (hE0.trans x.ext))
  have HCS := Lib.hid (fun x : Later W => by have := e_shown_any ⟨some ⟨b, o, none⟩, cb, As, cs, Am, cm, An, cn, Af, cf, At, ct⟩ e set M Am cm e.moon num den day x.world HK.out (HB.out x) (HB.out x).eng.moon hT (by omega) (by omega) (by omega) (by omega) (by omega) (by omega); rw [HSH.out] at this; exact this)
  repeat (go_big_quiet_step ((first | (go_at_call 181; exact Later.call (HCS.out _)) | (go_at_call 138; exact Later.call ((e_around_any _ _ (by omega) (by omega)).mono fun _ _ ⟨h, h'⟩ => ⟨h, h' ▸ Ext.refl _⟩)))))
  refine wpQuiet_nil ?_
  rintro ⟨W1, hE⟩
  go_wp2
  go_ret
  exact ⟨rfl, hE0.trans hE⟩
theorem e_node_any (p : EP) (e : Ec.Engine) (set : List Int) (M : Nat) (day : Int) (w : World) (hK : Fine e set) (hm : EngSet w p e set) (h1 : 0 ≤ day) (h2 : day ≤ 9030) :
    Calls Tryz.prog 133 #[.agg #[.slice p.Ab e.sky.bodies.length p.cb, .int .i64 e.sky.nnum, .int .i64 e.sky.nden, .int .i64 e.sky.nstart, .slice p.As e.sun.length p.cs, .slice p.Am e.moon.length p.cm, .slice p.An e.node.length p.cn, .slice p.Af e.feasts.length p.cf, .int .i64 e.nw, .int .i64 e.fl, .int .i64 e.wide, .slice p.At set.length p.ct, .map (some M)], .int .i64 day] w fun r w' => r = .returned (.int .i64 (Ec.nodeAt e set day)) ∧ Ext w w' := by
  obtain ⟨_, _, k1, k2, k3, k4, _, k5, k6, _⟩ := hK.sky
  have hT := (engineOk_parts hK.eng).1.2.2
  have hs := shown_bounds hT e.sky.nden e.sky.nnum e.feasts set day k1
  have hFIN : Hid (Ec.nodeAt e set day = (e.sky.nstart - Ec.shown e.node e.sky.nden e.sky.nnum e.feasts set day) % 21600) := Lib.hid rfl
  have HK := Lib.hid hK
  have HM := Lib.hid hm
  clear hK hm
  rw [hFIN.out]
  obtain ⟨HS, hHS⟩ : ∃ S, Ec.shown e.node e.sky.nden e.sky.nnum e.feasts set day = S := ⟨_, rfl⟩
  have HSH := Lib.hid hHS
  rw [hHS] at hs ⊢
  clear hHS hFIN
  go_enter Tryz.func133, Tryz.ntmps133
  go_wp2_with fail
  refine wp_region_later (by kernel_rfl) (by kernel_rfl) (fun W hW => ?_)
  have q1 := Later.block (w := W) (by rw [hW]; exact blocks1 _ _)
  have hE0 : Ext w W := by rw [hW]; exact (Ext.refl _).alloc _
  clear hW
  have HB := Lib.hid (fun x : Later W => HM.out.ext (hE0.trans x.ext))
  have HCS := Lib.hid (fun x : Later W => by have := e_shown_any p e set M p.An p.cn e.node e.sky.nnum e.sky.nden day x.world HK.out (HB.out x) (HB.out x).eng.node hT (by omega) (by omega) (by omega) (by omega) (by omega) (by omega); rw [HSH.out] at this; exact this)
  repeat (go_big_quiet_step ((first | (go_at_call 181; exact Later.call (HCS.out _)) | (go_at_call 138; exact Later.call ((e_around_any _ _ (by omega) (by omega)).mono fun _ _ ⟨h, h'⟩ => ⟨h, h' ▸ Ext.refl _⟩)))))
  refine wpQuiet_nil ?_
  rintro ⟨W1, hE⟩
  go_wp2
  go_ret
  exact ⟨rfl, hE0.trans hE⟩
end Go.Proofs.YtimkmokomohgjaaGreat
namespace Go.Proofs.YtimkmokomohgjaaGreat
open Go.RowKit
open Sp (rd)
set_option maxRecDepth 100000
set_option maxHeartbeats 1000000
/-- The hands on a day, as a value. -/
def handsF (e : Ec.Engine) (set : List Int) (d : Int) : Value := .agg #[.int .i64 (Ec.sunAt e set d), .int .i64 (Ec.moonAt e set d), .int .i64 (Ec.nodeAt e set d)]
abbrev Seen (e : Ec.Engine) (set : List Int) (M : Nat) (w : World) : Prop := Cache Tryz.prog 3 (handsF e set) M w
abbrev Move (e : Ec.Engine) (set : List Int) (M : Nat) (w w' : World) : Prop := Step Tryz.prog 3 (handsF e set) M w w'
theorem und_seen : Tryz.prog.underlying 142 = some (.map 3 89) := Tryz.underlying142
theorem zero_hands (w : World) : (zeroValue 89).run Tryz.prog w = .ok (.agg #[.int .i64 0, .int .i64 0, .int .i64 0]) w := by kernel_rfl
theorem pickF0 (x0 x1 x2 : Value) (w : World) : (Instr.index 201 (.agg #[x0, x1, x2]) (.int .i64 0)).run Tryz.prog w = .ok x0 w := by kernel_rfl
theorem pickF1 (x0 x1 x2 : Value) (w : World) : (Instr.index 201 (.agg #[x0, x1, x2]) (.int .i64 1)).run Tryz.prog w = .ok x1 w := by kernel_rfl
theorem pickF2 (x0 x1 x2 : Value) (w : World) : (Instr.index 201 (.agg #[x0, x1, x2]) (.int .i64 2)).run Tryz.prog w = .ok x2 w := by kernel_rfl
theorem hand_bounds {e : Ec.Engine} {set : List Int} (d : Int) : (0 ≤ Ec.sunAt e set d ∧ Ec.sunAt e set d < 21600) ∧ (0 ≤ Ec.moonAt e set d ∧ Ec.moonAt e set d < 21600) ∧ (0 ≤ Ec.nodeAt e set d ∧ Ec.nodeAt e set d < 21600) :=
  ⟨emod_bounds _ 21600 (by omega), emod_bounds _ 21600 (by omega), emod_bounds _ 21600 (by omega)⟩
theorem e_at_any (p : EP) (e : Ec.Engine) (set : List Int) (M : Nat) (day : Int) (w : World) (hK : Fine e set) (hm : EngSet w p e set) (hc : Seen e set M w) (h1 : 0 ≤ day) (h2 : day ≤ 9030) :
    Calls Tryz.prog 79 #[.agg #[.slice p.Ab e.sky.bodies.length p.cb, .int .i64 e.sky.nnum, .int .i64 e.sky.nden, .int .i64 e.sky.nstart, .slice p.As e.sun.length p.cs, .slice p.Am e.moon.length p.cm, .slice p.An e.node.length p.cn, .slice p.Af e.feasts.length p.cf, .int .i64 e.nw, .int .i64 e.fl, .int .i64 e.wide, .slice p.At set.length p.ct, .map (some M)], .int .i64 day] w fun r w' => r = .returned (.agg #[.int .i64 (Ec.sunAt e set day), .int .i64 (Ec.moonAt e set day), .int .i64 (Ec.nodeAt e set day)]) ∧ Move e set M w w' := by
  have hwf : (Lit.int .i64 day).wf = true := WalkArith.wf_i64 (by omega)
  have hE0 : Ext w ((w.alloc (.cells #[.slice p.Ab e.sky.bodies.length p.cb, .int .i64 e.sky.nnum, .int .i64 e.sky.nden, .int .i64 e.sky.nstart, .slice p.As e.sun.length p.cs, .slice p.Am e.moon.length p.cm, .slice p.An e.node.length p.cn, .slice p.Af e.feasts.length p.cf, .int .i64 e.nw, .int .i64 e.fl, .int .i64 e.wide, .slice p.At set.length p.ct, .map (some M)] 144)).alloc (.cells #[.int .i64 0, .int .i64 0, .int .i64 0] 89)) := ((Ext.refl w).alloc _).alloc _
  have hmf : ∀ (fn : Fn) (first cap : Array Value) (w : World), (Instr.makeFunc fn first cap).run Tryz.prog w = .ok (.func fn first cap) w := fun _ _ _ _ => rfl
  rcases (hc.ext hE0).lookup Tryz.underlying3 und_seen (zero_hands _) hwf with hr | hr
  · have HK := Lib.hid hK
    have HM := Lib.hid hm
    have HC := Lib.hid hc
    have i0 := pickF0
    have i1 := pickF1
    have i2 := pickF2
    clear hK hm hc hE0
    go_enter Tryz.func79, Tryz.ntmps79
    go_wp2_with fail
    have hE4 : Ext w ((((w.alloc (.cells #[.slice p.Ab e.sky.bodies.length p.cb, .int .i64 e.sky.nnum, .int .i64 e.sky.nden, .int .i64 e.sky.nstart, .slice p.As e.sun.length p.cs, .slice p.Am e.moon.length p.cm, .slice p.An e.node.length p.cn, .slice p.Af e.feasts.length p.cf, .int .i64 e.nw, .int .i64 e.fl, .int .i64 e.wide, .slice p.At set.length p.ct, .map (some M)] 144)).alloc (.cells #[.int .i64 0, .int .i64 0, .int .i64 0] 89)).alloc (.cells #[.int .i64 0, .int .i64 0, .int .i64 0] 89)).alloc (.cells #[.int .i64 0, .int .i64 0, .int .i64 0] 70)) := ((((Ext.refl w).alloc _).alloc _).alloc _).alloc _
    have rX : Row ((((w.alloc (.cells #[.slice p.Ab e.sky.bodies.length p.cb, .int .i64 e.sky.nnum, .int .i64 e.sky.nden, .int .i64 e.sky.nstart, .slice p.As e.sun.length p.cs, .slice p.Am e.moon.length p.cm, .slice p.An e.node.length p.cn, .slice p.Af e.feasts.length p.cf, .int .i64 e.nw, .int .i64 e.fl, .int .i64 e.wide, .slice p.At set.length p.ct, .map (some M)] 144)).alloc (.cells #[.int .i64 0, .int .i64 0, .int .i64 0] 89)).alloc (.cells #[.int .i64 0, .int .i64 0, .int .i64 0] 89)).alloc (.cells #[.int .i64 0, .int .i64 0, .int .i64 0] 70)) w.heap.size 144 #[.slice p.Ab e.sky.bodies.length p.cb, .int .i64 e.sky.nnum, .int .i64 e.sky.nden, .int .i64 e.sky.nstart, .slice p.As e.sun.length p.cs, .slice p.Am e.moon.length p.cm, .slice p.An e.node.length p.cn, .slice p.Af e.feasts.length p.cf, .int .i64 e.nw, .int .i64 e.fl, .int .i64 e.wide, .slice p.At set.length p.ct, .map (some M)] := (((Row.new w _ _).alloc _).alloc _).alloc _
    have rR : Row ((((w.alloc (.cells #[.slice p.Ab e.sky.bodies.length p.cb, .int .i64 e.sky.nnum, .int .i64 e.sky.nden, .int .i64 e.sky.nstart, .slice p.As e.sun.length p.cs, .slice p.Am e.moon.length p.cm, .slice p.An e.node.length p.cn, .slice p.Af e.feasts.length p.cf, .int .i64 e.nw, .int .i64 e.fl, .int .i64 e.wide, .slice p.At set.length p.ct, .map (some M)] 144)).alloc (.cells #[.int .i64 0, .int .i64 0, .int .i64 0] 89)).alloc (.cells #[.int .i64 0, .int .i64 0, .int .i64 0] 89)).alloc (.cells #[.int .i64 0, .int .i64 0, .int .i64 0] 70)) (w.heap.size + 1) 89 #[.int .i64 0, .int .i64 0, .int .i64 0] := by
      have := ((Row.new (w.alloc (.cells #[.slice p.Ab e.sky.bodies.length p.cb, .int .i64 e.sky.nnum, .int .i64 e.sky.nden, .int .i64 e.sky.nstart, .slice p.As e.sun.length p.cs, .slice p.Am e.moon.length p.cm, .slice p.An e.node.length p.cn, .slice p.Af e.feasts.length p.cf, .int .i64 e.nw, .int .i64 e.fl, .int .i64 e.wide, .slice p.At set.length p.ct, .map (some M)] 144)) 89 #[.int .i64 0, .int .i64 0, .int .i64 0]).alloc (.cells #[.int .i64 0, .int .i64 0, .int .i64 0] 89)).alloc (.cells #[.int .i64 0, .int .i64 0, .int .i64 0] 70)
      simpa using this
    have rA : Row ((((w.alloc (.cells #[.slice p.Ab e.sky.bodies.length p.cb, .int .i64 e.sky.nnum, .int .i64 e.sky.nden, .int .i64 e.sky.nstart, .slice p.As e.sun.length p.cs, .slice p.Am e.moon.length p.cm, .slice p.An e.node.length p.cn, .slice p.Af e.feasts.length p.cf, .int .i64 e.nw, .int .i64 e.fl, .int .i64 e.wide, .slice p.At set.length p.ct, .map (some M)] 144)).alloc (.cells #[.int .i64 0, .int .i64 0, .int .i64 0] 89)).alloc (.cells #[.int .i64 0, .int .i64 0, .int .i64 0] 89)).alloc (.cells #[.int .i64 0, .int .i64 0, .int .i64 0] 70)) (w.heap.size + 1 + 1 + 1) 70 #[.int .i64 0, .int .i64 0, .int .i64 0] := by
      have := Row.new (((w.alloc (.cells #[.slice p.Ab e.sky.bodies.length p.cb, .int .i64 e.sky.nnum, .int .i64 e.sky.nden, .int .i64 e.sky.nstart, .slice p.As e.sun.length p.cs, .slice p.Am e.moon.length p.cm, .slice p.An e.node.length p.cn, .slice p.Af e.feasts.length p.cf, .int .i64 e.nw, .int .i64 e.fl, .int .i64 e.wide, .slice p.At set.length p.ct, .map (some M)] 144)).alloc (.cells #[.int .i64 0, .int .i64 0, .int .i64 0] 89)).alloc (.cells #[.int .i64 0, .int .i64 0, .int .i64 0] 89)) 70 #[.int .i64 0, .int .i64 0, .int .i64 0]
      simpa using this
    have HE4 := Lib.hid hE4
    have HX := Lib.hid rX
    have HR := Lib.hid rR
    have HA := Lib.hid rA
    clear hE4 rX rR rA hr
    refine wp_loop_rounds 4 ?_
    rw [rounds_succ]
    go_wp2_with fail
    refine (e_sun_any p e set M day _ HK.out (HM.out.ext HE4.out) h1 h2).mono ?_
    rintro r w1 ⟨rfl, hE⟩
    have HX1 := Lib.hid (HX.out.ext hE)
    have HR1 := Lib.hid (HR.out.ext hE)
    have HA1 := Lib.hid (HA.out.ext hE)
    have HE1 := Lib.hid (HE4.out.trans hE)
    have a0 := HA1.out.cell
    have f0 := HA1.out.free
    clear hE
    go_wp2_with fail
    rw [rounds_succ]
    go_wp2_with fail
    refine (e_moon_any p e set M day _ HK.out (HM.out.ext (HE1.out.setCell (p := ⟨w.heap.size + 1 + 1 + 1, 0, none⟩) (by simp <;> omega) _)) h1 h2).mono ?_
    rintro r w2 ⟨rfl, hE⟩
    have HX2 := Lib.hid ((HX1.out.far (p := ⟨w.heap.size + 1 + 1 + 1, 0, none⟩) (by simp <;> omega) _).ext hE)
    have HR2 := Lib.hid ((HR1.out.far (p := ⟨w.heap.size + 1 + 1 + 1, 0, none⟩) (by simp <;> omega) _).ext hE)
    have HA2 : Hid (Row w2 (w.heap.size + 1 + 1 + 1) 70 #[.int .i64 (Ec.sunAt e set day), .int .i64 0, .int .i64 0]) := Lib.hid ((HA1.out.set_ 0 _).ext hE)
    have HE2 := Lib.hid ((HE1.out.setCell (p := ⟨w.heap.size + 1 + 1 + 1, 0, none⟩) (by simp <;> omega) _).trans hE)
    clear hE a0 f0
    have a0 := HA2.out.cell
    have f0 := HA2.out.free
    go_wp2_with fail
    rw [rounds_succ]
    go_wp2_with fail
    refine (e_node_any p e set M day _ HK.out (HM.out.ext (HE2.out.setCell (p := ⟨w.heap.size + 1 + 1 + 1, 1, none⟩) (by simp <;> omega) _)) h1 h2).mono ?_
    rintro r w3 ⟨rfl, hE⟩
    have HX3 := Lib.hid ((HX2.out.far (p := ⟨w.heap.size + 1 + 1 + 1, 1, none⟩) (by simp <;> omega) _).ext hE)
    have HR3 := Lib.hid ((HR2.out.far (p := ⟨w.heap.size + 1 + 1 + 1, 1, none⟩) (by simp <;> omega) _).ext hE)
    have HA3 : Hid (Row w3 (w.heap.size + 1 + 1 + 1) 70 #[.int .i64 (Ec.sunAt e set day), .int .i64 (Ec.moonAt e set day), .int .i64 0]) := Lib.hid ((HA2.out.set_ 1 _).ext hE)
    have HE3 := Lib.hid ((HE2.out.setCell (p := ⟨w.heap.size + 1 + 1 + 1, 1, none⟩) (by simp <;> omega) _).trans hE)
    clear hE a0 f0
    have a0 := HA3.out.cell
    have f0 := HA3.out.free
    have HX4 := Lib.hid (HX3.out.far (p := ⟨w.heap.size + 1 + 1 + 1, 2, none⟩) (by simp <;> omega) (.int .i64 (Ec.nodeAt e set day)))
    have HR4 := Lib.hid (HR3.out.far (p := ⟨w.heap.size + 1 + 1 + 1, 2, none⟩) (by simp <;> omega) (.int .i64 (Ec.nodeAt e set day)))
    have HE5 := Lib.hid (HE3.out.setCell (p := ⟨w.heap.size + 1 + 1 + 1, 2, none⟩) (by simp <;> omega) (.int .i64 (Ec.nodeAt e set day)))
    have x3 := HX3.out.cell
    have j0 := lts HX3.out.lt
    have j1 := lts HR3.out.lt
    have HH : Hid (Row ((w3.setCell ⟨w.heap.size + 1 + 1 + 1, 2, none⟩ (.int .i64 (Ec.nodeAt e set day))).alloc (.cells #[.int .i64 (Ec.sunAt e set day), .int .i64 (Ec.moonAt e set day), .int .i64 (Ec.nodeAt e set day)] 89)) w3.heap.size 89 #[.int .i64 (Ec.sunAt e set day), .int .i64 (Ec.moonAt e set day), .int .i64 (Ec.nodeAt e set day)]) := Lib.hid (by
      have := Row.new (w3.setCell ⟨w.heap.size + 1 + 1 + 1, 2, none⟩ (.int .i64 (Ec.nodeAt e set day))) 89 #[.int .i64 (Ec.sunAt e set day), .int .i64 (Ec.moonAt e set day), .int .i64 (Ec.nodeAt e set day)]
      simpa using this)
    have HR5 := Lib.hid (HR4.out.alloc (.cells #[.int .i64 (Ec.sunAt e set day), .int .i64 (Ec.moonAt e set day), .int .i64 (Ec.nodeAt e set day)] 89))
    have HE6 := Lib.hid (HE5.out.alloc (.cells #[.int .i64 (Ec.sunAt e set day), .int .i64 (Ec.moonAt e set day), .int .i64 (Ec.nodeAt e set day)] 89))
    go_wp2_with fail
    rw [rounds_succ]
    go_wp2_with (at_mapUpdate; refine wpList_store_cache _ rfl _ _ _ _ rfl _ Tryz.underlying3 und_seen rfl (HC.out.ext HE6.out) day rfl rfl hwf h1 (by omega) ?_; intro w5 hc5 hg5; have HS5 : Hid (Step _ _ _ _ _ w5) := Lib.hid ⟨hg5, hc5⟩; have HH5 := Lib.hid (HS5.out.row (HC.out.ext HE6.out) HH.out); have HR6 := Lib.hid (HS5.out.row (HC.out.ext HE6.out) HR5.out); have hh := HH5.out.cell; have rr := HR6.out.cell; have rf := HR6.out.free; clear hg5 hc5 x3 a0 f0)
    have HF := Lib.hid ((((Step.of_ext HC.out HE6.out).trans HS5.out).setCell HC.out (p := ⟨w.heap.size + 1, 0, none⟩) (Nat.le_succ _) (.int .i64 (Ec.sunAt e set day))).setCell HC.out (p := ⟨w.heap.size + 1, 1, none⟩) (Nat.le_succ _) (.int .i64 (Ec.moonAt e set day)))
    exact bodyPost_ret (v := .agg #[.int .i64 (Ec.sunAt e set day), .int .i64 (Ec.moonAt e set day), .int .i64 (Ec.nodeAt e set day)]) (by simp [results, Tryz.results79, go_sem, rr]) rfl ⟨rfl, HF.out.setCell HC.out (p := ⟨w.heap.size + 1, 2, none⟩) (Nat.le_succ _) _⟩
  · have HC := Lib.hid hc
    clear hm hE0
    simp only [handsF] at hr
    go_enter Tryz.func79, Tryz.ntmps79
    go_wp2_with fail
    exact bodyPost_ret (v := .agg #[.int .i64 (Ec.sunAt e set day), .int .i64 (Ec.moonAt e set day), .int .i64 (Ec.nodeAt e set day)]) (by simp [results, Tryz.results79, go_sem]) rfl ⟨rfl, Step.of_ext HC.out ((((Ext.refl w).alloc _).alloc _).alloc _)⟩
theorem e_lead_any (p : EP) (e : Ec.Engine) (set : List Int) (M : Nat) (day : Int) (w : World) (hK : Fine e set) (hm : EngSet w p e set) (hc : Seen e set M w) (h1 : 0 ≤ day) (h2 : day ≤ 9030) :
    Calls Tryz.prog 186 #[.agg #[.slice p.Ab e.sky.bodies.length p.cb, .int .i64 e.sky.nnum, .int .i64 e.sky.nden, .int .i64 e.sky.nstart, .slice p.As e.sun.length p.cs, .slice p.Am e.moon.length p.cm, .slice p.An e.node.length p.cn, .slice p.Af e.feasts.length p.cf, .int .i64 e.nw, .int .i64 e.fl, .int .i64 e.wide, .slice p.At set.length p.ct, .map (some M)], .int .i64 day] w fun r w' => r = .returned (.int .i64 (Ec.leadAt e set day)) ∧ Move e set M w w' := by
  obtain ⟨⟨a1, a2⟩, ⟨b1, b2⟩, _⟩ := hand_bounds (e := e) (set := set) day
  have hE0 := (Ext.refl w).alloc (.cells #[.slice p.Ab e.sky.bodies.length p.cb, .int .i64 e.sky.nnum, .int .i64 e.sky.nden, .int .i64 e.sky.nstart, .slice p.As e.sun.length p.cs, .slice p.Am e.moon.length p.cm, .slice p.An e.node.length p.cn, .slice p.Af e.feasts.length p.cf, .int .i64 e.nw, .int .i64 e.fl, .int .i64 e.wide, .slice p.At set.length p.ct, .map (some M)] 144)
  have HK := Lib.hid hK
  have HM := Lib.hid (hm.ext hE0)
  have HC := Lib.hid (hc.ext hE0)
  have HS0 := Lib.hid (Step.of_ext hc hE0)
  clear hK hm hc hE0
  go_enter Tryz.func186, Tryz.ntmps186
  go_wp2_with fail
  refine (e_at_any p e set M day _ HK.out HM.out HC.out h1 h2).mono ?_
  rintro r w1 ⟨rfl, hS⟩
  have HS := Lib.hid (HS0.out.trans hS)
  clear hS
  go_wp2_with fail
  refine (e_around_any _ _ (by omega) (by omega)).mono ?_
  rintro r w2 ⟨rfl, rfl⟩
  go_wp2_with fail
  go_ret
  exact ⟨rfl, HS.out.ext ((Ext.refl _).alloc _)⟩
theorem e_far_any (p : EP) (e : Ec.Engine) (set : List Int) (M : Nat) (day : Int) (w : World) (hK : Fine e set) (hm : EngSet w p e set) (hc : Seen e set M w) (h1 : 0 ≤ day) (h2 : day ≤ 9030) :
    Calls Tryz.prog 143 #[.agg #[.slice p.Ab e.sky.bodies.length p.cb, .int .i64 e.sky.nnum, .int .i64 e.sky.nden, .int .i64 e.sky.nstart, .slice p.As e.sun.length p.cs, .slice p.Am e.moon.length p.cm, .slice p.An e.node.length p.cn, .slice p.Af e.feasts.length p.cf, .int .i64 e.nw, .int .i64 e.fl, .int .i64 e.wide, .slice p.At set.length p.ct, .map (some M)], .int .i64 day] w fun r w' => r = .returned (.int .i64 (Ec.farAt e set day)) ∧ Move e set M w w' := by
  obtain ⟨_, ⟨b1, b2⟩, c1, c2⟩ := hand_bounds (e := e) (set := set) day
  have hE0 := (Ext.refl w).alloc (.cells #[.slice p.Ab e.sky.bodies.length p.cb, .int .i64 e.sky.nnum, .int .i64 e.sky.nden, .int .i64 e.sky.nstart, .slice p.As e.sun.length p.cs, .slice p.Am e.moon.length p.cm, .slice p.An e.node.length p.cn, .slice p.Af e.feasts.length p.cf, .int .i64 e.nw, .int .i64 e.fl, .int .i64 e.wide, .slice p.At set.length p.ct, .map (some M)] 144)
  have HK := Lib.hid hK
  have HM := Lib.hid (hm.ext hE0)
  have HC := Lib.hid (hc.ext hE0)
  have HS0 := Lib.hid (Step.of_ext hc hE0)
  have m1 := emod_bounds (Ec.moonAt e set day - Ec.nodeAt e set day) 21600 (by omega)
  have m2 := emod_bounds ((Ec.moonAt e set day - Ec.nodeAt e set day) % 21600) 10800 (by omega)
  clear hK hm hc hE0
  go_enter Tryz.func143, Tryz.ntmps143
  go_wp2_with fail
  refine (e_at_any p e set M day _ HK.out HM.out HC.out h1 h2).mono ?_
  rintro r w1 ⟨rfl, hS⟩
  have HS := Lib.hid (HS0.out.trans hS)
  clear hS
  go_wp2_with fail
  refine (e_around_any _ _ (by omega) (by omega)).mono ?_
  rintro r w2 ⟨rfl, rfl⟩
  go_wp2_with fail
  all_goals
    go_ret
    exact ⟨ret_int (by unfold Ec.farAt; dsimp only; omega), HS.out.ext ((Ext.refl _).alloc _)⟩
theorem far_bounds (e : Ec.Engine) (set : List Int) (d : Int) : 0 ≤ Ec.farAt e set d ∧ Ec.farAt e set d ≤ 5400 := by
  have m2 := emod_bounds ((Ec.moonAt e set d - Ec.nodeAt e set d) % 21600) 10800 (by omega)
  unfold Ec.farAt
  dsimp only
  omega
theorem lead_bounds (e : Ec.Engine) (set : List Int) (d : Int) : 0 ≤ Ec.leadAt e set d ∧ Ec.leadAt e set d < 21600 := emod_bounds _ 21600 (by omega)
theorem near_bounds (n : Int) : -10800 ≤ Ec.near n ∧ Ec.near n < 10800 := by
  unfold Ec.near
  omega
theorem ta_e_new (w : World) : (Instr.typeAssert (.iface 206 (.agg #[])) 209 207 true).run Tryz.prog w = .ok (.tuple #[.agg #[], .bool false]) w := by kernel_rfl
theorem ta_e_full (w : World) : (Instr.typeAssert (.iface 207 (.agg #[])) 209 207 true).run Tryz.prog w = .ok (.tuple #[.agg #[], .bool true]) w := by kernel_rfl
theorem e_new_full (w : World) : Calls Tryz.prog 230 #[.agg #[]] w fun e w' => e = .returned (.bool false) ∧ Ext w w' := by
  go_enter Tryz.func230, Tryz.ntmps230
  go_wp2_with fail
  go_ret
  exact ⟨rfl, (Ext.refl _).alloc _⟩
theorem e_full_full (w : World) : Calls Tryz.prog 231 #[.agg #[]] w fun e w' => e = .returned (.bool true) ∧ Ext w w' := by
  go_enter Tryz.func231, Tryz.ntmps231
  go_wp2_with fail
  go_ret
  exact ⟨rfl, (Ext.refl _).alloc _⟩
theorem e_has_false (p : EP) (e : Ec.Engine) (set : List Int) (M : Nat) (day : Int) (w : World) (hK : Fine e set) (hm : EngSet w p e set) (hc : Seen e set M w) (h1 : 1 ≤ day) (h2 : day ≤ 9030) :
    Calls Tryz.prog 142 #[.agg #[.slice p.Ab e.sky.bodies.length p.cb, .int .i64 e.sky.nnum, .int .i64 e.sky.nden, .int .i64 e.sky.nstart, .slice p.As e.sun.length p.cs, .slice p.Am e.moon.length p.cm, .slice p.An e.node.length p.cn, .slice p.Af e.feasts.length p.cf, .int .i64 e.nw, .int .i64 e.fl, .int .i64 e.wide, .slice p.At set.length p.ct, .map (some M)], .iface 206 (.agg #[]), .int .i64 day] w fun r w' => r = .returned (.bool (Ec.hasB e set day false)) ∧ Move e set M w w' := by
  obtain ⟨a1, a2⟩ := lead_bounds e set (day - 1)
  obtain ⟨b1, b2⟩ := lead_bounds e set day
  have hE0 := (Ext.refl w).alloc (.cells #[.slice p.Ab e.sky.bodies.length p.cb, .int .i64 e.sky.nnum, .int .i64 e.sky.nden, .int .i64 e.sky.nstart, .slice p.As e.sun.length p.cs, .slice p.Am e.moon.length p.cm, .slice p.An e.node.length p.cn, .slice p.Af e.feasts.length p.cf, .int .i64 e.nw, .int .i64 e.fl, .int .i64 e.wide, .slice p.At set.length p.ct, .map (some M)] 144)
  have HFIN : Hid (Ec.hasB e set day false = Ec.crossB (Ec.leadAt e set (day - 1)) (Ec.leadAt e set day) false) := Lib.hid rfl
  have HK := Lib.hid hK
  have HM := Lib.hid (hm.ext hE0)
  have HC := Lib.hid (hc.ext hE0)
  have HS0 := Lib.hid (Step.of_ext hc hE0)
  have HR0 := Lib.hid (Row.new w 144 #[.slice p.Ab e.sky.bodies.length p.cb, .int .i64 e.sky.nnum, .int .i64 e.sky.nden, .int .i64 e.sky.nstart, .slice p.As e.sun.length p.cs, .slice p.Am e.moon.length p.cm, .slice p.An e.node.length p.cn, .slice p.Af e.feasts.length p.cf, .int .i64 e.nw, .int .i64 e.fl, .int .i64 e.wide, .slice p.At set.length p.ct, .map (some M)])
  have tT := ta_e_new
  clear hK hm hc hE0
  obtain ⟨L0, hL0⟩ : ∃ L0, Ec.leadAt e set (day - 1) = L0 := ⟨_, rfl⟩
  obtain ⟨L1, hL1⟩ : ∃ L1, Ec.leadAt e set day = L1 := ⟨_, rfl⟩
  rw [hL0] at a1 a2 HFIN
  rw [hL1] at b1 b2 HFIN
  have H0 := Lib.hid hL0
  have H1 := Lib.hid hL1
  clear hL0 hL1
  obtain ⟨G, hG⟩ : ∃ G, Ec.near (L1 - L0) = G := ⟨_, rfl⟩
  have HG := Lib.hid hG
  have n := near_bounds (L1 - L0)
  have HX : Hid (Ec.crossB L0 L1 false = (decide (0 < G) && decide (21600 ≤ L0 + G))) := Lib.hid (by
    unfold Ec.crossB
    rw [hG]
    simp only [Sp.halfOf, Bool.false_eq_true, if_false, Int.sub_zero, Int.emod_eq_of_lt a1 a2])
  rw [hG] at n
  obtain ⟨n1, n2⟩ := n
  clear hG
  skip
  by_cases hg : 0 < G
  all_goals
    have HGD := Lib.hid hg
    go_enter Tryz.func142, Tryz.ntmps142
    go_wp2_with fail
    refine (e_lead_any p e set M (day - 1) _ HK.out HM.out HC.out (by omega) (by omega)).mono ?_
    rintro r w1 ⟨rfl, hS⟩
    rw [H0.out]
    have HM1 := Lib.hid (HM.out.stay (hS.stays HC.out))
    have HC1 := Lib.hid hS.cache
    have HS1 := Lib.hid (HS0.out.trans hS)
    have hr := hS.row HC.out HR0.out
    have b0 := hr.cell
    clear hS
    go_wp2_with fail
    refine (e_lead_any p e set M day _ HK.out HM1.out HC1.out (by omega) (by omega)).mono ?_
    rintro r w2 ⟨rfl, hS⟩
    rw [H1.out]
    have HS2 := Lib.hid (HS1.out.trans hS)
    clear hS b0 hr
    go_wp2_with fail
    refine (e_signed_any _ _ (by omega) (by omega)).mono ?_
    rintro r w3 ⟨rfl, rfl⟩
    rw [HG.out]
    go_wp2_with fail
    go_ret
    exact ⟨ret_bool (by rw [HFIN.out, HX.out]; have h9 := HGD.out; first | (simp [h9]; done) | (simp; omega)), HS2.out⟩
theorem e_has_true (p : EP) (e : Ec.Engine) (set : List Int) (M : Nat) (day : Int) (w : World) (hK : Fine e set) (hm : EngSet w p e set) (hc : Seen e set M w) (h1 : 1 ≤ day) (h2 : day ≤ 9030) :
    Calls Tryz.prog 142 #[.agg #[.slice p.Ab e.sky.bodies.length p.cb, .int .i64 e.sky.nnum, .int .i64 e.sky.nden, .int .i64 e.sky.nstart, .slice p.As e.sun.length p.cs, .slice p.Am e.moon.length p.cm, .slice p.An e.node.length p.cn, .slice p.Af e.feasts.length p.cf, .int .i64 e.nw, .int .i64 e.fl, .int .i64 e.wide, .slice p.At set.length p.ct, .map (some M)], .iface 207 (.agg #[]), .int .i64 day] w fun r w' => r = .returned (.bool (Ec.hasB e set day true)) ∧ Move e set M w w' := by
  obtain ⟨a1, a2⟩ := lead_bounds e set (day - 1)
  obtain ⟨b1, b2⟩ := lead_bounds e set day
  have hE0 := (Ext.refl w).alloc (.cells #[.slice p.Ab e.sky.bodies.length p.cb, .int .i64 e.sky.nnum, .int .i64 e.sky.nden, .int .i64 e.sky.nstart, .slice p.As e.sun.length p.cs, .slice p.Am e.moon.length p.cm, .slice p.An e.node.length p.cn, .slice p.Af e.feasts.length p.cf, .int .i64 e.nw, .int .i64 e.fl, .int .i64 e.wide, .slice p.At set.length p.ct, .map (some M)] 144)
  have HFIN : Hid (Ec.hasB e set day true = Ec.crossB (Ec.leadAt e set (day - 1)) (Ec.leadAt e set day) true) := Lib.hid rfl
  have HK := Lib.hid hK
  have HM := Lib.hid (hm.ext hE0)
  have HC := Lib.hid (hc.ext hE0)
  have HS0 := Lib.hid (Step.of_ext hc hE0)
  have HR0 := Lib.hid (Row.new w 144 #[.slice p.Ab e.sky.bodies.length p.cb, .int .i64 e.sky.nnum, .int .i64 e.sky.nden, .int .i64 e.sky.nstart, .slice p.As e.sun.length p.cs, .slice p.Am e.moon.length p.cm, .slice p.An e.node.length p.cn, .slice p.Af e.feasts.length p.cf, .int .i64 e.nw, .int .i64 e.fl, .int .i64 e.wide, .slice p.At set.length p.ct, .map (some M)])
  have tT := ta_e_full
  clear hK hm hc hE0
  obtain ⟨L0, hL0⟩ : ∃ L0, Ec.leadAt e set (day - 1) = L0 := ⟨_, rfl⟩
  obtain ⟨L1, hL1⟩ : ∃ L1, Ec.leadAt e set day = L1 := ⟨_, rfl⟩
  rw [hL0] at a1 a2 HFIN
  rw [hL1] at b1 b2 HFIN
  have H0 := Lib.hid hL0
  have H1 := Lib.hid hL1
  clear hL0 hL1
  obtain ⟨G, hG⟩ : ∃ G, Ec.near (L1 - L0) = G := ⟨_, rfl⟩
  have HG := Lib.hid hG
  have n := near_bounds (L1 - L0)
  have HX : Hid (Ec.crossB L0 L1 true = (decide (0 < G) && decide (21600 ≤ (L0 - 10800) % 21600 + G))) := Lib.hid (by
    unfold Ec.crossB
    rw [hG]
    simp only [Sp.halfOf, if_true])
  rw [hG] at n
  obtain ⟨n1, n2⟩ := n
  clear hG
  have m1 := emod_bounds (L0 - 10800) 21600 (by omega)
  by_cases hg : 0 < G
  all_goals
    have HGD := Lib.hid hg
    go_enter Tryz.func142, Tryz.ntmps142
    go_wp2_with fail
    refine (e_lead_any p e set M (day - 1) _ HK.out HM.out HC.out (by omega) (by omega)).mono ?_
    rintro r w1 ⟨rfl, hS⟩
    rw [H0.out]
    have HM1 := Lib.hid (HM.out.stay (hS.stays HC.out))
    have HC1 := Lib.hid hS.cache
    have HS1 := Lib.hid (HS0.out.trans hS)
    have hr := hS.row HC.out HR0.out
    have b0 := hr.cell
    clear hS
    go_wp2_with fail
    refine (e_lead_any p e set M day _ HK.out HM1.out HC1.out (by omega) (by omega)).mono ?_
    rintro r w2 ⟨rfl, hS⟩
    rw [H1.out]
    have HS2 := Lib.hid (HS1.out.trans hS)
    clear hS b0 hr
    go_wp2_with fail
    refine (e_signed_any _ _ (by omega) (by omega)).mono ?_
    rintro r w3 ⟨rfl, rfl⟩
    rw [HG.out]
    go_wp2_with fail
    refine (e_around_any _ _ (by omega) (by omega)).mono ?_
    rintro r w3 ⟨rfl, rfl⟩
    go_wp2_with fail
    go_ret
    exact ⟨ret_bool (by rw [HFIN.out, HX.out]; have h9 := HGD.out; first | (simp [h9]; done) | (simp; omega)), HS2.out⟩
theorem e_limit_false (p : EP) (e : Ec.Engine) (set : List Int) (M : Nat) (w : World) :
    Calls Tryz.prog 144 #[.agg #[.slice p.Ab e.sky.bodies.length p.cb, .int .i64 e.sky.nnum, .int .i64 e.sky.nden, .int .i64 e.sky.nstart, .slice p.As e.sun.length p.cs, .slice p.Am e.moon.length p.cm, .slice p.An e.node.length p.cn, .slice p.Af e.feasts.length p.cf, .int .i64 e.nw, .int .i64 e.fl, .int .i64 e.wide, .slice p.At set.length p.ct, .map (some M)], .iface 206 (.agg #[])] w fun r w' => r = .returned (.int .i64 (Ec.limitOf e false)) ∧ Ext w w' := by
  have hn : ∀ w, (nilAhead 378 206 (.agg #[]) "tellurion/eclipse.full").run Tryz.prog w = .ok (some false) w := fun _ => by kernel_rfl
  have hn' : ∀ w, (method 378 206 (.agg #[]) "tellurion/eclipse.full").run Tryz.prog w = .ok (230, .agg #[]) w := fun _ => by kernel_rfl
  go_enter Tryz.func144, Tryz.ntmps144
  go_wp2_with fail
  refine (e_new_full _).mono ?_
  rintro r w1 ⟨rfl, hE⟩
  have hb := ((Row.new w 144 #[.slice p.Ab e.sky.bodies.length p.cb, .int .i64 e.sky.nnum, .int .i64 e.sky.nden, .int .i64 e.sky.nstart, .slice p.As e.sun.length p.cs, .slice p.Am e.moon.length p.cm, .slice p.An e.node.length p.cn, .slice p.Af e.feasts.length p.cf, .int .i64 e.nw, .int .i64 e.fl, .int .i64 e.wide, .slice p.At set.length p.ct, .map (some M)]).ext hE).cell
  replace hE := ((Ext.refl w).alloc _).trans hE
  go_wp2_with fail
  go_ret
  exact ⟨rfl, hE⟩
theorem e_limit_true (p : EP) (e : Ec.Engine) (set : List Int) (M : Nat) (w : World) :
    Calls Tryz.prog 144 #[.agg #[.slice p.Ab e.sky.bodies.length p.cb, .int .i64 e.sky.nnum, .int .i64 e.sky.nden, .int .i64 e.sky.nstart, .slice p.As e.sun.length p.cs, .slice p.Am e.moon.length p.cm, .slice p.An e.node.length p.cn, .slice p.Af e.feasts.length p.cf, .int .i64 e.nw, .int .i64 e.fl, .int .i64 e.wide, .slice p.At set.length p.ct, .map (some M)], .iface 207 (.agg #[])] w fun r w' => r = .returned (.int .i64 (Ec.limitOf e true)) ∧ Ext w w' := by
  have hn : ∀ w, (nilAhead 378 207 (.agg #[]) "tellurion/eclipse.full").run Tryz.prog w = .ok (some false) w := fun _ => by kernel_rfl
  have hn' : ∀ w, (method 378 207 (.agg #[]) "tellurion/eclipse.full").run Tryz.prog w = .ok (231, .agg #[]) w := fun _ => by kernel_rfl
  go_enter Tryz.func144, Tryz.ntmps144
  go_wp2_with fail
  refine (e_full_full _).mono ?_
  rintro r w1 ⟨rfl, hE⟩
  have hb := ((Row.new w 144 #[.slice p.Ab e.sky.bodies.length p.cb, .int .i64 e.sky.nnum, .int .i64 e.sky.nden, .int .i64 e.sky.nstart, .slice p.As e.sun.length p.cs, .slice p.Am e.moon.length p.cm, .slice p.An e.node.length p.cn, .slice p.Af e.feasts.length p.cf, .int .i64 e.nw, .int .i64 e.fl, .int .i64 e.wide, .slice p.At set.length p.ct, .map (some M)]).ext hE).cell
  replace hE := ((Ext.refl w).alloc _).trans hE
  go_wp2_with fail
  go_ret
  exact ⟨rfl, hE⟩
end Go.Proofs.YtimkmokomohgjaaGreat
namespace Go.Proofs.YtimkmokomohgjaaGreat
open Go.RowKit
/-- Values stored one behind the other into a block. -/
def setsAt (W : World) (g : Nat) : Nat → List Value → World
  | _, [] => W
  | i, v :: vs => setsAt (W.setCell ⟨g, i, none⟩ v) g (i + 1) vs
theorem Row.sets_ {g : Nat} {t : TypeId} : ∀ (vs pre rest : List Value) (W : World), Row W g t (pre ++ rest).toArray → rest.length = vs.length → Row (setsAt W g pre.length vs) g t (pre ++ vs).toArray
  | [], pre, rest, W, h, hl => by
    obtain rfl : rest = [] := List.eq_nil_of_length_eq_zero (by simpa using hl)
    exact h
  | _ :: _, _, [], _, _, hl => by simp at hl
  | v :: vs, pre, x :: rest, W, h, hl => by
    have h1 := h.set_ pre.length v
    have h2 : ((pre ++ x :: rest).toArray.setIfInBounds pre.length v) = ((pre ++ [v]) ++ rest).toArray := by simp
    rw [h2] at h1
    have := Row.sets_ vs (pre ++ [v]) rest _ h1 (by simpa using hl)
    simp only [List.length_append, List.length_cons, List.length_nil, List.append_assoc, List.cons_append, List.nil_append] at this
    exact this
theorem Row.sets {g : Nat} {t : TypeId} {W : World} {cs : List Value} (h : Row W g t cs.toArray) (vs : List Value) (hl : cs.length = vs.length) : Row (setsAt W g 0 vs) g t vs.toArray := Row.sets_ vs [] cs W h hl
theorem Ext.sets {w : World} {g : Nat} (hg : w.heap.size ≤ g) : ∀ (vs : List Value) (i : Nat) (W : World), Ext w W → Ext w (setsAt W g i vs)
  | [], _, _, h => h
  | v :: vs, i, _, h => Ext.sets hg vs (i + 1) _ (h.setCell (p := ⟨g, i, none⟩) hg v)
theorem Cache.sets {P : Program} {kt : TypeId} {f : Int → Value} {M g : Nat} (hg : g ≠ M) : ∀ (vs : List Value) (i : Nat) (W : World), Cache P kt f M W → Cache P kt f M (setsAt W g i vs)
  | [], _, _, h => h
  | v :: vs, i, _, h => Cache.sets hg vs (i + 1) _ (h.far ⟨g, i, none⟩ v hg)
end Go.Proofs.YtimkmokomohgjaaGreat
namespace Go.Proofs.YtimkmokomohgjaaGreat
open Go.RowKit
open Sp (rd)
set_option maxRecDepth 100000
set_option maxHeartbeats 1000000
def zeroEng : Array Value := #[.slice none 0 0, .int .i64 0, .int .i64 0, .int .i64 0, .slice none 0 0, .slice none 0 0, .slice none 0 0, .slice none 0 0, .int .i64 0, .int .i64 0, .int .i64 0, .slice none 0 0, .map none]
/-- What asked hands back for an engine and settings as defined. -/
def AskPost (p : EP) (e : Ec.Engine) (set : List Int) (w : World) (r : Ending) (w' : World) : Prop :=
  ∃ M, r = .returned (.tuple #[.agg #[.slice p.Ab e.sky.bodies.length p.cb, .int .i64 e.sky.nnum, .int .i64 e.sky.nden, .int .i64 e.sky.nstart, .slice p.As e.sun.length p.cs, .slice p.Am e.moon.length p.cm, .slice p.An e.node.length p.cn, .slice p.Af e.feasts.length p.cf, .int .i64 e.nw, .int .i64 e.fl, .int .i64 e.wide, .slice p.At set.length p.ct, .map (some M)], .int .i64 0]) ∧ w.heap.size ≤ M ∧ Seen e set M w' ∧ Ext w w'
theorem e_asked_ok (p : EP) (e : Ec.Engine) (set : List Int) (w : World) (hm : EngSet w p e set) (hl : EngShort e) (hs : set.length ≤ 100000) (c0 : Ec.engineOk e = true) (c1 : Ec.setOk e.feasts set = true) :
    Calls Tryz.prog 77 #[.agg #[.slice p.Ab e.sky.bodies.length p.cb, .int .i64 e.sky.nnum, .int .i64 e.sky.nden, .int .i64 e.sky.nstart, .slice p.As e.sun.length p.cs, .slice p.Am e.moon.length p.cm, .slice p.An e.node.length p.cn, .slice p.Af e.feasts.length p.cf, .int .i64 e.nw, .int .i64 e.fl, .int .i64 e.wide], .slice p.At set.length p.ct, .bool true] w (AskPost p e set w) := by
  have HM := Lib.hid hm
  have HL := Lib.hid hl
  have hf := hl.feasts
  have c1' : Ec.rising set 0 ((e.feasts.length : Int) - 1) = true := c1
  have HR0 : Hid (Row ((w.alloc (.cells #[.slice p.Ab e.sky.bodies.length p.cb, .int .i64 e.sky.nnum, .int .i64 e.sky.nden, .int .i64 e.sky.nstart, .slice p.As e.sun.length p.cs, .slice p.Am e.moon.length p.cm, .slice p.An e.node.length p.cn, .slice p.Af e.feasts.length p.cf, .int .i64 e.nw, .int .i64 e.fl, .int .i64 e.wide] 83)).alloc (.cells #[.slice none 0 0, .int .i64 0, .int .i64 0, .int .i64 0, .slice none 0 0, .slice none 0 0, .slice none 0 0, .slice none 0 0, .int .i64 0, .int .i64 0, .int .i64 0, .slice none 0 0, .map none] 144)) w.heap.size 83 #[.slice p.Ab e.sky.bodies.length p.cb, .int .i64 e.sky.nnum, .int .i64 e.sky.nden, .int .i64 e.sky.nstart, .slice p.As e.sun.length p.cs, .slice p.Am e.moon.length p.cm, .slice p.An e.node.length p.cn, .slice p.Af e.feasts.length p.cf, .int .i64 e.nw, .int .i64 e.fl, .int .i64 e.wide]) := Lib.hid ((Row.new w _ _).alloc _)
  have HR1 : Hid (Row ((w.alloc (.cells #[.slice p.Ab e.sky.bodies.length p.cb, .int .i64 e.sky.nnum, .int .i64 e.sky.nden, .int .i64 e.sky.nstart, .slice p.As e.sun.length p.cs, .slice p.Am e.moon.length p.cm, .slice p.An e.node.length p.cn, .slice p.Af e.feasts.length p.cf, .int .i64 e.nw, .int .i64 e.fl, .int .i64 e.wide] 83)).alloc (.cells #[.slice none 0 0, .int .i64 0, .int .i64 0, .int .i64 0, .slice none 0 0, .slice none 0 0, .slice none 0 0, .slice none 0 0, .int .i64 0, .int .i64 0, .int .i64 0, .slice none 0 0, .map none] 144)) (w.heap.size + 1) 144 #[.slice none 0 0, .int .i64 0, .int .i64 0, .int .i64 0, .slice none 0 0, .slice none 0 0, .slice none 0 0, .slice none 0 0, .int .i64 0, .int .i64 0, .int .i64 0, .slice none 0 0, .map none]) := Lib.hid (by
    have := Row.new (w.alloc (.cells #[.slice p.Ab e.sky.bodies.length p.cb, .int .i64 e.sky.nnum, .int .i64 e.sky.nden, .int .i64 e.sky.nstart, .slice p.As e.sun.length p.cs, .slice p.Am e.moon.length p.cm, .slice p.An e.node.length p.cn, .slice p.Af e.feasts.length p.cf, .int .i64 e.nw, .int .i64 e.fl, .int .i64 e.wide] 83)) 144 #[.slice none 0 0, .int .i64 0, .int .i64 0, .int .i64 0, .slice none 0 0, .slice none 0 0, .slice none 0 0, .slice none 0 0, .int .i64 0, .int .i64 0, .int .i64 0, .slice none 0 0, .map none]
    simpa using this)
  clear hm hl
  go_enter Tryz.func77, Tryz.ntmps77
  go_wp2_with fail
  refine (e_isEngine_any p e _ (HM.out.eng.ext (((Ext.refl w).alloc _).alloc _)) HL.out).mono ?_
  rintro r w1 ⟨rfl, hE⟩
  have HE := Lib.hid ((((Ext.refl w).alloc _).alloc _).trans hE)
  have HX := Lib.hid (HR0.out.ext hE)
  have HR := Lib.hid (HR1.out.ext hE)
  have x0 := HX.out.cell
  clear hE
  go_wp2_with fail
  refine (e_rising_any p.At p.ct set 0 _ _ (HM.out.set.ext HE.out) hs).mono ?_
  rintro r w2 ⟨rfl, rfl⟩
  have HRA := Lib.hid (HR.out.alloc (.map #[] 0))
  have HXA := Lib.hid (HX.out.alloc (.map #[] 0))
  have HCA := Lib.hid (Cache.new Tryz.prog 3 (handsF e set) w1)
  have HEA := Lib.hid (HE.out.alloc (.map #[] 0))
  have hsz := HE.out.size
  have hr1 := HR.out.lt
  obtain ⟨W2, hW2⟩ : ∃ W2, w1.alloc (.map #[] 0) = W2 := ⟨_, rfl⟩
  rw [hW2] at HRA HCA HEA HXA
  have hmm : (Instr.makeMap 142 none).run Tryz.prog w1 = .ok (.map (some w1.heap.size)) W2 := by rw [← hW2]; rfl
  have r0 := HRA.out.cell
  have x1 := HXA.out.cell
  have f0 := HRA.out.free
  clear hW2
  have hne : w.heap.size + 1 ≠ w1.heap.size := by omega
  go_wp2_with fail
  all_goals clear x0 x1
  clear r0 f0
  obtain ⟨W3, hW3⟩ : ∃ W3, setsAt W2 (w.heap.size + 1) 0 [.slice p.Ab e.sky.bodies.length p.cb, .int .i64 e.sky.nnum, .int .i64 e.sky.nden, .int .i64 e.sky.nstart, .slice p.As e.sun.length p.cs, .slice p.Am e.moon.length p.cm, .slice p.An e.node.length p.cn, .slice p.Af e.feasts.length p.cf, .int .i64 e.nw, .int .i64 e.fl, .int .i64 e.wide, .slice p.At set.length p.ct, .map (some w1.heap.size)] = W3 := ⟨_, rfl⟩
  have hR3 : Row W3 (w.heap.size + 1) 144 #[.slice p.Ab e.sky.bodies.length p.cb, .int .i64 e.sky.nnum, .int .i64 e.sky.nden, .int .i64 e.sky.nstart, .slice p.As e.sun.length p.cs, .slice p.Am e.moon.length p.cm, .slice p.An e.node.length p.cn, .slice p.Af e.feasts.length p.cf, .int .i64 e.nw, .int .i64 e.fl, .int .i64 e.wide, .slice p.At set.length p.ct, .map (some w1.heap.size)] := by rw [← hW3]; exact Row.sets (cs := [.slice none 0 0, .int .i64 0, .int .i64 0, .int .i64 0, .slice none 0 0, .slice none 0 0, .slice none 0 0, .slice none 0 0, .int .i64 0, .int .i64 0, .int .i64 0, .slice none 0 0, .map none]) HRA.out _ rfl
  have hE3 : Ext w W3 := by rw [← hW3]; exact Ext.sets (Nat.le_succ _) _ _ _ HEA.out
  have hC3 : Seen e set w1.heap.size W3 := by rw [← hW3]; exact Cache.sets hne _ _ _ HCA.out
  simp only [setsAt, Nat.reduceAdd] at hW3
  rw [hW3]
  clear hW3
  have r3 := hR3.cell
  refine bodyPost_ret (v := .tuple #[.agg #[.slice p.Ab e.sky.bodies.length p.cb, .int .i64 e.sky.nnum, .int .i64 e.sky.nden, .int .i64 e.sky.nstart, .slice p.As e.sun.length p.cs, .slice p.Am e.moon.length p.cm, .slice p.An e.node.length p.cn, .slice p.Af e.feasts.length p.cf, .int .i64 e.nw, .int .i64 e.fl, .int .i64 e.wide, .slice p.At set.length p.ct, .map (some w1.heap.size)], .int .i64 0]) ?_ rfl ⟨_, rfl, (by omega), hC3, hE3⟩
  have c0 := r3 0
  have c1 := r3 1
  have c2 := r3 2
  have c3 := r3 3
  have c4 := r3 4
  have c5 := r3 5
  have c6 := r3 6
  have c7 := r3 7
  have c8 := r3 8
  have c9 := r3 9
  have c10 := r3 10
  have c11 := r3 11
  have c12 := r3 12
  clear r3
  simp only [List.getElem?_toArray, List.getElem?_cons_zero, List.getElem?_cons_succ] at c0 c1 c2 c3 c4 c5 c6 c7 c8 c9 c10 c11 c12
  simp [results, Tryz.results77, asAddr, go_sem, c0, c1, c2, c3, c4, c5, c6, c7, c8, c9, c10, c11, c12]
end Go.Proofs.YtimkmokomohgjaaGreat
namespace Go.Proofs.YtimkmokomohgjaaGreat
open Sp (rd)
set_option linter.unusedSimpArgs false
set_option linter.unusedVariables false
namespace Ec
/-- Numbers from k on, below n, that increase. -/
def Incr (n : Int) : Int → List Int → Prop
  | _, [] => True
  | k, x :: l => k ≤ x ∧ x < n ∧ Incr n (x + 1) l
theorem Incr.mono {n k k' : Int} {l : List Int} (h : k' ≤ k) (hi : Incr n k l) : Incr n k' l := by
  cases l with
  | nil => trivial
  | cons x l => exact ⟨by have := hi.1; omega, hi.2⟩
end Ec
end Go.Proofs.YtimkmokomohgjaaGreat
namespace Go.Proofs.YtimkmokomohgjaaGreat
open Sp (rd)
set_option linter.unusedSimpArgs false
set_option linter.unusedVariables false
namespace Ec
theorem Incr.len {n : Int} : ∀ {l : List Int} {k : Int}, Incr n k l → l.length ≤ (n - k).toNat
  | [], _, _ => Nat.zero_le _
  | x :: l, k, ⟨h1, h2, h3⟩ => by
    have := Incr.len h3
    simp only [List.length_cons]
    omega
end Ec
end Go.Proofs.YtimkmokomohgjaaGreat
namespace Go.Proofs.YtimkmokomohgjaaGreat
open Go.RowKit
open Sp (rd)
set_option maxRecDepth 100000
set_option maxHeartbeats 1000000
def cmpI (a b : Int) : Int := if a < b then -1 else if b < a then 1 else 0
theorem c_isNaN_any (x : Int) (w : World) : Calls Tryz.prog 205 #[.int .i64 x] w fun e w' => e = .returned (.bool false) ∧ w = w' := by
  go_enter Tryz.func205, Tryz.ntmps205
  go_wp2_with fail
  go_ret
  exact ⟨by simp, rfl⟩
theorem c_Compare_any (a b : Int) (w : World) : Calls Tryz.prog 192 #[.int .i64 a, .int .i64 b] w fun e w' => e = .returned (.int .i64 (cmpI a b)) ∧ w = w' := by
  rcases (show a < b ∨ a = b ∨ b < a by omega) with h | rfl | h
  · have hc : cmpI a b = -1 := by unfold cmpI; rw [if_pos h]
    rw [hc]
    clear hc
    go_enter Tryz.func192, Tryz.ntmps192
    go_wp2_with fail
    refine (c_isNaN_any _ _).mono ?_
    rintro e w1 ⟨rfl, rfl⟩
    go_wp2_with fail
    refine (c_isNaN_any _ _).mono ?_
    rintro e w1 ⟨rfl, rfl⟩
    go_wp2_with fail
    go_ret
    exact ⟨rfl, rfl⟩
  · have hc : cmpI a a = 0 := by unfold cmpI; simp
    rw [hc]
    clear hc
    go_enter Tryz.func192, Tryz.ntmps192
    go_wp2_with fail
    refine (c_isNaN_any _ _).mono ?_
    rintro e w1 ⟨rfl, rfl⟩
    go_wp2_with fail
    refine (c_isNaN_any _ _).mono ?_
    rintro e w1 ⟨rfl, rfl⟩
    go_wp2_with fail
    go_ret
    exact ⟨rfl, rfl⟩
  · have hc : cmpI a b = 1 := by unfold cmpI; rw [if_neg (by omega), if_pos h]
    rw [hc]
    clear hc
    go_enter Tryz.func192, Tryz.ntmps192
    go_wp2_with fail
    refine (c_isNaN_any _ _).mono ?_
    rintro e w1 ⟨rfl, rfl⟩
    go_wp2_with fail
    refine (c_isNaN_any _ _).mono ?_
    rintro e w1 ⟨rfl, rfl⟩
    go_wp2_with fail
    go_ret
    exact ⟨rfl, rfl⟩
/-- A slice value that holds lists of integers. -/
def ListsAt (w : World) (A : Option Addr) (ls : List (List Int)) : Prop := 0 < ls.length → ∃ b o, A = some ⟨b, o, none⟩ ∧ ∀ k, (hk : k < ls.length) → ∃ B d, w.cell? ⟨b, o + k, none⟩ = some (.slice B (ls[k]).length d) ∧ Ints w B ls[k]
theorem ListsAt.ext {w w' : World} {A : Option Addr} {ls : List (List Int)} (h : ListsAt w A ls) (he : Ext w w') : ListsAt w' A ls := fun h0 =>
  let ⟨b, o, e, hk⟩ := h h0
  ⟨b, o, e, fun k hk' => let ⟨B, d, h1, h2⟩ := hk k hk'; ⟨B, d, he.cell h1, h2.ext he⟩⟩
end Go.Proofs.YtimkmokomohgjaaGreat
namespace Go.Proofs.YtimkmokomohgjaaGreat
open Go.RowKit
theorem Ran.value {P : Program} {ops : Array Oper} {o : Oper} {a : Act} {w w1 : World} {v : Value} {G : Value → World → Prop} (hg : o.guard = none) (hx : (execOp a.eval o).run P w = .ok (.value v) w1) (h : G v w1) : Ran P ops o a w G := by
  refine Ran.plain hg ?_
  unfold Oper.wp
  rw [hx, Oper.upon_value]
  exact ⟨v, rfl, h⟩
theorem Ran.enter {P : Program} {ops : Array Oper} {o : Oper} {a : Act} {w w1 : World} {f : FuncId} {args : Array Value} {G : Value → World → Prop} (hg : o.guard = none) (hx : (execOp a.eval o).run P w = .ok (.enter f args) w1)
    (h : Calls P f args w1 fun r w' => ∃ v, r = .returned v ∧ G v w') : Ran P ops o a w G := by
  refine Ran.plain hg ?_
  unfold Oper.wp
  rw [hx, Oper.upon_enter]
  exact h.mono fun r w' ⟨v, hr, hG⟩ => by subst hr; exact ⟨v, rfl, hG⟩
theorem Ran.if_ {P : Program} {ops : Array Oper} {o oj : Oper} {a : Act} {w : World} {j : Nat} {d : Tmp} {want b : Bool} {G : Value → World → Prop} (hg : o.guard = some (j, want)) (hj : ops[j]? = some oj) (hd : oj.dst = some d) (he : a.eval (.tmp d) = .bool b)
    (h1 : b = want → Ran P ops { o with guard := none } a w G) (h2 : b ≠ want → G undef w) : Ran P ops o a w G := by
  unfold Ran
  rw [wanted_of hg hj hd he]
  by_cases h : b = want
  · have := h1 h
    unfold Ran at this
    rw [if_pos (by simp [Region.wanted])] at this
    rw [if_pos (by simpa using h)]
    exact this
  · rw [if_neg (by simpa using h)]
    exact h2 h
theorem evalD {a : Act} {d : Tmp} {v : Value} (h : a.eval (.tmp d) = v) : a.tmps[d]?.getD undef = v := by
  rw [← h]
  simp [Act.eval, Array.getD_eq_getD_getElem?]
end Go.Proofs.YtimkmokomohgjaaGreat
namespace Go.Proofs.YtimkmokomohgjaaGreat
namespace Ec
structure Ball where
  x : Int
  y : Int
  r : Int
def apart (a b : Ball) : Bool := decide ((a.r + b.r) * (a.r + b.r) < (a.x - b.x) * (a.x - b.x) + (a.y - b.y) * (a.y - b.y))
/-- Squares. -/
theorem sq_le {a b : Int} (h0 : 0 ≤ a) (h : a ≤ b) : a * a ≤ b * b := Int.mul_le_mul h h h0 (by omega)
theorem sq_lt {a b : Int} (h0 : 0 ≤ a) (h : a < b) : a * a < b * b := by
  have h1 : a * a ≤ a * b := Int.mul_le_mul_of_nonneg_left (by omega) h0
  have h2 : a * b < b * b := Int.mul_lt_mul_of_pos_right h (by omega)
  omega
theorem le_of_sq {a b : Int} (h0 : 0 ≤ b) (h : a * a ≤ b * b) : a ≤ b := by
  rcases Int.lt_or_le b a with h1 | h1
  · have := sq_lt h0 h1; omega
  · exact h1
theorem lt_of_sq {a b : Int} (h0 : 0 ≤ b) (h : a * a < b * b) : a < b := by
  rcases Int.lt_or_le a b with h1 | h1
  · exact h1
  · have := sq_le h0 h1; omega
theorem sq_nonneg (a : Int) : 0 ≤ a * a := by
  rcases Int.le_total 0 a with h | h
  · exact Int.mul_nonneg h h
  · exact Int.mul_nonneg_of_nonpos_of_nonpos h h
/-- 'U - Y is not less than the root of Z', by squares. -/
theorem root_le (U Y Z : Int) (hU : 0 ≤ U) (hZ : 0 < Z) (hK : 0 ≤ U * U - Y * Y - Z) (hK2 : 4 * (Y * Y) * Z ≤ (U * U - Y * Y - Z) * (U * U - Y * Y - Z)) : 0 < U - Y ∧ Z ≤ (U - Y) * (U - Y) := by
  have h1 : Y < U := lt_of_sq hU (by omega)
  refine ⟨by omega, ?_⟩
  have e : (U - Y) * (U - Y) = U * U - Y * Y - Z + 2 * (Y * Y) + Z - 2 * (U * Y) := by grind
  rcases Int.le_total Y 0 with h | h
  · have h2 : U * Y ≤ 0 := Int.mul_nonpos_of_nonneg_of_nonpos hU h
    have := sq_nonneg Y
    omega
  · have h2 : 2 * (U * Y) ≤ U * U - Y * Y - Z + 2 * (Y * Y) := by
      apply le_of_sq (by have := sq_nonneg Y; omega)
      have e2 : (U * U - Y * Y - Z + 2 * (Y * Y)) * (U * U - Y * Y - Z + 2 * (Y * Y)) - 2 * (U * Y) * (2 * (U * Y)) = (U * U - Y * Y - Z) * (U * U - Y * Y - Z) - 4 * (Y * Y) * Z := by grind
      omega
    omega
/-- What is used of two balls of which the first makes the second one dark. -/
structure Dark (A m s t ra rb ab : Int) : Prop where
  hA : A = s + ra * ra
  hm : m = t + rb * rb
  s0 : 0 < s
  t0 : 0 < t
  ra0 : 0 < ra
  rb0 : 0 < rb
  wide : rb * rb * A ≤ ra * ra * m
  D0 : ra * rb ≤ ab
  D2 : s * t ≤ (ab - ra * rb) * (ab - ra * rb)
theorem Dark.wide' {A m s t ra rb ab : Int} (h : Dark A m s t ra rb ab) : rb * rb * s ≤ ra * ra * t := by
  have := h.wide
  rw [h.hA, h.hm] at this
  grind
theorem Dark.p1 {A m s t ra rb ab : Int} (h : Dark A m s t ra rb ab) : s * rb ≤ ra * (ab - ra * rb) := by
  have hD : 0 ≤ ab - ra * rb := by have := h.D0; omega
  apply le_of_sq (Int.mul_nonneg (by have := h.ra0; omega) hD)
  have a1 : ra * ra * (s * t) ≤ ra * ra * ((ab - ra * rb) * (ab - ra * rb)) := Int.mul_le_mul_of_nonneg_left h.D2 (sq_nonneg ra)
  have a2 : s * (rb * rb * s) ≤ s * (ra * ra * t) := Int.mul_le_mul_of_nonneg_left h.wide' (by have := h.s0; omega)
  grind
theorem mul_pos_left {m x : Int} (hm : 0 < m) (h : 0 < m * x) : 0 < x := by
  rcases Int.lt_or_le 0 x with h1 | h1
  · exact h1
  · have := Int.mul_nonpos_of_nonneg_of_nonpos (Int.le_of_lt hm) h1; omega
theorem mul_le_left {m x y : Int} (hm : 0 < m) (h : m * x ≤ m * y) : x ≤ y := Int.le_of_mul_le_mul_left h hm
/-- Dark from dark. -/
theorem Dark.trans {A m C s t u ra rb rc ab bc ac X Y : Int} (h : Dark A m s t ra rb ab) (k : Dark m C t u rb rc bc) (hX : X * X = A * m - ab * ab) (hY : Y * Y = m * C - bc * bc) (hac : m * ac = ab * bc - X * Y) : Dark A C s u ra rc ac := by
  have hm : 0 < m := by have := h.hm; have := h.t0; have := sq_nonneg rb; omega
  have hA : 0 < A := by have := h.hA; have := h.s0; have := sq_nonneg ra; omega
  have hC : 0 < C := by have := k.hm; have := k.t0; have := sq_nonneg rc; omega
  have p1 := h.p1
  have p2 := k.p1
  have d1 := h.D2
  have d2 := k.D2
  have hab : 0 < ab := by have := h.D0; have := Int.mul_pos h.ra0 h.rb0; omega
  have hbc : 0 < bc := by have := k.D0; have := Int.mul_pos k.ra0 k.rb0; omega
  have r2 : rc * bc ≤ rb * C := by
    apply le_of_sq (Int.mul_nonneg (by have := h.rb0; omega) (by omega))
    have a1 : (rc * rc) * (bc * bc) ≤ (rc * rc) * (m * C) := Int.mul_le_mul_of_nonneg_left (by have := sq_nonneg Y; omega) (sq_nonneg rc)
    have a2 : C * (rc * rc * m) ≤ C * (rb * rb * C) := Int.mul_le_mul_of_nonneg_left k.wide (by omega)
    grind
  have hW : 0 ≤ ab * bc - m * (ra * rc) := by
    have e : rb * (ab * bc - m * (ra * rc)) = ab * (rb * (bc - rb * rc) - t * rc) + m * (rc * (ab - ra * rb)) := by rw [h.hm]; grind
    have q1 : 0 ≤ ab * (rb * (bc - rb * rc) - t * rc) := Int.mul_nonneg (by omega) (by omega)
    have q2 : 0 ≤ m * (rc * (ab - ra * rb)) := Int.mul_nonneg (by omega) (Int.mul_nonneg (by have := k.rb0; omega) (by have := h.D0; omega))
    exact mul_le_left h.rb0 (by rw [Int.mul_zero, e]; omega)
  obtain ⟨g1, hg1⟩ : ∃ g, (ab - ra * rb) * (ab - ra * rb) - s * t = g := ⟨_, rfl⟩
  obtain ⟨g2, hg2⟩ : ∃ g, (bc - rb * rc) * (bc - rb * rc) - t * u = g := ⟨_, rfl⟩
  obtain ⟨e1, he1⟩ : ∃ e, ra * (ab - ra * rb) - s * rb = e := ⟨_, rfl⟩
  obtain ⟨e2, he2⟩ : ∃ e, rb * C - rc * bc = e := ⟨_, rfl⟩
  have f1 : 0 ≤ g1 := by omega
  have f2 : 0 ≤ g2 := by omega
  have f3 : 0 ≤ e1 := by omega
  have f4 : 0 ≤ e2 := by omega
  have i1 : e1 * e1 = s * (X * X) + A * g1 := by rw [← he1, ← hg1, hX, h.hA, h.hm]; grind
  have i2 : e2 * e2 = u * (Y * Y) + C * g2 := by rw [← he2, ← hg2, hY, k.hA, k.hm]; grind
  have hK : (ab * bc - m * (ra * rc)) * (ab * bc - m * (ra * rc)) - X * Y * (X * Y) - m * m * (s * u) = m * (A * g2 + C * g1 + 2 * (e1 * e2)) := by
    have q : X * Y * (X * Y) = (A * m - ab * ab) * (m * C - bc * bc) := by rw [← hX, ← hY]; grind
    rw [q, ← hg1, ← hg2, ← he1, ← he2, h.hA, k.hm, h.hm]; grind
  have n1 : 0 ≤ A * g2 := Int.mul_nonneg (by omega) f2
  have n2 : 0 ≤ C * g1 := Int.mul_nonneg (by omega) f1
  have n3 : 0 ≤ e1 * e2 := Int.mul_nonneg f3 f4
  have hsu : 0 < s * u := Int.mul_pos h.s0 k.t0
  have hr := root_le (ab * bc - m * (ra * rc)) (X * Y) (m * m * (s * u)) hW (Int.mul_pos (Int.mul_pos hm hm) hsu) (by rw [hK]; exact Int.mul_nonneg (by omega) (by omega)) (by
    rw [hK]
    have b1 : (2 * (e1 * e2)) * (2 * (e1 * e2)) ≤ (A * g2 + C * g1 + 2 * (e1 * e2)) * (A * g2 + C * g1 + 2 * (e1 * e2)) := sq_le (by omega) (by omega)
    have b2 : (s * (X * X)) * (u * (Y * Y)) ≤ (e1 * e1) * (e2 * e2) := by
      have c1 : s * (X * X) ≤ e1 * e1 := by have := Int.mul_nonneg (Int.le_of_lt hA) f1; omega
      have c2 : u * (Y * Y) ≤ e2 * e2 := by have := Int.mul_nonneg (Int.le_of_lt hC) f2; omega
      exact Int.mul_le_mul c1 c2 (Int.mul_nonneg (by have := k.t0; omega) (sq_nonneg _)) (sq_nonneg _)
    have b3 : (m * m) * ((2 * (e1 * e2)) * (2 * (e1 * e2))) ≤ (m * m) * ((A * g2 + C * g1 + 2 * (e1 * e2)) * (A * g2 + C * g1 + 2 * (e1 * e2))) := Int.mul_le_mul_of_nonneg_left b1 (sq_nonneg m)
    have b4 : (m * m) * ((s * (X * X)) * (u * (Y * Y))) ≤ (m * m) * ((e1 * e1) * (e2 * e2)) := Int.mul_le_mul_of_nonneg_left b2 (sq_nonneg m)
    grind)
  have hE : ab * bc - m * (ra * rc) - X * Y = m * (ac - ra * rc) := by grind
  rw [hE] at hr
  refine ⟨h.hA, k.hm, h.s0, k.t0, h.ra0, k.rb0, ?_, by have := mul_pos_left hm hr.1; omega, ?_⟩
  · apply mul_le_left hm
    have a1 : C * (rb * rb * A) ≤ C * (ra * ra * m) := Int.mul_le_mul_of_nonneg_left h.wide (by omega)
    have a2 : A * (rc * rc * m) ≤ A * (rb * rb * C) := Int.mul_le_mul_of_nonneg_left k.wide (by omega)
    grind
  · apply mul_le_left (Int.mul_pos hm hm)
    have := hr.2
    grind
set_option linter.unusedVariables false
end Ec
end Go.Proofs.YtimkmokomohgjaaGreat
namespace Go.Proofs.YtimkmokomohgjaaGreat
open Go.RowKit
open Sp (rd)
set_option maxRecDepth 100000
set_option maxHeartbeats 2000000
set_option linter.unusedVariables false
/-- A slice that the region itself makes. -/
def MkAt (w0 : World) (v : Value) (w : World) (t : TypeId) (n : Nat) (cs : Array Value) : Prop := ∃ b, v = .slice (some ⟨b, 0, none⟩) n n ∧ w0.heap.size ≤ b ∧ Row w b t cs
theorem MkAt.ext {w0 w w' : World} {v : Value} {t : TypeId} {n : Nat} {cs : Array Value} (h : MkAt w0 v w t n cs) (he : Ext w w') : MkAt w0 v w' t n cs := let ⟨b, h1, h2, h3⟩ := h; ⟨b, h1, h2, h3.ext he⟩
end Go.Proofs.YtimkmokomohgjaaGreat
namespace Go.Proofs.YtimkmokomohgjaaGreat
open Go.RowKit
open Sp (rd)
set_option maxRecDepth 100000
set_option maxHeartbeats 4000000
set_option linter.unusedVariables false
/-- The numbers of teeth of a rule: from a on, the first k, but those that are never cut. -/
def Tp.teethN (a : Int) (l : List Int) : Nat → List Int
  | 0 => []
  | k + 1 => Tp.teethN a l k ++ (if (l.any fun n => a + (k : Int) == n) = true then [] else [a + (k : Int)])
theorem Tp.teethN_len (a : Int) (l : List Int) : ∀ k, (Tp.teethN a l k).length ≤ k
  | 0 => Nat.le_refl _
  | k + 1 => by
    rw [Tp.teethN, List.length_append]
    have := Tp.teethN_len a l k
    split <;> simp <;> omega
theorem Tp.ints_own {w : World} {base n d : Nat} {B : Option Addr} {L : List Int} (h : w.ownsRow base 3 1 (.slice B n d) L.length (L.map fun x => .int .i64 x)) : Ints w B L ∧ n = L.length := by
  obtain ⟨A, c, e, hI⟩ := Ints.of_own (f := fun x : Int => x) (l := L) (by exact h)
  have e2 : (L.map fun x => x) = L := List.map_id' L
  rw [e2] at hI
  simp at e
  obtain ⟨rfl, rfl, rfl⟩ := e
  exact ⟨hI, rfl⟩
theorem Tp.own_slice {w : World} {base size n : Nat} {e : TypeId} {v : Value} {xs : List Value} (h : w.ownsRow base e size v n xs) : ∃ B d, v = .slice B n d := by
  rcases h.2 with ⟨rfl, h0⟩ | ⟨g, cap, cur, hv, _⟩
  · exact ⟨none, 0, by rw [h0]⟩
  · exact ⟨_, _, hv⟩
theorem Tp.grown_far {W W' : World} {g : Nat} {t : TypeId} {cs : Array Value} {row : Option Nat} (h : Row W g t cs) (hg : W.grownBy W' row) (hne : some g ≠ row) : Row W' g t cs := (hg.block g h.lt hne).trans h
theorem Tp.own_ne {w : World} {base : Nat} {e : TypeId} {size : Nat} {v : Value} {n : Nat} {xs : List Value} (h : w.ownsRow base e size v n xs) {g : Nat} (hg : g < base) : some g ≠ v.ownBlock := fun he => by
  have := (h.lt g he.symm).1
  omega
theorem t_ruled_any (a b p s : Int) (A : Option Addr) (c : Nat) (l : List Int) (N : Nat) (w : World) (hm : Ints w A l) (hl : l.length ≤ 100000) (hN : (N : Int) = b + 1 - a) (h1 : 0 ≤ a ∧ a ≤ 1000) (h2 : b ≤ 1000) :
    Calls Tryz.prog 92 #[.agg #[.int .i64 a, .int .i64 b, .int .i64 p, .int .i64 s, .slice A l.length c]] w fun e w' => ∃ B d, e = .returned (.agg #[.int .i64 a, .int .i64 b, .int .i64 p, .int .i64 s, .slice A l.length c, .slice B (Tp.teethN a l N).length d]) ∧ Ints w' B (Tp.teethN a l N) ∧ Ext w w' := by
  have HM := Lib.hid hm
  have HNN := Lib.hid hN
  have h3 : N ≤ 1001 := by omega
  obtain ⟨i0, hi0, hi1, hi2, hi3⟩ := info_parts info_int
  clear hm
  have HR1 := Lib.hid (Row.new w 101 #[.int .i64 a, .int .i64 b, .int .i64 p, .int .i64 s, .slice A l.length c])
  have a1 := HR1.out.cell
  have HA0 : Hid (Row (((w.alloc (.cells #[.int .i64 a, .int .i64 b, .int .i64 p, .int .i64 s, .slice A l.length c] 101)).alloc (.cells #[.int .i64 0, .int .i64 0, .int .i64 0, .int .i64 0, .slice none 0 0, .slice none 0 0] 161)).alloc (.cells #[.int .i64 a, .int .i64 b, .int .i64 p, .int .i64 s, .slice A l.length c, .slice none 0 0] 161)) w.heap.size 101 #[.int .i64 a, .int .i64 b, .int .i64 p, .int .i64 s, .slice A l.length c]) := Lib.hid (blocks3 w _ _ _).1
  have HB0 : Hid (Row (((w.alloc (.cells #[.int .i64 a, .int .i64 b, .int .i64 p, .int .i64 s, .slice A l.length c] 101)).alloc (.cells #[.int .i64 0, .int .i64 0, .int .i64 0, .int .i64 0, .slice none 0 0, .slice none 0 0] 161)).alloc (.cells #[.int .i64 a, .int .i64 b, .int .i64 p, .int .i64 s, .slice A l.length c, .slice none 0 0] 161)) (w.heap.size + 1) 161 #[.int .i64 0, .int .i64 0, .int .i64 0, .int .i64 0, .slice none 0 0, .slice none 0 0]) := Lib.hid (blocks3 w _ _ _).2.1
  have HC0 : Hid (Row (((w.alloc (.cells #[.int .i64 a, .int .i64 b, .int .i64 p, .int .i64 s, .slice A l.length c] 101)).alloc (.cells #[.int .i64 0, .int .i64 0, .int .i64 0, .int .i64 0, .slice none 0 0, .slice none 0 0] 161)).alloc (.cells #[.int .i64 a, .int .i64 b, .int .i64 p, .int .i64 s, .slice A l.length c, .slice none 0 0] 161)) (w.heap.size + 1 + 1) 161 #[.int .i64 a, .int .i64 b, .int .i64 p, .int .i64 s, .slice A l.length c, .slice none 0 0]) := Lib.hid (blocks3 w _ _ _).2.2
  have HE0 : Hid (Ext w (((w.alloc (.cells #[.int .i64 a, .int .i64 b, .int .i64 p, .int .i64 s, .slice A l.length c] 101)).alloc (.cells #[.int .i64 0, .int .i64 0, .int .i64 0, .int .i64 0, .slice none 0 0, .slice none 0 0] 161)).alloc (.cells #[.int .i64 a, .int .i64 b, .int .i64 p, .int .i64 s, .slice A l.length c, .slice none 0 0] 161))) := Lib.hid ((((Ext.refl w).alloc _).alloc _).alloc _)
  have HS0 : Hid ((((w.alloc (.cells #[.int .i64 a, .int .i64 b, .int .i64 p, .int .i64 s, .slice A l.length c] 101)).alloc (.cells #[.int .i64 0, .int .i64 0, .int .i64 0, .int .i64 0, .slice none 0 0, .slice none 0 0] 161)).alloc (.cells #[.int .i64 a, .int .i64 b, .int .i64 p, .int .i64 s, .slice A l.length c, .slice none 0 0] 161)).heap.size = w.heap.size + 3) := Lib.hid (by simp)
  go_enter Tryz.func92, Tryz.ntmps92
  go_wp2_with fail
  clear a1 HR1
  obtain ⟨W0, hW0⟩ : ∃ W, ((w.alloc (.cells #[.int .i64 a, .int .i64 b, .int .i64 p, .int .i64 s, .slice A l.length c] 101)).alloc (.cells #[.int .i64 0, .int .i64 0, .int .i64 0, .int .i64 0, .slice none 0 0, .slice none 0 0] 161)).alloc (.cells #[.int .i64 a, .int .i64 b, .int .i64 p, .int .i64 s, .slice A l.length c, .slice none 0 0] 161) = W := ⟨_, rfl⟩
  rw [hW0] at HA0 HB0 HC0 HE0 HS0 ⊢
  clear hW0
  go_loopw [4] (fun i wr => ∃ (k : Nat) (v : Value), k ≤ N ∧ i = .int .i64 (a + (k : Int)) ∧ Row wr w.heap.size 101 #[.int .i64 a, .int .i64 b, .int .i64 p, .int .i64 s, .slice A l.length c] ∧ Row wr (w.heap.size + 1) 161 #[.int .i64 0, .int .i64 0, .int .i64 0, .int .i64 0, .slice none 0 0, .slice none 0 0] ∧ Row wr (w.heap.size + 1 + 1) 161 #[.int .i64 a, .int .i64 b, .int .i64 p, .int .i64 s, .slice A l.length c, v] ∧ wr.ownsRow (w.heap.size + 3) 3 1 v (Tp.teethN a l k).length ((Tp.teethN a l k).map fun x => .int .i64 x) ∧ Ext w wr) (fun i _ => N - (intOf i - a).toNat)
  case atStart => exact ⟨0, .slice none 0 0, Nat.zero_le _, by simp, HA0.out, HB0.out, HC0.out, by simp [Tp.teethN, World.ownsRow], HE0.out⟩
  case round =>
    obtain ⟨k, v, hk, rfl, hA, hB, hC, hO, hX⟩ := hrel
    have hz := hX.size
    have hlen := Tp.teethN_len a l k
    have HA := Lib.hid hA
    have HB := Lib.hid hB
    have HC := Lib.hid hC
    have HO := Lib.hid hO
    have HX := Lib.hid hX
    have hN := HNN.out
    have j0 := lts hC.lt
    by_cases hlt : k < N
    · have HSC := Lib.hid (show Tp.teethN a l (k + 1) = Tp.teethN a l k ++ (if (l.any fun n => a + (k : Int) == n) = true then [] else [a + (k : Int)]) from rfl)
      have hle : a + (k : Int) ≤ b := by omega
      have HCT := Lib.hid (s_contains_any A c l (a + (k : Int)) wr (HM.out.ext hX) hl)
      obtain ⟨q, hq⟩ : ∃ q, (l.any fun n => a + (k : Int) == n) = q := ⟨_, rfl⟩
      rw [hq] at HSC HCT
      have c0 := hA.cell
      obtain ⟨L, hL⟩ : ∃ L, Tp.teethN a l k = L := ⟨_, rfl⟩
      rw [hL] at HO HSC hlen
      clear hq hA hB hC hO hX hL
      go_wp2_with fail
      refine HCT.out.mono ?_
      rintro e w1 ⟨rfl, hE1⟩
      have HA1 := Lib.hid (HA.out.ext hE1)
      have HB1 := Lib.hid (HB.out.ext hE1)
      have HC1 := Lib.hid (HC.out.ext hE1)
      have HO1 := Lib.hid (own_ext HO.out hE1)
      have HX1 := Lib.hid (HX.out.trans hE1)
      have hz1 := HX1.out.size
      have j1 := lts HC1.out.lt
      clear c0 hE1
      cases q with
      | true =>
        go_wp2_with fail
        go_roundw
        case rel => exact ⟨k + 1, v, by omega, by go_num, HA1.out, HB1.out, HC1.out, by rw [HSC.out]; simpa using HO1.out, HX1.out⟩
        case measure => simp [intOf]; omega
      | false =>
        have c1 := HC1.out.cell
        have hown4 := HO1.out.alloc (.cells #[.int .i64 (a + (k : Int))] 3)
        have HO4 := Lib.hid hown4
        go_wp2_with (at_builtin; refine wpList_append_lies _ rfl _ _ 48 rfl (w.heap.size + 3) 3 i0 _ 1 8 Tryz.underlying48 hi0 hi1 hi2 hi3 rfl (by decide) _ L.length (L.map fun x => .int .i64 x) rfl hown4 ⟨w1.heap.size, 0, none⟩ 1 1 [.int .i64 (a + (k : Int))] rfl rfl (World.news_of_block (cs := #[.int .i64 (a + (k : Int))]) (t := 3) (fr := (0, 0)) (heap_alloc_new _ _)) (by simp [Value.oneCell']) (by omega) (by simp only [maxLen]; omega) (by omega) (by simp; omega) _ rfl ?_; intro gg cap w5 hown5 hgrow hat hlt5; have HO5 := Lib.hid hown5; have HC5 := Lib.hid (Tp.grown_far (HC1.out.alloc (.cells #[.int .i64 (a + (k : Int))] 3)) hgrow (Tp.own_ne hown4 (by omega))); have HB5 := Lib.hid (Tp.grown_far (HB1.out.alloc (.cells #[.int .i64 (a + (k : Int))] 3)) hgrow (Tp.own_ne hown4 (by omega))); have HA5 := Lib.hid (Tp.grown_far (HA1.out.alloc (.cells #[.int .i64 (a + (k : Int))] 3)) hgrow (Tp.own_ne hown4 (by omega))); have HX5 := Lib.hid ((HX1.out.alloc (.cells #[.int .i64 (a + (k : Int))] 3)).grown hgrow (fun g hg => by have := (HO4.out.lt g hg).1; omega)); have c5 := HC5.out.cell; have f5 := HC5.out.free; have j5 := lts HC5.out.lt; clear hown5 hgrow c1)
        go_roundw
        case rel =>
          obtain ⟨v', hv'⟩ : ∃ v' : Value, .slice (some ⟨gg, 0, none⟩) (L.length + 1) cap = v' := ⟨_, rfl⟩
          rw [hv'] at HO5 ⊢
          refine ⟨k + 1, v', by omega, by go_num, HA5.out.far (p := ⟨w.heap.size + 1 + 1, 5, none⟩) (by simp; omega) v', HB5.out.far (p := ⟨w.heap.size + 1 + 1, 5, none⟩) (by simp) v', HC5.out.set_ 5 v', ?_, HX5.out.setCell (p := ⟨w.heap.size + 1 + 1, 5, none⟩) (by simp; omega) v'⟩
          refine ownsRow_setCell_below ?_ (by simp) _
          rw [HSC.out]
          simpa using HO5.out
        case measure => simp [intOf]; omega
    · obtain rfl : k = N := by omega
      have hle : ¬ (a + (k : Int) ≤ b) := by omega
      obtain ⟨B, d, rfl⟩ := Tp.own_slice hO
      have c0 := hA.cell
      have c1 := hC.cell
      have c2 := hB.cell
      have f2 := hB.free
      clear hA hB hC hO hX
      go_wp2_with fail
      have r2 := ((((((HB.out.set_ 0 (.int .i64 a)).set_ 1 (.int .i64 b)).set_ 2 (.int .i64 p)).set_ 3 (.int .i64 s)).set_ 4 (.slice A l.length c)).set_ 5 (.slice B (Tp.teethN a l k).length d))
      have hI2 := (Tp.ints_own (ownsRow_setCell_below (ownsRow_setCell_below (ownsRow_setCell_below (ownsRow_setCell_below (ownsRow_setCell_below (ownsRow_setCell_below HO.out (a := ⟨w.heap.size + 1, 0, none⟩) (by simp) (.int .i64 a)) (a := ⟨w.heap.size + 1, 1, none⟩) (by simp) (.int .i64 b)) (a := ⟨w.heap.size + 1, 2, none⟩) (by simp) (.int .i64 p)) (a := ⟨w.heap.size + 1, 3, none⟩) (by simp) (.int .i64 s)) (a := ⟨w.heap.size + 1, 4, none⟩) (by simp) (.slice A l.length c)) (a := ⟨w.heap.size + 1, 5, none⟩) (by simp) (.slice B (Tp.teethN a l k).length d))).1
      have c3 := r2.cell
      refine bodyPost_ret (v := .agg #[.int .i64 a, .int .i64 b, .int .i64 p, .int .i64 s, .slice A l.length c, .slice B (Tp.teethN a l k).length d]) (by simp [results, Tryz.results92, go_sem, c3]) rfl ⟨B, ⟨d, rfl⟩, hI2, ((((((HX.out.setCell (p := ⟨w.heap.size + 1, 0, none⟩) (by simp) (.int .i64 a)).setCell (p := ⟨w.heap.size + 1, 1, none⟩) (by simp) (.int .i64 b)).setCell (p := ⟨w.heap.size + 1, 2, none⟩) (by simp) (.int .i64 p)).setCell (p := ⟨w.heap.size + 1, 3, none⟩) (by simp) (.int .i64 s)).setCell (p := ⟨w.heap.size + 1, 4, none⟩) (by simp) (.slice A l.length c)).setCell (p := ⟨w.heap.size + 1, 5, none⟩) (by simp) (.slice B (Tp.teethN a l k).length d))⟩
end Go.Proofs.YtimkmokomohgjaaGreat
namespace Go.Proofs.YtimkmokomohgjaaGreat
open Go.RowKit
open Sp (rd)
set_option maxRecDepth 100000
set_option maxHeartbeats 2000000
set_option linter.unusedVariables false
theorem Tp.info_fr : (Tryz.prog.info? 69).map (fun i => (i.zero, i.size, i.bytes)) = some (some (.agg #[.int .i64 0, .int .i64 0]), 2, 16) := by kernel_rfl
theorem Tp.info_pair : (Tryz.prog.info? 125).map (fun i => (i.zero, i.size, i.bytes)) = some (some (.agg #[.int .i64 0, .int .i64 0]), 2, 16) := by kernel_rfl
def Tp.pc (l : List Ec.Pair) : List Value := l.flatMap fun m => [.int .i64 m.drives, .int .i64 m.driven]
theorem Tp.pc_append (l m : List Ec.Pair) : Tp.pc (l ++ m) = Tp.pc l ++ Tp.pc m := by simp [Tp.pc]
theorem Tp.pc_len (l : List Ec.Pair) : (Tp.pc l).length = l.length * 2 := by
  induction l with
  | nil => rfl
  | cons m l ih => simp only [Tp.pc, List.flatMap_cons, List.length_append, List.length_cons, List.length_nil] at ih ⊢; omega
theorem Tp.pc_get (l : List Ec.Pair) : ∀ k (hk : k < l.length), (Tp.pc l)[k * 2]? = some (.int .i64 (pd l k).drives) ∧ (Tp.pc l)[k * 2 + 1]? = some (.int .i64 (pd l k).driven) := by
  induction l with
  | nil => intro k hk; simp at hk
  | cons m l ih =>
    intro k hk
    cases k with
    | zero => simp [Tp.pc, pd]
    | succ k =>
      have := ih k (by simpa using hk)
      have e : Tp.pc (m :: l) = [.int .i64 m.drives, .int .i64 m.driven] ++ Tp.pc l := by simp [Tp.pc]
      have e2 : pd (m :: l) (k + 1) = pd l k := by simp [pd]
      rw [e, e2, show (k + 1) * 2 = (k * 2) + 2 by omega, show (k * 2) + 2 + 1 = (k * 2 + 1) + 2 by omega]
      simpa using this
theorem Tp.pairs_own {w : World} {base : Nat} {t : TypeId} {v : Value} {l : List Ec.Pair} (h : w.ownsRow base t 2 v l.length (Tp.pc l)) : ∃ A c, v = .slice A l.length c ∧ Pairs w A l := by
  rcases h.2 with ⟨rfl, h0⟩ | ⟨g, cap, cur, hv, hb, _⟩
  · exact ⟨none, 0, by rw [h0], fun hh => by omega⟩
  · refine ⟨some ⟨g, 0, none⟩, cap, hv, fun _ => ⟨g, 0, rfl, fun k hk' => ?_⟩⟩
    have hc := h.cells (g := g) (by rw [hv]; rfl)
    have h1 := hc _ _ (Tp.pc_get l k hk').1
    have h2 := hc _ _ (Tp.pc_get l k hk').2
    rw [add0] at h1 h2
    exact ⟨by simpa using h1, by simpa using h2⟩
/-- The frame gets a name. -/
theorem Tp.wp_named {c : Code} {P : Program} {Q : Exit → Act → World → Prop} {a : Act} {w : World} (h : ∀ a0, a0 = a → c.wp P Q a0 w) : c.wp P Q a w := h a rfl
/-- A store into an own block that is none of the list's. -/
theorem Tp.own_set {w : World} {base : Nat} {e : TypeId} {size : Nat} {v : Value} {n : Nat} {xs : List Value} (h : w.ownsRow base e size v n xs) {a : Addr} (ha : a.block < base) (u : Value) : (w.setCell a u).ownsRow base e size v n xs := ownsRow_setCell_below h ha u
end Go.Proofs.YtimkmokomohgjaaGreat
