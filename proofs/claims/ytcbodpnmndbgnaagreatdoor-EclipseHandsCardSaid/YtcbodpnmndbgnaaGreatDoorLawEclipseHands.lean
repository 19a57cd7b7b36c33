/- The walk of the law EclipseHands. (Printed by wip/mkelaws.py.) -/
import Derived.Carry
import Derived.Test.YtcbodpnmndbgnaaGreatDoorA13
import Derived.Test.YtcbodpnmndbgnaaGreatDoorA14
namespace Go.Proofs.YtcbodpnmndbgnaaGreatDoor
open Go.RowKit
open Sp (rd)
set_option linter.unusedSimpArgs false
set_option linter.unusedVariables false

set_option maxRecDepth 100000 in
set_option maxHeartbeats 8000000 in
theorem law_EclipseHands (p : EP) (e : Ec.Engine) (set : List Int) (day : Int) (w : World) (hV : Env w) (hm : EngSet w p e set) (hl : EngLong e) (hs : set.length ≤ 9223372036854775807) :
    Calls Tryz.prog 12 #[.agg #[.slice p.Ab e.sky.bodies.length p.cb, .int .i64 e.sky.nnum, .int .i64 e.sky.nden, .int .i64 e.sky.nstart, .slice p.As e.sun.length p.cs, .slice p.Am e.moon.length p.cm, .slice p.An e.node.length p.cn, .slice p.Af e.feasts.length p.cf, .int .i64 e.nw, .int .i64 e.fl, .int .i64 e.wide], .slice p.At set.length p.ct, .int .i64 day] w fun r w' => r = .returned (.bool true) ∧ Ext w w' := by
  have HL := Lib.hid hl
  have HM := Lib.hid hm
  have HV := Lib.hid hV
  have HS0 := Lib.hid hs
  clear hm hl hV hs
  go_enter Tryz.func12, Tryz.ntmps12
  go_wp2_with fail
  have HR0 := Lib.hid (Row.new w 32 #[.slice p.Ab e.sky.bodies.length p.cb, .int .i64 e.sky.nnum, .int .i64 e.sky.nden, .int .i64 e.sky.nstart, .slice p.As e.sun.length p.cs, .slice p.Am e.moon.length p.cm, .slice p.An e.node.length p.cn, .slice p.Af e.feasts.length p.cf, .int .i64 e.nw, .int .i64 e.fl, .int .i64 e.wide])
  have HE0 : Hid (Ext w (w.alloc (.cells #[.slice p.Ab e.sky.bodies.length p.cb, .int .i64 e.sky.nnum, .int .i64 e.sky.nden, .int .i64 e.sky.nstart, .slice p.As e.sun.length p.cs, .slice p.Am e.moon.length p.cm, .slice p.An e.node.length p.cn, .slice p.Af e.feasts.length p.cf, .int .i64 e.nw, .int .i64 e.fl, .int .i64 e.wide] 32))) := Lib.hid ((Ext.refl w).alloc _)
  generalize w.alloc (.cells #[.slice p.Ab e.sky.bodies.length p.cb, .int .i64 e.sky.nnum, .int .i64 e.sky.nden, .int .i64 e.sky.nstart, .slice p.As e.sun.length p.cs, .slice p.Am e.moon.length p.cm, .slice p.An e.node.length p.cn, .slice p.Af e.feasts.length p.cf, .int .i64 e.nw, .int .i64 e.fl, .int .i64 e.wide] 32) = w0 at *
  have b0 := HR0.out.cell
  refine (l7_short_any p e set w0 (HM.out.eng.ext HE0.out) HL.out HS0.out).mono ?_
  rintro r w1 ⟨rfl, hE1⟩
  have HE1 := Lib.hid (HE0.out.trans hE1)
  have HR1 := Lib.hid (HR0.out.ext hE1)
  clear b0
  have b1 := HR1.out.cell
  clear hE1
  cases hsh : shortB e set with
  | false =>
    go_wp2_with fail
    refine (l7_known_any w1 (HV.out.ext HE1.out)).mono ?_
    rintro r w2 ⟨rfl, hE2⟩
    go_wp2_with fail
    go_ret
    exact ⟨rfl, HE1.out.trans hE2⟩
  | true =>
    have HS := Lib.hid (shorts_of hsh)
    have hfl := HS.out.feasts
    have hsl := HS.out.set
    clear hsh
    have hZ := fun w => eql_hands_self 0 0 0 w
    cases c0 : Ec.engineOk e with
    | false =>
      go_wp2_with fail
      refine (e_Check_any p e w1 (HM.out.eng.ext HE1.out) HS.out.eng).mono ?_
      rintro r w2 ⟨rfl, hE2⟩
      have HE2 := Lib.hid (HE1.out.trans hE2)
      have HR2 := Lib.hid (HR1.out.ext hE2)
      clear b1
      have b2 := HR2.out.cell
      clear hE2
      rw [show (if Ec.engineOk e = true then (0 : Int) else 2) = 2 from by rw [c0]; rfl]
      go_wp2_with fail
      refine (e_Hands_err p e set day w2 (HM.out.ext HE2.out) HS.out.eng (by omega) (by rw [c0]; rfl)).mono ?_
      rintro r w3 ⟨rfl, hE3⟩
      have HE3 := Lib.hid (HE2.out.trans hE3)
      have HR3 := Lib.hid (HR2.out.ext hE3)
      clear b2
      have b3 := HR3.out.cell
      clear hE3
      have HRA := Lib.hid (Row.new w3 39 #[.int .i64 0, .int .i64 0, .int .i64 0])
      have hX4 : Ext w3 (w3.alloc (.cells #[.int .i64 0, .int .i64 0, .int .i64 0] 39)) := (Ext.refl _).alloc _
      have HE4 := Lib.hid (HE3.out.trans hX4)
      have HR4 := Lib.hid (HR3.out.ext hX4)
      clear b3
      have b4 := HR4.out.cell
      have bRA := HRA.out.cell
      clear hX4
      go_wp2_with fail
      generalize w3.alloc (.cells #[.int .i64 0, .int .i64 0, .int .i64 0] 39) = w4 at *
      refine (e_Off_err p e set day w4 (HM.out.ext HE4.out) HS.out.eng (by omega) (by rw [c0]; rfl)).mono ?_
      rintro r w5 ⟨rfl, hE5⟩
      have HE5 := Lib.hid (HE4.out.trans hE5)
      have HR5 := Lib.hid (HR4.out.ext hE5)
      clear b4
      have b5 := HR5.out.cell
      replace HRA := Lib.hid (HRA.out.ext hE5)
      clear bRA
      have bRA := HRA.out.cell
      clear hE5
      have HRB := Lib.hid (Row.new w5 39 #[.int .i64 0, .int .i64 0, .int .i64 0])
      have hX6 : Ext w5 (w5.alloc (.cells #[.int .i64 0, .int .i64 0, .int .i64 0] 39)) := (Ext.refl _).alloc _
      have HE6 := Lib.hid (HE5.out.trans hX6)
      have HR6 := Lib.hid (HR5.out.ext hX6)
      clear b5
      have b6 := HR6.out.cell
      replace HRA := Lib.hid (HRA.out.ext hX6)
      clear bRA
      have bRA := HRA.out.cell
      have bRB := HRB.out.cell
      clear hX6
      go_wp2_with fail
      generalize w5.alloc (.cells #[.int .i64 0, .int .i64 0, .int .i64 0] 39) = w6 at *
      refine (r7_Engine_any p e w6 (HM.out.eng.ext HE6.out) HS.out.eng).mono ?_
      rintro r w7 ⟨rfl, hE7⟩
      have HE7 := Lib.hid (HE6.out.trans hE7)
      have HR7 := Lib.hid (HR6.out.ext hE7)
      clear b6
      have b7 := HR7.out.cell
      replace HRA := Lib.hid (HRA.out.ext hE7)
      clear bRA
      have bRA := HRA.out.cell
      replace HRB := Lib.hid (HRB.out.ext hE7)
      clear bRB
      have bRB := HRB.out.cell
      clear hE7
      rw [c0]
      go_wp2_with fail
      refine (l7_known_any w7 (HV.out.ext HE7.out)).mono ?_
      rintro r w8 ⟨rfl, hE8⟩
      go_wp2_with fail
      go_ret
      exact ⟨rfl, HE7.out.trans hE8⟩
    | true =>
      cases c1 : Ec.setOk e.feasts set with
      | false =>
        go_wp2_with fail
        refine (e_Check_any p e w1 (HM.out.eng.ext HE1.out) HS.out.eng).mono ?_
        rintro r w2 ⟨rfl, hE2⟩
        have HE2 := Lib.hid (HE1.out.trans hE2)
        have HR2 := Lib.hid (HR1.out.ext hE2)
        clear b1
        have b2 := HR2.out.cell
        clear hE2
        rw [show (if Ec.engineOk e = true then (0 : Int) else 2) = 0 from by rw [c0]; rfl]
        go_wp2_with fail
        refine (e_Hands_err p e set day w2 (HM.out.ext HE2.out) HS.out.eng (by omega) (by rw [c0, c1]; rfl)).mono ?_
        rintro r w3 ⟨rfl, hE3⟩
        have HE3 := Lib.hid (HE2.out.trans hE3)
        have HR3 := Lib.hid (HR2.out.ext hE3)
        clear b2
        have b3 := HR3.out.cell
        clear hE3
        have HRA := Lib.hid (Row.new w3 39 #[.int .i64 0, .int .i64 0, .int .i64 0])
        have hX4 : Ext w3 (w3.alloc (.cells #[.int .i64 0, .int .i64 0, .int .i64 0] 39)) := (Ext.refl _).alloc _
        have HE4 := Lib.hid (HE3.out.trans hX4)
        have HR4 := Lib.hid (HR3.out.ext hX4)
        clear b3
        have b4 := HR4.out.cell
        have bRA := HRA.out.cell
        clear hX4
        go_wp2_with fail
        generalize w3.alloc (.cells #[.int .i64 0, .int .i64 0, .int .i64 0] 39) = w4 at *
        refine (e_Off_err p e set day w4 (HM.out.ext HE4.out) HS.out.eng (by omega) (by rw [c0, c1]; rfl)).mono ?_
        rintro r w5 ⟨rfl, hE5⟩
        have HE5 := Lib.hid (HE4.out.trans hE5)
        have HR5 := Lib.hid (HR4.out.ext hE5)
        clear b4
        have b5 := HR5.out.cell
        replace HRA := Lib.hid (HRA.out.ext hE5)
        clear bRA
        have bRA := HRA.out.cell
        clear hE5
        have HRB := Lib.hid (Row.new w5 39 #[.int .i64 0, .int .i64 0, .int .i64 0])
        have hX6 : Ext w5 (w5.alloc (.cells #[.int .i64 0, .int .i64 0, .int .i64 0] 39)) := (Ext.refl _).alloc _
        have HE6 := Lib.hid (HE5.out.trans hX6)
        have HR6 := Lib.hid (HR5.out.ext hX6)
        clear b5
        have b6 := HR6.out.cell
        replace HRA := Lib.hid (HRA.out.ext hX6)
        clear bRA
        have bRA := HRA.out.cell
        have bRB := HRB.out.cell
        clear hX6
        go_wp2_with fail
        generalize w5.alloc (.cells #[.int .i64 0, .int .i64 0, .int .i64 0] 39) = w6 at *
        refine (r7_Engine_any p e w6 (HM.out.eng.ext HE6.out) HS.out.eng).mono ?_
        rintro r w7 ⟨rfl, hE7⟩
        have HE7 := Lib.hid (HE6.out.trans hE7)
        have HR7 := Lib.hid (HR6.out.ext hE7)
        clear b6
        have b7 := HR7.out.cell
        replace HRA := Lib.hid (HRA.out.ext hE7)
        clear bRA
        have bRA := HRA.out.cell
        replace HRB := Lib.hid (HRB.out.ext hE7)
        clear bRB
        have bRB := HRB.out.cell
        clear hE7
        rw [c0]
        go_wp2_with fail
        refine (r1_Set_any p.Af p.At e.feasts.length p.cf p.ct set w7 (by omega) (HM.out.ext HE7.out).set (by omega)).mono ?_
        rintro r w8 ⟨rfl, hE8⟩
        have HE8 := Lib.hid (HE7.out.trans hE8)
        have HR8 := Lib.hid (HR7.out.ext hE8)
        clear b7
        have b8 := HR8.out.cell
        replace HRA := Lib.hid (HRA.out.ext hE8)
        clear bRA
        have bRA := HRA.out.cell
        replace HRB := Lib.hid (HRB.out.ext hE8)
        clear bRB
        have bRB := HRB.out.cell
        clear hE8
        rw [show Ec.rising set 0 ((e.feasts.length : Int) - 1) = Ec.setOk e.feasts set from rfl, c1]
        go_wp2_with fail
        refine (l7_known_any w8 (HV.out.ext HE8.out)).mono ?_
        rintro r w9 ⟨rfl, hE9⟩
        go_wp2_with fail
        go_ret
        exact ⟨rfl, HE8.out.trans hE9⟩
      | true =>
        cases c4 : Ec.isDay day with
        | false =>
          go_wp2_with fail
          refine (e_Check_any p e w1 (HM.out.eng.ext HE1.out) HS.out.eng).mono ?_
          rintro r w2 ⟨rfl, hE2⟩
          have HE2 := Lib.hid (HE1.out.trans hE2)
          have HR2 := Lib.hid (HR1.out.ext hE2)
          clear b1
          have b2 := HR2.out.cell
          clear hE2
          rw [show (if Ec.engineOk e = true then (0 : Int) else 2) = 0 from by rw [c0]; rfl]
          go_wp2_with fail
          refine (e_Hands_err p e set day w2 (HM.out.ext HE2.out) HS.out.eng (by omega) (by rw [c0, c1, c4]; rfl)).mono ?_
          rintro r w3 ⟨rfl, hE3⟩
          have HE3 := Lib.hid (HE2.out.trans hE3)
          have HR3 := Lib.hid (HR2.out.ext hE3)
          clear b2
          have b3 := HR3.out.cell
          clear hE3
          have HRA := Lib.hid (Row.new w3 39 #[.int .i64 0, .int .i64 0, .int .i64 0])
          have hX4 : Ext w3 (w3.alloc (.cells #[.int .i64 0, .int .i64 0, .int .i64 0] 39)) := (Ext.refl _).alloc _
          have HE4 := Lib.hid (HE3.out.trans hX4)
          have HR4 := Lib.hid (HR3.out.ext hX4)
          clear b3
          have b4 := HR4.out.cell
          have bRA := HRA.out.cell
          clear hX4
          go_wp2_with fail
          generalize w3.alloc (.cells #[.int .i64 0, .int .i64 0, .int .i64 0] 39) = w4 at *
          refine (e_Off_err p e set day w4 (HM.out.ext HE4.out) HS.out.eng (by omega) (by rw [c0, c1, c4]; rfl)).mono ?_
          rintro r w5 ⟨rfl, hE5⟩
          have HE5 := Lib.hid (HE4.out.trans hE5)
          have HR5 := Lib.hid (HR4.out.ext hE5)
          clear b4
          have b5 := HR5.out.cell
          replace HRA := Lib.hid (HRA.out.ext hE5)
          clear bRA
          have bRA := HRA.out.cell
          clear hE5
          have HRB := Lib.hid (Row.new w5 39 #[.int .i64 0, .int .i64 0, .int .i64 0])
          have hX6 : Ext w5 (w5.alloc (.cells #[.int .i64 0, .int .i64 0, .int .i64 0] 39)) := (Ext.refl _).alloc _
          have HE6 := Lib.hid (HE5.out.trans hX6)
          have HR6 := Lib.hid (HR5.out.ext hX6)
          clear b5
          have b6 := HR6.out.cell
          replace HRA := Lib.hid (HRA.out.ext hX6)
          clear bRA
          have bRA := HRA.out.cell
          have bRB := HRB.out.cell
          clear hX6
          go_wp2_with fail
          generalize w5.alloc (.cells #[.int .i64 0, .int .i64 0, .int .i64 0] 39) = w6 at *
          refine (r7_Engine_any p e w6 (HM.out.eng.ext HE6.out) HS.out.eng).mono ?_
          rintro r w7 ⟨rfl, hE7⟩
          have HE7 := Lib.hid (HE6.out.trans hE7)
          have HR7 := Lib.hid (HR6.out.ext hE7)
          clear b6
          have b7 := HR7.out.cell
          replace HRA := Lib.hid (HRA.out.ext hE7)
          clear bRA
          have bRA := HRA.out.cell
          replace HRB := Lib.hid (HRB.out.ext hE7)
          clear bRB
          have bRB := HRB.out.cell
          clear hE7
          rw [c0]
          go_wp2_with fail
          refine (r1_Set_any p.Af p.At e.feasts.length p.cf p.ct set w7 (by omega) (HM.out.ext HE7.out).set (by omega)).mono ?_
          rintro r w8 ⟨rfl, hE8⟩
          have HE8 := Lib.hid (HE7.out.trans hE8)
          have HR8 := Lib.hid (HR7.out.ext hE8)
          clear b7
          have b8 := HR8.out.cell
          replace HRA := Lib.hid (HRA.out.ext hE8)
          clear bRA
          have bRA := HRA.out.cell
          replace HRB := Lib.hid (HRB.out.ext hE8)
          clear bRB
          have bRB := HRB.out.cell
          clear hE8
          rw [show Ec.rising set 0 ((e.feasts.length : Int) - 1) = Ec.setOk e.feasts set from rfl, c1]
          go_wp2_with fail
          refine (r7_Day_any day _).mono ?_
          rintro r w' ⟨rfl, rfl⟩
          rw [c4]
          go_wp2_with fail
          refine (l7_known_any w8 (HV.out.ext HE8.out)).mono ?_
          rintro r w9 ⟨rfl, hE9⟩
          go_wp2_with fail
          go_ret
          exact ⟨rfl, HE8.out.trans hE9⟩
        | true =>
          have hd := eday_of c4
          have HRH := Lib.hid (fun W h => r7_Hands_any p e set day W h c0 c1 (by omega) (by omega))
          have HRO := Lib.hid (fun W h => r7_Off_any p e set day W h c0 c1 (by omega) (by omega))
          go_wp2_with fail
          refine (e_Check_any p e w1 (HM.out.eng.ext HE1.out) HS.out.eng).mono ?_
          rintro r w2 ⟨rfl, hE2⟩
          have HE2 := Lib.hid (HE1.out.trans hE2)
          have HR2 := Lib.hid (HR1.out.ext hE2)
          clear b1
          have b2 := HR2.out.cell
          clear hE2
          rw [show (if Ec.engineOk e = true then (0 : Int) else 2) = 0 from by rw [c0]; rfl]
          go_wp2_with fail
          refine (e_Hands_ok p e set day w2 (HM.out.ext HE2.out) HS.out.eng (by omega) c0 c1 c4).mono ?_
          rintro r w3 ⟨rfl, hE3⟩
          have HE3 := Lib.hid (HE2.out.trans hE3)
          have HR3 := Lib.hid (HR2.out.ext hE3)
          clear b2
          have b3 := HR3.out.cell
          clear hE3
          rw [show handsF e set day = .agg #[.int .i64 (Ec.sunAt e set day), .int .i64 (Ec.moonAt e set day), .int .i64 (Ec.nodeAt e set day)] from rfl]
          obtain ⟨a1, ha1⟩ : ∃ a, Ec.sunAt e set day = a := ⟨_, rfl⟩
          obtain ⟨a2, ha2⟩ : ∃ a, Ec.moonAt e set day = a := ⟨_, rfl⟩
          obtain ⟨a3, ha3⟩ : ∃ a, Ec.nodeAt e set day = a := ⟨_, rfl⟩
          rw [ha1, ha2, ha3] at HRH ⊢
          clear ha1 ha2 ha3
          have HRA := Lib.hid (Row.new w3 39 #[.int .i64 a1, .int .i64 a2, .int .i64 a3])
          have hX4 : Ext w3 (w3.alloc (.cells #[.int .i64 a1, .int .i64 a2, .int .i64 a3] 39)) := (Ext.refl _).alloc _
          have HE4 := Lib.hid (HE3.out.trans hX4)
          have HR4 := Lib.hid (HR3.out.ext hX4)
          clear b3
          have b4 := HR4.out.cell
          have bRA := HRA.out.cell
          clear hX4
          go_wp2_with fail
          generalize w3.alloc (.cells #[.int .i64 a1, .int .i64 a2, .int .i64 a3] 39) = w4 at *
          refine (e_Off_ok p e set day w4 (HM.out.ext HE4.out) HS.out.eng (by omega) c0 c1 c4).mono ?_
          rintro r w5 ⟨rfl, hE5⟩
          have HE5 := Lib.hid (HE4.out.trans hE5)
          have HR5 := Lib.hid (HR4.out.ext hE5)
          clear b4
          have b5 := HR5.out.cell
          replace HRA := Lib.hid (HRA.out.ext hE5)
          clear bRA
          have bRA := HRA.out.cell
          clear hE5
          obtain ⟨o1, ho1⟩ : ∃ a, Ec.sunOff e set day = a := ⟨_, rfl⟩
          obtain ⟨o2, ho2⟩ : ∃ a, Ec.moonOff e set day = a := ⟨_, rfl⟩
          obtain ⟨o3, ho3⟩ : ∃ a, Ec.nodeOff e set day = a := ⟨_, rfl⟩
          rw [ho1, ho2, ho3] at HRO ⊢
          clear ho1 ho2 ho3
          have HRB := Lib.hid (Row.new w5 39 #[.int .i64 o1, .int .i64 o2, .int .i64 o3])
          have hX6 : Ext w5 (w5.alloc (.cells #[.int .i64 o1, .int .i64 o2, .int .i64 o3] 39)) := (Ext.refl _).alloc _
          have HE6 := Lib.hid (HE5.out.trans hX6)
          have HR6 := Lib.hid (HR5.out.ext hX6)
          clear b5
          have b6 := HR6.out.cell
          replace HRA := Lib.hid (HRA.out.ext hX6)
          clear bRA
          have bRA := HRA.out.cell
          have bRB := HRB.out.cell
          clear hX6
          go_wp2_with fail
          generalize w5.alloc (.cells #[.int .i64 o1, .int .i64 o2, .int .i64 o3] 39) = w6 at *
          refine (r7_Engine_any p e w6 (HM.out.eng.ext HE6.out) HS.out.eng).mono ?_
          rintro r w7 ⟨rfl, hE7⟩
          have HE7 := Lib.hid (HE6.out.trans hE7)
          have HR7 := Lib.hid (HR6.out.ext hE7)
          clear b6
          have b7 := HR7.out.cell
          replace HRA := Lib.hid (HRA.out.ext hE7)
          clear bRA
          have bRA := HRA.out.cell
          replace HRB := Lib.hid (HRB.out.ext hE7)
          clear bRB
          have bRB := HRB.out.cell
          clear hE7
          rw [c0]
          go_wp2_with fail
          refine (r1_Set_any p.Af p.At e.feasts.length p.cf p.ct set w7 (by omega) (HM.out.ext HE7.out).set (by omega)).mono ?_
          rintro r w8 ⟨rfl, hE8⟩
          have HE8 := Lib.hid (HE7.out.trans hE8)
          have HR8 := Lib.hid (HR7.out.ext hE8)
          clear b7
          have b8 := HR8.out.cell
          replace HRA := Lib.hid (HRA.out.ext hE8)
          clear bRA
          have bRA := HRA.out.cell
          replace HRB := Lib.hid (HRB.out.ext hE8)
          clear bRB
          have bRB := HRB.out.cell
          clear hE8
          rw [show Ec.rising set 0 ((e.feasts.length : Int) - 1) = Ec.setOk e.feasts set from rfl, c1]
          go_wp2_with fail
          refine (r7_Day_any day _).mono ?_
          rintro r w' ⟨rfl, rfl⟩
          rw [c4]
          have hA := fun w => eql_hands_self a1 a2 a3 w
          have hB := fun w => eql_hands_self o1 o2 o3 w
          clear hZ
          go_wp2_with fail
          refine wp_region_later (by kernel_rfl) (by kernel_rfl) (fun W hW => ?_)
          subst hW
          have q1 := fun X : Later W => (Row.ext HRA.out X.ext).cell
          have q2 := fun X : Later W => (Row.ext HRB.out X.ext).cell
          have q3 := fun X : Later W => (Row.ext HR8.out X.ext).cell
          have HMX := Lib.hid (fun X : Later W => HM.out.ext (HE8.out.trans X.ext))
          have HEX := Lib.hid (fun X : Later W => HV.out.ext (HE8.out.trans X.ext))
          clear b8 bRA bRB
          repeat (go_big_quiet_step (fail))
          go_big_quiet_step ((go_at_call 49; exact Later.call (HRH.out _ (HMX.out _))))
          repeat (go_big_quiet_step (fail))
          go_big_quiet_step ((go_at_call 50; exact Later.call (HRO.out _ (HMX.out _))))
          repeat (go_big_quiet_step (fail))
          go_big_quiet_step ((go_at_call 20; exact Later.call (l7_known_any _ (HEX.out _))))
          repeat (go_big_quiet_step (fail))
          refine wpQuiet_nil ?_
          rintro ⟨wz, hEz⟩
          dsimp only
          go_wp2_with fail
          go_ret
          exact ⟨rfl, HE8.out.trans hEz⟩
end Go.Proofs.YtcbodpnmndbgnaaGreatDoor
