/- The walk of the law SkyPrints. (Printed by wip/mklaws1.py.) -/
import Derived.Test.YtlcddcnmoajpjaaGreatDoorRefSkies
import Derived.Test.YtlcddcnmoajpjaaGreatDoorTextLen
namespace Go.Proofs.YtlcddcnmoajpjaaGreatDoor
open Go.RowKit
open Sp (rd)
set_option linter.unusedSimpArgs false
set_option linter.unusedVariables false

set_option maxRecDepth 100000 in
set_option maxHeartbeats 4000000 in
theorem law_SkyPrints (s : Sp.Sky) (A : Option Addr) (c : Nat)  (w : World) (hV : Env w) (hm : Bodies w A s.bodies) (hl : Long s.bodies) :
    Calls Tryz.prog 14 #[.agg #[.slice A s.bodies.length c, .int .i64 s.nnum, .int .i64 s.nden, .int .i64 s.nstart]] w fun e w' => e = .returned (.bool true) ∧ Ext w w' := by
  have HL := Lib.hid hl
  have HM := Lib.hid hm
  have HV := Lib.hid hV
  clear hm hl hV
  go_enter Tryz.func14, Tryz.ntmps14
  go_wp2_with fail
  have HR0 := Lib.hid (Row.new w 28 #[.slice A s.bodies.length c, .int .i64 s.nnum, .int .i64 s.nden, .int .i64 s.nstart])
  have HE0 : Hid (Ext w (w.alloc (.cells #[.slice A s.bodies.length c, .int .i64 s.nnum, .int .i64 s.nden, .int .i64 s.nstart] 28))) := Lib.hid ((Ext.refl w).alloc _)
  generalize w.alloc (.cells #[.slice A s.bodies.length c, .int .i64 s.nnum, .int .i64 s.nden, .int .i64 s.nstart] 28) = w0 at *
  have b0 := HR0.out.cell
  refine (short_any s A c w0 (HM.out.ext HE0.out) HL.out).mono ?_
  rintro e w1 ⟨rfl, hE1⟩
  have HE1 := Lib.hid (HE0.out.trans hE1)
  have HR1 := Lib.hid (HR0.out.ext hE1)
  clear b0
  have b1 := HR1.out.cell
  clear hE1
  cases hsh : shortB s.bodies with
  | false =>
    go_wp2_with fail
    refine (known_any w1 (HV.out.ext HE1.out)).mono ?_
    rintro e w2 ⟨rfl, hE2⟩
    go_wp2_with fail
    go_ret
    exact ⟨rfl, HE1.out.trans hE2⟩
  | true =>
    have hS := Lib.hid (short_of hsh)
    have hfew := few_of hsh
    clear hsh
    cases h1 : Sp.skyOk s with
    | false =>
      go_wp2_with fail
      refine (Print_err s A c w1 (HM.out.ext HE1.out) hS.out h1).mono ?_
      rintro e w2 ⟨rfl, hE2⟩
      have HE2 := Lib.hid (HE1.out.trans hE2)
      have HR2 := Lib.hid (HR1.out.ext hE2)
      clear b1
      have b2 := HR2.out.cell
      clear hE2
      go_wp2_with fail
      refine (r_Sky_any s A c w2 (HM.out.ext HE2.out) hS.out).mono ?_
      rintro e w3 ⟨rfl, hE3⟩
      have HE3 := Lib.hid (HE2.out.trans hE3)
      have HR3 := Lib.hid (HR2.out.ext hE3)
      clear b2
      have b3 := HR3.out.cell
      clear hE3
      rw [h1]
      go_wp2_with fail
      refine (known_any w3 (HV.out.ext HE3.out)).mono ?_
      rintro e w4 ⟨rfl, hE4⟩
      go_wp2_with fail
      go_ret
      exact ⟨rfl, HE3.out.trans hE4⟩
    | true =>
      have HK := Lib.hid (skyOk_iff.1 h1)
      have HT := Lib.hid (skyText_of_ok HK.out)
      have htl := text_len HK.out
      have HPT := Lib.hid (parse_text s HT.out.toSkyNum)
      obtain ⟨x, hx⟩ : ∃ x, textL s = x := ⟨_, rfl⟩
      rw [hx] at htl HPT
      have HX := Lib.hid hx
      clear hx
      go_wp2_with fail
      refine (Print_ok s A c w1 (HV.out.ext HE1.out) (HM.out.ext HE1.out) hS.out h1).mono ?_
      rintro e w2 ⟨rfl, hE2⟩
      have HE2 := Lib.hid (HE1.out.trans hE2)
      have HR2 := Lib.hid (HR1.out.ext hE2)
      clear b1
      have b2 := HR2.out.cell
      clear hE2
      rw [HX.out]
      go_wp2_with fail
      refine (r_Sky_any s A c w2 (HM.out.ext HE2.out) hS.out).mono ?_
      rintro e w3 ⟨rfl, hE3⟩
      have HE3 := Lib.hid (HE2.out.trans hE3)
      have HR3 := Lib.hid (HR2.out.ext hE3)
      clear b2
      have b3 := HR3.out.cell
      clear hE3
      rw [h1]
      go_wp2_with fail
      refine (Read_ok x s w3 (HV.out.ext HE3.out) htl HPT.out h1).mono ?_
      rintro e w4 ⟨Ax, cx, rfl, hHBX, hE4⟩
      have HE4 := Lib.hid (HE3.out.trans hE4)
      have HR4 := Lib.hid (HR3.out.ext hE4)
      clear b3
      have b4 := HR4.out.cell
      clear hE4
      have HBX := Lib.hid hHBX
      clear hHBX
      have HRX := Lib.hid (Row.new w4 28 #[.slice Ax s.bodies.length cx, .int .i64 s.nnum, .int .i64 s.nden, .int .i64 s.nstart])
      have hX5 : Ext w4 (w4.alloc (.cells #[.slice Ax s.bodies.length cx, .int .i64 s.nnum, .int .i64 s.nden, .int .i64 s.nstart] 28)) := (Ext.refl _).alloc _
      have HE5 := Lib.hid (HE4.out.trans hX5)
      replace HBX := Lib.hid (HBX.out.ext hX5)
      have HR5 := Lib.hid (HR4.out.ext hX5)
      clear b4
      have b5 := HR5.out.cell
      have bRX := HRX.out.cell
      clear hX5
      go_wp2_with fail
      generalize w4.alloc (.cells #[.slice Ax s.bodies.length cx, .int .i64 s.nnum, .int .i64 s.nden, .int .i64 s.nstart] 28) = w5 at *
      refine (r_Print_any s A c w5 (HM.out.ext HE5.out) (roadsIn_of_ok HK.out _ _) HT.out).mono ?_
      rintro e w6 ⟨rfl, hE6⟩
      have HE6 := Lib.hid (HE5.out.trans hE6)
      have HR6 := Lib.hid (HR5.out.ext hE6)
      clear b5
      have b6 := HR6.out.cell
      replace HBX := Lib.hid (HBX.out.ext hE6)
      replace HRX := Lib.hid (HRX.out.ext hE6)
      clear bRX
      have bRX := HRX.out.cell
      clear hE6
      rw [HX.out]
      go_wp2_with fail
      refine (r_SameSkies_eq s Ax A cx c w6 HBX.out (HM.out.ext HE6.out) hS.out).mono ?_
      rintro e w7 ⟨rfl, hE7⟩
      have HE7 := Lib.hid (HE6.out.trans hE7)
      have HR7 := Lib.hid (HR6.out.ext hE7)
      clear b6
      have b7 := HR7.out.cell
      replace HBX := Lib.hid (HBX.out.ext hE7)
      replace HRX := Lib.hid (HRX.out.ext hE7)
      clear bRX
      have bRX := HRX.out.cell
      clear hE7
      go_wp2_with fail
      refine (known_any w7 (HV.out.ext HE7.out)).mono ?_
      rintro e w8 ⟨rfl, hE8⟩
      go_wp2_with fail
      go_ret
      exact ⟨rfl, HE7.out.trans hE8⟩
end Go.Proofs.YtlcddcnmoajpjaaGreatDoor
