/- The walk of the law SkyNexts. (Printed by wip/mklaws1.py.) -/
import Derived.Test.YtlcddcnmoajpjaaGreatDoorV21
import Derived.Test.YtlcddcnmoajpjaaGreatDoorV13
import Derived.Test.YtlcddcnmoajpjaaGreatDoorRefMeet
namespace Go.Proofs.YtlcddcnmoajpjaaGreatDoor
open Go.RowKit
open Sp (rd)
set_option linter.unusedSimpArgs false
set_option linter.unusedVariables false

theorem Next_any (s : Sp.Sky) (A : Option Addr) (c : Nat) (day : Int) (full : Bool) (w : World) (hm : Bodies w A s.bodies) (hl : Short s.bodies) (c0 : Sp.skyOk s = true) (c1 : Sp.isDay day = true) :
    Calls Tryz.prog 80 #[.agg #[.slice A s.bodies.length c, .int .i64 s.nnum, .int .i64 s.nden, .int .i64 s.nstart], .int .i64 day, .bool full] w fun e w' => e = .returned (nextV s day full) ∧ Ext w w' := by
  by_cases h : day ≤ 1
  · exact Next_ok0 s A c day full w hm hl c0 c1 h
  · exact Next_ok1 s A c day full w hm hl c0 c1 (by omega)
theorem nextO_pos {s : Sp.Sky} {day : Int} {full : Bool} {m : Int} (h : Sp.nextO s day full = some m) : 1 ≤ m ∧ day ≤ m ∧ m ≤ 20000 ∧ Sp.moonB s m full = true ∧ ∀ j, 1 ≤ j → day ≤ j → j < m → Sp.moonB s j full = false := by
  obtain ⟨a, b, c, d⟩ := nextN_is_some s full _ _ m h
  exact ⟨by omega, by omega, by omega, c, fun j h1 h2 h3 => d j (by omega) h3⟩
theorem nextO_none {s : Sp.Sky} {day : Int} {full : Bool} (h : Sp.nextO s day full = none) : ∀ j, 1 ≤ j → day ≤ j → j ≤ 20000 → Sp.moonB s j full = false :=
  fun j h1 h2 h3 => nextN_is_none s full _ _ h j (by omega) (by omega)
theorem nextV_some {s : Sp.Sky} {day : Int} {full : Bool} {m : Int} (h : Sp.nextO s day full = some m) : nextV s day full = .tuple #[.int .i64 m, .int .i64 0] := by unfold nextV; rw [h]
theorem nextV_none {s : Sp.Sky} {day : Int} {full : Bool} (h : Sp.nextO s day full = none) : nextV s day full = .tuple #[.int .i64 0, .int .i64 5] := by unfold nextV; rw [h]

set_option maxRecDepth 100000 in
set_option maxHeartbeats 2000000 in
theorem law_SkyNexts (s : Sp.Sky) (A : Option Addr) (c : Nat) (day : Int) (full : Bool) (w : World) (hV : Env w) (hm : Bodies w A s.bodies) (hl : Long s.bodies) :
    Calls Tryz.prog 22 #[.agg #[.slice A s.bodies.length c, .int .i64 s.nnum, .int .i64 s.nden, .int .i64 s.nstart], .int .i64 day, .bool full] w fun e w' => e = .returned (.bool true) ∧ Ext w w' := by
  have HL := Lib.hid hl
  have HM := Lib.hid hm
  have HV := Lib.hid hV
  clear hm hl hV
  go_enter Tryz.func22, Tryz.ntmps22
  go_wp2_with fail
  have HR0 := Lib.hid (Row.new w 28 #[.slice A s.bodies.length c, .int .i64 s.nnum, .int .i64 s.nden, .int .i64 s.nstart])
  have HE0 : Hid (Ext w (w.alloc (.cells #[.slice A s.bodies.length c, .int .i64 s.nnum, .int .i64 s.nden, .int .i64 s.nstart] 28))) := Lib.hid ((Ext.refl w).alloc _)
  generalize w.alloc (.cells #[.slice A s.bodies.length c, .int .i64 s.nnum, .int .i64 s.nden, .int .i64 s.nstart] 28) = w0 at *
  have b0 := HR0.out.cell
  refine (short_any s A c w0 (HM.out.ext HE0.out) HL.out).mono ?_
  rintro e w1 ⟨rfl, hE1⟩
  have HE1 := Lib.hid (HE0.out.trans hE1)
  have HR1 := Lib.hid (HR0.out.ext hE1)
  clear b0
  have b1 := HR1.out.cell
  clear hE1
  cases hsh : shortB s.bodies with
  | false =>
    go_wp2_with fail
    refine (known_any w1 (HV.out.ext HE1.out)).mono ?_
    rintro e w2 ⟨rfl, hE2⟩
    go_wp2_with fail
    go_ret
    exact ⟨rfl, HE1.out.trans hE2⟩
  | true =>
    have hS := Lib.hid (short_of hsh)
    have hfew := few_of hsh
    clear hsh
    cases h1 : Sp.skyOk s with
    | false =>
      go_wp2_with fail
      refine (Next_err1 s A c day full w1 (HM.out.ext HE1.out) hS.out h1).mono ?_
      rintro e w2 ⟨rfl, hE2⟩
      have HE2 := Lib.hid (HE1.out.trans hE2)
      have HR2 := Lib.hid (HR1.out.ext hE2)
      clear b1
      have b2 := HR2.out.cell
      clear hE2
      go_wp2_with fail
      refine (r_Sky_any s A c w2 (HM.out.ext HE2.out) hS.out).mono ?_
      rintro e w3 ⟨rfl, hE3⟩
      have HE3 := Lib.hid (HE2.out.trans hE3)
      have HR3 := Lib.hid (HR2.out.ext hE3)
      clear b2
      have b3 := HR3.out.cell
      clear hE3
      rw [h1]
      go_wp2_with fail
      refine (known_any w3 (HV.out.ext HE3.out)).mono ?_
      rintro e w4 ⟨rfl, hE4⟩
      go_wp2_with fail
      go_ret
      exact ⟨rfl, HE3.out.trans hE4⟩
    | true =>
      cases h2 : Sp.isDay day with
      | false =>
        go_wp2_with fail
        refine (Next_err2 s A c day full w1 (HM.out.ext HE1.out) hS.out h1 h2).mono ?_
        rintro e w2 ⟨rfl, hE2⟩
        have HE2 := Lib.hid (HE1.out.trans hE2)
        have HR2 := Lib.hid (HR1.out.ext hE2)
        clear b1
        have b2 := HR2.out.cell
        clear hE2
        go_wp2_with fail
        refine (r_Sky_any s A c w2 (HM.out.ext HE2.out) hS.out).mono ?_
        rintro e w3 ⟨rfl, hE3⟩
        have HE3 := Lib.hid (HE2.out.trans hE3)
        have HR3 := Lib.hid (HR2.out.ext hE3)
        clear b2
        have b3 := HR3.out.cell
        clear hE3
        rw [h1]
        go_wp2_with fail
        refine (r_Day_any _ _).mono ?_
        rintro e w' ⟨rfl, rfl⟩
        rw [h2]
        go_wp2_with fail
        refine (known_any w3 (HV.out.ext HE3.out)).mono ?_
        rintro e w4 ⟨rfl, hE4⟩
        go_wp2_with fail
        go_ret
        exact ⟨rfl, HE3.out.trans hE4⟩
      | true =>
        have HD := Lib.hid (inR_iff.1 h2)
        cases hO : Sp.nextO s day full with
        | none =>
          go_wp2_with fail
          refine (Next_any s A c day full w1 (HM.out.ext HE1.out) hS.out h1 h2).mono ?_
          rintro e w2 ⟨rfl, hE2⟩
          have HE2 := Lib.hid (HE1.out.trans hE2)
          have HR2 := Lib.hid (HR1.out.ext hE2)
          clear b1
          have b2 := HR2.out.cell
          clear hE2
          rw [nextV_none hO]
          go_wp2_with fail
          refine (r_Sky_any s A c w2 (HM.out.ext HE2.out) hS.out).mono ?_
          rintro e w3 ⟨rfl, hE3⟩
          have HE3 := Lib.hid (HE2.out.trans hE3)
          have HR3 := Lib.hid (HR2.out.ext hE3)
          clear b2
          have b3 := HR3.out.cell
          clear hE3
          rw [h1]
          go_wp2_with fail
          refine (r_Day_any _ _).mono ?_
          rintro e w' ⟨rfl, rfl⟩
          rw [h2]
          go_wp2_with fail
          refine (r_Next_any s A c _ _ _ day full w3 (skyOk_iff.1 h1) (HM.out.ext HE3.out) HD.out.1 HD.out.2).mono ?_
          rintro e w4 ⟨rfl, hE4⟩
          have HE4 := Lib.hid (HE3.out.trans hE4)
          have HR4 := Lib.hid (HR3.out.ext hE4)
          clear b3
          have b4 := HR4.out.cell
          clear hE4
          rw [hO]
          simp only [Option.getD_none, Option.getD_some]
          go_wp2_with fail
          refine (known_any w4 (HV.out.ext HE4.out)).mono ?_
          rintro e w5 ⟨rfl, hE5⟩
          go_wp2_with fail
          go_ret
          exact ⟨rfl, HE4.out.trans hE5⟩
        | some m =>
          have hm1 := (nextO_pos hO).1
          go_wp2_with fail
          refine (Next_any s A c day full w1 (HM.out.ext HE1.out) hS.out h1 h2).mono ?_
          rintro e w2 ⟨rfl, hE2⟩
          have HE2 := Lib.hid (HE1.out.trans hE2)
          have HR2 := Lib.hid (HR1.out.ext hE2)
          clear b1
          have b2 := HR2.out.cell
          clear hE2
          rw [nextV_some hO]
          go_wp2_with fail
          refine (r_Sky_any s A c w2 (HM.out.ext HE2.out) hS.out).mono ?_
          rintro e w3 ⟨rfl, hE3⟩
          have HE3 := Lib.hid (HE2.out.trans hE3)
          have HR3 := Lib.hid (HR2.out.ext hE3)
          clear b2
          have b3 := HR3.out.cell
          clear hE3
          rw [h1]
          go_wp2_with fail
          refine (r_Day_any _ _).mono ?_
          rintro e w' ⟨rfl, rfl⟩
          rw [h2]
          go_wp2_with fail
          refine (r_Next_any s A c _ _ _ day full w3 (skyOk_iff.1 h1) (HM.out.ext HE3.out) HD.out.1 HD.out.2).mono ?_
          rintro e w4 ⟨rfl, hE4⟩
          have HE4 := Lib.hid (HE3.out.trans hE4)
          have HR4 := Lib.hid (HR3.out.ext hE4)
          clear b3
          have b4 := HR4.out.cell
          clear hE4
          rw [hO]
          simp only [Option.getD_none, Option.getD_some]
          go_wp2_with fail
          refine (known_any w4 (HV.out.ext HE4.out)).mono ?_
          rintro e w5 ⟨rfl, hE5⟩
          go_wp2_with fail
          go_ret
          exact ⟨rfl, HE4.out.trans hE5⟩
end Go.Proofs.YtlcddcnmoajpjaaGreatDoor
