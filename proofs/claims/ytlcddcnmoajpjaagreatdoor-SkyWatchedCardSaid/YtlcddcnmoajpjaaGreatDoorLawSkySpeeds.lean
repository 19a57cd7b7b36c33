/- The walk of the law SkySpeeds. (Printed by wip/mklaws1.py.) -/
import Derived.Test.YtlcddcnmoajpjaaGreatDoorLawHelp
import Derived.Test.YtlcddcnmoajpjaaGreatDoorRefNotes
namespace Go.Proofs.YtlcddcnmoajpjaaGreatDoor
open Go.RowKit
open Sp (rd)
set_option linter.unusedSimpArgs false
set_option linter.unusedVariables false

theorem rd_head {l : List Int} (h : l ≠ []) : rd l 0 = l.headD 0 := by cases l with | nil => exact absurd rfl h | cons x t => rfl
theorem rd_last {l : List Int} (h : l ≠ []) : rd l (l.length - 1) = l.getLastD 0 := by
  have h0 : 0 < l.length := List.length_pos_iff.2 h
  rw [← getrd (show l.length - 1 < l.length by omega), List.getLastD_eq_getLast?, List.getLast?_eq_getElem?, List.getElem?_eq_getElem (by omega)]
  rfl

set_option maxRecDepth 100000 in
set_option maxHeartbeats 4000000 in
theorem law_SkySpeeds (start : Int) (l : List Sp.Note) (A : Option Addr) (c : Nat) (low high : Int) (w : World) (hV : Env w) (hm : Notes w A l) (hl : l.length ≤ maxLen) :
    Calls Tryz.prog 7 #[.int .i64 start, .slice A l.length c, .int .i64 low, .int .i64 high] w fun e w' => e = .returned (.bool true) ∧ Ext w w' := by
  have HM := Lib.hid hm
  have HV := Lib.hid hV
  have hmx : (maxLen : Nat) ≤ 9223372036854775807 := by decide
  have HE0 : Hid (Ext w w) := Lib.hid (Ext.refl w)
  clear hm hV
  go_enter Tryz.func7, Tryz.ntmps7
  cases hfew : decide ((l.length : Int) ≤ 8) with
  | false =>
    go_wp2_with fail
    refine (few_any A l.length c _ (by omega)).mono ?_
    rintro e w' ⟨rfl, rfl⟩
    rw [hfew]
    go_wp2_with fail
    refine (known_any w (HV.out.ext HE0.out)).mono ?_
    rintro e w1 ⟨rfl, hE1⟩
    go_wp2_with fail
    go_ret
    exact ⟨rfl, HE0.out.trans hE1⟩
  | true =>
    have hl8 : l.length ≤ 8 := by have := of_decide_eq_true hfew; omega
    go_wp2_with fail
    refine (few_any A l.length c _ (by omega)).mono ?_
    rintro e w' ⟨rfl, rfl⟩
    rw [hfew]
    cases h1 : Sp.spot start with
    | false =>
      have hna : notesArg start l low high = false := by rw [notesArg_eq]; simp [h1]
      go_wp2_with fail
      refine (Speeds_err start low high A c l w HM.out (by omega) hna).mono ?_
      rintro e w1 ⟨rfl, hE1⟩
      have HE1 := Lib.hid hE1
      clear hE1
      go_wp2_with fail
      have HR2 := Lib.hid (Row.new w1 61 #[.int .i64 0, .int .i64 0])
      have HE2 : Hid (Ext w (w1.alloc (.cells #[.int .i64 0, .int .i64 0] 61))) := Lib.hid (HE1.out.alloc _)
      generalize w1.alloc (.cells #[.int .i64 0, .int .i64 0] 61) = w2 at *
      have b2 := HR2.out.cell
      refine (r_Spot_any _ _).mono ?_
      rintro e w' ⟨rfl, rfl⟩
      rw [h1]
      have hcmp : ∀ w, (binOp .eql 61 (.agg #[.int .i64 0, .int .i64 0]) (.agg #[.int .i64 0, .int .i64 0])).run Tryz.prog w = .ok (.bool true) w := fun w => by rw [eql_span]; rfl
      go_wp2_with fail
      refine (known_any w2 (HV.out.ext HE2.out)).mono ?_
      rintro e w3 ⟨rfl, hE3⟩
      go_wp2_with fail
      go_ret
      exact ⟨rfl, HE2.out.trans hE3⟩
    | true =>
      cases h2 : Sp.notesOk l with
      | false =>
        have hna : notesArg start l low high = false := by rw [notesArg_eq]; simp [h1, h2]
        go_wp2_with fail
        refine (Speeds_err start low high A c l w HM.out (by omega) hna).mono ?_
        rintro e w1 ⟨rfl, hE1⟩
        have HE1 := Lib.hid hE1
        clear hE1
        go_wp2_with fail
        have HR2 := Lib.hid (Row.new w1 61 #[.int .i64 0, .int .i64 0])
        have HE2 : Hid (Ext w (w1.alloc (.cells #[.int .i64 0, .int .i64 0] 61))) := Lib.hid (HE1.out.alloc _)
        generalize w1.alloc (.cells #[.int .i64 0, .int .i64 0] 61) = w2 at *
        have b2 := HR2.out.cell
        refine (r_Spot_any _ _).mono ?_
        rintro e w' ⟨rfl, rfl⟩
        rw [h1]
        go_wp2_with fail
        refine (r_Notes_any l A c w2 (HM.out.ext HE2.out) (by omega)).mono ?_
        rintro e w3 ⟨rfl, hE3⟩
        have HE3 := Lib.hid (HE2.out.trans hE3)
        have HR3 := Lib.hid (HR2.out.ext hE3)
        clear b2
        have b3 := HR3.out.cell
        clear hE3
        rw [h2]
        have hcmp : ∀ w, (binOp .eql 61 (.agg #[.int .i64 0, .int .i64 0]) (.agg #[.int .i64 0, .int .i64 0])).run Tryz.prog w = .ok (.bool true) w := fun w => by rw [eql_span]; rfl
        go_wp2_with fail
        refine (known_any w3 (HV.out.ext HE3.out)).mono ?_
        rintro e w4 ⟨rfl, hE4⟩
        go_wp2_with fail
        go_ret
        exact ⟨rfl, HE3.out.trans hE4⟩
      | true =>
        cases h3 : Sp.rangeOk low high with
        | false =>
          have hna : notesArg start l low high = false := by rw [notesArg_eq]; simp [h1, h2, h3]
          go_wp2_with fail
          refine (Speeds_err start low high A c l w HM.out (by omega) hna).mono ?_
          rintro e w1 ⟨rfl, hE1⟩
          have HE1 := Lib.hid hE1
          clear hE1
          go_wp2_with fail
          have HR2 := Lib.hid (Row.new w1 61 #[.int .i64 0, .int .i64 0])
          have HE2 : Hid (Ext w (w1.alloc (.cells #[.int .i64 0, .int .i64 0] 61))) := Lib.hid (HE1.out.alloc _)
          generalize w1.alloc (.cells #[.int .i64 0, .int .i64 0] 61) = w2 at *
          have b2 := HR2.out.cell
          refine (r_Spot_any _ _).mono ?_
          rintro e w' ⟨rfl, rfl⟩
          rw [h1]
          go_wp2_with fail
          refine (r_Notes_any l A c w2 (HM.out.ext HE2.out) (by omega)).mono ?_
          rintro e w3 ⟨rfl, hE3⟩
          have HE3 := Lib.hid (HE2.out.trans hE3)
          have HR3 := Lib.hid (HR2.out.ext hE3)
          clear b2
          have b3 := HR3.out.cell
          clear hE3
          rw [h2]
          go_wp2_with fail
          refine (r_Range_any _ _ _).mono ?_
          rintro e w' ⟨rfl, rfl⟩
          rw [h3]
          have hcmp : ∀ w, (binOp .eql 61 (.agg #[.int .i64 0, .int .i64 0]) (.agg #[.int .i64 0, .int .i64 0])).run Tryz.prog w = .ok (.bool true) w := fun w => by rw [eql_span]; rfl
          go_wp2_with fail
          refine (known_any w3 (HV.out.ext HE3.out)).mono ?_
          rintro e w4 ⟨rfl, hE4⟩
          go_wp2_with fail
          go_ret
          exact ⟨rfl, HE3.out.trans hE4⟩
        | true =>
          have hna : notesArg start l low high = true := by rw [notesArg_eq]; simp [h1, h2, h3]
          by_cases hn : Sp.speedsL start l low high = []
          case pos =>
            go_wp2_with fail
            refine (Speeds_none start low high A c l w HM.out (by omega) hna hn).mono ?_
            rintro e w1 ⟨rfl, hE1⟩
            have HE1 := Lib.hid hE1
            clear hE1
            go_wp2_with fail
            have HR2 := Lib.hid (Row.new w1 61 #[.int .i64 0, .int .i64 0])
            have HE2 : Hid (Ext w (w1.alloc (.cells #[.int .i64 0, .int .i64 0] 61))) := Lib.hid (HE1.out.alloc _)
            generalize w1.alloc (.cells #[.int .i64 0, .int .i64 0] 61) = w2 at *
            have b2 := HR2.out.cell
            refine (r_Spot_any _ _).mono ?_
            rintro e w' ⟨rfl, rfl⟩
            rw [h1]
            go_wp2_with fail
            refine (r_Notes_any l A c w2 (HM.out.ext HE2.out) (by omega)).mono ?_
            rintro e w3 ⟨rfl, hE3⟩
            have HE3 := Lib.hid (HE2.out.trans hE3)
            have HR3 := Lib.hid (HR2.out.ext hE3)
            clear b2
            have b3 := HR3.out.cell
            clear hE3
            rw [h2]
            go_wp2_with fail
            refine (r_Range_any _ _ _).mono ?_
            rintro e w' ⟨rfl, rfl⟩
            rw [h3]
            go_wp2_with fail
            refine (r_Speeds_any start low high l A c w3 (HM.out.ext HE3.out) hna).mono ?_
            rintro e w4 ⟨v, rfl, hHV1, hE4⟩
            have HE4 := Lib.hid (HE3.out.trans hE4)
            have HR4 := Lib.hid (HR3.out.ext hE4)
            clear b3
            have b4 := HR4.out.cell
            clear hE4
            have HV1 := Lib.hid hHV1
            clear hHV1
            rw [hn] at HV1
            obtain ⟨A1, c1, hv, _⟩ := HV1.out
            simp only [List.length_nil] at hv
            subst hv
            have hcmp : ∀ w, (binOp .eql 61 (.agg #[.int .i64 0, .int .i64 0]) (.agg #[.int .i64 0, .int .i64 0])).run Tryz.prog w = .ok (.bool true) w := fun w => by rw [eql_span]; rfl
            go_wp2_with fail
            refine (known_any w4 (HV.out.ext HE4.out)).mono ?_
            rintro e w5 ⟨rfl, hE5⟩
            go_wp2_with fail
            go_ret
            exact ⟨rfl, HE4.out.trans hE5⟩
          case neg =>
            have hlen := speedsL_length start l low high
            have hrng := h3
            simp only [Sp.rangeOk, Bool.and_eq_true, decide_eq_true_eq] at hrng
            have hpos : 0 < (Sp.speedsL start l low high).length := List.length_pos_iff.2 hn
            have hl5 : (Sp.speedsL start l low high).length ≤ 5001 := by omega
            have e0 := rd_head hn
            have e1 := rd_last hn
            clear hrng hlen
            obtain ⟨x0, hx0⟩ : ∃ x0, (Sp.speedsL start l low high).headD 0 = x0 := ⟨_, rfl⟩
            obtain ⟨x1, hx1⟩ : ∃ x1, (Sp.speedsL start l low high).getLastD 0 = x1 := ⟨_, rfl⟩
            rw [hx0] at e0
            rw [hx1] at e1
            go_wp2_with fail
            refine (Speeds_ok start low high A c l w HM.out (by omega) hna hn).mono ?_
            rintro e w1 ⟨rfl, hE1⟩
            have HE1 := Lib.hid hE1
            clear hE1
            rw [hx0, hx1]
            go_wp2_with fail
            have HR2 := Lib.hid (Row.new w1 61 #[.int .i64 x0, .int .i64 x1])
            have HE2 : Hid (Ext w (w1.alloc (.cells #[.int .i64 x0, .int .i64 x1] 61))) := Lib.hid (HE1.out.alloc _)
            generalize w1.alloc (.cells #[.int .i64 x0, .int .i64 x1] 61) = w2 at *
            have b2 := HR2.out.cell
            refine (r_Spot_any _ _).mono ?_
            rintro e w' ⟨rfl, rfl⟩
            rw [h1]
            go_wp2_with fail
            refine (r_Notes_any l A c w2 (HM.out.ext HE2.out) (by omega)).mono ?_
            rintro e w3 ⟨rfl, hE3⟩
            have HE3 := Lib.hid (HE2.out.trans hE3)
            have HR3 := Lib.hid (HR2.out.ext hE3)
            clear b2
            have b3 := HR3.out.cell
            clear hE3
            rw [h2]
            go_wp2_with fail
            refine (r_Range_any _ _ _).mono ?_
            rintro e w' ⟨rfl, rfl⟩
            rw [h3]
            go_wp2_with fail
            refine (r_Speeds_any start low high l A c w3 (HM.out.ext HE3.out) hna).mono ?_
            rintro e w4 ⟨v, rfl, hHV1, hE4⟩
            have HE4 := Lib.hid (HE3.out.trans hE4)
            have HR4 := Lib.hid (HR3.out.ext hE4)
            clear b3
            have b4 := HR4.out.cell
            clear hE4
            have HV1 := Lib.hid hHV1
            clear hHV1
            obtain ⟨L, hL⟩ : ∃ L, Sp.speedsL start l low high = L := ⟨_, rfl⟩
            rw [hL] at HV1 hpos hl5 e0 e1 ⊢
            clear hx0 hx1
            obtain ⟨A1, c1, hv, hI⟩ := HV1.out
            subst hv
            obtain ⟨bb, oo, rfl, hc⟩ := hI hpos
            have z0 := hc 0 hpos
            have z1 := hc (L.length - 1) (by omega)
            rw [e0] at z0
            rw [e1] at z1
            obtain ⟨m, hm⟩ : ∃ m, L.length = m + 1 := ⟨L.length - 1, by omega⟩
            rw [hm] at z1 hl5 ⊢
            simp only [Nat.add_sub_cancel, Nat.zero_mul, Nat.mul_one, Nat.add_zero] at z0 z1
            have hcmp : ∀ w, (binOp .eql 61 (.agg #[.int .i64 x0, .int .i64 x1]) (.agg #[.int .i64 x0, .int .i64 x1])).run Tryz.prog w = .ok (.bool true) w := fun w => by rw [eql_span]; simp
            clear hc hI hL hn hpos
            go_wp2_with fail
            refine wp_region_later (by kernel_rfl) (by kernel_rfl) (fun W hW => ?_)
            subst hW
            have q1 := Later.block (w := W) HR4.out
            have y0' := fun X : Later W => X.ext.cell z0
            have y1' := fun X : Later W => X.ext.cell z1
            have HNV := Lib.hid (fun X : Later W => HV.out.ext (HE4.out.trans X.ext))
            repeat (go_big_quiet_step (fail))
            go_big_quiet_step ((go_at_call 25; exact Later.call (known_any _ (by exact HNV.out _))))
            repeat (go_big_quiet_step (fail))
            refine wpQuiet_nil ?_
            rintro ⟨W3, hE3⟩
            go_wp2_with fail
            go_ret
            exact ⟨rfl, HE4.out.trans hE3⟩
end Go.Proofs.YtlcddcnmoajpjaaGreatDoor
