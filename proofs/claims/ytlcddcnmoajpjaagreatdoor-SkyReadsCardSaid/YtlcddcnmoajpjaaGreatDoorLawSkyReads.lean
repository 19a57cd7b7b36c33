/- The walk of the law SkyReads. (Printed by wip/mklaws1.py.) -/
import Derived.Test.YtlcddcnmoajpjaaGreatDoorV21
import Derived.Test.YtlcddcnmoajpjaaGreatDoorRefSkies
import Derived.Test.YtlcddcnmoajpjaaGreatDoorTextLen
import Derived.Test.YtlcddcnmoajpjaaGreatDoorRefRead
namespace Go.Proofs.YtlcddcnmoajpjaaGreatDoor
open Go.RowKit
open Sp (rd)
set_option linter.unusedSimpArgs false
set_option linter.unusedVariables false

theorem short_text {s : Sp.Sky} (h : SkyText s) : Short s.bodies := ⟨by have := h.few; omega, fun k hk => by have := h.roads _ (bd_mem hk); omega⟩
set_option maxRecDepth 100000 in
set_option maxHeartbeats 4000000 in
theorem law_SkyReads (t : ByteArray) (w : World) (hV : Env w) (hx0 : t.size ≤ maxLen) :
    Calls Tryz.prog 15 #[.string t] w fun e w' => e = .returned (.bool true) ∧ Ext w w' := by
  obtain ⟨x, rfl⟩ : ∃ x, t = bs x := ⟨t.data.toList, (bs_of t).symm⟩
  have hsz := bs_size x
  have hx : (bs x).size ≤ 9223372036854775807 := Nat.le_trans hx0 (by decide)
  clear hx0
  rw [hsz] at hx
  have HV := Lib.hid hV
  have HE0 : Hid (Ext w w) := Lib.hid (Ext.refl w)
  clear hV
  go_enter Tryz.func15, Tryz.ntmps15
  by_cases h5 : 500 < x.length
  case pos =>
    have h5' : (500 : Int) < (x.length : Int) := by omega
    go_wp2_with fail
    refine (known_any w (HV.out.ext HE0.out)).mono ?_
    rintro e w1 ⟨rfl, hE1⟩
    go_wp2_with fail
    go_ret
    exact ⟨rfl, HE0.out.trans hE1⟩
  case neg =>
    have h5' : ¬ ((500 : Int) < (x.length : Int)) := by omega
    have HRP := Lib.hid (read_parse x (by omega))
    have hq : ((bs x).toList == (bs x).toList) = true := by simp
    by_cases h4 : 400 < x.length
    case pos =>
      have h4' : (400 : Int) < (x.length : Int) := by omega
      go_wp2_with fail
      refine (Read_no x w (HV.out.ext HE0.out) (by omega) 3 (by rw [if_pos (by omega)]) (by decide)).mono ?_
      rintro e w1 ⟨rfl, hE1⟩
      have HE1 := Lib.hid (HE0.out.trans hE1)
      clear hE1
      have HRX := Lib.hid (Row.new w1 28 #[.slice none 0 0, .int .i64 0, .int .i64 0, .int .i64 0])
      have hX2 : Ext w1 (w1.alloc (.cells #[.slice none 0 0, .int .i64 0, .int .i64 0, .int .i64 0] 28)) := (Ext.refl _).alloc _
      have HE2 := Lib.hid (HE1.out.trans hX2)
      have bRX := HRX.out.cell
      clear hX2
      go_wp2_with fail
      generalize w1.alloc (.cells #[.slice none 0 0, .int .i64 0, .int .i64 0, .int .i64 0] 28) = w2 at *
      refine (r_Read_any x w2 (by omega)).mono ?_
      rintro e w3 ⟨hE3, ⟨hno, rfl⟩ | ⟨s2, A2, c2, hs2, hst2, rfl, hB2⟩⟩
      · have HE3 := Lib.hid (HE2.out.trans hE3)
        replace HRX := Lib.hid (HRX.out.ext hE3)
        clear bRX
        have bRX := HRX.out.cell
        clear hE3
        clear hno
        unfold zeroSky
        have HRY := Lib.hid (Row.new w3 28 #[.slice none 0 0, .int .i64 0, .int .i64 0, .int .i64 0])
        have hX4 : Ext w3 (w3.alloc (.cells #[.slice none 0 0, .int .i64 0, .int .i64 0, .int .i64 0] 28)) := (Ext.refl _).alloc _
        have HE4 := Lib.hid (HE3.out.trans hX4)
        replace HRX := Lib.hid (HRX.out.ext hX4)
        clear bRX
        have bRX := HRX.out.cell
        have bRY := HRY.out.cell
        clear hX4
        go_wp2_with fail
        generalize w3.alloc (.cells #[.slice none 0 0, .int .i64 0, .int .i64 0, .int .i64 0] 28) = w4 at *
        refine (r_SameSkies_eq ⟨[], 0, 0, 0⟩ none none 0 0 w4 (fun h => absurd h (by simp)) (fun h => absurd h (by simp)) ⟨Nat.zero_le _, fun k hk => absurd hk (by simp)⟩).mono ?_
        rintro e w5 ⟨rfl, hE5⟩
        have HE5 := Lib.hid (HE4.out.trans hE5)
        replace HRX := Lib.hid (HRX.out.ext hE5)
        clear bRX
        have bRX := HRX.out.cell
        replace HRY := Lib.hid (HRY.out.ext hE5)
        clear bRY
        have bRY := HRY.out.cell
        clear hE5
        go_wp2_with fail
        refine (known_any w5 (HV.out.ext HE5.out)).mono ?_
        rintro e w6 ⟨rfl, hE6⟩
        go_wp2_with fail
        go_ret
        exact ⟨rfl, HE5.out.trans hE6⟩
      · skip
        have HE3 := Lib.hid (HE2.out.trans hE3)
        replace HRX := Lib.hid (HRX.out.ext hE3)
        clear bRX
        have bRX := HRX.out.cell
        clear hE3
        have HB2 := Lib.hid hB2
        have HST2 := Lib.hid hst2
        clear hB2 hst2
        have HRY := Lib.hid (Row.new w3 28 #[.slice A2 s2.bodies.length c2, .int .i64 s2.nnum, .int .i64 s2.nden, .int .i64 s2.nstart])
        have hX4 : Ext w3 (w3.alloc (.cells #[.slice A2 s2.bodies.length c2, .int .i64 s2.nnum, .int .i64 s2.nden, .int .i64 s2.nstart] 28)) := (Ext.refl _).alloc _
        have HE4 := Lib.hid (HE3.out.trans hX4)
        replace HB2 := Lib.hid (HB2.out.ext hX4)
        replace HRX := Lib.hid (HRX.out.ext hX4)
        clear bRX
        have bRX := HRX.out.cell
        have bRY := HRY.out.cell
        clear hX4
        go_wp2_with fail
        generalize w3.alloc (.cells #[.slice A2 s2.bodies.length c2, .int .i64 s2.nnum, .int .i64 s2.nden, .int .i64 s2.nstart] 28) = w4 at *
        refine (r_SameSkies_eq ⟨[], 0, 0, 0⟩ none none 0 0 w4 (fun h => absurd h (by simp)) (fun h => absurd h (by simp)) ⟨Nat.zero_le _, fun k hk => absurd hk (by simp)⟩).mono ?_
        rintro e w5 ⟨rfl, hE5⟩
        have HE5 := Lib.hid (HE4.out.trans hE5)
        replace HB2 := Lib.hid (HB2.out.ext hE5)
        replace HRX := Lib.hid (HRX.out.ext hE5)
        clear bRX
        have bRX := HRX.out.cell
        replace HRY := Lib.hid (HRY.out.ext hE5)
        clear bRY
        have bRY := HRY.out.cell
        clear hE5
        go_wp2_with fail
        refine (known_any w5 (HV.out.ext HE5.out)).mono ?_
        rintro e w6 ⟨rfl, hE6⟩
        go_wp2_with fail
        go_ret
        exact ⟨rfl, HE5.out.trans hE6⟩
    case neg =>
      have h4' : ¬ ((400 : Int) < (x.length : Int)) := by omega
      cases hp : parseP x with
      | none =>
        have HP := Lib.hid hp
        go_wp2_with fail
        refine (Read_no x w (HV.out.ext HE0.out) (by omega) 4 (by rw [if_neg (by omega), HP.out]) (by decide)).mono ?_
        rintro e w1 ⟨rfl, hE1⟩
        have HE1 := Lib.hid (HE0.out.trans hE1)
        clear hE1
        have HRX := Lib.hid (Row.new w1 28 #[.slice none 0 0, .int .i64 0, .int .i64 0, .int .i64 0])
        have hX2 : Ext w1 (w1.alloc (.cells #[.slice none 0 0, .int .i64 0, .int .i64 0, .int .i64 0] 28)) := (Ext.refl _).alloc _
        have HE2 := Lib.hid (HE1.out.trans hX2)
        have bRX := HRX.out.cell
        clear hX2
        go_wp2_with fail
        generalize w1.alloc (.cells #[.slice none 0 0, .int .i64 0, .int .i64 0, .int .i64 0] 28) = w2 at *
        refine (r_Read_any x w2 (by omega)).mono ?_
        rintro e w3 ⟨hE3, ⟨hno, rfl⟩ | ⟨s2, A2, c2, hs2, hst2, rfl, hB2⟩⟩
        · have HE3 := Lib.hid (HE2.out.trans hE3)
          replace HRX := Lib.hid (HRX.out.ext hE3)
          clear bRX
          have bRX := HRX.out.cell
          clear hE3
          clear hno
          unfold zeroSky
          have HRY := Lib.hid (Row.new w3 28 #[.slice none 0 0, .int .i64 0, .int .i64 0, .int .i64 0])
          have hX4 : Ext w3 (w3.alloc (.cells #[.slice none 0 0, .int .i64 0, .int .i64 0, .int .i64 0] 28)) := (Ext.refl _).alloc _
          have HE4 := Lib.hid (HE3.out.trans hX4)
          replace HRX := Lib.hid (HRX.out.ext hX4)
          clear bRX
          have bRX := HRX.out.cell
          have bRY := HRY.out.cell
          clear hX4
          go_wp2_with fail
          generalize w3.alloc (.cells #[.slice none 0 0, .int .i64 0, .int .i64 0, .int .i64 0] 28) = w4 at *
          refine (r_SameSkies_eq ⟨[], 0, 0, 0⟩ none none 0 0 w4 (fun h => absurd h (by simp)) (fun h => absurd h (by simp)) ⟨Nat.zero_le _, fun k hk => absurd hk (by simp)⟩).mono ?_
          rintro e w5 ⟨rfl, hE5⟩
          have HE5 := Lib.hid (HE4.out.trans hE5)
          replace HRX := Lib.hid (HRX.out.ext hE5)
          clear bRX
          have bRX := HRX.out.cell
          replace HRY := Lib.hid (HRY.out.ext hE5)
          clear bRY
          have bRY := HRY.out.cell
          clear hE5
          go_wp2_with fail
          refine (known_any w5 (HV.out.ext HE5.out)).mono ?_
          rintro e w6 ⟨rfl, hE6⟩
          go_wp2_with fail
          go_ret
          exact ⟨rfl, HE5.out.trans hE6⟩
        · rw [HRP.out, HP.out] at hs2
          cases hs2
      | some s =>
        have HP := Lib.hid hp
        cases hok : Sp.skyOk s with
        | false =>
          go_wp2_with fail
          refine (Read_no x w (HV.out.ext HE0.out) (by omega) 2 (by rw [if_neg (by omega), HP.out]; simp [hok]) (by decide)).mono ?_
          rintro e w1 ⟨rfl, hE1⟩
          have HE1 := Lib.hid (HE0.out.trans hE1)
          clear hE1
          have HRX := Lib.hid (Row.new w1 28 #[.slice none 0 0, .int .i64 0, .int .i64 0, .int .i64 0])
          have hX2 : Ext w1 (w1.alloc (.cells #[.slice none 0 0, .int .i64 0, .int .i64 0, .int .i64 0] 28)) := (Ext.refl _).alloc _
          have HE2 := Lib.hid (HE1.out.trans hX2)
          have bRX := HRX.out.cell
          clear hX2
          go_wp2_with fail
          generalize w1.alloc (.cells #[.slice none 0 0, .int .i64 0, .int .i64 0, .int .i64 0] 28) = w2 at *
          refine (r_Read_any x w2 (by omega)).mono ?_
          rintro e w3 ⟨hE3, ⟨hno, rfl⟩ | ⟨s2, A2, c2, hs2, hst2, rfl, hB2⟩⟩
          · rw [HRP.out, HP.out] at hno
            cases hno
          · rw [HRP.out, HP.out] at hs2
            obtain rfl : s = s2 := Option.some.inj hs2
            clear hs2
            have HE3 := Lib.hid (HE2.out.trans hE3)
            replace HRX := Lib.hid (HRX.out.ext hE3)
            clear bRX
            have bRX := HRX.out.cell
            clear hE3
            have HB2 := Lib.hid hB2
            have HST2 := Lib.hid hst2
            clear hB2 hst2
            have HRY := Lib.hid (Row.new w3 28 #[.slice A2 s.bodies.length c2, .int .i64 s.nnum, .int .i64 s.nden, .int .i64 s.nstart])
            have hX4 : Ext w3 (w3.alloc (.cells #[.slice A2 s.bodies.length c2, .int .i64 s.nnum, .int .i64 s.nden, .int .i64 s.nstart] 28)) := (Ext.refl _).alloc _
            have HE4 := Lib.hid (HE3.out.trans hX4)
            replace HB2 := Lib.hid (HB2.out.ext hX4)
            replace HRX := Lib.hid (HRX.out.ext hX4)
            clear bRX
            have bRX := HRX.out.cell
            have bRY := HRY.out.cell
            clear hX4
            go_wp2_with fail
            generalize w3.alloc (.cells #[.slice A2 s.bodies.length c2, .int .i64 s.nnum, .int .i64 s.nden, .int .i64 s.nstart] 28) = w4 at *
            refine (r_Sky_any s A2 c2 w4 HB2.out (short_text HST2.out)).mono ?_
            rintro e w5 ⟨rfl, hE5⟩
            have HE5 := Lib.hid (HE4.out.trans hE5)
            replace HB2 := Lib.hid (HB2.out.ext hE5)
            replace HRX := Lib.hid (HRX.out.ext hE5)
            clear bRX
            have bRX := HRX.out.cell
            replace HRY := Lib.hid (HRY.out.ext hE5)
            clear bRY
            have bRY := HRY.out.cell
            clear hE5
            rw [hok]
            go_wp2_with fail
            refine (r_SameSkies_eq ⟨[], 0, 0, 0⟩ none none 0 0 w5 (fun h => absurd h (by simp)) (fun h => absurd h (by simp)) ⟨Nat.zero_le _, fun k hk => absurd hk (by simp)⟩).mono ?_
            rintro e w6 ⟨rfl, hE6⟩
            have HE6 := Lib.hid (HE5.out.trans hE6)
            replace HB2 := Lib.hid (HB2.out.ext hE6)
            replace HRX := Lib.hid (HRX.out.ext hE6)
            clear bRX
            have bRX := HRX.out.cell
            replace HRY := Lib.hid (HRY.out.ext hE6)
            clear bRY
            have bRY := HRY.out.cell
            clear hE6
            go_wp2_with fail
            refine (known_any w6 (HV.out.ext HE6.out)).mono ?_
            rintro e w7 ⟨rfl, hE7⟩
            go_wp2_with fail
            go_ret
            exact ⟨rfl, HE6.out.trans hE7⟩
        | true =>
          have HTX := Lib.hid (parse_some hp).1
          go_wp2_with fail
          refine (Read_ok x s w (HV.out.ext HE0.out) (by omega) HP.out hok).mono ?_
          rintro e w1 ⟨A1, c1, rfl, hB1, hE1⟩
          have HE1 := Lib.hid (HE0.out.trans hE1)
          clear hE1
          have HB1 := Lib.hid hB1
          clear hB1
          have HRX := Lib.hid (Row.new w1 28 #[.slice A1 s.bodies.length c1, .int .i64 s.nnum, .int .i64 s.nden, .int .i64 s.nstart])
          have hX2 : Ext w1 (w1.alloc (.cells #[.slice A1 s.bodies.length c1, .int .i64 s.nnum, .int .i64 s.nden, .int .i64 s.nstart] 28)) := (Ext.refl _).alloc _
          have HE2 := Lib.hid (HE1.out.trans hX2)
          replace HB1 := Lib.hid (HB1.out.ext hX2)
          have bRX := HRX.out.cell
          clear hX2
          go_wp2_with fail
          generalize w1.alloc (.cells #[.slice A1 s.bodies.length c1, .int .i64 s.nnum, .int .i64 s.nden, .int .i64 s.nstart] 28) = w2 at *
          refine (r_Read_any x w2 (by omega)).mono ?_
          rintro e w3 ⟨hE3, ⟨hno, rfl⟩ | ⟨s2, A2, c2, hs2, hst2, rfl, hB2⟩⟩
          · rw [HRP.out, HP.out] at hno
            cases hno
          · rw [HRP.out, HP.out] at hs2
            obtain rfl : s = s2 := Option.some.inj hs2
            clear hs2
            have HE3 := Lib.hid (HE2.out.trans hE3)
            replace HB1 := Lib.hid (HB1.out.ext hE3)
            replace HRX := Lib.hid (HRX.out.ext hE3)
            clear bRX
            have bRX := HRX.out.cell
            clear hE3
            have HB2 := Lib.hid hB2
            have HST2 := Lib.hid hst2
            clear hB2 hst2
            have HRY := Lib.hid (Row.new w3 28 #[.slice A2 s.bodies.length c2, .int .i64 s.nnum, .int .i64 s.nden, .int .i64 s.nstart])
            have hX4 : Ext w3 (w3.alloc (.cells #[.slice A2 s.bodies.length c2, .int .i64 s.nnum, .int .i64 s.nden, .int .i64 s.nstart] 28)) := (Ext.refl _).alloc _
            have HE4 := Lib.hid (HE3.out.trans hX4)
            replace HB1 := Lib.hid (HB1.out.ext hX4)
            replace HB2 := Lib.hid (HB2.out.ext hX4)
            replace HRX := Lib.hid (HRX.out.ext hX4)
            clear bRX
            have bRX := HRX.out.cell
            have bRY := HRY.out.cell
            clear hX4
            go_wp2_with fail
            generalize w3.alloc (.cells #[.slice A2 s.bodies.length c2, .int .i64 s.nnum, .int .i64 s.nden, .int .i64 s.nstart] 28) = w4 at *
            refine (r_Sky_any s A2 c2 w4 HB2.out (short_text HST2.out)).mono ?_
            rintro e w5 ⟨rfl, hE5⟩
            have HE5 := Lib.hid (HE4.out.trans hE5)
            replace HB1 := Lib.hid (HB1.out.ext hE5)
            replace HB2 := Lib.hid (HB2.out.ext hE5)
            replace HRX := Lib.hid (HRX.out.ext hE5)
            clear bRX
            have bRX := HRX.out.cell
            replace HRY := Lib.hid (HRY.out.ext hE5)
            clear bRY
            have bRY := HRY.out.cell
            clear hE5
            rw [hok]
            go_wp2_with fail
            refine (Print_ok s A1 c1 w5 (HV.out.ext HE5.out) HB1.out (short_text HST2.out) hok).mono ?_
            rintro e w6 ⟨rfl, hE6⟩
            have HE6 := Lib.hid (HE5.out.trans hE6)
            replace HB1 := Lib.hid (HB1.out.ext hE6)
            replace HB2 := Lib.hid (HB2.out.ext hE6)
            replace HRX := Lib.hid (HRX.out.ext hE6)
            clear bRX
            have bRX := HRX.out.cell
            replace HRY := Lib.hid (HRY.out.ext hE6)
            clear bRY
            have bRY := HRY.out.cell
            clear hE6
            rw [HTX.out]
            go_wp2_with fail
            refine (r_SameSkies_eq s A1 A2 c1 c2 w6 HB1.out HB2.out (short_text HST2.out)).mono ?_
            rintro e w7 ⟨rfl, hE7⟩
            have HE7 := Lib.hid (HE6.out.trans hE7)
            replace HB1 := Lib.hid (HB1.out.ext hE7)
            replace HB2 := Lib.hid (HB2.out.ext hE7)
            replace HRX := Lib.hid (HRX.out.ext hE7)
            clear bRX
            have bRX := HRX.out.cell
            replace HRY := Lib.hid (HRY.out.ext hE7)
            clear bRY
            have bRY := HRY.out.cell
            clear hE7
            go_wp2_with fail
            refine (known_any w7 (HV.out.ext HE7.out)).mono ?_
            rintro e w8 ⟨rfl, hE8⟩
            go_wp2_with fail
            go_ret
            exact ⟨rfl, HE7.out.trans hE8⟩
end Go.Proofs.YtlcddcnmoajpjaaGreatDoor
