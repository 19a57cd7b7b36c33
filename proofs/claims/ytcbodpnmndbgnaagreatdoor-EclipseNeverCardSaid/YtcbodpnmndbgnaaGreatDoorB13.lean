/- Volume 13 of the texts that the laws of this seat use: EcRef1 EcRef2 EcOpen EcLaws0 EcLaws4 EcRef4 EcRef5 EcRef6 EcRef8 EcLaws5 EcEven: walks of the program's functions, and plain laws. -/
import Derived.Carry
import Derived.ProofKit
import Derived.Deep.Slices
import Derived.Stop.LaidErr
import Derived.Lib.LaidTab
import Derived.Deep.DeepHandedRow
import Derived.WalkKit
import Derived.Shelf.Vars
import Derived.Lib.MinMax
import Derived.Deep.RegionHeld3
import Derived.Test.YtcbodpnmndbgnaaGreatDoorB11
import Derived.Test.YtcbodpnmndbgnaaGreatDoorB12
import Derived.Test.YtcbodpnmndbgnaaGreatDoorB03
import Derived.Test.YtcbodpnmndbgnaaGreatDoorB04
import Derived.Test.YtcbodpnmndbgnaaGreatDoorB05
import Derived.Test.YtcbodpnmndbgnaaGreatDoorB06
import Derived.Test.YtcbodpnmndbgnaaGreatDoorB08
import Derived.Test.YtcbodpnmndbgnaaGreatDoorCards
import Derived.Test.YtcbodpnmndbgnaaGreatDoorTie
namespace Go.Proofs.YtcbodpnmndbgnaaGreatDoor
open Go.RowKit
open Sp (rd)
set_option maxRecDepth 100000
set_option maxHeartbeats 2000000
set_option linter.unusedVariables false
theorem r1_in_any (x lo hi : Int) (w : World) : Calls Tryz.prog 60 #[.int .i64 x, .int .i64 lo, .int .i64 hi] w fun e w' => e = .returned (.bool (Sp.inR x lo hi)) ∧ w = w' := by
  by_cases h1 : lo ≤ x <;> by_cases h2 : x ≤ hi <;>
  · go_enter Tryz.func60, Tryz.ntmps60
    go_wp2_with fail
    all_goals
      go_ret
      exact ⟨ret_bool (by simp [Sp.inR, h1, h2]), rfl⟩
theorem r1_in_ext (x lo hi : Int) (w : World) : Calls Tryz.prog 60 #[.int .i64 x, .int .i64 lo, .int .i64 hi] w fun e w' => e = .returned (.bool (Sp.inR x lo hi)) ∧ Ext w w' := by
  refine (r1_in_any x lo hi w).mono ?_
  rintro e w' ⟨rfl, rfl⟩
  exact ⟨rfl, Ext.refl _⟩
theorem r7_in_any (x lo hi : Int) (w : World) : Calls Tryz.prog 61 #[.int .i64 x, .int .i64 lo, .int .i64 hi] w fun e w' => e = .returned (.bool (Sp.inR x lo hi)) ∧ w = w' := by
  by_cases h1 : lo ≤ x <;> by_cases h2 : x ≤ hi <;>
  · go_enter Tryz.func61, Tryz.ntmps61
    go_wp2_with fail
    all_goals
      go_ret
      exact ⟨ret_bool (by simp [Sp.inR, h1, h2]), rfl⟩
theorem r1_Teeth_any (n : Int) (w : World) : Calls Tryz.prog 113 #[.int .i64 n] w fun e w' => e = .returned (.bool (Ec.isTeeth n)) ∧ w = w' := by
  go_enter Tryz.func113, Tryz.ntmps113
  go_wp2_with fail
  refine (r1_in_any n 4 60 _).mono ?_
  rintro e w' ⟨rfl, rfl⟩
  go_wp2_with fail
  go_ret
  exact ⟨rfl, rfl⟩
theorem r1_Limit_any (n : Int) (w : World) : Calls Tryz.prog 19 #[.int .i64 n] w fun e w' => e = .returned (.bool (Sp.inR n 0 10800)) ∧ w = w' := by
  go_enter Tryz.func19, Tryz.ntmps19
  go_wp2_with fail
  refine (r1_in_any n 0 10800 _).mono ?_
  rintro e w' ⟨rfl, rfl⟩
  go_wp2_with fail
  go_ret
  exact ⟨rfl, rfl⟩
theorem r7_Day_any (n : Int) (w : World) : Calls Tryz.prog 18 #[.int .i64 n] w fun e w' => e = .returned (.bool (Ec.isDay n)) ∧ w = w' := by
  go_enter Tryz.func18, Tryz.ntmps18
  go_wp2_with fail
  refine (r7_in_any n 0 9000 _).mono ?_
  rintro e w' ⟨rfl, rfl⟩
  go_wp2_with fail
  go_ret
  exact ⟨rfl, rfl⟩
theorem r7_Late_any (n : Int) (w : World) : Calls Tryz.prog 37 #[.int .i64 n] w fun e w' => e = .returned (.bool (Ec.isLate n)) ∧ w = w' := by
  go_enter Tryz.func37, Tryz.ntmps37
  go_wp2_with fail
  refine (r7_in_any n 0 30 _).mono ?_
  rintro e w' ⟨rfl, rfl⟩
  go_wp2_with fail
  go_ret
  exact ⟨rfl, rfl⟩
theorem r7_Span_any (lo hi : Int) (w : World) : Calls Tryz.prog 26 #[.int .i64 lo, .int .i64 hi] w fun e w' => e = .returned (.bool (Ec.isSpan lo hi)) ∧ w = w' := by
  by_cases h1 : 1 ≤ lo ∧ lo ≤ 9000
  · obtain ⟨d1, d2⟩ := h1
    have h1' : Sp.inR lo 1 9000 = true := inR_iff.2 ⟨d1, d2⟩
    by_cases h2 : lo ≤ hi ∧ hi ≤ 9000
    · obtain ⟨d3, d4⟩ := h2
      have h2' : Sp.inR hi lo 9000 = true := inR_iff.2 ⟨d3, d4⟩
      go_enter Tryz.func26, Tryz.ntmps26
      go_wp2_with (go_at_call 61; refine (r7_in_any _ _ _ _).mono ?_; rintro e w' ⟨rfl, rfl⟩)
      all_goals
        go_ret
        exact ⟨ret_bool (by simp_all [Ec.isSpan]), rfl⟩
    · have h2' : Sp.inR hi lo 9000 = false := inR_no.2 h2
      clear h2
      go_enter Tryz.func26, Tryz.ntmps26
      go_wp2_with (go_at_call 61; refine (r7_in_any _ _ _ _).mono ?_; rintro e w' ⟨rfl, rfl⟩)
      all_goals
        go_ret
        exact ⟨ret_bool (by simp_all [Ec.isSpan]), rfl⟩
  · have h1' : Sp.inR lo 1 9000 = false := inR_no.2 h1
    clear h1
    go_enter Tryz.func26, Tryz.ntmps26
    go_wp2_with (go_at_call 61; refine (r7_in_any _ _ _ _).mono ?_; rintro e w' ⟨rfl, rfl⟩)
    all_goals
      go_ret
      exact ⟨ret_bool (by simp_all [Ec.isSpan]), rfl⟩
theorem r1_Feasts_any (A : Option Addr) (c : Nat) (l : List Int) (w : World) (hm : Ints w A l) (hl : l.length ≤ 100000) :
    Calls Tryz.prog 58 #[.slice A l.length c] w fun e w' => e = .returned (.bool (Ec.feastsOk l)) ∧ Ext w w' := by
  have HM := Lib.hid hm
  clear hm
  go_enter Tryz.func58, Tryz.ntmps58
  go_wp2_with fail
  go_loopw [3] (fun i wr => ∃ k : Nat, k ≤ l.length ∧ i = .int .i64 k ∧ Ec.risingN l 1 10000 k = true ∧ Ext w wr) (fun i _ => l.length - (intOf i).toNat)
  case atStart => exact ⟨0, Nat.zero_le _, rfl, rfl, Ext.refl _⟩
  case round =>
    obtain ⟨k, hk, rfl, hq, hE⟩ := hrel
    have HQ := Lib.hid hq
    have HE := Lib.hid hE
    clear hq
    by_cases hlt : k < l.length
    · obtain ⟨b, o, rfl, hc⟩ := HM.out (by omega)
      have ck := hE.cell (hc k hlt)
      cases hv : Sp.inR (rd l k) 1 10000
      · have HN := Lib.hid (rising_no (l := l) (lo := 1) (hi := 10000) hlt (by simp [Ec.risingN, hv]))
        clear hE hc
        go_wp2_with fail
        refine wp_region_later (by kernel_rfl) (by kernel_rfl) (fun W hW => ?_)
        subst hW
        have y0 := fun X : Later W => X.ext.cell ck
        clear ck
        repeat (go_big_quiet_step (fail))
        go_big_quiet_step ((go_at_call 60; exact Later.call (r1_in_ext _ _ _ _)))
        repeat (go_big_quiet_step (fail))
        refine wpQuiet_nil ?_
        rintro ⟨w3, hE3⟩
        dsimp only
        have HE3 := Lib.hid (HE.out.trans hE3)
        clear hE3 y0
        go_wp2_with fail
        go_ret
        exact ⟨ret_bool (by simp [Ec.feastsOk, HN.out]), HE3.out⟩
      · rcases Nat.eq_zero_or_pos k with h0 | h0
        · subst h0
          simp only [Nat.add_zero] at ck
          have HS : Hid (Ec.risingN l 1 10000 1 = true) := Lib.hid (by simp [Ec.risingN, hv])
          clear hE hc
          go_wp2_with fail
          refine wp_region_later (by kernel_rfl) (by kernel_rfl) (fun W hW => ?_)
          subst hW
          have y0 := fun X : Later W => X.ext.cell ck
          clear ck
          repeat (go_big_quiet_step (fail))
          go_big_quiet_step ((go_at_call 60; exact Later.call (r1_in_ext _ _ _ _)))
          repeat (go_big_quiet_step (fail))
          refine wpQuiet_nil ?_
          rintro ⟨w3, hE3⟩
          dsimp only
          have HE3 := Lib.hid (HE.out.trans hE3)
          clear hE3 y0
          go_wp2_with fail
          go_roundw
          case rel => exact ⟨1, by omega, rfl, HS.out, HE3.out⟩
          case measure => simp [intOf]; omega
        · have cp := hE.cell (hc (k - 1) (by omega))
          have hk0 : (0 : Int) < (k : Int) := by omega
          by_cases hle : rd l k ≤ rd l (k - 1)
          · have HN := Lib.hid (rising_no (l := l) (lo := 1) (hi := 10000) hlt (by simp [Ec.risingN]; intro _ _; exact ⟨by omega, hle⟩))
            clear hE hc
            go_wp2_with fail
            refine wp_region_later (by kernel_rfl) (by kernel_rfl) (fun W hW => ?_)
            subst hW
            have y0 := fun X : Later W => X.ext.cell ck
            have y1 := fun X : Later W => X.ext.cell cp
            clear ck cp
            repeat (go_big_quiet_step (fail))
            go_big_quiet_step ((go_at_call 60; exact Later.call (r1_in_ext _ _ _ _)))
            repeat (go_big_quiet_step (fail))
            refine wpQuiet_nil ?_
            rintro ⟨w3, hE3⟩
            dsimp only
            have HE3 := Lib.hid (HE.out.trans hE3)
            clear hE3 y0 y1
            go_wp2_with fail
            go_ret
            exact ⟨ret_bool (by simp [Ec.feastsOk, HN.out]), HE3.out⟩
          · have HS := Lib.hid (show Ec.risingN l 1 10000 (k + 1) = true by simp [Ec.risingN, HQ.out, hv]; right; omega)
            clear hE hc
            go_wp2_with fail
            refine wp_region_later (by kernel_rfl) (by kernel_rfl) (fun W hW => ?_)
            subst hW
            have y0 := fun X : Later W => X.ext.cell ck
            have y1 := fun X : Later W => X.ext.cell cp
            clear ck cp
            repeat (go_big_quiet_step (fail))
            go_big_quiet_step ((go_at_call 60; exact Later.call (r1_in_ext _ _ _ _)))
            repeat (go_big_quiet_step (fail))
            refine wpQuiet_nil ?_
            rintro ⟨w3, hE3⟩
            dsimp only
            have HE3 := Lib.hid (HE.out.trans hE3)
            clear hE3 y0 y1
            go_wp2_with fail
            go_roundw
            case rel => exact ⟨k + 1, by omega, by go_num, HS.out, HE3.out⟩
            case measure => simp [intOf]; omega
    · obtain rfl : k = l.length := by omega
      go_wp2_with fail
      go_ret
      exact ⟨ret_bool (by simp [Ec.feastsOk, Ec.rising, HQ.out]; omega), HE.out⟩
theorem r1_Set_any (B A : Option Addr) (n d c : Nat) (l : List Int) (w : World) (hn : n ≤ 100000) (hm : Ints w A l) (hl : l.length ≤ 100000) :
    Calls Tryz.prog 17 #[.slice B n d, .slice A l.length c] w fun e w' => e = .returned (.bool (Ec.rising l 0 ((n : Int) - 1))) ∧ Ext w w' := by
  have HM := Lib.hid hm
  clear hm
  go_enter Tryz.func17, Tryz.ntmps17
  go_wp2_with fail
  go_loopw [5] (fun i wr => ∃ k : Nat, k ≤ l.length ∧ i = .int .i64 k ∧ Ec.risingN l 0 (n - 1) k = true ∧ Ext w wr) (fun i _ => l.length - (intOf i).toNat)
  case atStart => exact ⟨0, Nat.zero_le _, rfl, rfl, Ext.refl _⟩
  case round =>
    obtain ⟨k, hk, rfl, hq, hE⟩ := hrel
    have HQ := Lib.hid hq
    have HE := Lib.hid hE
    clear hq
    by_cases hlt : k < l.length
    · obtain ⟨b, o, rfl, hc⟩ := HM.out (by omega)
      have ck := hE.cell (hc k hlt)
      cases hv : Sp.inR (rd l k) 0 (n - 1)
      · have HN := Lib.hid (rising_no (l := l) (lo := 0) (hi := (n - 1)) hlt (by simp [Ec.risingN, hv]))
        clear hE hc
        go_wp2_with fail
        refine wp_region_later (by kernel_rfl) (by kernel_rfl) (fun W hW => ?_)
        subst hW
        have y0 := fun X : Later W => X.ext.cell ck
        clear ck
        repeat (go_big_quiet_step (fail))
        go_big_quiet_step ((go_at_call 60; exact Later.call (r1_in_ext _ _ _ _)))
        repeat (go_big_quiet_step (fail))
        refine wpQuiet_nil ?_
        rintro ⟨w3, hE3⟩
        dsimp only
        have HE3 := Lib.hid (HE.out.trans hE3)
        clear hE3 y0
        go_wp2_with fail
        go_ret
        exact ⟨ret_bool (by rw [HN.out]), HE3.out⟩
      · rcases Nat.eq_zero_or_pos k with h0 | h0
        · subst h0
          simp only [Nat.add_zero] at ck
          have HS : Hid (Ec.risingN l 0 (n - 1) 1 = true) := Lib.hid (by simp [Ec.risingN, hv])
          clear hE hc
          go_wp2_with fail
          refine wp_region_later (by kernel_rfl) (by kernel_rfl) (fun W hW => ?_)
          subst hW
          have y0 := fun X : Later W => X.ext.cell ck
          clear ck
          repeat (go_big_quiet_step (fail))
          go_big_quiet_step ((go_at_call 60; exact Later.call (r1_in_ext _ _ _ _)))
          repeat (go_big_quiet_step (fail))
          refine wpQuiet_nil ?_
          rintro ⟨w3, hE3⟩
          dsimp only
          have HE3 := Lib.hid (HE.out.trans hE3)
          clear hE3 y0
          go_wp2_with fail
          go_roundw
          case rel => exact ⟨1, by omega, rfl, HS.out, HE3.out⟩
          case measure => simp [intOf]; omega
        · have cp := hE.cell (hc (k - 1) (by omega))
          have hk0 : (0 : Int) < (k : Int) := by omega
          by_cases hle : rd l k ≤ rd l (k - 1)
          · have HN := Lib.hid (rising_no (l := l) (lo := 0) (hi := (n - 1)) hlt (by simp [Ec.risingN]; intro _ _; exact ⟨by omega, hle⟩))
            clear hE hc
            go_wp2_with fail
            refine wp_region_later (by kernel_rfl) (by kernel_rfl) (fun W hW => ?_)
            subst hW
            have y0 := fun X : Later W => X.ext.cell ck
            have y1 := fun X : Later W => X.ext.cell cp
            clear ck cp
            repeat (go_big_quiet_step (fail))
            go_big_quiet_step ((go_at_call 60; exact Later.call (r1_in_ext _ _ _ _)))
            repeat (go_big_quiet_step (fail))
            refine wpQuiet_nil ?_
            rintro ⟨w3, hE3⟩
            dsimp only
            have HE3 := Lib.hid (HE.out.trans hE3)
            clear hE3 y0 y1
            go_wp2_with fail
            go_ret
            exact ⟨ret_bool (by rw [HN.out]), HE3.out⟩
          · have HS := Lib.hid (show Ec.risingN l 0 (n - 1) (k + 1) = true by simp [Ec.risingN, HQ.out, hv]; right; omega)
            clear hE hc
            go_wp2_with fail
            refine wp_region_later (by kernel_rfl) (by kernel_rfl) (fun W hW => ?_)
            subst hW
            have y0 := fun X : Later W => X.ext.cell ck
            have y1 := fun X : Later W => X.ext.cell cp
            clear ck cp
            repeat (go_big_quiet_step (fail))
            go_big_quiet_step ((go_at_call 60; exact Later.call (r1_in_ext _ _ _ _)))
            repeat (go_big_quiet_step (fail))
            refine wpQuiet_nil ?_
            rintro ⟨w3, hE3⟩
            dsimp only
            have HE3 := Lib.hid (HE.out.trans hE3)
            clear hE3 y0 y1
            go_wp2_with fail
            go_roundw
            case rel => exact ⟨k + 1, by omega, by go_num, HS.out, HE3.out⟩
            case measure => simp [intOf]; omega
    · obtain rfl : k = l.length := by omega
      go_wp2_with fail
      go_ret
      exact ⟨ret_bool (by rw [Ec.rising, HQ.out]), HE.out⟩
theorem train_no {l : List Ec.Pair} {k : Nat} (hk : k < l.length) (h : Ec.pairOk (pd l k) = false) : Ec.trainOk l = false := by
  cases hr : Ec.trainOk l
  · rfl
  · simp only [Ec.trainOk, Bool.and_eq_true, List.all_eq_true] at hr
    have := hr.2 (pd l k) (by unfold pd; rw [List.getD_eq_getElem?_getD, List.getElem?_eq_getElem hk]; exact List.getElem_mem hk)
    rw [h] at this
    exact absurd this (by simp)
theorem train_take {l : List Ec.Pair} {k : Nat} (hk : k < l.length) (h : (l.take k).all Ec.pairOk = true) (hb : Ec.pairOk (pd l k) = true) : (l.take (k + 1)).all Ec.pairOk = true := by
  rw [List.take_succ_eq_append_getElem hk, List.all_append, h]
  unfold pd at hb
  rw [List.getD_eq_getElem?_getD, List.getElem?_eq_getElem hk] at hb
  simpa using hb
theorem r1_Train_any (A : Option Addr) (c : Nat) (l : List Ec.Pair) (w : World) (hm : Pairs w A l) (hl : l.length ≤ 100000) :
    Calls Tryz.prog 57 #[.slice A l.length c] w fun e w' => e = .returned (.bool (Ec.trainOk l)) ∧ w = w' := by
  have HM := Lib.hid hm
  clear hm
  go_enter Tryz.func57, Tryz.ntmps57
  go_wp2_with fail
  go_loop [3] (fun i => ∃ k : Nat, k ≤ l.length ∧ i = .int .i64 k ∧ (l.take k).all Ec.pairOk = true) (fun i => l.length - (intOf i).toNat)
  case atStart => exact ⟨0, Nat.zero_le _, rfl, rfl⟩
  case round =>
    obtain ⟨k, hk, rfl, hq⟩ := hrel
    have HQ := Lib.hid hq
    clear hq
    by_cases hlt : k < l.length
    · obtain ⟨b, o, rfl, hc⟩ := HM.out (by omega)
      obtain ⟨c1, c2⟩ := hc k hlt
      have HNO := Lib.hid (fun h => train_no hlt h)
      have HYE := Lib.hid (fun h => train_take hlt HQ.out h)
      obtain ⟨m, hm⟩ : ∃ m, pd l k = m := ⟨_, rfl⟩
      rw [hm] at c1 c2 HNO HYE
      obtain ⟨x, y⟩ := m
      simp only at c1 c2
      clear hc hm
      cases hx : Ec.isTeeth x
      · have HN := Lib.hid (HNO.out (by simp [Ec.pairOk, hx]))
        clear HNO HYE
        go_wp2_with fail
        refine (r1_Teeth_any _ _).mono ?_
        rintro e w' ⟨rfl, rfl⟩
        rw [hx]
        go_wp2_with fail
        go_ret
        exact ⟨ret_bool (by rw [HN.out]), rfl⟩
      · cases hy : Ec.isTeeth y
        · have HN := Lib.hid (HNO.out (by simp [Ec.pairOk, hy]))
          clear HNO HYE
          go_wp2_with fail
          refine (r1_Teeth_any _ _).mono ?_
          rintro e w' ⟨rfl, rfl⟩
          rw [hx]
          go_wp2_with fail
          refine (r1_Teeth_any _ _).mono ?_
          rintro e w' ⟨rfl, rfl⟩
          rw [hy]
          go_wp2_with fail
          go_ret
          exact ⟨ret_bool (by rw [HN.out]), rfl⟩
        · have HS := Lib.hid (HYE.out (by simp [Ec.pairOk, hx, hy]))
          clear HNO HYE
          go_wp2_with fail
          refine (r1_Teeth_any _ _).mono ?_
          rintro e w' ⟨rfl, rfl⟩
          rw [hx]
          go_wp2_with fail
          refine (r1_Teeth_any _ _).mono ?_
          rintro e w' ⟨rfl, rfl⟩
          rw [hy]
          go_wp2_with fail
          go_round
          case rel => exact ⟨k + 1, by omega, by go_num, HS.out⟩
          case measure => simp [intOf]; omega
    · obtain rfl : k = l.length := by omega
      have HA : Hid (l.all Ec.pairOk = true) := Lib.hid (by have := HQ.out; rwa [List.take_length] at this)
      go_wp2_with fail
      refine (r1_in_any _ _ _ _).mono ?_
      rintro e w' ⟨rfl, rfl⟩
      go_wp2_with fail
      go_ret
      exact ⟨ret_bool (by simp [Ec.trainOk, HA.out]), rfl⟩
end Go.Proofs.YtcbodpnmndbgnaaGreatDoor
namespace Go.Proofs.YtcbodpnmndbgnaaGreatDoor
open Go.RowKit
open Sp (rd)
set_option maxRecDepth 100000
set_option maxHeartbeats 2000000
set_option linter.unusedVariables false
theorem r7_Engine_any (p : EP) (e : Ec.Engine) (w : World) (hm : EngAt w p e) (hl : EngShort e) :
    Calls Tryz.prog 16 #[.agg #[.slice p.Ab e.sky.bodies.length p.cb, .int .i64 e.sky.nnum, .int .i64 e.sky.nden, .int .i64 e.sky.nstart, .slice p.As e.sun.length p.cs, .slice p.Am e.moon.length p.cm, .slice p.An e.node.length p.cn, .slice p.Af e.feasts.length p.cf, .int .i64 e.nw, .int .i64 e.fl, .int .i64 e.wide]] w fun r w' => r = .returned (.bool (Ec.engineOk e)) ∧ Ext w w' := by
  have HM := Lib.hid hm
  have HL := Lib.hid hl
  clear hm hl
  have HR0 : Hid (Row (w.alloc (.cells #[.slice p.Ab e.sky.bodies.length p.cb, .int .i64 e.sky.nnum, .int .i64 e.sky.nden, .int .i64 e.sky.nstart, .slice p.As e.sun.length p.cs, .slice p.Am e.moon.length p.cm, .slice p.An e.node.length p.cn, .slice p.Af e.feasts.length p.cf, .int .i64 e.nw, .int .i64 e.fl, .int .i64 e.wide] 32)) w.heap.size 32 #[.slice p.Ab e.sky.bodies.length p.cb, .int .i64 e.sky.nnum, .int .i64 e.sky.nden, .int .i64 e.sky.nstart, .slice p.As e.sun.length p.cs, .slice p.Am e.moon.length p.cm, .slice p.An e.node.length p.cn, .slice p.Af e.feasts.length p.cf, .int .i64 e.nw, .int .i64 e.fl, .int .i64 e.wide]) := Lib.hid (Row.new w _ _)
  have HE0 : Hid (Ext w (w.alloc (.cells #[.slice p.Ab e.sky.bodies.length p.cb, .int .i64 e.sky.nnum, .int .i64 e.sky.nden, .int .i64 e.sky.nstart, .slice p.As e.sun.length p.cs, .slice p.Am e.moon.length p.cm, .slice p.An e.node.length p.cn, .slice p.Af e.feasts.length p.cf, .int .i64 e.nw, .int .i64 e.fl, .int .i64 e.wide] 32))) := Lib.hid ((Ext.refl w).alloc _)
  go_enter Tryz.func16, Tryz.ntmps16
  have b0 := HR0.out.cell
  go_wp2_with fail
  refine (r_Sky_any e.sky p.Ab p.cb _ (HM.out.ext HE0.out).bodies HL.out.sky).mono ?_
  rintro r w1 ⟨rfl, hE1⟩
  have HE1 := Lib.hid (HE0.out.trans hE1)
  have HR1 := Lib.hid (HR0.out.ext hE1)
  clear b0 hE1
  have b1 := HR1.out.cell
  cases hsky : Sp.skyOk e.sky with
  | false =>
    have HN : Hid (Ec.engineOk e = false) := Lib.hid (by simp [Ec.engineOk, hsky])
    go_wp2_with fail
    go_ret
    exact ⟨ret_bool (by rw [HN.out]), HE1.out⟩
  | true =>
    go_wp2_with fail
    refine (r1_Train_any p.As p.cs e.sun _ (HM.out.ext HE1.out).sun HL.out.sun).mono ?_
    rintro r w' ⟨rfl, rfl⟩
    cases hsun : Ec.trainOk e.sun with
    | false =>
      have HN : Hid (Ec.engineOk e = false) := Lib.hid (by simp [Ec.engineOk, hsun])
      go_wp2_with fail
      go_ret
      exact ⟨ret_bool (by rw [HN.out]), HE1.out⟩
    | true =>
      go_wp2_with fail
      refine (r1_Train_any p.Am p.cm e.moon _ (HM.out.ext HE1.out).moon HL.out.moon).mono ?_
      rintro r w' ⟨rfl, rfl⟩
      cases hmoon : Ec.trainOk e.moon with
      | false =>
        have HN : Hid (Ec.engineOk e = false) := Lib.hid (by simp [Ec.engineOk, hmoon])
        go_wp2_with fail
        go_ret
        exact ⟨ret_bool (by rw [HN.out]), HE1.out⟩
      | true =>
        go_wp2_with fail
        refine (r1_Train_any p.An p.cn e.node _ (HM.out.ext HE1.out).node HL.out.node).mono ?_
        rintro r w' ⟨rfl, rfl⟩
        cases hnode : Ec.trainOk e.node with
        | false =>
          have HN : Hid (Ec.engineOk e = false) := Lib.hid (by simp [Ec.engineOk, hnode])
          go_wp2_with fail
          go_ret
          exact ⟨ret_bool (by rw [HN.out]), HE1.out⟩
        | true =>
          go_wp2_with fail
          refine (r1_Feasts_any p.Af p.cf e.feasts _ (HM.out.ext HE1.out).feasts HL.out.feasts).mono ?_
          rintro r w2 ⟨rfl, hE2⟩
          have HE2 := Lib.hid (HE1.out.trans hE2)
          have HR2 := Lib.hid (HR1.out.ext hE2)
          clear b1 hE2
          have b2 := HR2.out.cell
          cases hfeasts : Ec.feastsOk e.feasts with
          | false =>
            have HN : Hid (Ec.engineOk e = false) := Lib.hid (by simp [Ec.engineOk, hfeasts])
            go_wp2_with fail
            go_ret
            exact ⟨ret_bool (by rw [HN.out]), HE2.out⟩
          | true =>
            go_wp2_with fail
            refine (r_Limit_any _ _).mono ?_
            rintro r w' ⟨rfl, rfl⟩
            cases hnw : Sp.isLimit e.nw with
            | false =>
              have HN : Hid (Ec.engineOk e = false) := Lib.hid (by simp [Ec.engineOk, hnw])
              go_wp2_with fail
              go_ret
              exact ⟨ret_bool (by rw [HN.out]), HE2.out⟩
            | true =>
              go_wp2_with fail
              refine (r_Limit_any _ _).mono ?_
              rintro r w' ⟨rfl, rfl⟩
              cases hfl : Sp.isLimit e.fl with
              | false =>
                have HN : Hid (Ec.engineOk e = false) := Lib.hid (by simp [Ec.engineOk, hfl])
                go_wp2_with fail
                go_ret
                exact ⟨ret_bool (by rw [HN.out]), HE2.out⟩
              | true =>
                go_wp2_with fail
                refine (r_Limit_any _ _).mono ?_
                rintro r w' ⟨rfl, rfl⟩
                cases hwide : Sp.isLimit e.wide with
                | false =>
                  have HN : Hid (Ec.engineOk e = false) := Lib.hid (by simp [Ec.engineOk, hwide])
                  go_wp2_with fail
                  go_ret
                  exact ⟨ret_bool (by rw [HN.out]), HE2.out⟩
                | true =>
                  go_wp2_with fail
                  have HK := Lib.hid (skyOk_iff.1 hsky)
                  cases hmo : Sp.isMonth e.sky with
                  | false =>
                    have HN : Hid (Ec.engineOk e = false) := Lib.hid (by simp [Ec.engineOk, hmo])
                    refine (r_Month_no e.sky p.Ab p.cb _ HK.out (HM.out.ext HE2.out).bodies hmo).mono ?_
                    rintro r w3 ⟨rfl, hE3⟩
                    have HE3 := Lib.hid (HE2.out.trans hE3)
                    go_wp2_with fail
                    go_ret
                    exact ⟨ret_bool (by rw [HN.out]), HE3.out⟩
                  | true =>
                    have HN : Hid (Ec.engineOk e = true) := Lib.hid (by simp [Ec.engineOk, hmo, hsky, hsun, hmoon, hnode, hfeasts, hnw, hfl, hwide])
                    refine (r_Month_ok e.sky p.Ab p.cb _ HK.out (HM.out.ext HE2.out).bodies hmo).mono ?_
                    rintro r w3 ⟨rfl, hE3⟩
                    have HE3 := Lib.hid (HE2.out.trans hE3)
                    go_wp2_with fail
                    go_ret
                    exact ⟨ret_bool (by rw [HN.out]), HE3.out⟩
theorem bd_mem {l : List Sp.Body} {k : Nat} (hk : k < l.length) : bd l k ∈ l := by
  unfold bd
  rw [List.getD_eq_getElem?_getD, List.getElem?_eq_getElem hk]
  exact List.getElem_mem hk
/-- Lists whose lengths are int's. -/
structure EngLong (e : Ec.Engine) : Prop where
  bodies : e.sky.bodies.length ≤ 9223372036854775807
  roads : ∀ k, k < e.sky.bodies.length → (bd e.sky.bodies k).road.length ≤ 9223372036854775807
  sun : e.sun.length ≤ 9223372036854775807
  moon : e.moon.length ≤ 9223372036854775807
  node : e.node.length ≤ 9223372036854775807
  feasts : e.feasts.length ≤ 9223372036854775807
def shortB (e : Ec.Engine) (set : List Int) : Bool := (e.sky.bodies.take 7).all (fun b => decide (b.road.length ≤ 10)) && (decide (e.sky.bodies.length ≤ 6) && (decide (e.sun.length ≤ 6) && (decide (e.moon.length ≤ 6) && (decide (e.node.length ≤ 6) && (decide (e.feasts.length ≤ 10) && decide (set.length ≤ 10))))))
structure Shorts (e : Ec.Engine) (set : List Int) : Prop where
  eng : EngShort e
  feasts : e.feasts.length ≤ 10
  set : set.length ≤ 10
theorem shorts_of {e : Ec.Engine} {set : List Int} (h : shortB e set = true) : Shorts e set := by
  simp only [shortB, Bool.and_eq_true, decide_eq_true_eq] at h
  obtain ⟨h1, h2, h3, h4, h5, h6, h7⟩ := h
  rw [List.take_of_length_le (by omega)] at h1
  refine ⟨⟨⟨by omega, fun k hk => ?_⟩, by omega, by omega, by omega, by omega⟩, h6, h7⟩
  have := List.all_eq_true.1 h1 (bd e.sky.bodies k) (bd_mem hk)
  have := of_decide_eq_true this
  omega
theorem getD_bd {l : List Sp.Body} {k : Nat} (hk : k < l.length) : l[k] = bd l k := by
  unfold bd
  rw [List.getD_eq_getElem?_getD, List.getElem?_eq_getElem hk]
  rfl
theorem l7_short_any (p : EP) (e : Ec.Engine) (set : List Int) (w : World) (hm : EngAt w p e) (hl : EngLong e) (hs : set.length ≤ 9223372036854775807) :
    Calls Tryz.prog 15 #[.agg #[.slice p.Ab e.sky.bodies.length p.cb, .int .i64 e.sky.nnum, .int .i64 e.sky.nden, .int .i64 e.sky.nstart, .slice p.As e.sun.length p.cs, .slice p.Am e.moon.length p.cm, .slice p.An e.node.length p.cn, .slice p.Af e.feasts.length p.cf, .int .i64 e.nw, .int .i64 e.fl, .int .i64 e.wide], .slice p.At set.length p.ct] w fun r w' => r = .returned (.bool (shortB e set)) ∧ Ext w w' := by
  have HL := Lib.hid hl
  have HM := Lib.hid hm
  have hl1 := hl.bodies
  have hl2 := hl.sun
  have hl3 := hl.moon
  have hl4 := hl.node
  have hl5 := hl.feasts
  have hr0 : Row (w.alloc (.cells #[.slice p.Ab e.sky.bodies.length p.cb, .int .i64 e.sky.nnum, .int .i64 e.sky.nden, .int .i64 e.sky.nstart, .slice p.As e.sun.length p.cs, .slice p.Am e.moon.length p.cm, .slice p.An e.node.length p.cn, .slice p.Af e.feasts.length p.cf, .int .i64 e.nw, .int .i64 e.fl, .int .i64 e.wide] 32)) w.heap.size 32 #[.slice p.Ab e.sky.bodies.length p.cb, .int .i64 e.sky.nnum, .int .i64 e.sky.nden, .int .i64 e.sky.nstart, .slice p.As e.sun.length p.cs, .slice p.Am e.moon.length p.cm, .slice p.An e.node.length p.cn, .slice p.Af e.feasts.length p.cf, .int .i64 e.nw, .int .i64 e.fl, .int .i64 e.wide] := Row.new w _ _
  have hE0 : Ext w (w.alloc (.cells #[.slice p.Ab e.sky.bodies.length p.cb, .int .i64 e.sky.nnum, .int .i64 e.sky.nden, .int .i64 e.sky.nstart, .slice p.As e.sun.length p.cs, .slice p.Am e.moon.length p.cm, .slice p.An e.node.length p.cn, .slice p.Af e.feasts.length p.cf, .int .i64 e.nw, .int .i64 e.fl, .int .i64 e.wide] 32)) := (Ext.refl w).alloc _
  have HR0 := Lib.hid hr0
  have HE0 := Lib.hid hE0
  clear hm hl hr0 hE0
  go_enter Tryz.func15, Tryz.ntmps15
  go_wp2_with fail
  generalize w.alloc (.cells #[.slice p.Ab e.sky.bodies.length p.cb, .int .i64 e.sky.nnum, .int .i64 e.sky.nden, .int .i64 e.sky.nstart, .slice p.As e.sun.length p.cs, .slice p.Am e.moon.length p.cm, .slice p.An e.node.length p.cn, .slice p.Af e.feasts.length p.cf, .int .i64 e.nw, .int .i64 e.fl, .int .i64 e.wide] 32) = w1 at *
  go_loopw [5] (fun i wr => ∃ k : Nat, k ≤ e.sky.bodies.length ∧ k ≤ 7 ∧ i = .int .i64 k ∧ (e.sky.bodies.take k).all (fun b => decide (b.road.length ≤ 10)) = true ∧ Ext w1 wr) (fun i _ => 7 - (intOf i).toNat)
  case atStart => exact ⟨0, Nat.zero_le _, by omega, rfl, rfl, Ext.refl _⟩
  case round =>
    obtain ⟨k, hk, hk7, rfl, hall, hE⟩ := hrel
    have b0 := (HR0.out.ext hE).cell
    have HE := Lib.hid hE
    by_cases hlt : k < e.sky.bodies.length
    · by_cases hlt7 : k < 7
      · obtain ⟨b, o, hAb, hB⟩ := HM.out.bodies (by omega)
        rw [hAb] at b0 ⊢
        have HB := (hB k hlt).ext (HE0.out.trans hE)
        have hrl := HL.out.roads k hlt
        have hbo : (0 : Int) ≤ (k : Int) ∧ (k : Int) < (e.sky.bodies.length : Int) := by omega
        by_cases hlen : (bd e.sky.bodies k).road.length ≤ 10
        · have HN : Hid ((e.sky.bodies.take (k + 1)).all (fun b => decide (b.road.length ≤ 10)) = true) := Lib.hid (by
            rw [List.take_succ_eq_append_getElem hlt, List.all_append, hall, getD_bd hlt]; simp [hlen])
          clear hall hE hB hAb
          generalize bd e.sky.bodies k = B at *
          obtain ⟨A1, r1, hr1, I1⟩ := HB.road
          clear HB I1
          go_wp2_with fail
          go_roundw
          case rel => exact ⟨k + 1, by omega, by omega, by go_num, HN.out, HE.out⟩
          case measure => simp [intOf]; omega
        · have HN : Hid (shortB e set = false) := Lib.hid (by
            have h1 : (e.sky.bodies.take 7).all (fun b => decide (b.road.length ≤ 10)) = false := by
              rw [List.all_eq_false]
              refine ⟨bd e.sky.bodies k, ?_, by simpa using hlen⟩
              rw [← getD_bd hlt]
              exact List.mem_take_iff_getElem.2 ⟨k, by omega, rfl⟩
            simp [shortB, h1])
          clear hall hE hB hAb
          generalize bd e.sky.bodies k = B at *
          obtain ⟨A1, r1, hr1, I1⟩ := HB.road
          clear HB I1
          go_wp2_with fail
          go_ret
          exact ⟨ret_bool HN.out.symm, HE0.out.trans HE.out⟩
      · have HN : Hid (shortB e set = false) := Lib.hid (by
          have : ¬ e.sky.bodies.length ≤ 6 := by omega
          simp [shortB, this])
        have hn6 : ¬ ((e.sky.bodies.length : Int) ≤ 6) := by omega
        clear hall hE
        go_wp2_with fail
        go_ret
        exact ⟨ret_bool HN.out.symm, HE0.out.trans HE.out⟩
    · obtain rfl : k = e.sky.bodies.length := by omega
      rw [List.take_length] at hall
      have HA := Lib.hid (show (e.sky.bodies.take 7).all (fun b => decide (b.road.length ≤ 10)) = true by rw [List.take_of_length_le hk7]; exact hall)
      clear hall hE
      by_cases g0 : e.sky.bodies.length ≤ 6
      case neg =>
        have HN : Hid (shortB e set = false) := Lib.hid (by simp [shortB, g0])
        have g0' : ¬ ((e.sky.bodies.length : Nat) : Int) ≤ 6 := by omega
        go_wp2_with fail
        go_ret
        exact ⟨ret_bool HN.out.symm, HE0.out.trans HE.out⟩
      have g0' : ((e.sky.bodies.length : Nat) : Int) ≤ 6 := by omega
      by_cases g1 : e.sun.length ≤ 6
      case neg =>
        have HN : Hid (shortB e set = false) := Lib.hid (by simp [shortB, g1])
        have g1' : ¬ ((e.sun.length : Nat) : Int) ≤ 6 := by omega
        go_wp2_with fail
        go_ret
        exact ⟨ret_bool HN.out.symm, HE0.out.trans HE.out⟩
      have g1' : ((e.sun.length : Nat) : Int) ≤ 6 := by omega
      by_cases g2 : e.moon.length ≤ 6
      case neg =>
        have HN : Hid (shortB e set = false) := Lib.hid (by simp [shortB, g2])
        have g2' : ¬ ((e.moon.length : Nat) : Int) ≤ 6 := by omega
        go_wp2_with fail
        go_ret
        exact ⟨ret_bool HN.out.symm, HE0.out.trans HE.out⟩
      have g2' : ((e.moon.length : Nat) : Int) ≤ 6 := by omega
      by_cases g3 : e.node.length ≤ 6
      case neg =>
        have HN : Hid (shortB e set = false) := Lib.hid (by simp [shortB, g3])
        have g3' : ¬ ((e.node.length : Nat) : Int) ≤ 6 := by omega
        go_wp2_with fail
        go_ret
        exact ⟨ret_bool HN.out.symm, HE0.out.trans HE.out⟩
      have g3' : ((e.node.length : Nat) : Int) ≤ 6 := by omega
      by_cases g4 : e.feasts.length ≤ 10
      case neg =>
        have HN : Hid (shortB e set = false) := Lib.hid (by simp [shortB, g4])
        have g4' : ¬ ((e.feasts.length : Nat) : Int) ≤ 10 := by omega
        go_wp2_with fail
        go_ret
        exact ⟨ret_bool HN.out.symm, HE0.out.trans HE.out⟩
      have g4' : ((e.feasts.length : Nat) : Int) ≤ 10 := by omega
      by_cases g5 : set.length ≤ 10
      case neg =>
        have HN : Hid (shortB e set = false) := Lib.hid (by simp [shortB, g5])
        have g5' : ¬ ((set.length : Nat) : Int) ≤ 10 := by omega
        go_wp2_with fail
        go_ret
        exact ⟨ret_bool HN.out.symm, HE0.out.trans HE.out⟩
      have g5' : ((set.length : Nat) : Int) ≤ 10 := by omega
      have HN : Hid (shortB e set = true) := Lib.hid (by simp [shortB, HA.out, g0, g1, g2, g3, g4, g5])
      clear g0 g1 g2 g3 g4 g5
      go_wp2_with fail
      go_ret
      exact ⟨ret_bool HN.out.symm, HE0.out.trans HE.out⟩
end Go.Proofs.YtcbodpnmndbgnaaGreatDoor
namespace Go.Proofs.YtcbodpnmndbgnaaGreatDoor
/-- Lists whose lengths are int's. -/
def Long (l : List Sp.Body) : Prop := l.length ≤ 9223372036854775807 ∧ ∀ k, k < l.length → (bd l k).road.length ≤ 9223372036854775807
end Go.Proofs.YtcbodpnmndbgnaaGreatDoor
namespace Go.Proofs.YtcbodpnmndbgnaaGreatDoor
open Go.ChangeShapes Go.WideShapes Go.ChangeAt Go.RowKit
open Sp (rd)
set_option maxRecDepth 100000
set_option linter.constructorNameAsVariable false
section
variable {H : Type} {enc : TypeId × Value → H} {W : World} {spare : Nat → Bool} {held : Bool} {fuel : Nat} {cs : List Value} {x : DataW H × List MemPlace}
theorem open_road (h : DataW.trod enc Tryz.prog W 0 spare held fuel 30 cs = some x) : ∃ A l c, cs = [.slice A l.length c] ∧ Ints W A l ∧ l.length ≤ maxLen := by
  rcases open_ints Tryz.underlying30 Tryz.underlying3 (by kernel_rfl) h with ⟨rfl, _⟩ | ⟨a, len, cap, zs, rfl, _, hlc, hcm, hzl, _, hc, _⟩
  · exact ⟨none, [], 0, rfl, fun h0 => by simp at h0, Nat.zero_le _⟩
  · have hle : len ≤ zs.length := by rw [hzl]; split <;> omega
    have hlen : (zs.take len).length = len := by rw [List.length_take]; omega
    refine ⟨some a, zs.take len, cap, by rw [hlen], fun h0 => ?_, by omega⟩
    rw [hlen] at h0
    obtain ⟨b, off, rfl, hc2⟩ := ints_at hc (by omega)
    refine ⟨b, off, rfl, fun k hk => ?_⟩
    rw [hlen] at hk
    rw [hc2 k (by omega)]
    unfold Sp.rd
    rw [List.getD_eq_getElem?_getD, List.getD_eq_getElem?_getD, List.getElem?_take_of_lt hk]
theorem list_two {α : Type} {l : List α} (h : l.length = 2) : ∃ a b, l = [a, b] := by
  cases l with
  | nil => simp at h
  | cons a l =>
    cases l with
    | nil => simp at h
    | cons b l =>
      have : l = [] := List.eq_nil_of_length_eq_zero (by simpa using h)
      exact ⟨a, b, by rw [this]⟩
theorem list_four {α : Type} {l : List α} (h : l.length = 4) : ∃ a b c d, l = [a, b, c, d] := by
  cases l with
  | nil => simp at h
  | cons a l =>
    cases l with
    | nil => simp at h
    | cons b l =>
      obtain ⟨c, d, rfl⟩ := list_two (l := l) (by simpa using h)
      exact ⟨a, b, c, d, rfl⟩
theorem get_some {α : Type} {l : List α} {i : Nat} {y : Option α} (h : y = l[i]?) (hi : i < l.length) : ∃ z, y = some z := ⟨l[i], by rw [h, List.getElem?_eq_getElem hi]⟩
theorem c3 : Tryz.prog.cellsOf 3 = 1 := by kernel_rfl
theorem c64 : Tryz.prog.cellsOf 30 = 1 := by kernel_rfl
theorem c24 : Tryz.prog.cellsOf 24 = 2 := by kernel_rfl
theorem c26 : Tryz.prog.cellsOf 26 = 3 := by kernel_rfl
theorem c80 : Tryz.prog.cellsOf 46 = 4 := by kernel_rfl
theorem c22 : Tryz.prog.cellsOf 22 = 1 := by kernel_rfl
theorem c28 : Tryz.prog.cellsOf 28 = 4 := by kernel_rfl
theorem open_period (h : DataW.trod enc Tryz.prog W 0 spare held fuel 24 cs = some x) : ∃ n d : Int, cs = [.int .i64 n, .int .i64 d] := by
  obtain ⟨xs, m, rfl, rfl, hcs, hxs, each⟩ := DataW.trod_struct Tryz.underlying24 h
  obtain ⟨a, b, rfl⟩ := list_two (hcs.trans c24)
  have hx2 : xs.length = 2 := hxs
  obtain ⟨y, hy⟩ := get_some (each 0 _ rfl) (by omega)
  obtain ⟨z, hz⟩ := get_some (each 1 _ rfl) (by omega)
  simp [c3] at hy hz
  obtain ⟨n, hn, _, _⟩ := DataW.trod_int Tryz.underlying3 hy
  obtain ⟨d, hd, _, _⟩ := DataW.trod_int Tryz.underlying3 hz
  simp at hn hd
  exact ⟨n, d, by rw [hn, hd]⟩
theorem open_body (h : DataW.trod enc Tryz.prog W 0 spare held fuel 46 cs = some x) : ∃ (B : Sp.Body) (A : Option Addr) (c : Nat), cs = [.int .i64 B.num, .int .i64 B.den, .int .i64 B.start, .slice A B.road.length c] ∧ Ints W A B.road ∧ B.road.length ≤ maxLen := by
  obtain ⟨xs, m, rfl, rfl, hcs, hxs, each⟩ := DataW.trod_struct Tryz.underlying46 h
  obtain ⟨a, b, c, d, rfl⟩ := list_four (hcs.trans c80)
  have hx2 : xs.length = 3 := hxs
  obtain ⟨y, hy⟩ := get_some (each 0 _ rfl) (by omega)
  obtain ⟨z, hz⟩ := get_some (each 1 _ rfl) (by omega)
  obtain ⟨u, hu⟩ := get_some (each 2 _ rfl) (by omega)
  simp [c3, c24, c64] at hy hz hu
  obtain ⟨n, k, hn⟩ := open_period hy
  obtain ⟨s, hs, _, _⟩ := DataW.trod_int Tryz.underlying3 hz
  obtain ⟨A, l, cc, hr, hI, hm⟩ := open_road hu
  simp at hn hs hr
  exact ⟨⟨n, k, s, l⟩, A, cc, by rw [hn.1, hn.2, hs, hr], hI, hm⟩
theorem open_bodies (h : DataW.trod enc Tryz.prog W 0 spare held fuel 22 cs = some x) : ∃ A l c, cs = [.slice A l.length c] ∧ Bodies W A l ∧ Long l := by
  rcases DataW.trod_slice Tryz.underlying22 h with ⟨rfl, _⟩ | ⟨a, len, cap, elems, rest, n, rfl, rfl, rfl, _, hlc, hcm, hel, each, _, _⟩
  · exact ⟨none, [], 0, rfl, fun h0 => by simp at h0, ⟨by simp, fun k hk => by simp at hk⟩⟩
  · have one : ∀ i, i < len → ∃ B : Sp.Body, ∃ (A : Option Addr) (c : Nat), W.cells? 0 (a.add (i * 4)) 4 = some [.int .i64 B.num, .int .i64 B.den, .int .i64 B.start, .slice A B.road.length c] ∧ Ints W A B.road ∧ B.road.length ≤ maxLen := by
      intro i hi
      have e := each i hi
      rw [c80] at e
      obtain ⟨y, hy⟩ := get_some e (by omega)
      rw [Option.bind_eq_some_iff] at hy
      obtain ⟨cs', h1, h2⟩ := hy
      obtain ⟨B, A, c, rfl, hI, hm⟩ := open_body h2
      exact ⟨B, A, c, h1, hI, hm⟩
    haveI : Inhabited Sp.Body := ⟨Sp.noBody⟩
    obtain ⟨f, hf⟩ := Go.Deep.choose_lt one
    have hll : ((List.range len).map f).length = len := by simp
    have hbd : ∀ k, k < len → bd ((List.range len).map f) k = f k := fun k hk => by
      unfold bd
      rw [List.getD_eq_getElem?_getD, List.getElem?_map, List.getElem?_range hk]
      rfl
    have hmx : (maxLen : Nat) ≤ 9223372036854775807 := by decide
    refine ⟨some a, (List.range len).map f, cap, by rw [hll], fun h0 => ?_, ⟨by omega, fun k hk => ?_⟩⟩
    · rw [hll] at h0
      obtain ⟨A0, c0, hc0, _, _⟩ := hf 0 h0
      have hsp := (World.cells?_some hc0).2.2 0 (by omega)
      obtain ⟨b, off, spot⟩ := a
      have hspot : spot = none := by
        have : W.cell? ⟨b, off, spot⟩ = some (.int .i64 (f 0).num) := by simpa [Addr.add] using hsp
        simpa using World.cell?_spot this
      subst hspot
      refine ⟨b, off, rfl, fun k hk => ?_⟩
      rw [hll] at hk
      rw [hbd k hk]
      obtain ⟨A1, c1, hc1, hI, _⟩ := hf k hk
      have g := (World.cells?_some hc1).2.2
      have g0 := g 0 (by omega)
      have g1 := g 1 (by omega)
      have g2 := g 2 (by omega)
      have g3 := g 3 (by omega)
      simp only [add_plain, Nat.add_zero] at g0 g1 g2 g3
      exact ⟨g0, g1, g2, _, _, g3, hI⟩
    · rw [hll] at hk
      rw [hbd k hk]
      obtain ⟨A1, c1, _, _, hm⟩ := hf k hk
      omega
theorem open_sky_cells (h : DataW.trod enc Tryz.prog W 0 spare held fuel 28 cs = some x) :
    ∃ (s : Sp.Sky) (A : Option Addr) (c : Nat), cs = [.slice A s.bodies.length c, .int .i64 s.nnum, .int .i64 s.nden, .int .i64 s.nstart] ∧ Bodies W A s.bodies ∧ Long s.bodies := by
  obtain ⟨xs, m, rfl, rfl, hcs, hxs, each⟩ := DataW.trod_struct Tryz.underlying28 h
  obtain ⟨a, b, c, d, rfl⟩ := list_four (hcs.trans c28)
  have hx2 : xs.length = 2 := hxs
  obtain ⟨y, hy⟩ := get_some (each 0 _ rfl) (by omega)
  obtain ⟨z, hz⟩ := get_some (each 1 _ rfl) (by omega)
  simp [c22, c26] at hy hz
  obtain ⟨A, l, cc, hr, hB, hL⟩ := open_bodies hy
  obtain ⟨ys, m2, rfl, _, hcs2, hxs2, each2⟩ := DataW.trod_struct Tryz.underlying26 hz
  have hx3 : ys.length = 2 := hxs2
  obtain ⟨p, hp⟩ := get_some (each2 0 _ rfl) (by omega)
  obtain ⟨q, hq⟩ := get_some (each2 1 _ rfl) (by omega)
  simp [c24, c3] at hp hq
  obtain ⟨n, k, hn⟩ := open_period hp
  obtain ⟨st, hs, _, _⟩ := DataW.trod_int Tryz.underlying3 hq
  simp at hr hn hs
  exact ⟨⟨l, n, k, st⟩, A, cc, by rw [hr, hn.1, hn.2, hs], hB, hL⟩
theorem list_more {α : Type} {l : List α} {n : Nat} (h : l.length = n + 1) : ∃ a t, l = a :: t ∧ t.length = n := by
  cases l with
  | nil => simp at h
  | cons a t => exact ⟨a, t, rfl, by simpa using h⟩
theorem cPair : Tryz.prog.cellsOf 140 = 2 := by kernel_rfl
theorem cPairs : Tryz.prog.cellsOf 29 = 1 := by kernel_rfl
theorem cEng : Tryz.prog.cellsOf 32 = 11 := by kernel_rfl
theorem open_pair (h : DataW.trod enc Tryz.prog W 0 spare held fuel 140 cs = some x) : ∃ q : Ec.Pair, cs = [.int .i64 q.drives, .int .i64 q.driven] := by
  obtain ⟨xs, m, rfl, rfl, hcs, hxs, each⟩ := DataW.trod_struct Tryz.underlying140 h
  obtain ⟨a, b, rfl⟩ := list_two (hcs.trans cPair)
  have hx2 : xs.length = 2 := hxs
  obtain ⟨y, hy⟩ := get_some (each 0 _ rfl) (by omega)
  obtain ⟨z, hz⟩ := get_some (each 1 _ rfl) (by omega)
  simp [c3] at hy hz
  obtain ⟨n, hn, _, _⟩ := DataW.trod_int Tryz.underlying3 hy
  obtain ⟨d, hd, _, _⟩ := DataW.trod_int Tryz.underlying3 hz
  simp at hn hd
  exact ⟨⟨n, d⟩, by rw [hn, hd]⟩
theorem open_pairs (h : DataW.trod enc Tryz.prog W 0 spare held fuel 29 cs = some x) : ∃ A l c, cs = [.slice A l.length c] ∧ Pairs W A l ∧ l.length ≤ maxLen := by
  rcases DataW.trod_slice Tryz.underlying29 h with ⟨rfl, _⟩ | ⟨a, len, cap, elems, rest, n, rfl, rfl, rfl, _, hlc, hcm, hel, each, _, _⟩
  · exact ⟨none, [], 0, rfl, fun h0 => by simp at h0, Nat.zero_le _⟩
  · have one : ∀ i, i < len → ∃ B : Ec.Pair, W.cells? 0 (a.add (i * 2)) 2 = some [.int .i64 B.drives, .int .i64 B.driven] := by
      intro i hi
      have e := each i hi
      rw [cPair] at e
      obtain ⟨y, hy⟩ := get_some e (by omega)
      rw [Option.bind_eq_some_iff] at hy
      obtain ⟨cs', h1, h2⟩ := hy
      obtain ⟨B, rfl⟩ := open_pair h2
      exact ⟨B, h1⟩
    haveI : Inhabited Ec.Pair := ⟨Ec.noPair⟩
    obtain ⟨f, hf⟩ := Go.Deep.choose_lt one
    have hll : ((List.range len).map f).length = len := by simp
    have hbd : ∀ k, k < len → pd ((List.range len).map f) k = f k := fun k hk => by
      unfold pd
      rw [List.getD_eq_getElem?_getD, List.getElem?_map, List.getElem?_range hk]
      rfl
    refine ⟨some a, (List.range len).map f, cap, by rw [hll], fun h0 => ?_, by omega⟩
    rw [hll] at h0
    have hc0 := hf 0 h0
    have hsp := (World.cells?_some hc0).2.2 0 (by omega)
    obtain ⟨b, off, spot⟩ := a
    have hspot : spot = none := by
      have : W.cell? ⟨b, off, spot⟩ = some (.int .i64 (f 0).drives) := by simpa [Addr.add] using hsp
      simpa using World.cell?_spot this
    subst hspot
    refine ⟨b, off, rfl, fun k hk => ?_⟩
    rw [hll] at hk
    rw [hbd k hk]
    have g := (World.cells?_some (hf k hk)).2.2
    have g0 := g 0 (by omega)
    have g1 := g 1 (by omega)
    simp only [add_plain, Nat.add_zero] at g0 g1
    exact ⟨g0, g1⟩
theorem open_engine {v : Value} {d : DataW H} {ps : List MemPlace} {r : Reach} {base : Nat} (hval : Value.okWide Tryz.prog W r base 32 v) (h : DataW.Trod enc Tryz.prog W 0 spare held 32 v d ps) :
    ∃ (p : EP) (e : Ec.Engine), v = .agg #[.slice p.Ab e.sky.bodies.length p.cb, .int .i64 e.sky.nnum, .int .i64 e.sky.nden, .int .i64 e.sky.nstart, .slice p.As e.sun.length p.cs, .slice p.Am e.moon.length p.cm, .slice p.An e.node.length p.cn, .slice p.Af e.feasts.length p.cf, .int .i64 e.nw, .int .i64 e.fl, .int .i64 e.wide] ∧ EngAt W p e ∧ EngLong e := by
  obtain ⟨cells, rfl, hsz⟩ := okWide_struct Tryz.underlying32 hval
  obtain ⟨fuel, hd⟩ := h
  obtain ⟨xs, m, rfl, _, hcs, hxs, each⟩ := DataW.trod_struct Tryz.underlying32 hd
  have hlen : (Value.agg cells).cells.toList.length = 11 := hcs.trans cEng
  obtain ⟨a0, t0, h0, n0⟩ := list_more hlen
  obtain ⟨a1, t1, rfl, n1⟩ := list_more n0
  obtain ⟨a2, t2, rfl, n2⟩ := list_more n1
  obtain ⟨a3, t3, rfl, n3⟩ := list_more n2
  obtain ⟨a4, t4, rfl, n4⟩ := list_more n3
  obtain ⟨a5, t5, rfl, n5⟩ := list_more n4
  obtain ⟨a6, t6, rfl, n6⟩ := list_more n5
  obtain ⟨a7, t7, rfl, n7⟩ := list_more n6
  obtain ⟨a8, t8, rfl, n8⟩ := list_more n7
  obtain ⟨a9, t9, rfl, n9⟩ := list_more n8
  obtain ⟨a10, t10, rfl, n10⟩ := list_more n9
  obtain rfl : t10 = [] := List.eq_nil_of_length_eq_zero n10
  rw [h0] at each
  have hx2 : xs.length = 8 := hxs
  obtain ⟨y0, hy0⟩ := get_some (each 0 _ rfl) (by omega)
  obtain ⟨y1, hy1⟩ := get_some (each 1 _ rfl) (by omega)
  obtain ⟨y2, hy2⟩ := get_some (each 2 _ rfl) (by omega)
  obtain ⟨y3, hy3⟩ := get_some (each 3 _ rfl) (by omega)
  obtain ⟨y4, hy4⟩ := get_some (each 4 _ rfl) (by omega)
  obtain ⟨y5, hy5⟩ := get_some (each 5 _ rfl) (by omega)
  obtain ⟨y6, hy6⟩ := get_some (each 6 _ rfl) (by omega)
  obtain ⟨y7, hy7⟩ := get_some (each 7 _ rfl) (by omega)
  simp [c28, cPairs, c64, c3] at hy0 hy1 hy2 hy3 hy4 hy5 hy6 hy7
  obtain ⟨s, Ab, cb, hr0, hB, hL⟩ := open_sky_cells hy0
  obtain ⟨As, sun, ds, hr1, hP1, hl1⟩ := open_pairs hy1
  obtain ⟨Am, moon, dm, hr2, hP2, hl2⟩ := open_pairs hy2
  obtain ⟨An, node, dn, hr3, hP3, hl3⟩ := open_pairs hy3
  obtain ⟨Af, feasts, df, hr4, hI, hl4⟩ := open_road hy4
  obtain ⟨nw, hr5, _, _⟩ := DataW.trod_int Tryz.underlying3 hy5
  obtain ⟨fl, hr6, _, _⟩ := DataW.trod_int Tryz.underlying3 hy6
  obtain ⟨wd, hr7, _, _⟩ := DataW.trod_int Tryz.underlying3 hy7
  simp at hr0 hr1 hr2 hr3 hr4 hr5 hr6 hr7
  have hmx : (maxLen : Nat) ≤ 9223372036854775807 := by decide
  refine ⟨⟨Ab, cb, As, ds, Am, dm, An, dn, Af, df, none, 0⟩, ⟨s, sun, moon, node, feasts, nw, fl, wd⟩, ?_, ⟨hB, hP1, hP2, hP3, hI⟩, ⟨hL.1, hL.2, by simp only; omega, by simp only; omega, by simp only; omega, by simp only; omega⟩⟩
  have : cells = #[a0, a1, a2, a3, a4, a5, a6, a7, a8, a9, a10] := by rw [← Array.toList_inj]; exact (show cells.toList = _ from h0)
  rw [this, hr0.1, hr0.2.1, hr0.2.2.1, hr0.2.2.2, hr1, hr2, hr3, hr4, hr5, hr6, hr7]
theorem open_set {v : Value} {d : DataW H} {ps : List MemPlace} {r : Reach} {base : Nat} (hval : Value.okWide Tryz.prog W r base 30 v) (h : DataW.Trod enc Tryz.prog W 0 spare held 30 v d ps) :
    ∃ (l : List Int) (A : Option Addr) (c : Nat), v = .slice A l.length c ∧ Ints W A l ∧ l.length ≤ maxLen := by
  obtain ⟨a, len, cap, rfl⟩ := okWide_slice Tryz.underlying30 hval
  obtain ⟨fuel, hd⟩ := h
  obtain ⟨A, l, c, hc, hN, hl⟩ := open_road hd
  simp [Value.cells] at hc
  exact ⟨l, A, c, by rw [hc.1, hc.2.1, hc.2.2], hN, hl⟩
end
end Go.Proofs.YtcbodpnmndbgnaaGreatDoor
namespace Go.Proofs.YtcbodpnmndbgnaaGreatDoor
open Go.ChangeShapes Go.WideShapes Go.ChangeAt Go.RowKit
abbrev laidL : List (String × DataW Unit) := [("math/bits.deBruijn32tab", Rows.laid_math_bits_deBruijn32tab), ("math/bits.deBruijn64tab", Rows.laid_math_bits_deBruijn64tab), ("internal/strconv.uint64pow10", Rows.laid_internal_strconv_uint64pow10), ("unicode/utf8.acceptRanges", Rows.laid_unicode_utf8_acceptRanges), ("unicode/utf8.first", Rows.laid_unicode_utf8_first)]
theorem own : ownKnob Tryz.prog.godebug = none := by kernel_rfl
theorem laidOut : laidOutB Tryz.prog = true := by kernel_rfl
theorem gTab : Tryz.prog.globalNamed "internal/strconv.uint64pow10" = some 3 := by kernel_rfl
theorem gTabType : (Tryz.prog.globals[3]?).map (·.type) = some 254 := by kernel_rfl
theorem tabEq : (Rows.laid_internal_strconv_uint64pow10 : DataW Unit) = Lib.tabData .u64 Lib.pow10Tab := by kernel_rfl
theorem env_of {W : World} (h : laidMetH Tryz.prog laidL W) (hs : W.ShapedOpen Tryz.prog) : Env W := by
  have h' : laidMet Tryz.prog laidL W := h
  have h2 := h'.tail.tail
  rw [tabEq] at h2
  exact ⟨Lib.tabIs_of_head gTab gTabType Tryz.underlying254 Tryz.underlying238 (by kernel_rfl) (by kernel_rfl) h2, cell_of_shapedOpen_int (zero := #[.int .i64 0]) (t := 3) hs (of_decide_eq_true (by kernel_rfl)) (by kernel_rfl) rfl (by kernel_rfl) (by kernel_rfl) Tryz.underlying3⟩
/-- A table's cells. -/
def flatN : Nat → DataW Unit → List Value
  | 0, _ => []
  | n + 1, .agg l => l.flatMap (flatN n)
  | _ + 1, .lit (.int k z) => [.int k z]
  | _, _ => []
def layTab (d : DataW Unit) : Obj → Obj
  | .cells _ t fr => .cells (flatN 4 d).toArray t fr
  | o => o
/-- A world for the witness: the settled one, with the library's tables laid. -/
noncomputable def laidWorld (os : Os) : World :=
  { World.holding Tryz.prog os ⟨#[], #[], []⟩ with heap := (((((World.holding Tryz.prog os ⟨#[], #[], []⟩).heap.modify 4 (layTab Rows.laid_math_bits_deBruijn32tab)).modify 5 (layTab Rows.laid_math_bits_deBruijn64tab)).modify 3 (layTab Rows.laid_internal_strconv_uint64pow10)).modify 2 (layTab Rows.laid_unicode_utf8_acceptRanges)).modify 1 (layTab Rows.laid_unicode_utf8_first) }
theorem trodAll_below {H : Type} {enc : TypeId × Value → H} {W W' : World} (hb : Below W.heap.size W W') : ∀ {ts : List TypeId} {vs : List Value} {ds : List (DataW H)} {ps : List MemPlace},
    (∀ t ∈ ts, Tryz.prog.readableRec t = true ∧ t < Tryz.prog.types.size) → DataW.TrodAll enc Tryz.prog W 0 (fun _ => true) true ts vs ds ps → (∀ x ∈ ps, x.block < W.heap.size) →
    DataW.TrodAll enc Tryz.prog W' 0 (fun b => decide (b < W.heap.size)) true ts vs ds ps
  | [], vs, ds, ps, _, h, _ => by
    obtain ⟨rfl, rfl, rfl⟩ := trodAll_nil h
    exact trodAll_mk0
  | t :: ts, vs, ds, ps, hk, h, hlt => by
    obtain ⟨v, vs1, d, ds1, a, b, rfl, rfl, rfl, h1, h2⟩ := trodAll_cons h
    have k := hk t (by simp)
    exact trodAll_cons_mk (Below.trod laidOut k.1 k.2 h1 hb (fun x hx => hlt x (by simp [hx]))) (trodAll_below hb (fun t ht => hk t (by simp [ht])) h2 (fun x hx => hlt x (by simp [hx])))
/-- From the walk to the row's end: the law returns true, and of what was there nothing has turned. -/
theorem post_true {H : Type} {enc : TypeId × Value → H} {f : Func} {s : ChangeSpec} {W W' : World} {args : Array Value} {ds gs : List (DataW H)} {before : List MemPlace}
    (hW : DataW.Whole enc Tryz.prog f.params.toList s.vars false W args.toList ds gs before) (hv : s.vars = []) (hr : f.resultTypes = #[4]) (hE : Ext W W')
    (hk : ∀ t ∈ f.params.toList, Tryz.prog.readableRec t = true ∧ t < Tryz.prog.types.size) (h1 : (s.fn H (ds ++ gs)).results = [.lit (.bool true)]) (h2 : (s.fn H (ds ++ gs)).args = ds) (h3 : (s.fn H (ds ++ gs)).vars = []) :
    s.post enc Tryz.prog f false true false false W args (.bool true) W' := by
  have hW0 := hW
  obtain ⟨p, q, hA, hV, rfl, hfz, hnd⟩ := hW
  rw [hv] at hV
  obtain ⟨rfl, rfl⟩ := trodVars_none hV
  have hlt : ∀ x ∈ p, x.block < W.heap.size := fun x hx => by simpa using hW0.lt x (by simpa using hx)
  refine ⟨ds, [], p ++ [], [], p, [], hW0, ?_, ?_, ?_, ?_, fun h => by cases h⟩
  · rw [h1, hr]
    exact trodAll_cons_mk (shut_bool Tryz.underlying4 _) trodAll_mk0
  · rw [h2]
    exact trodAll_below hE hk hA hlt
  · rw [h3, hv]
    rfl
  · exact World.keptBut_mono (fun _ f => f.elim) (Below.frame hE (fun _ => False))
end Go.Proofs.YtcbodpnmndbgnaaGreatDoor
namespace Go.Proofs.YtcbodpnmndbgnaaGreatDoor
open Go
set_option maxRecDepth 100000
theorem io_eq : Tryz.prog.initOrder = "harness 6e42cd4d63d2f10fb99d533d30ec03d60e03dcb61978a7b528b853a6a76d9ab6 cut " ++ "at tellurion/tellurionlaw07.EclipseKept tellurion/tellurionlaw07.EclipseForetells tellurion/tellurionlaw07.EclipseTold tellurion/tellurionlaw07.EclipseWithins tellurion/tellurionlaw07.EclipseTrusted tellurion/tellurionlaw07.EclipseWidens tellurion/tellurionlaw07.EclipseEnough tellurion/tellurionlaw07.EclipseNever tellurion/tellurionlaw07.EclipseMore tellurion/tellurionlaw07.EclipseHands tellurion/tellurionlaw07.EclipseMisses tellurion/tellurionlaw07.EclipseFound" := by kernel_rfl
theorem words_app (w r : List Char) (h : ∀ c ∈ w, c ≠ (Char.ofNat 32)) : wordsSigns (w ++ (Char.ofNat 32) :: r) = w :: wordsSigns r := by
  induction w with
  | nil => simp [wordsSigns]
  | cons c w ih =>
    have hc : c ≠ (Char.ofNat 32) := h c (by simp)
    have i := ih (fun d hd => h d (by simp [hd]))
    rw [List.cons_append, wordsSigns, i]
    exact hc
theorem sumSigns : isSumSigns "6e42cd4d63d2f10fb99d533d30ec03d60e03dcb61978a7b528b853a6a76d9ab6".toList = true := by decide +kernel
theorem noSp : ∀ c ∈ "6e42cd4d63d2f10fb99d533d30ec03d60e03dcb61978a7b528b853a6a76d9ab6".toList, c ≠ (Char.ofNat 32) := by decide +kernel
theorem noSp1 : ∀ c ∈ "harness".toList, c ≠ (Char.ofNat 32) := by decide +kernel
theorem noSp2 : ∀ c ∈ "cut".toList, c ≠ (Char.ofNat 32) := by decide +kernel
theorem headEq : "harness 6e42cd4d63d2f10fb99d533d30ec03d60e03dcb61978a7b528b853a6a76d9ab6 cut ".toList = "harness".toList ++ (Char.ofNat 32) :: ("6e42cd4d63d2f10fb99d533d30ec03d60e03dcb61978a7b528b853a6a76d9ab6".toList ++ (Char.ofNat 32) :: ("cut".toList ++ [(Char.ofNat 32)])) := by decide +kernel
theorem io_words : ∃ r, wordsSigns Tryz.prog.initOrder.toList = "harness".toList :: "6e42cd4d63d2f10fb99d533d30ec03d60e03dcb61978a7b528b853a6a76d9ab6".toList :: "cut".toList :: r := by
  rw [io_eq, String.toList_append, headEq]
  generalize "at tellurion/tellurionlaw07.EclipseKept tellurion/tellurionlaw07.EclipseForetells tellurion/tellurionlaw07.EclipseTold tellurion/tellurionlaw07.EclipseWithins tellurion/tellurionlaw07.EclipseTrusted tellurion/tellurionlaw07.EclipseWidens tellurion/tellurionlaw07.EclipseEnough tellurion/tellurionlaw07.EclipseNever tellurion/tellurionlaw07.EclipseMore tellurion/tellurionlaw07.EclipseHands tellurion/tellurionlaw07.EclipseMisses tellurion/tellurionlaw07.EclipseFound".toList = r
  refine ⟨wordsSigns r, ?_⟩
  rw [show ("harness".toList ++ (Char.ofNat 32) :: ("6e42cd4d63d2f10fb99d533d30ec03d60e03dcb61978a7b528b853a6a76d9ab6".toList ++ (Char.ofNat 32) :: ("cut".toList ++ [(Char.ofNat 32)]))) ++ r = "harness".toList ++ (Char.ofNat 32) :: ("6e42cd4d63d2f10fb99d533d30ec03d60e03dcb61978a7b528b853a6a76d9ab6".toList ++ (Char.ofNat 32) :: ("cut".toList ++ (Char.ofNat 32) :: r)) by simp only [List.append_assoc, List.cons_append, List.nil_append]]
  rw [words_app _ _ noSp1, words_app _ _ noSp, words_app _ _ noSp2]
theorem behind_at (s : List Char) (r : List (List Char)) (hs : isSumSigns s = true) : behindMainWord ("harness".toList :: s :: r) = r := by
  show (if (("harness".toList == "harness".toList || "harness".toList == "ownmain".toList) && isSumSigns s) = true then r else _) = r
  rw [hs, if_pos (by rw [beq_self_eq_true]; rfl)]
theorem io_behind : ∃ r, behindMainWord (wordsSigns Tryz.prog.initOrder.toList) = "cut".toList :: r := by
  obtain ⟨r, h⟩ := io_words
  exact ⟨r, by rw [h, behind_at _ _ sumSigns]⟩
theorem strip_no (w : List Char) (ws : List (List Char)) : ∀ os : List String, (∀ o ∈ os, (w == o.toList) = false) → stripLifts os (w :: ws) = ([], w :: ws)
  | [], _ => rfl
  | o :: os, h => by
    rw [stripLifts, h o (by simp)]
    exact strip_no w ws os (fun x hx => h x (by simp [hx]))
theorem cutNo : ∀ o ∈ liftWords, ("cut".toList == o.toList) = false := by decide +kernel
theorem lays_no : Tryz.prog.laysLater = false := by kernel_rfl
theorem refl_no : Tryz.prog.bearsReflect = false := by kernel_rfl
theorem door_ok : Tryz.prog.doorFits [] = true := by kernel_rfl
theorem lifts_of {P : Program} {c : List Char} {r : List (List Char)} (h : behindMainWord (wordsSigns P.initOrder.toList) = c :: r) (hs : stripLifts liftWords (c :: r) = ([], c :: r)) (e : (some c == some "carried".toList) = false) : P.liftsFinal = false := by
  unfold Program.liftsFinal Program.headLifts
  rw [h, hs]
  show ((some c == some "carried".toList && _) || _) = false
  rw [e, Bool.false_and, Bool.false_or]
  dsimp only
  split <;> rfl
theorem lifts_no : Tryz.prog.liftsFinal = false := by
  obtain ⟨r, h⟩ := io_behind
  exact lifts_of h (strip_no _ r _ cutNo) (by decide +kernel)
theorem make_of {P : Program} {c : List Char} {r : List (List Char)} (h : behindMainWord (wordsSigns P.initOrder.toList) = c :: r) (e1 : (c == "gc".toList || c == "spec".toList) = false) (e2 : (c == "cut".toList) = true) : P.make = some .cut := by
  unfold Program.make
  rw [h]
  show (if (c == "gc".toList || c == "spec".toList) = true then _ else if (c == "cut".toList || _) = true then _ else _) = _
  rw [e1, e2, if_neg (by decide), if_pos (by rw [Bool.true_or])]
theorem make_cut : Tryz.prog.make = some .cut := by
  obtain ⟨r, h⟩ := io_behind
  exact make_of h (by decide +kernel) (by decide +kernel)
theorem may_of {P : Program} {c : List Char} {r : List (List Char)} (h : behindMainWord (wordsSigns P.initOrder.toList) = c :: r) (hs : stripLifts liftWords (c :: r) = ([], c :: r)) (e : (some c == some "cut".toList) = true) (h1 : P.laysLater = false) (h2 : P.bearsReflect = false) (h3 : P.doorFits [] = true) : P.mayEnter = true := by
  unfold Program.mayEnter
  rw [h]
  dsimp only
  rw [hs, h1, h2, h3]
  show (_ || _ || (some c == some "cut".toList && _ && _ && _ && true)) = true
  rw [e]
  simp only [Bool.not_false, Bool.or_true, Bool.and_true, Bool.true_and, Bool.or_eq_true]
  right
  right
  rfl
theorem may_yes : Tryz.prog.mayEnter = true := by
  obtain ⟨r, h⟩ := io_behind
  exact may_of h (strip_no _ r _ cutNo) (by decide +kernel) lays_no refl_no door_ok
end Go.Proofs.YtcbodpnmndbgnaaGreatDoor
namespace Go.Proofs.YtcbodpnmndbgnaaGreatDoor
open Go
set_option maxRecDepth 100000
theorem main_of {P : Program} {s : List Char} {r : List (List Char)} (h : wordsSigns P.initOrder.toList = "harness".toList :: s :: r) (hs : isSumSigns s = true) : P.mainIs = some (true, s) := by
  unfold Program.mainIs
  rw [h]
  show (if (!isSumSigns s) = true then none else if ("harness".toList == "harness".toList) = true then some (true, s) else _) = some (true, s)
  rw [hs, if_neg (by decide), if_pos (beq_self_eq_true _)]
theorem main_is : Tryz.prog.mainIs = some (true, "6e42cd4d63d2f10fb99d533d30ec03d60e03dcb61978a7b528b853a6a76d9ab6".toList) := by
  obtain ⟨r, h⟩ := io_words
  exact main_of h sumSigns
end Go.Proofs.YtcbodpnmndbgnaaGreatDoor
namespace Go.Proofs.YtcbodpnmndbgnaaGreatDoor
open Go.RowKit
open Sp (rd)
theorem espan_of {lo hi : Int} (h : Ec.isSpan lo hi = true) : 1 ≤ lo ∧ lo ≤ 9000 ∧ lo ≤ hi ∧ hi ≤ 9000 ∧ hi - lo ≤ 400 := by
  simp only [Ec.isSpan, Sp.inR, Bool.and_eq_true, decide_eq_true_eq] at h
  omega
theorem elate_of {n : Int} (h : Ec.isLate n = true) : 0 ≤ n ∧ n ≤ 30 := by
  simp only [Ec.isLate, Sp.inR, Bool.and_eq_true, decide_eq_true_eq] at h
  omega
theorem eday_of {n : Int} (h : Ec.isDay n = true) : 0 ≤ n ∧ n ≤ 9000 := by
  simp only [Ec.isDay, Sp.inR, Bool.and_eq_true, decide_eq_true_eq] at h
  omega
theorem eday_mk {n : Int} (h1 : 0 ≤ n) (h2 : n ≤ 9000) : Ec.isDay n = true := by
  simp only [Ec.isDay, Sp.inR, Bool.and_eq_true, decide_eq_true_eq]
  omega
end Go.Proofs.YtcbodpnmndbgnaaGreatDoor
namespace Go.Proofs.YtcbodpnmndbgnaaGreatDoor
open Go.RowKit
open Sp (rd)
theorem neq_hands_self (a b c : Int) (w : World) : (binOp .neq 39 (.agg #[.int .i64 a, .int .i64 b, .int .i64 c]) (.agg #[.int .i64 a, .int .i64 b, .int .i64 c])).run Tryz.prog w = .ok (.bool false) w := by
  rw [neq_hands]
  simp
/-- To stop a walk: what follows is kept for later. -/
theorem wp_stop {P : Program} {c : Code} {Q : Exit → Act → World → Prop} {a : Act} {w : World} (h : ∀ K : Exit → Act → World → Prop, (∀ e a' w', Q e a' w' → K e a' w') → c.wp P K a w) : c.wp P Q a w := h Q (fun _ _ _ h => h)
end Go.Proofs.YtcbodpnmndbgnaaGreatDoor
namespace Go.Proofs.YtcbodpnmndbgnaaGreatDoor
open Go.RowKit
open Sp (rd)
set_option maxRecDepth 100000
set_option maxHeartbeats 2000000
set_option linter.unusedVariables false
theorem l7_kept_any (n limit : Int) (w : World) (h1 : -1000000000 ≤ limit) (h2 : limit ≤ 1000000000) : Calls Tryz.prog 24 #[.int .i64 n, .int .i64 limit] w fun e w' => e = .returned (.bool (decide (n ≤ limit) && decide (-limit ≤ n))) ∧ w = w' := by
  by_cases ha : n ≤ limit <;> by_cases hb : -limit ≤ n <;>
  · go_enter Tryz.func24, Tryz.ntmps24
    go_wp2_with fail
    all_goals
      go_ret
      exact ⟨ret_bool (by simp [ha, hb]), rfl⟩
theorem r7_Target_any (num den : Int) (w : World) : Calls Tryz.prog 22 #[.agg #[.int .i64 num, .int .i64 den]] w fun e w' => e = .returned (.agg #[.int .i64 den, .int .i64 num]) ∧ Ext w w' := by
  have h1 := ((Row.new w 24 #[.int .i64 num, .int .i64 den]).alloc (.cells #[.int .i64 0, .int .i64 0] 43))
  have h2 := Row.new (w.alloc (.cells #[.int .i64 num, .int .i64 den] 24)) 43 #[.int .i64 den, .int .i64 num]
  have hE := ((Ext.refl w).alloc (.cells #[.int .i64 num, .int .i64 den] 24)).alloc (.cells #[.int .i64 den, .int .i64 num] 43)
  simp only [World.size_alloc] at h2
  have HR2 := Lib.hid h2
  have HE := Lib.hid hE
  have c1 := h1.cell
  clear h1 h2 hE
  go_enter Tryz.func22, Tryz.ntmps22
  go_wp2_with fail
  refine bodyPost_ret (results_cell_row rfl _ _ (w.heap.size + 1) 43 _ (0, 0) _ rfl HR2.out Tryz.underlying43 rfl (by kernel_rfl)) rfl ?_
  exact ⟨rfl, HE.out⟩
end Go.Proofs.YtcbodpnmndbgnaaGreatDoor
namespace Go.Proofs.YtcbodpnmndbgnaaGreatDoor
open Go.RowKit
open Sp (rd)
set_option maxRecDepth 100000
set_option maxHeartbeats 2000000
set_option linter.unusedVariables false
theorem r1_Gcd_any (x y : Nat) (w : World) (hx : x ≤ 1000000000) (hy : y ≤ 1000000000) :
    Calls Tryz.prog 197 #[.int .i64 (x : Int), .int .i64 (y : Int)] w fun e w' => e = .returned (.int .i64 (Nat.gcd x y : Int)) ∧ Ext w w' := by
  go_enter Tryz.func197, Tryz.ntmps197
  go_wp2_with fail
  go_loopw [0, 1] (fun a b wr => ∃ p q : Nat, a = .int .i64 (p : Int) ∧ b = .int .i64 (q : Int) ∧ Nat.gcd x y = Nat.gcd p q ∧ p ≤ 1000000000 ∧ q ≤ 1000000000 ∧ Ext w wr) (fun _ b _ => (intOf b).toNat)
  case atStart => exact ⟨x, y, rfl, rfl, rfl, hx, hy, Ext.refl _⟩
  case round =>
    obtain ⟨p, q, rfl, rfl, hg, hp, hq, hE⟩ := hrel
    have HG := Lib.hid hg
    have HE := Lib.hid hE
    clear hg hE
    by_cases h0 : 0 < q
    · have hm : (p : Int).tmod (q : Int) = ((p % q : Nat) : Int) := by rw [Int.tmod_eq_emod_of_nonneg (by omega)]; rfl
      have hlt := Nat.mod_lt p h0
      go_wp2_with fail
      go_quiet (fail)
      go_wp2_with fail
      refine ⟨⟨q, p % q, rfl, by go_num, by rw [HG.out, ngcd_step], hq, by omega, HE.out.drewN _⟩, by simp [intOf]; omega⟩
    · obtain rfl : q = 0 := by omega
      go_wp2_with fail
      go_ret
      exact ⟨by rw [HG.out, Nat.gcd_zero_right]; rfl, HE.out⟩
def redΦ (N D G NQ DQ : Nat) (pa : Nat) (w0 : World) (i : Nat) (v : Value) (w : World) : Prop :=
  match i with
  | 0 => v = .pointer (some ⟨pa, 0, none⟩)
  | 1 => v = .int .i64 (N : Int)
  | 2 => v = .int .i64 (G : Int)
  | 3 => v = .int .i64 (NQ : Int)
  | 4 => v = .pointer (some ⟨pa, 1, none⟩)
  | 5 => v = .int .i64 (D : Int)
  | 6 => v = .int .i64 (G : Int)
  | 7 => v = .int .i64 (DQ : Int)
  | _ => v = .agg #[.int .i64 (NQ : Int), .int .i64 (DQ : Int)]
theorem redΦ_mono {N D G NQ DQ : Nat} {pa : Nat} {w0 : World} (i : Nat) (v : Value) (w w' : World) (h : redΦ N D G NQ DQ pa w0 i v w) (he : Ext w w') : redΦ N D G NQ DQ pa w0 i v w' := by
  unfold redΦ at h ⊢
  split at h <;> first
    | exact h
    | exact MkAt.ext h he
    | exact fun hg => MkAt.ext (h hg) he
theorem r1_Reduced_any (N D : Nat) (w : World) (hN : N ≤ 1000000000) (hD : D ≤ 1000000000) (hD1 : 1 ≤ D) :
    Calls Tryz.prog 174 #[.agg #[.int .i64 (N : Int), .int .i64 (D : Int)]] w fun e w' => e = .returned (.agg #[.int .i64 ((N / Nat.gcd N D : Nat) : Int), .int .i64 ((D / Nat.gcd N D : Nat) : Int)]) ∧ Ext w w' := by
  have h1 := (Row.new w 43 #[.int .i64 (N : Int), .int .i64 (D : Int)]).alloc (.cells #[.int .i64 0, .int .i64 0] 43)
  have h2 := Row.new (w.alloc (.cells #[.int .i64 (N : Int), .int .i64 (D : Int)] 43)) 43 #[.int .i64 0, .int .i64 0]
  have hE := ((Ext.refl w).alloc (.cells #[.int .i64 (N : Int), .int .i64 (D : Int)] 43)).alloc (.cells #[.int .i64 0, .int .i64 0] 43)
  simp only [World.size_alloc] at h2
  have hg1 : 1 ≤ Nat.gcd N D := Nat.gcd_pos_of_pos_right N hD1
  have hgl : Nat.gcd N D ≤ D := Nat.gcd_le_right N hD1
  have HG0 := Lib.hid (fun W => r1_Gcd_any N D W hN hD)
  obtain ⟨G, hG⟩ : ∃ G, Nat.gcd N D = G := ⟨_, rfl⟩
  rw [hG] at hg1 hgl HG0 ⊢
  obtain ⟨NQ, hNQ⟩ : ∃ q, N / G = q := ⟨_, rfl⟩
  obtain ⟨DQ, hDQ⟩ : ∃ q, D / G = q := ⟨_, rfl⟩
  have hn9 : NQ ≤ N := by rw [← hNQ]; exact Nat.div_le_self _ _
  have hd9 : DQ ≤ D := by rw [← hDQ]; exact Nat.div_le_self _ _
  have HQ : Hid ((N : Int).tdiv (G : Int) = (NQ : Int) ∧ (D : Int).tdiv (G : Int) = (DQ : Int)) := Lib.hid ⟨by rw [Int.tdiv_eq_ediv_of_nonneg (by omega), ← hNQ]; rfl, by rw [Int.tdiv_eq_ediv_of_nonneg (by omega), ← hDQ]; rfl⟩
  have HG : Hid ((0 : Int) < (G : Int)) := Lib.hid (by omega)
  rw [hNQ, hDQ]
  clear hG hNQ hDQ hD1
  have HR1 := Lib.hid h1
  have HR2 := Lib.hid h2
  have HE := Lib.hid hE
  have c1 := h1.cell
  clear h1 h2 hE
  go_enter Tryz.func174, Tryz.ntmps174
  go_wp2_with fail
  refine (HG0.out _).mono ?_
  rintro e W ⟨rfl, hE1⟩
  have HA := Lib.hid (HR1.out.ext hE1)
  have HR := Lib.hid (HR2.out.ext hE1)
  have HE1 := Lib.hid (HE.out.trans hE1)
  clear hE1 c1 HR1 HR2 HE
  go_wp2_with fail
  obtain ⟨pa, hpa⟩ : ∃ pa, w.heap.size = pa := ⟨_, rfl⟩
  rw [hpa] at HA HR ⊢
  have HPA := Lib.hid hpa
  clear hpa
  refine wp_region_free_tail 9 9 (redΦ N D G NQ DQ pa W) (by kernel_rfl) (by simp) (by kernel_rfl) (by kernel_rfl) (by kernel_rfl) (by kernel_rfl) redΦ_mono ?hob ?hQ (fun h => absurd h (by omega))
  case hob =>
    intro i o hin ho a wa hE hF
    match i, hin with
    | 0, _ =>
      obtain rfl := Option.some.inj ho
      have h0 : a.tmps[1]?.getD undef = .pointer (some ⟨pa, 0, none⟩) := evalD (hF.old 1 (by decide))
      refine Ran.value rfl (v := .pointer (some ⟨pa, 0, none⟩)) (w1 := wa) ?_ ⟨rfl, Ext.refl _⟩
      go_simp
    | 1, _ =>
      obtain rfl := Option.some.inj ho
      have h0 : a.tmps[9]?.getD undef = .pointer (some ⟨pa, 0, none⟩) := evalD ((hF.from_ 0 9 rfl (by decide)))
      have q := (Row.ext (HA.out) hE).cell
      refine Ran.value rfl (v := .int .i64 (N : Int)) (w1 := wa) ?_ ⟨rfl, Ext.refl _⟩
      go_simp
    | 2, _ =>
      obtain rfl := Option.some.inj ho
      have h0 : a.tmps[3]?.getD undef = .int .i64 (G : Int) := evalD (hF.old 3 (by decide))
      refine Ran.value rfl (v := .int .i64 (G : Int)) (w1 := wa) ?_ ⟨rfl, Ext.refl _⟩
      go_simp
    | 3, _ =>
      obtain rfl := Option.some.inj ho
      have h0 : a.tmps[10]?.getD undef = .int .i64 (N : Int) := evalD ((hF.from_ 1 10 rfl (by decide)))
      have h1 : a.tmps[11]?.getD undef = .int .i64 (G : Int) := evalD ((hF.from_ 2 11 rfl (by decide)))
      refine Ran.value rfl (v := .int .i64 (NQ : Int)) (w1 := wa) ?_ ⟨rfl, Ext.refl _⟩
      have hq := HQ.out.1
      have hg := HG.out
      have hw : IntKind.i64.wrap (NQ : Int) = (NQ : Int) := IntWalk.i64_in _ ⟨by omega, by omega⟩
      go_simp
      omega
    | 4, _ =>
      obtain rfl := Option.some.inj ho
      have h0 : a.tmps[1]?.getD undef = .pointer (some ⟨pa, 0, none⟩) := evalD (hF.old 1 (by decide))
      refine Ran.value rfl (v := .pointer (some ⟨pa, 1, none⟩)) (w1 := wa) ?_ ⟨rfl, Ext.refl _⟩
      go_simp
    | 5, _ =>
      obtain rfl := Option.some.inj ho
      have h0 : a.tmps[13]?.getD undef = .pointer (some ⟨pa, 1, none⟩) := evalD ((hF.from_ 4 13 rfl (by decide)))
      have q := (Row.ext (HA.out) hE).cell
      refine Ran.value rfl (v := .int .i64 (D : Int)) (w1 := wa) ?_ ⟨rfl, Ext.refl _⟩
      go_simp
    | 6, _ =>
      obtain rfl := Option.some.inj ho
      have h0 : a.tmps[3]?.getD undef = .int .i64 (G : Int) := evalD (hF.old 3 (by decide))
      refine Ran.value rfl (v := .int .i64 (G : Int)) (w1 := wa) ?_ ⟨rfl, Ext.refl _⟩
      go_simp
    | 7, _ =>
      obtain rfl := Option.some.inj ho
      have h0 : a.tmps[14]?.getD undef = .int .i64 (D : Int) := evalD ((hF.from_ 5 14 rfl (by decide)))
      have h1 : a.tmps[15]?.getD undef = .int .i64 (G : Int) := evalD ((hF.from_ 6 15 rfl (by decide)))
      refine Ran.value rfl (v := .int .i64 (DQ : Int)) (w1 := wa) ?_ ⟨rfl, Ext.refl _⟩
      have hq := HQ.out.2
      have hg := HG.out
      have hw : IntKind.i64.wrap (DQ : Int) = (DQ : Int) := IntWalk.i64_in _ ⟨by omega, by omega⟩
      go_simp
      omega
    | 8, _ =>
      obtain rfl := Option.some.inj ho
      have h0 : a.tmps[12]?.getD undef = .int .i64 (NQ : Int) := evalD ((hF.from_ 3 12 rfl (by decide)))
      have h1 : a.tmps[16]?.getD undef = .int .i64 (DQ : Int) := evalD ((hF.from_ 7 16 rfl (by decide)))
      refine Ran.value rfl (v := .agg #[.int .i64 (NQ : Int), .int .i64 (DQ : Int)]) (w1 := wa) ?_ ⟨rfl, Ext.refl _⟩
      go_simp
    | k + 9, hin => omega
  case hQ =>
    intro vs w2 hE hΦ
    have f0 : vs 0 = .pointer (some ⟨pa, 0, none⟩) := hΦ 0 (by omega)
    have f1 : vs 1 = .int .i64 (N : Int) := hΦ 1 (by omega)
    have f2 : vs 2 = .int .i64 (G : Int) := hΦ 2 (by omega)
    have f3 : vs 3 = .int .i64 (NQ : Int) := hΦ 3 (by omega)
    have f4 : vs 4 = .pointer (some ⟨pa, 1, none⟩) := hΦ 4 (by omega)
    have f5 : vs 5 = .int .i64 (D : Int) := hΦ 5 (by omega)
    have f6 : vs 6 = .int .i64 (G : Int) := hΦ 6 (by omega)
    have f7 : vs 7 = .int .i64 (DQ : Int) := hΦ 7 (by omega)
    have f8 : vs 8 = .agg #[.int .i64 (NQ : Int), .int .i64 (DQ : Int)] := hΦ 8 (by omega)
    have hrg : List.range 9 = [0, 1, 2, 3, 4, 5, 6, 7, 8] := rfl
    unfold putAll putS
    simp only [List.length_cons, List.length_nil, List.take_succ_cons, List.take_zero, List.drop_succ_cons, List.drop_zero, Nat.reduceAdd, hrg, List.foldl_cons, List.foldl_nil, dstOf, List.getElem?_cons_succ, List.getElem?_cons_zero, Option.bind_some]
    clear hrg
    rw [f0, f1, f2, f3, f4, f5, f6, f7, f8]
    simp only [Act.put, List.setIfInBounds_toArray, List.set_cons_succ, List.set_cons_zero]
    have HRr := Lib.hid (HR.out.ext hE)
    have c2 := HRr.out.cell
    have fz := HRr.out.free
    have HE2 := Lib.hid (HE1.out.trans hE)
    clear hΦ f0 f1 f2 f3 f4 f5 f6 f7 f8 hE
    go_wp2_with fail
    refine bodyPost_ret (results_cell_row rfl _ _ (pa + 1) 43 _ (0, 0) _ rfl ((HRr.out.set_ 0 (.int .i64 (NQ : Int))).set_ 1 (.int .i64 (DQ : Int))) Tryz.underlying43 rfl (by kernel_rfl)) rfl ?_
    exact ⟨rfl, (HE2.out.setCell (p := ⟨pa + 1, 0, none⟩) (by have := HPA.out; simp; omega) _).setCell (p := ⟨pa + 1, 1, none⟩) (by have := HPA.out; simp; omega) _⟩
def trnΦ (P Q x y : Int) (pb tb to len c k : Nat) (w0 : World) (i : Nat) (v : Value) (w : World) : Prop :=
  match i with
  | 0 => v = .pointer (some ⟨pb, 0, none⟩)
  | 1 => v = .int .i64 P
  | 2 => v = .slice (some ⟨tb, to, none⟩) len c
  | 3 => v = .int .i64 (k : Int)
  | 4 => v = .pointer (some ⟨tb, to + k * 2, none⟩)
  | 5 => v = .pointer (some ⟨tb, to + k * 2, none⟩)
  | 6 => v = .int .i64 x
  | 7 => v = .int .i64 (P * x)
  | 8 => v = .pointer (some ⟨pb, 1, none⟩)
  | 9 => v = .int .i64 Q
  | 10 => v = .slice (some ⟨tb, to, none⟩) len c
  | 11 => v = .int .i64 (k : Int)
  | 12 => v = .pointer (some ⟨tb, to + k * 2, none⟩)
  | 13 => v = .pointer (some ⟨tb, to + k * 2 + 1, none⟩)
  | 14 => v = .int .i64 y
  | 15 => v = .int .i64 (Q * y)
  | _ => v = .agg #[.int .i64 (P * x), .int .i64 (Q * y)]
theorem trnΦ_mono {P Q x y : Int} {pb tb to len c k : Nat} {w0 : World} (i : Nat) (v : Value) (w w' : World) (h : trnΦ P Q x y pb tb to len c k w0 i v w) (he : Ext w w') : trnΦ P Q x y pb tb to len c k w0 i v w' := by
  unfold trnΦ at h ⊢
  split at h <;> first
    | exact h
    | exact MkAt.ext h he
    | exact fun hg => MkAt.ext (h hg) he
theorem pd_take (f : Ec.Pair → Int) (l : List Ec.Pair) {k : Nat} (hk : k < l.length) : (l.take (k + 1)).foldl (fun n p => n * f p) 1 = (l.take k).foldl (fun n p => n * f p) 1 * f (pd l k) := by
  rw [List.take_succ_eq_append_getElem hk, List.foldl_append]
  simp only [List.foldl_cons, List.foldl_nil]
  unfold pd
  rw [List.getD_eq_getElem?_getD, List.getElem?_eq_getElem hk]
  rfl
theorem TrainOk.taken {l : List Ec.Pair} (h : TrainOk l) (k : Nat) : (1 ≤ Ec.drivesP (l.take k) ∧ Ec.drivesP (l.take k) ≤ 216000) ∧ (1 ≤ Ec.drivenP (l.take k) ∧ Ec.drivenP (l.take k) ≤ 216000) := by
  have hl : (l.take k).length ≤ 3 := by rw [List.length_take]; have := h.n3; omega
  exact ⟨prod_bounds (·.drives) _ _ rfl hl fun p hp => (h.mem p (List.mem_of_mem_take hp)).1, prod_bounds (·.driven) _ _ rfl hl fun p hp => (h.mem p (List.mem_of_mem_take hp)).2⟩
theorem turns_nat {l : List Ec.Pair} {N D : Nat} (h1 : Ec.drivesP l = N) (h2 : Ec.drivenP l = D) : ((N / Nat.gcd N D : Nat) : Int) = Ec.turnsN l ∧ ((D / Nat.gcd N D : Nat) : Int) = Ec.turnsD l := by
  unfold Ec.turnsN Ec.turnsD Ec.turnsG
  rw [h1, h2]
  exact ⟨by rw [Int.natCast_ediv]; rfl, by rw [Int.natCast_ediv]; rfl⟩
theorem r1_Turns_any (A : Option Addr) (c : Nat) (l : List Ec.Pair) (w : World) (hm : Pairs w A l) (hK : TrainOk l) :
    Calls Tryz.prog 141 #[.slice A l.length c] w fun e w' => e = .returned (.agg #[.int .i64 (Ec.turnsN l), .int .i64 (Ec.turnsD l)]) ∧ Ext w w' := by
  have hn3 := hK.n3
  have g1 := (Row.new w 43 #[.int .i64 0, .int .i64 0]).alloc (.cells #[.int .i64 1, .int .i64 1] 43)
  have g2 := Row.new (w.alloc (.cells #[.int .i64 0, .int .i64 0] 43)) 43 #[.int .i64 1, .int .i64 1]
  have gE := ((Ext.refl w).alloc (.cells #[.int .i64 0, .int .i64 0] 43)).alloc (.cells #[.int .i64 1, .int .i64 1] 43)
  simp only [World.size_alloc] at g2
  have HM := Lib.hid hm
  have HK := Lib.hid hK
  have G1 := Lib.hid g1
  have G2 := Lib.hid g2
  have GE := Lib.hid gE
  clear hm hK g1 g2 gE
  go_enter Tryz.func141, Tryz.ntmps141
  go_wp2_with fail
  obtain ⟨pa, hpa⟩ : ∃ pa, w.heap.size = pa := ⟨_, rfl⟩
  have HPA := Lib.hid hpa
  rw [hpa] at G1 G2 ⊢
  clear hpa
  obtain ⟨pb, hpb⟩ : ∃ pb, pa + 1 = pb := ⟨_, rfl⟩
  have HPB := Lib.hid hpb
  rw [hpb] at G2 ⊢
  clear hpb
  go_loopw [4] (fun i wr => ∃ k : Nat, k ≤ l.length ∧ i = .int .i64 k ∧ Row wr pb 43 #[.int .i64 (Ec.drivesP (l.take k)), .int .i64 (Ec.drivenP (l.take k))] ∧ Row wr pa 43 #[.int .i64 0, .int .i64 0] ∧ Ext w wr) (fun i _ => l.length - (intOf i).toNat)
  case atStart => exact ⟨0, Nat.zero_le _, rfl, G2.out, G1.out, GE.out⟩
  case round =>
    obtain ⟨k, hk, rfl, h2, h1, hE⟩ := hrel
    clear G1 G2 GE
    have HB := Lib.hid h2
    have HA := Lib.hid h1
    have HE := Lib.hid hE
    clear h1
    by_cases hlt : k < l.length
    · obtain ⟨tb, to, rfl, hc⟩ := HM.out (by omega)
      obtain ⟨c0, c1⟩ := hc k hlt
      have HC := Lib.hid (And.intro (HE.out.cell c0) (HE.out.cell c1))
      have hb1 := HK.out.taken k
      have hb2 := HK.out.all k hlt
      have HT := Lib.hid (And.intro (pd_take (·.drives) l hlt) (pd_take (·.driven) l hlt))
      clear hc c0 c1 h2 hE
      obtain ⟨x, hx⟩ : ∃ x, (pd l k).drives = x := ⟨_, rfl⟩
      obtain ⟨y, hy⟩ : ∃ y, (pd l k).driven = y := ⟨_, rfl⟩
      obtain ⟨P, hP⟩ : ∃ P, Ec.drivesP (l.take k) = P := ⟨_, rfl⟩
      obtain ⟨Q, hQ⟩ : ∃ Q, Ec.drivenP (l.take k) = Q := ⟨_, rfl⟩
      rw [hx, hy] at hb2 HC
      rw [hP, hQ] at hb1 HB
      have HT2 : Hid (Ec.drivesP (l.take (k + 1)) = P * x ∧ Ec.drivenP (l.take (k + 1)) = Q * y) := Lib.hid ⟨by rw [← hP, ← hx]; exact HT.out.1, by rw [← hQ, ← hy]; exact HT.out.2⟩
      clear hx hy hP hQ HT
      have m1 := mul_bounds0 (a := P) (b := x) (A := 216000) (B := 60) (by omega) (by omega) (by omega) (by omega)
      have m2 := mul_bounds0 (a := Q) (b := y) (A := 216000) (B := 60) (by omega) (by omega) (by omega) (by omega)
      have HP : Hid (IntKind.i64.wrap (P * x) = P * x ∧ IntKind.i64.wrap (Q * y) = Q * y) := Lib.hid ⟨IntWalk.i64_in _ ⟨by omega, by omega⟩, IntWalk.i64_in _ ⟨by omega, by omega⟩⟩
      have HK2 : Hid ((0 : Int) ≤ k ∧ (k : Int) < l.length) := Lib.hid ⟨by omega, by omega⟩
      obtain ⟨len, hlen⟩ : ∃ n, l.length = n := ⟨_, rfl⟩
      rw [hlen] at hlt hk HK2 hn3 ⊢
      have HLN := Lib.hid hlen
      clear hlen m1 m2 hb1 hb2
      have HK := HK2
      have b2 := HB.out.cell
      go_wp2_with fail
      clear b2
      refine wp_region_free_tail 17 17 (trnΦ P Q x y pb tb to len c k wr) (by kernel_rfl) (by simp) (by kernel_rfl) (by kernel_rfl) (by kernel_rfl) (by kernel_rfl) trnΦ_mono ?hob ?hQ (fun h => absurd h (by omega))
      case hob =>
        intro i o hin ho a wa hE hF
        match i, hin with
        | 0, _ =>
          obtain rfl := Option.some.inj ho
          have h0 : a.tmps[3]?.getD undef = .pointer (some ⟨pb, 0, none⟩) := evalD (hF.old 3 (by decide))
          refine Ran.value rfl (v := .pointer (some ⟨pb, 0, none⟩)) (w1 := wa) ?_ ⟨rfl, Ext.refl _⟩
          go_simp
        | 1, _ =>
          obtain rfl := Option.some.inj ho
          have h0 : a.tmps[12]?.getD undef = .pointer (some ⟨pb, 0, none⟩) := evalD ((hF.from_ 0 12 rfl (by decide)))
          have q := (Row.ext (HB.out) hE).cell
          refine Ran.value rfl (v := .int .i64 P) (w1 := wa) ?_ ⟨rfl, Ext.refl _⟩
          go_simp
        | 2, _ =>
          obtain rfl := Option.some.inj ho
          have h0 : a.tmps[0]?.getD undef = .slice (some ⟨tb, to, none⟩) len c := evalD (hF.old 0 (by decide))
          refine Ran.value rfl (v := .slice (some ⟨tb, to, none⟩) len c) (w1 := wa) ?_ ⟨rfl, Ext.refl _⟩
          go_simp
        | 3, _ =>
          obtain rfl := Option.some.inj ho
          have h0 : a.tmps[4]?.getD undef = .int .i64 (k : Int) := evalD (hF.old 4 (by decide))
          refine Ran.value rfl (v := .int .i64 (k : Int)) (w1 := wa) ?_ ⟨rfl, Ext.refl _⟩
          go_simp
        | 4, _ =>
          obtain rfl := Option.some.inj ho
          have h0 : a.tmps[14]?.getD undef = .slice (some ⟨tb, to, none⟩) len c := evalD ((hF.from_ 2 14 rfl (by decide)))
          have h1 : a.tmps[15]?.getD undef = .int .i64 (k : Int) := evalD ((hF.from_ 3 15 rfl (by decide)))
          refine Ran.value rfl (v := .pointer (some ⟨tb, to + k * 2, none⟩)) (w1 := wa) ?_ ⟨rfl, Ext.refl _⟩
          have hk := HK.out
          go_simp
        | 5, _ =>
          obtain rfl := Option.some.inj ho
          have h0 : a.tmps[16]?.getD undef = .pointer (some ⟨tb, to + k * 2, none⟩) := evalD ((hF.from_ 4 16 rfl (by decide)))
          refine Ran.value rfl (v := .pointer (some ⟨tb, to + k * 2, none⟩)) (w1 := wa) ?_ ⟨rfl, Ext.refl _⟩
          go_simp
        | 6, _ =>
          obtain rfl := Option.some.inj ho
          have h0 : a.tmps[17]?.getD undef = .pointer (some ⟨tb, to + k * 2, none⟩) := evalD (hF.from_ 5 17 rfl (by decide))
          have q := hE.cell HC.out.1
          refine Ran.value rfl (v := .int .i64 x) (w1 := wa) ?_ ⟨rfl, Ext.refl _⟩
          go_simp
        | 7, _ =>
          obtain rfl := Option.some.inj ho
          have h0 : a.tmps[13]?.getD undef = .int .i64 P := evalD ((hF.from_ 1 13 rfl (by decide)))
          have h1 : a.tmps[18]?.getD undef = .int .i64 x := evalD ((hF.from_ 6 18 rfl (by decide)))
          refine Ran.value rfl (v := .int .i64 (P * x)) (w1 := wa) ?_ ⟨rfl, Ext.refl _⟩
          have hb := HP.out.1
          go_simp
        | 8, _ =>
          obtain rfl := Option.some.inj ho
          have h0 : a.tmps[3]?.getD undef = .pointer (some ⟨pb, 0, none⟩) := evalD (hF.old 3 (by decide))
          refine Ran.value rfl (v := .pointer (some ⟨pb, 1, none⟩)) (w1 := wa) ?_ ⟨rfl, Ext.refl _⟩
          go_simp
        | 9, _ =>
          obtain rfl := Option.some.inj ho
          have h0 : a.tmps[20]?.getD undef = .pointer (some ⟨pb, 1, none⟩) := evalD ((hF.from_ 8 20 rfl (by decide)))
          have q := (Row.ext (HB.out) hE).cell
          refine Ran.value rfl (v := .int .i64 Q) (w1 := wa) ?_ ⟨rfl, Ext.refl _⟩
          go_simp
        | 10, _ =>
          obtain rfl := Option.some.inj ho
          have h0 : a.tmps[0]?.getD undef = .slice (some ⟨tb, to, none⟩) len c := evalD (hF.old 0 (by decide))
          refine Ran.value rfl (v := .slice (some ⟨tb, to, none⟩) len c) (w1 := wa) ?_ ⟨rfl, Ext.refl _⟩
          go_simp
        | 11, _ =>
          obtain rfl := Option.some.inj ho
          have h0 : a.tmps[4]?.getD undef = .int .i64 (k : Int) := evalD (hF.old 4 (by decide))
          refine Ran.value rfl (v := .int .i64 (k : Int)) (w1 := wa) ?_ ⟨rfl, Ext.refl _⟩
          go_simp
        | 12, _ =>
          obtain rfl := Option.some.inj ho
          have h0 : a.tmps[22]?.getD undef = .slice (some ⟨tb, to, none⟩) len c := evalD ((hF.from_ 10 22 rfl (by decide)))
          have h1 : a.tmps[23]?.getD undef = .int .i64 (k : Int) := evalD ((hF.from_ 11 23 rfl (by decide)))
          refine Ran.value rfl (v := .pointer (some ⟨tb, to + k * 2, none⟩)) (w1 := wa) ?_ ⟨rfl, Ext.refl _⟩
          have hk := HK.out
          go_simp
        | 13, _ =>
          obtain rfl := Option.some.inj ho
          have h0 : a.tmps[24]?.getD undef = .pointer (some ⟨tb, to + k * 2, none⟩) := evalD ((hF.from_ 12 24 rfl (by decide)))
          refine Ran.value rfl (v := .pointer (some ⟨tb, to + k * 2 + 1, none⟩)) (w1 := wa) ?_ ⟨rfl, Ext.refl _⟩
          go_simp
        | 14, _ =>
          obtain rfl := Option.some.inj ho
          have h0 : a.tmps[25]?.getD undef = .pointer (some ⟨tb, to + k * 2 + 1, none⟩) := evalD (hF.from_ 13 25 rfl (by decide))
          have q := hE.cell HC.out.2
          refine Ran.value rfl (v := .int .i64 y) (w1 := wa) ?_ ⟨rfl, Ext.refl _⟩
          go_simp
        | 15, _ =>
          obtain rfl := Option.some.inj ho
          have h0 : a.tmps[21]?.getD undef = .int .i64 Q := evalD ((hF.from_ 9 21 rfl (by decide)))
          have h1 : a.tmps[26]?.getD undef = .int .i64 y := evalD ((hF.from_ 14 26 rfl (by decide)))
          refine Ran.value rfl (v := .int .i64 (Q * y)) (w1 := wa) ?_ ⟨rfl, Ext.refl _⟩
          have hb := HP.out.2
          go_simp
        | 16, _ =>
          obtain rfl := Option.some.inj ho
          have h0 : a.tmps[19]?.getD undef = .int .i64 (P * x) := evalD ((hF.from_ 7 19 rfl (by decide)))
          have h1 : a.tmps[27]?.getD undef = .int .i64 (Q * y) := evalD ((hF.from_ 15 27 rfl (by decide)))
          refine Ran.value rfl (v := .agg #[.int .i64 (P * x), .int .i64 (Q * y)]) (w1 := wa) ?_ ⟨rfl, Ext.refl _⟩
          go_simp
        | k + 17, hin => omega
      case hQ =>
        intro vs w2 hE hΦ
        have f0 : vs 0 = .pointer (some ⟨pb, 0, none⟩) := hΦ 0 (by omega)
        have f1 : vs 1 = .int .i64 P := hΦ 1 (by omega)
        have f2 : vs 2 = .slice (some ⟨tb, to, none⟩) len c := hΦ 2 (by omega)
        have f3 : vs 3 = .int .i64 (k : Int) := hΦ 3 (by omega)
        have f4 : vs 4 = .pointer (some ⟨tb, to + k * 2, none⟩) := hΦ 4 (by omega)
        have f5 : vs 5 = .pointer (some ⟨tb, to + k * 2, none⟩) := hΦ 5 (by omega)
        have f6 : vs 6 = .int .i64 x := hΦ 6 (by omega)
        have f7 : vs 7 = .int .i64 (P * x) := hΦ 7 (by omega)
        have f8 : vs 8 = .pointer (some ⟨pb, 1, none⟩) := hΦ 8 (by omega)
        have f9 : vs 9 = .int .i64 Q := hΦ 9 (by omega)
        have f10 : vs 10 = .slice (some ⟨tb, to, none⟩) len c := hΦ 10 (by omega)
        have f11 : vs 11 = .int .i64 (k : Int) := hΦ 11 (by omega)
        have f12 : vs 12 = .pointer (some ⟨tb, to + k * 2, none⟩) := hΦ 12 (by omega)
        have f13 : vs 13 = .pointer (some ⟨tb, to + k * 2 + 1, none⟩) := hΦ 13 (by omega)
        have f14 : vs 14 = .int .i64 y := hΦ 14 (by omega)
        have f15 : vs 15 = .int .i64 (Q * y) := hΦ 15 (by omega)
        have f16 : vs 16 = .agg #[.int .i64 (P * x), .int .i64 (Q * y)] := hΦ 16 (by omega)
        have hrg : List.range 17 = [0, 1, 2, 3, 4, 5, 6, 7, 8, 9, 10, 11, 12, 13, 14, 15, 16] := rfl
        unfold putAll putS
        simp only [List.length_cons, List.length_nil, List.take_succ_cons, List.take_zero, List.drop_succ_cons, List.drop_zero, Nat.reduceAdd, hrg, List.foldl_cons, List.foldl_nil, dstOf, List.getElem?_cons_succ, List.getElem?_cons_zero, Option.bind_some]
        clear hrg
        rw [f0, f1, f2, f3, f4, f5, f6, f7, f8, f9, f10, f11, f12, f13, f14, f15, f16]
        simp only [Act.put, List.setIfInBounds_toArray, List.set_cons_succ, List.set_cons_zero]
        have HB2 := Lib.hid (HB.out.ext hE)
        have HA2 := Lib.hid (HA.out.ext hE)
        have HE2 := Lib.hid (HE.out.trans hE)
        clear hΦ f0 f1 f2 f3 f4 f5 f6 f7 f8 f9 f10 f11 f12 f13 f14 f15 f16 hE
        have b2 := HB2.out.cell
        have fz := HB2.out.free
        go_wp2_with fail
        refine ⟨⟨k + 1, by omega, by go_num, ?_, ?_, ?_⟩, by simp [intOf]; omega⟩
        · rw [HT2.out.1, HT2.out.2]; exact ((HB2.out.set_ 0 (.int .i64 (P * x))).set_ 1 (.int .i64 (Q * y)))
        · exact ((HA2.out.far (p := ⟨pb, 0, none⟩) (by have := HPB.out; simp; omega) _).far (p := ⟨pb, 1, none⟩) (by have := HPB.out; simp; omega) _)
        · exact (HE2.out.setCell (p := ⟨pb, 0, none⟩) (by have := HPA.out; have := HPB.out; simp; omega) _).setCell (p := ⟨pb, 1, none⟩) (by have := HPA.out; have := HPB.out; simp; omega) _
    · obtain rfl : k = l.length := by omega
      rw [List.take_length] at HB
      have hp := HK.out.prods
      obtain ⟨N, hN⟩ := Int.eq_ofNat_of_zero_le (show 0 ≤ Ec.drivesP l by omega)
      obtain ⟨D, hD⟩ := Int.eq_ofNat_of_zero_le (show 0 ≤ Ec.drivenP l by omega)
      have HQ := Lib.hid (turns_nat hN hD)
      rw [hN, hD] at hp HB
      clear h2 hE hN hD
      have b2 := HB.out.cell
      go_wp2_with fail
      refine (r1_Reduced_any N D wr (by omega) (by omega) (by omega)).mono ?_
      rintro e W ⟨rfl, hE1⟩
      rw [HQ.out.1, HQ.out.2]
      have HR := Lib.hid (HA.out.ext hE1)
      have HE1 := Lib.hid (HE.out.trans hE1)
      clear b2 hE1
      have c2 := HR.out.cell
      have fz := HR.out.free
      go_wp2_with fail
      refine bodyPost_ret (results_cell_row rfl _ _ pa 43 _ (0, 0) _ rfl ((HR.out.set_ 0 (.int .i64 (Ec.turnsN l))).set_ 1 (.int .i64 (Ec.turnsD l))) Tryz.underlying43 rfl (by kernel_rfl)) rfl ?_
      exact ⟨rfl, (HE1.out.setCell (p := ⟨pa, 0, none⟩) (by have := HPA.out; have := HPB.out; simp; omega) _).setCell (p := ⟨pa, 1, none⟩) (by have := HPA.out; have := HPB.out; simp; omega) _⟩
end Go.Proofs.YtcbodpnmndbgnaaGreatDoor
namespace Go.Proofs.YtcbodpnmndbgnaaGreatDoor
open Go.RowKit
open Sp (rd)
set_option maxRecDepth 100000
set_option maxHeartbeats 2000000
set_option linter.unusedVariables false
theorem off_bounds {N D num den turns : Int} (n1 : 1 ≤ N ∧ N ≤ 216000) (d1 : 1 ≤ D ∧ D ≤ 216000) (h1 : 1 ≤ num ∧ num ≤ 10000) (h3 : 1 ≤ den ∧ den ≤ 10000) (h5 : -20000 ≤ turns ∧ turns ≤ 20000) :
    ((0 ≤ N * den ∧ N * den ≤ 2160000000) ∧ (0 ≤ num * D ∧ num * D ≤ 2160000000)) ∧ (-43200000000000 ≤ (N * den - num * D) * turns ∧ (N * den - num * D) * turns ≤ 43200000000000) ∧ (0 ≤ D * den ∧ D * den ≤ 2160000000) := by
  have p1 := mul_bounds0 (a := N) (b := den) (A := 216000) (B := 10000) (by omega) (by omega) (by omega) (by omega)
  have p2 := mul_bounds0 (a := num) (b := D) (A := 10000) (B := 216000) (by omega) (by omega) (by omega) (by omega)
  have p3 := mul_bounds0 (a := D) (b := den) (A := 216000) (B := 10000) (by omega) (by omega) (by omega) (by omega)
  refine ⟨⟨by omega, by omega⟩, ?_, by omega⟩
  rcases Int.le_total 0 turns with h | h
  · have := mul_bounds (a := N * den - num * D) (b := turns) (A := 2160000000) (B := 20000) (by omega) (by omega) h (by omega)
    omega
  · have := mul_bounds (a := N * den - num * D) (b := -turns) (A := 2160000000) (B := 20000) (by omega) (by omega) (by omega) (by omega)
    rw [Int.mul_neg] at this
    omega
theorem r1_off_any (A : Option Addr) (c : Nat) (l : List Ec.Pair) (num den turns : Int) (w : World) (hm : Pairs w A l) (hK : TrainOk l) (h1 : 1 ≤ num ∧ num ≤ 10000) (h3 : 1 ≤ den ∧ den ≤ 10000) (h5 : -20000 ≤ turns ∧ turns ≤ 20000) :
    Calls Tryz.prog 132 #[.slice A l.length c, .agg #[.int .i64 num, .int .i64 den], .int .i64 turns] w fun e w' => e = .returned (.tuple #[.int .i64 (Ec.offN l num den turns), .int .i64 (Ec.turnsD l * den)]) ∧ Ext w w' := by
  obtain ⟨n1, d1⟩ := hK.turns
  have hB := off_bounds n1 d1 h1 h3 h5
  have HT := Lib.hid (fun W (h : Pairs W A l) => r1_Turns_any A c l W h hK)
  have hn3 := hK.n3
  have HM := Lib.hid hm
  rw [show Ec.offN l num den turns = (Ec.turnsN l * den - num * Ec.turnsD l) * turns * 21600 from rfl]
  obtain ⟨N, hN⟩ : ∃ N, Ec.turnsN l = N := ⟨_, rfl⟩
  obtain ⟨D, hD⟩ : ∃ D, Ec.turnsD l = D := ⟨_, rfl⟩
  rw [hN, hD] at HT hB ⊢
  clear hN hD hm hK n1 d1
  obtain ⟨⟨p1, p2⟩, p3, p4⟩ := hB
  go_enter Tryz.func132, Tryz.ntmps132
  go_wp2_with fail
  refine (HT.out _ (HM.out.ext ((Ext.refl w).alloc _))).mono ?_
  rintro e w1 ⟨rfl, hE1⟩
  have hE := ((Ext.refl w).alloc _).trans hE1
  have hr := (Row.new w 43 #[.int .i64 num, .int .i64 den]).ext hE1
  have j0 := lts hr.lt
  clear hE1
  have hr2 := Row.new w1 43 #[.int .i64 N, .int .i64 D]
  have hr1 := hr.alloc (.cells #[.int .i64 N, .int .i64 D] 43)
  have hEx := hE.alloc (.cells #[.int .i64 N, .int .i64 D] 43)
  have HR1 := Lib.hid hr1
  have HR2 := Lib.hid hr2
  have HEx := Lib.hid hEx
  clear hr1 hr2 hEx hr hE
  go_wp2_with fail
  generalize w1.alloc (.cells #[.int .i64 N, .int .i64 D] 43) = w2 at *
  have b1 := HR1.out.cell
  have b2 := HR2.out.cell
  go_quiet (fail)
  go_wp2_with fail
  go_ret2
  exact ⟨rfl, HEx.out.drewN _⟩
theorem r1_within_any (A : Option Addr) (c : Nat) (l : List Ec.Pair) (num den limit turns : Int) (w : World) (hm : Pairs w A l) (hK : TrainOk l) (h1 : 1 ≤ num ∧ num ≤ 10000) (h3 : 1 ≤ den ∧ den ≤ 10000) (h5 : -20000 ≤ turns ∧ turns ≤ 20000) (h7 : 0 ≤ limit ∧ limit ≤ 10800) :
    Calls Tryz.prog 75 #[.slice A l.length c, .agg #[.int .i64 num, .int .i64 den], .int .i64 limit, .int .i64 turns] w fun e w' => e = .returned (.bool (Ec.within l num den limit turns)) ∧ Ext w w' := by
  have HM := Lib.hid hm
  have hB := off_bounds hK.turns.1 hK.turns.2 h1 h3 h5
  have HO := Lib.hid (fun W (h : Pairs W A l) => r1_off_any A c l num den turns W h hK h1 h3 h5)
  rw [show Ec.within l num den limit turns = decide (max (Ec.offN l num den turns) (-Ec.offN l num den turns) ≤ limit * (Ec.turnsD l * den)) from rfl]
  have hO : -933120000000000000 ≤ Ec.offN l num den turns ∧ Ec.offN l num den turns ≤ 933120000000000000 := by unfold Ec.offN; omega
  have hn3 := hK.n3
  obtain ⟨O, hO1⟩ : ∃ O, Ec.offN l num den turns = O := ⟨_, rfl⟩
  obtain ⟨D, hD⟩ : ∃ D, Ec.turnsD l * den = D := ⟨_, rfl⟩
  have hD1 := hB.2.2
  rw [hO1] at hO HO ⊢
  rw [hD] at hD1 HO ⊢
  have p1 := mul_bounds0 (a := limit) (b := D) (A := 10800) (B := 2160000000) (by omega) (by omega) (by omega) (by omega)
  clear hO1 hD hm hK hB
  go_enter Tryz.func75, Tryz.ntmps75
  go_wp2_with fail
  have b0 := (Row.new w 43 #[.int .i64 num, .int .i64 den]).cell
  refine (HO.out _ (HM.out.ext ((Ext.refl w).alloc _))).mono ?_
  rintro e w1 ⟨rfl, hE1⟩
  have hE := ((Ext.refl w).alloc _).trans hE1
  clear b0 hE1
  go_wp2_with fail
  go_ret
  exact ⟨rfl, hE⟩
theorem prev_bounds {feasts set : List Int} (hf : Ec.feastsOk feasts = true) (hs : Ec.setOk feasts set = true) {k : Nat} (hk : k ≤ set.length) : 0 ≤ Ec.prevF feasts set k ∧ Ec.prevF feasts set k ≤ 10000 := by
  unfold Ec.prevF
  split
  · omega
  · have := feastOf_bounds hf hs (k := k - 1) (by omega); omega
theorem r1_Keeps_any (A Af At : Option Addr) (c cf ct : Nat) (l : List Ec.Pair) (feasts set : List Int) (num den limit until_ : Int) (w : World) (hm : Pairs w A l) (hf : Ints w Af feasts) (hs : Ints w At set)
    (c0 : Ec.trainOk l = true) (c1 : Ec.feastsOk feasts = true) (c2 : Ec.setOk feasts set = true) (h1 : 1 ≤ num ∧ num ≤ 10000) (h3 : 1 ≤ den ∧ den ≤ 10000) (h5 : 0 ≤ until_ ∧ until_ ≤ 10000) (h7 : 0 ≤ limit ∧ limit ≤ 10800) :
    Calls Tryz.prog 23 #[.slice A l.length c, .agg #[.int .i64 num, .int .i64 den], .int .i64 limit, .slice Af feasts.length cf, .slice At set.length ct, .int .i64 until_] w fun e w' => e = .returned (.bool (Ec.keeps l num den limit feasts set until_)) ∧ Ext w w' := by
  have hK := trainOk_of c0
  have hn3 := hK.n3
  have hf8 := (feasts_at c1).1
  have hs8 := set_len c1 c2
  have HSA := Lib.hid (set_at c2)
  have HFO := Lib.hid (fun k (hk : k < set.length) => feastOf_bounds c1 c2 hk)
  have HPB := Lib.hid (fun k (hk : k ≤ set.length) => prev_bounds c1 c2 hk)
  have HW := Lib.hid (fun (turns : Int) (h : -20000 ≤ turns ∧ turns ≤ 20000) W (hp : Pairs W A l) => r1_within_any A c l num den limit turns W hp hK h1 h3 h ⟨h7.1, h7.2⟩)
  have HM := Lib.hid hm
  have HF := Lib.hid hf
  have HT := Lib.hid hs
  have HKE : Hid (Ec.keeps l num den limit feasts set until_ = Ec.keepsGo l num den limit feasts set until_ 0 set.length) := Lib.hid rfl
  rw [HKE.out]
  clear hK hm hf hs HKE
  go_enter Tryz.func23, Tryz.ntmps23
  go_wp2_with fail
  have HR0 := Lib.hid (Row.new w 43 #[.int .i64 num, .int .i64 den])
  have HE0 : Hid (Ext w (w.alloc (.cells #[.int .i64 num, .int .i64 den] 43))) := Lib.hid ((Ext.refl w).alloc _)
  generalize w.alloc (.cells #[.int .i64 num, .int .i64 den] 43) = w0 at *
  go_loopw [13, 14] (fun x i wr => ∃ k : Nat, k ≤ set.length ∧ i = .int .i64 k ∧ x = .int .i64 (Ec.prevF feasts set k) ∧ Ec.keepsGo l num den limit feasts set until_ 0 set.length = Ec.keepsGo l num den limit feasts set until_ k (set.length - k) ∧ Ext w0 wr) (fun _ i _ => set.length - (intOf i).toNat)
  case atStart => exact ⟨0, Nat.zero_le _, rfl, rfl, rfl, Ext.refl _⟩
  case round =>
    obtain ⟨k, hk, rfl, rfl, hgo, hX⟩ := hrel
    have hpb := HPB.out k hk
    have HR := Lib.hid (HR0.out.ext hX)
    have HE := Lib.hid (HE0.out.trans hX)
    have HX := Lib.hid hX
    have HGO := Lib.hid hgo
    clear hX hgo
    have b0 := HR.out.cell
    obtain ⟨P, hP⟩ : ∃ P, Ec.prevF feasts set k = P := ⟨_, rfl⟩
    have HP := Lib.hid hP
    rw [hP] at hpb ⊢
    clear hP
    by_cases hlt : k < set.length
    · obtain ⟨bs, os, rfl, hcs⟩ := (HT.out.ext HE.out) (by omega)
      have hsk := HSA.out k hlt
      obtain ⟨bf, of, rfl, hcf⟩ := (HF.out.ext HE.out) (by omega)
      have ck := hcs k hlt
      have cf := hcf (rd set k).toNat (by omega)
      have hfo := HFO.out k hlt
      have HNX : Hid (Ec.prevF feasts set (k + 1) = rd feasts (rd set k).toNat) := Lib.hid rfl
      have HK1 : Hid (Ec.keepsGo l num den limit feasts set until_ k (set.length - k) = if rd feasts (rd set k).toNat < until_ then Ec.within l num den limit (rd feasts (rd set k).toNat - P) && Ec.keepsGo l num den limit feasts set until_ (k + 1) (set.length - (k + 1)) else Ec.within l num den limit (until_ - P)) := Lib.hid (by
        rw [show set.length - k = (set.length - (k + 1)) + 1 by omega, ← HP.out]; rfl)
      have hfo2 : 1 ≤ rd feasts (rd set k).toNat ∧ rd feasts (rd set k).toNat ≤ 10000 := hfo
      clear hcs hcf hfo
      obtain ⟨s, hs⟩ : ∃ s, rd set k = s := ⟨_, rfl⟩
      rw [hs] at hsk ck cf HNX HK1 hfo2
      obtain ⟨f, hf⟩ : ∃ f, rd feasts s.toNat = f := ⟨_, rfl⟩
      rw [hf] at cf HNX HK1 hfo2
      clear hs hf
      by_cases hle : f < until_
      · have HW2 := Lib.hid (fun W hp => HW.out (f - P) ⟨by omega, by omega⟩ W hp)
        cases hwi : Ec.within l num den limit (f - P)
        · rw [hwi] at HW2
          go_wp2_with fail
          refine wp_region_later (by kernel_rfl) (by kernel_rfl) (fun W hW => ?_)
          subst hW
          have q1 := fun X : Later W => (Row.ext HR.out X.ext).cell
          have q2 := fun X : Later W => X.ext.cell ck
          have q3 := fun X : Later W => X.ext.cell cf
          have HMX := Lib.hid (fun X : Later W => HM.out.ext (HE.out.trans X.ext))
          clear b0 ck cf
          repeat (go_big_quiet_step (fail))
          go_big_quiet_step ((go_at_call 75; exact Later.call (HW2.out _ (HMX.out _))))
          repeat (go_big_quiet_step (fail))
          refine wpQuiet_nil ?_
          rintro ⟨wz, hEz⟩
          dsimp only
          go_wp2_with fail
          go_ret
          exact ⟨ret_bool (by rw [HGO.out, HK1.out, if_pos hle, hwi]; rfl), HE.out.trans hEz⟩
        · rw [hwi] at HW2
          have ck0 := ck
          have cf0 := cf
          go_wp2_with fail
          refine wp_region_later (by kernel_rfl) (by kernel_rfl) (fun W hW => ?_)
          subst hW
          have q1 := fun X : Later W => (Row.ext HR.out X.ext).cell
          have q2 := fun X : Later W => X.ext.cell ck
          have q3 := fun X : Later W => X.ext.cell cf
          have HMX := Lib.hid (fun X : Later W => HM.out.ext (HE.out.trans X.ext))
          clear b0 ck cf ck0 cf0
          repeat (go_big_quiet_step (fail))
          go_big_quiet_step ((go_at_call 75; exact Later.call (HW2.out _ (HMX.out _))))
          repeat (go_big_quiet_step (fail))
          refine wpQuiet_nil ?_
          rintro ⟨wz, hEz⟩
          dsimp only
          have y1 := q2 ⟨wz, hEz⟩
          have y2 := q3 ⟨wz, hEz⟩
          dsimp only at y1 y2
          clear q1 q2 q3
          go_wp2_with fail
          refine ⟨⟨k + 1, by omega, by go_num, by rw [HNX.out], by rw [HGO.out, HK1.out, if_pos hle, hwi, Bool.true_and], HX.out.trans hEz⟩, by simp [intOf]; omega⟩
      · go_wp2_with fail
        refine (HW.out (until_ - P) ⟨by omega, by omega⟩ _ (HM.out.ext HE.out)).mono ?_
        rintro e w' ⟨rfl, hE'⟩
        clear b0 ck cf
        go_wp2_with fail
        go_ret
        exact ⟨ret_bool (by rw [HGO.out, HK1.out, if_neg (by omega)]), HE.out.trans hE'⟩
    · obtain rfl : k = set.length := by omega
      have HK1 : Hid (Ec.keepsGo l num den limit feasts set until_ set.length (set.length - set.length) = Ec.within l num den limit (until_ - P)) := Lib.hid (by rw [Nat.sub_self, ← HP.out]; rfl)
      go_wp2_with fail
      refine (HW.out (until_ - P) ⟨by omega, by omega⟩ _ (HM.out.ext HE.out)).mono ?_
      rintro e w' ⟨rfl, hE'⟩
      clear b0
      go_wp2_with fail
      go_ret
      exact ⟨ret_bool (by rw [HGO.out, HK1.out]), HE.out.trans hE'⟩
end Go.Proofs.YtcbodpnmndbgnaaGreatDoor
namespace Go.Proofs.YtcbodpnmndbgnaaGreatDoor
open Go.RowKit
open Sp (rd)
set_option maxRecDepth 100000
set_option maxHeartbeats 4000000
set_option linter.unusedVariables false
theorem new3 (W : World) (o1 o2 o3 : Obj) : Ext W (((W.alloc o1).alloc o2).alloc o3).drew := ((((Ext.refl W).alloc _).alloc _).alloc _).drew
end Go.Proofs.YtcbodpnmndbgnaaGreatDoor
namespace Go.Proofs.YtcbodpnmndbgnaaGreatDoor
open Go.RowKit
open Sp (rd)
/-- By how much the lead grows in a day, and how far moon and node go, as the law reckons them. -/
theorem never_nums {s : Sp.Sky} (hs : SkyOk s) (hm : Sp.isMonth s = true) : ∃ LD GO1 GO2 : Int,
    ((21600 * ((Sp.body s 1).den * (Sp.body s 0).num - (Sp.body s 0).den * (Sp.body s 1).num)).tdiv ((Sp.body s 1).num * (Sp.body s 0).num) = LD ∧ 0 ≤ LD ∧ LD ≤ 2160000000000 ∧ 1 ≤ (Sp.body s 1).num * (Sp.body s 0).num) ∧
    ((0 ≤ (Sp.body s 1).den * (Sp.body s 0).num ∧ (Sp.body s 1).den * (Sp.body s 0).num ≤ 100000000) ∧ (0 ≤ (Sp.body s 0).den * (Sp.body s 1).num ∧ (Sp.body s 0).den * (Sp.body s 1).num ≤ 100000000) ∧ 0 < (Sp.body s 1).den * (Sp.body s 0).num - (Sp.body s 0).den * (Sp.body s 1).num ∧ (Sp.body s 1).num * (Sp.body s 0).num ≤ 100000000) ∧
    ((21600 * (Sp.body s 1).den).tdiv (Sp.body s 1).num = GO1 ∧ (0 ≤ GO1 ∧ GO1 ≤ 216000000) ∧ (1 ≤ (Sp.body s 1).num ∧ (Sp.body s 1).num ≤ 10000) ∧ (1 ≤ (Sp.body s 1).den ∧ (Sp.body s 1).den ≤ 10000)) ∧
    ((21600 * s.nden).tdiv s.nnum = GO2 ∧ (0 ≤ GO2 ∧ GO2 ≤ 216000000) ∧ (1 ≤ s.nnum ∧ s.nnum ≤ 10000) ∧ (1 ≤ s.nden ∧ s.nden ≤ 10000)) ∧
    Ec.leadStep s = LD ∧ Ec.goesStep s = GO1 + GO2 + 2 := by
  have n2 := hs.n2
  have g0 : BodyOk (Sp.body s 0) := hs.body (by omega) (by omega)
  have g1 : BodyOk (Sp.body s 1) := hs.body (by omega) (by omega)
  have a1 := g0.num1; have a2 := g0.num2; have a3 := g0.den1; have a4 := g0.den2
  have b1 := g1.num1; have b2 := g1.num2; have b3 := g1.den1; have b4 := g1.den2
  have c1 := hs.num1; have c2 := hs.num2; have c3 := hs.den1; have c4 := hs.den2
  have hD : 0 < Sp.monthDen s := of_decide_eq_true hm
  rw [show Sp.monthDen s = (Sp.body s 1).den * (Sp.body s 0).num - (Sp.body s 0).den * (Sp.body s 1).num from rfl] at hD
  have p1 := mul_bounds0 (a := (Sp.body s 1).den) (b := (Sp.body s 0).num) (A := 10000) (B := 10000) (by omega) (by omega) (by omega) (by omega)
  have p2 := mul_bounds0 (a := (Sp.body s 0).den) (b := (Sp.body s 1).num) (A := 10000) (B := 10000) (by omega) (by omega) (by omega) (by omega)
  have p3 := mul_bounds0 (a := (Sp.body s 1).num) (b := (Sp.body s 0).num) (A := 10000) (B := 10000) (by omega) (by omega) (by omega) (by omega)
  have p4 : 1 * 1 ≤ (Sp.body s 1).num * (Sp.body s 0).num := Int.mul_le_mul (by omega) (by omega) (by omega) (by omega)
  have q0 := Int.ediv_nonneg (a := 21600 * ((Sp.body s 1).den * (Sp.body s 0).num - (Sp.body s 0).den * (Sp.body s 1).num)) (b := (Sp.body s 1).num * (Sp.body s 0).num) (by omega) (by omega)
  have q1 := Int.ediv_le_self (a := 21600 * ((Sp.body s 1).den * (Sp.body s 0).num - (Sp.body s 0).den * (Sp.body s 1).num)) ((Sp.body s 1).num * (Sp.body s 0).num) (by omega)
  have r0 := Int.ediv_nonneg (a := 21600 * (Sp.body s 1).den) (b := (Sp.body s 1).num) (by omega) (by omega)
  have r1 := Int.ediv_le_self (a := 21600 * (Sp.body s 1).den) (Sp.body s 1).num (by omega)
  have t0 := Int.ediv_nonneg (a := 21600 * s.nden) (b := s.nnum) (by omega) (by omega)
  have t1 := Int.ediv_le_self (a := 21600 * s.nden) s.nnum (by omega)
  refine ⟨_, _, _, ⟨Int.tdiv_eq_ediv_of_nonneg (by omega), q0, by omega, by omega⟩, ⟨by omega, by omega, hD, by omega⟩, ⟨Int.tdiv_eq_ediv_of_nonneg (by omega), by omega, by omega, by omega⟩, ⟨Int.tdiv_eq_ediv_of_nonneg (by omega), by omega, by omega, by omega⟩, rfl, rfl⟩
end Go.Proofs.YtcbodpnmndbgnaaGreatDoor
namespace Go.Proofs.YtcbodpnmndbgnaaGreatDoor
open Go.RowKit
open Sp (rd)
set_option maxRecDepth 100000
set_option maxHeartbeats 2000000
set_option linter.unusedVariables false
theorem all_zero {l : List Int} (h : ∀ q, q < l.length → rd l q = 0) : (l.all fun n => n == 0) = true := by
  rw [List.all_eq_true]
  intro x hx
  obtain ⟨q, hq, rfl⟩ := List.mem_iff_getElem.1 hx
  have := h q hq
  simpa [rd, hq] using this
theorem not_zero {l : List Int} {q : Nat} (h : rd l q ≠ 0) : (l.all fun n => n == 0) = false := by
  rw [← Bool.not_eq_true]
  intro h2
  exact h (Ec.rd_zero h2 q)
theorem even_no {s : Sp.Sky} {k : Nat} (hk : k < 2) (h : ((bd s.bodies k).road.all fun n => n == 0) = false) : Ec.evenB s = false := by
  unfold Ec.evenB
  rcases (show k = 0 ∨ k = 1 by omega) with rfl | rfl
  · rw [show Sp.body s 0 = bd s.bodies 0 from rfl, h]; rfl
  · rw [show Sp.body s 1 = bd s.bodies 1 from rfl, h, Bool.and_false]
theorem l7_even_any (s : Sp.Sky) (A : Option Addr) (c : Nat) (w : World) (hm : Bodies w A s.bodies) (hn : 2 ≤ s.bodies.length) (hn2 : s.bodies.length ≤ 100000) (hr : ∀ k, k < s.bodies.length → (bd s.bodies k).road.length ≤ 100000) :
    Calls Tryz.prog 47 #[.agg #[.slice A s.bodies.length c, .int .i64 s.nnum, .int .i64 s.nden, .int .i64 s.nstart]] w fun e w' => e = .returned (.bool (Ec.evenB s)) ∧ Ext w w' := by
  have HM := Lib.hid hm
  have HRL := Lib.hid hr
  clear hm hr
  go_enter Tryz.func47, Tryz.ntmps47
  go_wp2_with fail
  have hr0 := Row.new w 28 #[.slice A s.bodies.length c, .int .i64 s.nnum, .int .i64 s.nden, .int .i64 s.nstart]
  have hE0 : Ext w (w.alloc (.cells #[.slice A s.bodies.length c, .int .i64 s.nnum, .int .i64 s.nden, .int .i64 s.nstart] 28)) := (Ext.refl w).alloc _
  generalize w.alloc (.cells #[.slice A s.bodies.length c, .int .i64 s.nnum, .int .i64 s.nden, .int .i64 s.nstart] 28) = w1 at *
  have HR0 := Lib.hid hr0
  clear hr0
  go_loopw [3] (fun i wr => ∃ k : Nat, k ≤ 2 ∧ i = .int .i64 k ∧ (∀ j, j < k → ((bd s.bodies j).road.all fun n => n == 0) = true) ∧ w1 = wr) (fun i _ => Nat.sub 2 (intOf i).toNat)
  case atStart => exact ⟨0, by omega, rfl, fun j hj => by omega, rfl⟩
  case round =>
    obtain ⟨k, hk, rfl, hall, rfl⟩ := hrel
    have HALL := Lib.hid hall
    clear hall
    have b0 := HR0.out.cell
    by_cases hlt : k < 2
    · obtain ⟨b, o, rfl, hB⟩ := HM.out (by omega)
      have HB := (hB k (by omega)).ext hE0
      have hrl := HRL.out k (by omega)
      have HNO := Lib.hid (fun h => even_no (s := s) hlt h)
      have HYES := Lib.hid (fun (h : ((bd s.bodies k).road.all fun n => n == 0) = true) => (fun j (hj : j < k + 1) => (if hjk : j = k then by rw [hjk]; exact h else HALL.out j (by omega)) : ∀ j, j < k + 1 → ((bd s.bodies j).road.all fun n => n == 0) = true))
      clear hB
      have hkl : k < s.bodies.length := by omega
      obtain ⟨B, hBd⟩ : ∃ B, bd s.bodies k = B := ⟨_, rfl⟩
      rw [hBd] at HB hrl HNO HYES
      clear hBd
      obtain ⟨A1, r1, q3, I1⟩ := HB.road
      have HI := Lib.hid I1
      clear HB I1
      go_wp2_with fail
      go_loopw [4] (fun j ws => ∃ m : Nat, m ≤ B.road.length ∧ j = .int .i64 m ∧ (∀ q, q < m → rd B.road q = 0) ∧ w1 = ws) (fun j _ => B.road.length - (intOf j).toNat)
      case atStart => exact ⟨0, Nat.zero_le _, rfl, fun q hq => by omega, rfl⟩
      case round =>
        obtain ⟨m, hm2, rfl, hz, rfl⟩ := hrel
        have HZ := Lib.hid hz
        clear hz
        by_cases hml : m < B.road.length
        · obtain ⟨b1, o1, rfl, hc⟩ := HI.out (by omega)
          have a1 := hc m hml
          have HNZ := Lib.hid (fun h => not_zero (l := B.road) (q := m) h)
          have HZ2 := Lib.hid (fun (h : rd B.road m = 0) => (fun q (hq : q < m + 1) => (if hqm : q = m then by rw [hqm]; exact h else HZ.out q (by omega)) : ∀ q, q < m + 1 → rd B.road q = 0))
          clear hc
          obtain ⟨x, hx⟩ : ∃ x, rd B.road m = x := ⟨_, rfl⟩
          rw [hx] at a1 HNZ HZ2
          clear hx
          by_cases hx0 : x = 0
          · have HZ3 := Lib.hid (HZ2.out hx0)
            subst hx0
            go_wp2_with fail
            refine ⟨⟨m + 1, by omega, by go_num, HZ3.out, trivial⟩, by simp [intOf]; omega⟩
          · have hNE := HNO.out (HNZ.out hx0)
            have HNE := Lib.hid hNE
            clear hNE
            go_wp2_with fail
            go_ret
            exact ⟨ret_bool (by rw [HNE.out]), hE0⟩
        · obtain rfl : m = B.road.length := by omega
          have HA := Lib.hid (HYES.out (all_zero HZ.out))
          go_wp2_with fail
          refine ⟨⟨k + 1, by omega, by go_num, HA.out, trivial⟩, by simp [intOf]; omega⟩
    · obtain rfl : k = 2 := by omega
      have HE := Lib.hid (show Ec.evenB s = true by unfold Ec.evenB; rw [show Sp.body s 0 = bd s.bodies 0 from rfl, show Sp.body s 1 = bd s.bodies 1 from rfl, HALL.out 0 (by omega), HALL.out 1 (by omega)]; rfl)
      go_wp2_with fail
      go_ret
      exact ⟨ret_bool (by rw [HE.out]), hE0⟩
end Go.Proofs.YtcbodpnmndbgnaaGreatDoor
