/- The walk of the law EclipseBigger. (Printed by wip/mkblaws.py.) -/
import Derived.Carry
import Derived.BigQuiet
import Derived.Test.YtfkcbgehcbhjnaaGreatDoorH14
import Derived.Test.YtfkcbgehcbhjnaaGreatDoorH04
namespace Go.Proofs.YtfkcbgehcbhjnaaGreatDoor
open Go.RowKit
open Sp (rd)
set_option linter.unusedSimpArgs false
set_option linter.unusedVariables false

def bigΦ (l : List Ec.Ball) (c k bb o : Nat) (x y r more : Int) (w0 : World) (i : Nat) (v : Value) (w : World) : Prop :=
  match i with
  | 0 => v = .slice (some ⟨bb, o, none⟩) l.length c
  | 1 => v = .int .i64 (k : Int)
  | 2 => v = .slice (some ⟨bb, o, none⟩) l.length c
  | 3 => v = .int .i64 (k : Int)
  | 4 => v = .pointer (some ⟨bb, o + k * 3, none⟩)
  | 5 => v = .pointer (some ⟨bb, o + k * 3, none⟩)
  | 6 => v = .int .i64 x
  | 7 => v = .slice (some ⟨bb, o, none⟩) l.length c
  | 8 => v = .int .i64 (k : Int)
  | 9 => v = .pointer (some ⟨bb, o + k * 3, none⟩)
  | 10 => v = .pointer (some ⟨bb, o + k * 3 + 1, none⟩)
  | 11 => v = .int .i64 y
  | 12 => v = .slice (some ⟨bb, o, none⟩) l.length c
  | 13 => v = .int .i64 (k : Int)
  | 14 => v = .pointer (some ⟨bb, o + k * 3, none⟩)
  | 15 => v = .pointer (some ⟨bb, o + k * 3 + 2, none⟩)
  | 16 => v = .int .i64 r
  | 17 => v = .int .i64 more
  | 18 => v = .int .i64 (r + more)
  | _ => v = .agg #[.int .i64 x, .int .i64 y, .int .i64 (r + more)]
theorem bigΦ_mono {l : List Ec.Ball} {c k bb o : Nat} {x y r more : Int} {w0 : World} (i : Nat) (v : Value) (w w' : World) (h : bigΦ l c k bb o x y r more w0 i v w) (he : Ext w w') : bigΦ l c k bb o x y r more w0 i v w' := by
  unfold bigΦ at h ⊢
  split at h <;> first
    | exact h
    | exact MkAt.ext h he
    | exact fun hg => MkAt.ext (h hg) he

set_option maxRecDepth 100000 in
set_option maxHeartbeats 8000000 in
theorem law_EclipseBigger (l : List Ec.Ball) (A : Option Addr) (c : Nat) (one other more : Int) (w : World) (hV : Env w) (hm : BallsAt w A l) (hc : l.length ≤ c) :
    Calls Tryz.prog 8 #[.slice A l.length c, .int .i64 one, .int .i64 other, .int .i64 more] w fun r w' => r = .returned (.bool true) ∧ Ext w w' := by
  have HM := Lib.hid hm
  have HV := Lib.hid hV
  have HC := Lib.hid hc
  have HE0 : Hid (Ext w w) := Lib.hid (Ext.refl w)
  clear hm hV hc
  go_enter Tryz.func8, Tryz.ntmps8
  by_cases h8 : 8 < l.length
  case pos =>
    have h8' : (8 : Int) < (l.length : Int) := by omega
    have hd8 : decide ((8 : Int) < (l.length : Int)) = true := decide_eq_true h8'
    go_wp2_with fail
    refine wp_region_later (by kernel_rfl) (by kernel_rfl) (fun W hW => ?_)
    have hX0 : Ext w W := by rw [hW]; first | exact Ext.refl _ | exact (Ext.refl _).drewN _
    clear hW
    have HX0 := Lib.hid hX0
    have HLX := Lib.hid (fun X : Later W => HE0.out.trans (HX0.out.trans X.ext))
    clear hX0
    repeat (go_big_quiet_step (fail))
    refine wpQuiet_nil ?_
    rintro ⟨w1, hEz⟩
    dsimp only
    have hE1 := HX0.out.trans hEz
    clear hEz HLX HX0 
    have HE1 := Lib.hid (HE0.out.trans hE1)
    clear hE1
    go_wp2_with fail
    refine (l7_known_any w1 (HV.out.ext HE1.out)).mono ?_
    rintro r w2 ⟨rfl, hE2⟩
    go_wp2_with fail
    go_ret
    exact ⟨rfl, HE1.out.trans hE2⟩
  case neg =>
    have h8' : ¬ (8 : Int) < (l.length : Int) := by omega
    have h9 : l.length ≤ 1000 := by omega
    have hd8 : decide ((8 : Int) < (l.length : Int)) = false := decide_eq_false h8'
    cases c0 : Ec.ballsOk l with
    | false =>
      go_wp2_with fail
      refine wp_region_later (by kernel_rfl) (by kernel_rfl) (fun W hW => ?_)
      have hX0 : Ext w W := by rw [hW]; first | exact Ext.refl _ | exact (Ext.refl _).drewN _
      clear hW
      have HX0 := Lib.hid hX0
      have HLX := Lib.hid (fun X : Later W => HE0.out.trans (HX0.out.trans X.ext))
      clear hX0
      repeat (go_big_quiet_step (fail))
      go_big_quiet_step ((go_at_call 20; exact Later.call (r7_Balls_ext l _ c false _ (HM.out.ext (HLX.out _)) h9 c0)))
      repeat (go_big_quiet_step (fail))
      refine wpQuiet_nil ?_
      rintro ⟨w1, hEz⟩
      dsimp only
      have hE1 := HX0.out.trans hEz
      clear hEz HLX HX0 
      have HE1 := Lib.hid (HE0.out.trans hE1)
      clear hE1
      go_wp2_with fail
      refine (l7_known_any w1 (HV.out.ext HE1.out)).mono ?_
      rintro r w2 ⟨rfl, hE2⟩
      go_wp2_with fail
      go_ret
      exact ⟨rfl, HE1.out.trans hE2⟩
    | true =>
      cases c1 : Ec.isBall l one with
      | false =>
        go_wp2_with fail
        refine wp_region_later (by kernel_rfl) (by kernel_rfl) (fun W hW => ?_)
        have hX0 : Ext w W := by rw [hW]; first | exact Ext.refl _ | exact (Ext.refl _).drewN _
        clear hW
        have HX0 := Lib.hid hX0
        have HLX := Lib.hid (fun X : Later W => HE0.out.trans (HX0.out.trans X.ext))
        clear hX0
        repeat (go_big_quiet_step (fail))
        go_big_quiet_step ((go_at_call 20; exact Later.call (r7_Balls_ext l _ c true _ (HM.out.ext (HLX.out _)) h9 c0)))
        repeat (go_big_quiet_step (fail))
        go_big_quiet_step ((go_at_call 23; exact Later.call (r7_Ball_ext l _ c one false _ h9 c1)))
        repeat (go_big_quiet_step (fail))
        refine wpQuiet_nil ?_
        rintro ⟨w1, hEz⟩
        dsimp only
        have hE1 := HX0.out.trans hEz
        clear hEz HLX HX0 
        have HE1 := Lib.hid (HE0.out.trans hE1)
        clear hE1
        go_wp2_with fail
        refine (l7_known_any w1 (HV.out.ext HE1.out)).mono ?_
        rintro r w2 ⟨rfl, hE2⟩
        go_wp2_with fail
        go_ret
        exact ⟨rfl, HE1.out.trans hE2⟩
      | true =>
        cases c2 : Ec.isBall l other with
        | false =>
          go_wp2_with fail
          refine wp_region_later (by kernel_rfl) (by kernel_rfl) (fun W hW => ?_)
          have hX0 : Ext w W := by rw [hW]; first | exact Ext.refl _ | exact (Ext.refl _).drewN _
          clear hW
          have HX0 := Lib.hid hX0
          have HLX := Lib.hid (fun X : Later W => HE0.out.trans (HX0.out.trans X.ext))
          clear hX0
          repeat (go_big_quiet_step (fail))
          go_big_quiet_step ((go_at_call 20; exact Later.call (r7_Balls_ext l _ c true _ (HM.out.ext (HLX.out _)) h9 c0)))
          repeat (go_big_quiet_step (fail))
          go_big_quiet_step ((go_at_call 23; exact Later.call (r7_Ball_ext l _ c one true _ h9 c1)))
          repeat (go_big_quiet_step (fail))
          go_big_quiet_step ((go_at_call 23; exact Later.call (r7_Ball_ext l _ c other false _ h9 c2)))
          repeat (go_big_quiet_step (fail))
          refine wpQuiet_nil ?_
          rintro ⟨w1, hEz⟩
          dsimp only
          have hE1 := HX0.out.trans hEz
          clear hEz HLX HX0 
          have HE1 := Lib.hid (HE0.out.trans hE1)
          clear hE1
          go_wp2_with fail
          refine (l7_known_any w1 (HV.out.ext HE1.out)).mono ?_
          rintro r w2 ⟨rfl, hE2⟩
          go_wp2_with fail
          go_ret
          exact ⟨rfl, HE1.out.trans hE2⟩
        | true =>
          by_cases h3 : one = other
          case pos =>
            subst h3
            have hkk : (one == one) = true := by simp
            go_wp2_with fail
            refine wp_region_later (by kernel_rfl) (by kernel_rfl) (fun W hW => ?_)
            have hX0 : Ext w W := by rw [hW]; first | exact Ext.refl _ | exact (Ext.refl _).drewN _
            clear hW
            have HX0 := Lib.hid hX0
            have HLX := Lib.hid (fun X : Later W => HE0.out.trans (HX0.out.trans X.ext))
            clear hX0
            repeat (go_big_quiet_step (fail))
            go_big_quiet_step ((go_at_call 20; exact Later.call (r7_Balls_ext l _ c true _ (HM.out.ext (HLX.out _)) h9 c0)))
            repeat (go_big_quiet_step (fail))
            go_big_quiet_step ((go_at_call 23; exact Later.call (r7_Ball_ext l _ c one true _ h9 c1)))
            repeat (go_big_quiet_step (fail))
            go_big_quiet_step ((go_at_call 23; exact Later.call (r7_Ball_ext l _ c one true _ h9 c1)))
            repeat (go_big_quiet_step (fail))
            refine wpQuiet_nil ?_
            rintro ⟨w1, hEz⟩
            dsimp only
            have hE1 := HX0.out.trans hEz
            clear hEz HLX HX0 
            have HE1 := Lib.hid (HE0.out.trans hE1)
            clear hE1
            go_wp2_with fail
            refine (l7_known_any w1 (HV.out.ext HE1.out)).mono ?_
            rintro r w2 ⟨rfl, hE2⟩
            go_wp2_with fail
            go_ret
            exact ⟨rfl, HE1.out.trans hE2⟩
          case neg =>
            obtain ⟨k, rfl, hk⟩ := isBall_nat c1
            obtain ⟨j, rfl, hj⟩ := isBall_nat c2
            have hkj : ((k : Int) == (j : Int)) = false := beq_eq_false_iff_ne.2 h3
            have hBk := ballsS_of c0 k hk
            have hBj := ballsS_of c0 j hj
            have hb0 : 0 < l.length := by omega
            obtain ⟨bb, o, hA, hcell⟩ := HM.out hb0
            subst hA
            have HCk := Lib.hid (hcell k hk)
            have HCj := Lib.hid (hcell j hj)
            clear hcell hb0
            have hk1 : (k : Int) < (l.length : Int) := by omega
            have hk0 : (0 : Int) ≤ (k : Int) := by omega
            have hj1 : (j : Int) < (l.length : Int) := by omega
            have hj0 : (0 : Int) ≤ (j : Int) := by omega
            cases hbf : decide (Ec.power (Ec.ballAt l k) < Ec.power (Ec.ballAt l j)) with
            | false =>
              go_wp2_with fail
              refine wp_region_later (by kernel_rfl) (by kernel_rfl) (fun W hW => ?_)
              have hX0 : Ext w W := by rw [hW]; first | exact Ext.refl _ | exact (Ext.refl _).drewN _
              clear hW
              have HX0 := Lib.hid hX0
              have HLX := Lib.hid (fun X : Later W => HE0.out.trans (HX0.out.trans X.ext))
              clear hX0
              have u0 := fun X : Later W => (HLX.out X).cell HCk.out.1
              have u1 := fun X : Later W => (HLX.out X).cell HCk.out.2.1
              have u2 := fun X : Later W => (HLX.out X).cell HCk.out.2.2
              have u3 := fun X : Later W => (HLX.out X).cell HCj.out.1
              have u4 := fun X : Later W => (HLX.out X).cell HCj.out.2.1
              have u5 := fun X : Later W => (HLX.out X).cell HCj.out.2.2
              repeat (go_big_quiet_step (fail))
              go_big_quiet_step ((go_at_call 20; exact Later.call (r7_Balls_ext l _ c true _ (HM.out.ext (HLX.out _)) h9 c0)))
              repeat (go_big_quiet_step (fail))
              go_big_quiet_step ((go_at_call 23; exact Later.call (r7_Ball_ext l _ c (k : Int) true _ h9 c1)))
              repeat (go_big_quiet_step (fail))
              go_big_quiet_step ((go_at_call 23; exact Later.call (r7_Ball_ext l _ c (j : Int) true _ h9 c2)))
              repeat (go_big_quiet_step (fail))
              go_big_quiet_step ((go_at_call 26; exact Later.call (r7_Before_ext (Ec.ballAt l k) (Ec.ballAt l j) false _ hBk hBj hbf)))
              repeat (go_big_quiet_step (fail))
              refine wpQuiet_nil ?_
              rintro ⟨w1, hEz⟩
              dsimp only
              have hE1 := HX0.out.trans hEz
              clear hEz HLX HX0 u0 u1 u2 u3 u4 u5
              have HE1 := Lib.hid (HE0.out.trans hE1)
              clear hE1
              go_wp2_with fail
              refine (l7_known_any w1 (HV.out.ext HE1.out)).mono ?_
              rintro r w2 ⟨rfl, hE2⟩
              go_wp2_with fail
              go_ret
              exact ⟨rfl, HE1.out.trans hE2⟩
            | true =>
              by_cases m0 : more < 0
              case pos =>
                have hdm : decide (more < 0) = true := decide_eq_true m0
                go_wp2_with fail
                refine wp_region_later (by kernel_rfl) (by kernel_rfl) (fun W hW => ?_)
                have hX0 : Ext w W := by rw [hW]; first | exact Ext.refl _ | exact (Ext.refl _).drewN _
                clear hW
                have HX0 := Lib.hid hX0
                have HLX := Lib.hid (fun X : Later W => HE0.out.trans (HX0.out.trans X.ext))
                clear hX0
                have u0 := fun X : Later W => (HLX.out X).cell HCk.out.1
                have u1 := fun X : Later W => (HLX.out X).cell HCk.out.2.1
                have u2 := fun X : Later W => (HLX.out X).cell HCk.out.2.2
                have u3 := fun X : Later W => (HLX.out X).cell HCj.out.1
                have u4 := fun X : Later W => (HLX.out X).cell HCj.out.2.1
                have u5 := fun X : Later W => (HLX.out X).cell HCj.out.2.2
                repeat (go_big_quiet_step (fail))
                go_big_quiet_step ((go_at_call 20; exact Later.call (r7_Balls_ext l _ c true _ (HM.out.ext (HLX.out _)) h9 c0)))
                repeat (go_big_quiet_step (fail))
                go_big_quiet_step ((go_at_call 23; exact Later.call (r7_Ball_ext l _ c (k : Int) true _ h9 c1)))
                repeat (go_big_quiet_step (fail))
                go_big_quiet_step ((go_at_call 23; exact Later.call (r7_Ball_ext l _ c (j : Int) true _ h9 c2)))
                repeat (go_big_quiet_step (fail))
                go_big_quiet_step ((go_at_call 26; exact Later.call (r7_Before_ext (Ec.ballAt l k) (Ec.ballAt l j) true _ hBk hBj hbf)))
                repeat (go_big_quiet_step (fail))
                refine wpQuiet_nil ?_
                rintro ⟨w1, hEz⟩
                dsimp only
                have hE1 := HX0.out.trans hEz
                clear hEz HLX HX0 u0 u1 u2 u3 u4 u5
                have HE1 := Lib.hid (HE0.out.trans hE1)
                clear hE1
                go_wp2_with fail
                refine (l7_known_any w1 (HV.out.ext HE1.out)).mono ?_
                rintro r w2 ⟨rfl, hE2⟩
                go_wp2_with fail
                go_ret
                exact ⟨rfl, HE1.out.trans hE2⟩
              case neg =>
                have hdm : decide (more < 0) = false := decide_eq_false m0
                by_cases m1 : 20 < more
                case pos =>
                  have hdn : decide (20 < more) = true := decide_eq_true m1
                  go_wp2_with fail
                  refine wp_region_later (by kernel_rfl) (by kernel_rfl) (fun W hW => ?_)
                  have hX0 : Ext w W := by rw [hW]; first | exact Ext.refl _ | exact (Ext.refl _).drewN _
                  clear hW
                  have HX0 := Lib.hid hX0
                  have HLX := Lib.hid (fun X : Later W => HE0.out.trans (HX0.out.trans X.ext))
                  clear hX0
                  have u0 := fun X : Later W => (HLX.out X).cell HCk.out.1
                  have u1 := fun X : Later W => (HLX.out X).cell HCk.out.2.1
                  have u2 := fun X : Later W => (HLX.out X).cell HCk.out.2.2
                  have u3 := fun X : Later W => (HLX.out X).cell HCj.out.1
                  have u4 := fun X : Later W => (HLX.out X).cell HCj.out.2.1
                  have u5 := fun X : Later W => (HLX.out X).cell HCj.out.2.2
                  repeat (go_big_quiet_step (fail))
                  go_big_quiet_step ((go_at_call 20; exact Later.call (r7_Balls_ext l _ c true _ (HM.out.ext (HLX.out _)) h9 c0)))
                  repeat (go_big_quiet_step (fail))
                  go_big_quiet_step ((go_at_call 23; exact Later.call (r7_Ball_ext l _ c (k : Int) true _ h9 c1)))
                  repeat (go_big_quiet_step (fail))
                  go_big_quiet_step ((go_at_call 23; exact Later.call (r7_Ball_ext l _ c (j : Int) true _ h9 c2)))
                  repeat (go_big_quiet_step (fail))
                  go_big_quiet_step ((go_at_call 26; exact Later.call (r7_Before_ext (Ec.ballAt l k) (Ec.ballAt l j) true _ hBk hBj hbf)))
                  repeat (go_big_quiet_step (fail))
                  refine wpQuiet_nil ?_
                  rintro ⟨w1, hEz⟩
                  dsimp only
                  have hE1 := HX0.out.trans hEz
                  clear hEz HLX HX0 u0 u1 u2 u3 u4 u5
                  have HE1 := Lib.hid (HE0.out.trans hE1)
                  clear hE1
                  go_wp2_with fail
                  refine (l7_known_any w1 (HV.out.ext HE1.out)).mono ?_
                  rintro r w2 ⟨rfl, hE2⟩
                  go_wp2_with fail
                  go_ret
                  exact ⟨rfl, HE1.out.trans hE2⟩
                case neg =>
                  have hdn : decide (20 < more) = false := decide_eq_false m1
                  have HSV := Lib.hid (shadesV_of c0 c1 c2 hkj)
                  have HGE := Lib.hid (fun h => bigger_ge (more := more) c0 h hk hj hbf (by omega))
                  have HSP := Lib.hid (fun b (h : Ec.ballsOk (Ec.putB l k b) = true) => shadesV_put h c1 c2 hkj hk)
                  go_wp2_with fail
                  refine wp_region_later (by kernel_rfl) (by kernel_rfl) (fun W hW => ?_)
                  have hX0 : Ext w W := by rw [hW]; first | exact Ext.refl _ | exact (Ext.refl _).drewN _
                  clear hW
                  have HX0 := Lib.hid hX0
                  have HLX := Lib.hid (fun X : Later W => HE0.out.trans (HX0.out.trans X.ext))
                  clear hX0
                  have u0 := fun X : Later W => (HLX.out X).cell HCk.out.1
                  have u1 := fun X : Later W => (HLX.out X).cell HCk.out.2.1
                  have u2 := fun X : Later W => (HLX.out X).cell HCk.out.2.2
                  have u3 := fun X : Later W => (HLX.out X).cell HCj.out.1
                  have u4 := fun X : Later W => (HLX.out X).cell HCj.out.2.1
                  have u5 := fun X : Later W => (HLX.out X).cell HCj.out.2.2
                  repeat (go_big_quiet_step (fail))
                  go_big_quiet_step ((go_at_call 20; exact Later.call (r7_Balls_ext l _ c true _ (HM.out.ext (HLX.out _)) h9 c0)))
                  repeat (go_big_quiet_step (fail))
                  go_big_quiet_step ((go_at_call 23; exact Later.call (r7_Ball_ext l _ c (k : Int) true _ h9 c1)))
                  repeat (go_big_quiet_step (fail))
                  go_big_quiet_step ((go_at_call 23; exact Later.call (r7_Ball_ext l _ c (j : Int) true _ h9 c2)))
                  repeat (go_big_quiet_step (fail))
                  go_big_quiet_step ((go_at_call 26; exact Later.call (r7_Before_ext (Ec.ballAt l k) (Ec.ballAt l j) true _ hBk hBj hbf)))
                  repeat (go_big_quiet_step (fail))
                  refine wpQuiet_nil ?_
                  rintro ⟨w1, hEz⟩
                  dsimp only
                  have hE1 := HX0.out.trans hEz
                  clear hEz HLX HX0 u0 u1 u2 u3 u4 u5
                  have HE1 := Lib.hid (HE0.out.trans hE1)
                  clear hE1
                  go_wp2_with fail
                  have HBG : Hid (Ec.bigger (Ec.ballAt l k) more = ⟨(Ec.ballAt l k).x, (Ec.ballAt l k).y, (Ec.ballAt l k).r + more⟩) := Lib.hid rfl
                  have HC3 : Hid (w1.cell? ⟨bb, o + k * 3, none⟩ = some (.int .i64 (Ec.ballAt l k).x) ∧ w1.cell? ⟨bb, o + k * 3 + 1, none⟩ = some (.int .i64 (Ec.ballAt l k).y) ∧ w1.cell? ⟨bb, o + k * 3 + 2, none⟩ = some (.int .i64 (Ec.ballAt l k).r)) := Lib.hid ⟨HE1.out.cell HCk.out.1, HE1.out.cell HCk.out.2.1, HE1.out.cell HCk.out.2.2⟩
                  have HR9 := Lib.hid hBk.r
                  obtain ⟨x, hx_⟩ : ∃ a, (Ec.ballAt l k).x = a := ⟨_, rfl⟩
                  obtain ⟨y, hy_⟩ : ∃ a, (Ec.ballAt l k).y = a := ⟨_, rfl⟩
                  obtain ⟨r, hr_⟩ : ∃ a, (Ec.ballAt l k).r = a := ⟨_, rfl⟩
                  rw [hx_, hy_, hr_] at HBG HC3
                  rw [hr_] at HR9
                  clear hx_ hy_ hr_
                  have HK1 := Lib.hid hk1
                  have HM9 : Hid (0 ≤ more ∧ more ≤ 20) := Lib.hid ⟨by omega, by omega⟩
                  refine wp_region_free_closed 20 (bigΦ l c k bb o x y r more w1) (by kernel_rfl) (by simp) (by kernel_rfl) (by kernel_rfl) (by kernel_rfl) bigΦ_mono ?hob ?hQ
                  case hob =>
                    intro i o hin ho a wa hE hF
                    match i, hin with
                    | 0, _ =>
                      obtain rfl := Option.some.inj ho
                      have h0 : a.tmps[0]?.getD undef = .slice (some ⟨bb, o, none⟩) l.length c := evalD (hF.old 0 (by decide))
                      refine Ran.value rfl (v := .slice (some ⟨bb, o, none⟩) l.length c) (w1 := wa) ?_ ⟨rfl, Ext.refl _⟩
                      go_simp
                    | 1, _ =>
                      obtain rfl := Option.some.inj ho
                      have h0 : a.tmps[1]?.getD undef = .int .i64 (k : Int) := evalD (hF.old 1 (by decide))
                      refine Ran.value rfl (v := .int .i64 (k : Int)) (w1 := wa) ?_ ⟨rfl, Ext.refl _⟩
                      go_simp
                    | 2, _ =>
                      obtain rfl := Option.some.inj ho
                      have h0 : a.tmps[0]?.getD undef = .slice (some ⟨bb, o, none⟩) l.length c := evalD (hF.old 0 (by decide))
                      refine Ran.value rfl (v := .slice (some ⟨bb, o, none⟩) l.length c) (w1 := wa) ?_ ⟨rfl, Ext.refl _⟩
                      go_simp
                    | 3, _ =>
                      obtain rfl := Option.some.inj ho
                      have h0 : a.tmps[1]?.getD undef = .int .i64 (k : Int) := evalD (hF.old 1 (by decide))
                      refine Ran.value rfl (v := .int .i64 (k : Int)) (w1 := wa) ?_ ⟨rfl, Ext.refl _⟩
                      go_simp
                    | 4, _ =>
                      obtain rfl := Option.some.inj ho
                      have h0 : a.tmps[62]?.getD undef = .slice (some ⟨bb, o, none⟩) l.length c := evalD ((hF.from_ 2 62 rfl (by decide)))
                      have h1 : a.tmps[63]?.getD undef = .int .i64 (k : Int) := evalD ((hF.from_ 3 63 rfl (by decide)))
                      refine Ran.value rfl (v := .pointer (some ⟨bb, o + k * 3, none⟩)) (w1 := wa) ?_ ⟨rfl, Ext.refl _⟩
                      have hk1 := HK1.out
                      go_simp
                    | 5, _ =>
                      obtain rfl := Option.some.inj ho
                      have h0 : a.tmps[64]?.getD undef = .pointer (some ⟨bb, o + k * 3, none⟩) := evalD ((hF.from_ 4 64 rfl (by decide)))
                      refine Ran.value rfl (v := .pointer (some ⟨bb, o + k * 3, none⟩)) (w1 := wa) ?_ ⟨rfl, Ext.refl _⟩
                      go_simp
                    | 6, _ =>
                      obtain rfl := Option.some.inj ho
                      have h0 : a.tmps[65]?.getD undef = .pointer (some ⟨bb, o + k * 3, none⟩) := evalD (hF.from_ 5 65 rfl (by decide))
                      obtain ⟨g0, g1, g2⟩ := HC3.out
                      replace g0 := hE.cell g0
                      replace g1 := hE.cell g1
                      replace g2 := hE.cell g2
                      refine Ran.value rfl (v := .int .i64 x) (w1 := wa) ?_ ⟨rfl, Ext.refl _⟩
                      go_simp
                    | 7, _ =>
                      obtain rfl := Option.some.inj ho
                      have h0 : a.tmps[0]?.getD undef = .slice (some ⟨bb, o, none⟩) l.length c := evalD (hF.old 0 (by decide))
                      refine Ran.value rfl (v := .slice (some ⟨bb, o, none⟩) l.length c) (w1 := wa) ?_ ⟨rfl, Ext.refl _⟩
                      go_simp
                    | 8, _ =>
                      obtain rfl := Option.some.inj ho
                      have h0 : a.tmps[1]?.getD undef = .int .i64 (k : Int) := evalD (hF.old 1 (by decide))
                      refine Ran.value rfl (v := .int .i64 (k : Int)) (w1 := wa) ?_ ⟨rfl, Ext.refl _⟩
                      go_simp
                    | 9, _ =>
                      obtain rfl := Option.some.inj ho
                      have h0 : a.tmps[67]?.getD undef = .slice (some ⟨bb, o, none⟩) l.length c := evalD ((hF.from_ 7 67 rfl (by decide)))
                      have h1 : a.tmps[68]?.getD undef = .int .i64 (k : Int) := evalD ((hF.from_ 8 68 rfl (by decide)))
                      refine Ran.value rfl (v := .pointer (some ⟨bb, o + k * 3, none⟩)) (w1 := wa) ?_ ⟨rfl, Ext.refl _⟩
                      have hk1 := HK1.out
                      go_simp
                    | 10, _ =>
                      obtain rfl := Option.some.inj ho
                      have h0 : a.tmps[69]?.getD undef = .pointer (some ⟨bb, o + k * 3, none⟩) := evalD ((hF.from_ 9 69 rfl (by decide)))
                      refine Ran.value rfl (v := .pointer (some ⟨bb, o + k * 3 + 1, none⟩)) (w1 := wa) ?_ ⟨rfl, Ext.refl _⟩
                      go_simp
                    | 11, _ =>
                      obtain rfl := Option.some.inj ho
                      have h0 : a.tmps[70]?.getD undef = .pointer (some ⟨bb, o + k * 3 + 1, none⟩) := evalD (hF.from_ 10 70 rfl (by decide))
                      obtain ⟨g0, g1, g2⟩ := HC3.out
                      replace g0 := hE.cell g0
                      replace g1 := hE.cell g1
                      replace g2 := hE.cell g2
                      refine Ran.value rfl (v := .int .i64 y) (w1 := wa) ?_ ⟨rfl, Ext.refl _⟩
                      go_simp
                    | 12, _ =>
                      obtain rfl := Option.some.inj ho
                      have h0 : a.tmps[0]?.getD undef = .slice (some ⟨bb, o, none⟩) l.length c := evalD (hF.old 0 (by decide))
                      refine Ran.value rfl (v := .slice (some ⟨bb, o, none⟩) l.length c) (w1 := wa) ?_ ⟨rfl, Ext.refl _⟩
                      go_simp
                    | 13, _ =>
                      obtain rfl := Option.some.inj ho
                      have h0 : a.tmps[1]?.getD undef = .int .i64 (k : Int) := evalD (hF.old 1 (by decide))
                      refine Ran.value rfl (v := .int .i64 (k : Int)) (w1 := wa) ?_ ⟨rfl, Ext.refl _⟩
                      go_simp
                    | 14, _ =>
                      obtain rfl := Option.some.inj ho
                      have h0 : a.tmps[72]?.getD undef = .slice (some ⟨bb, o, none⟩) l.length c := evalD ((hF.from_ 12 72 rfl (by decide)))
                      have h1 : a.tmps[73]?.getD undef = .int .i64 (k : Int) := evalD ((hF.from_ 13 73 rfl (by decide)))
                      refine Ran.value rfl (v := .pointer (some ⟨bb, o + k * 3, none⟩)) (w1 := wa) ?_ ⟨rfl, Ext.refl _⟩
                      have hk1 := HK1.out
                      go_simp
                    | 15, _ =>
                      obtain rfl := Option.some.inj ho
                      have h0 : a.tmps[74]?.getD undef = .pointer (some ⟨bb, o + k * 3, none⟩) := evalD ((hF.from_ 14 74 rfl (by decide)))
                      refine Ran.value rfl (v := .pointer (some ⟨bb, o + k * 3 + 2, none⟩)) (w1 := wa) ?_ ⟨rfl, Ext.refl _⟩
                      go_simp
                    | 16, _ =>
                      obtain rfl := Option.some.inj ho
                      have h0 : a.tmps[75]?.getD undef = .pointer (some ⟨bb, o + k * 3 + 2, none⟩) := evalD (hF.from_ 15 75 rfl (by decide))
                      obtain ⟨g0, g1, g2⟩ := HC3.out
                      replace g0 := hE.cell g0
                      replace g1 := hE.cell g1
                      replace g2 := hE.cell g2
                      refine Ran.value rfl (v := .int .i64 r) (w1 := wa) ?_ ⟨rfl, Ext.refl _⟩
                      go_simp
                    | 17, _ =>
                      obtain rfl := Option.some.inj ho
                      have h0 : a.tmps[3]?.getD undef = .int .i64 more := evalD (hF.old 3 (by decide))
                      refine Ran.value rfl (v := .int .i64 more) (w1 := wa) ?_ ⟨rfl, Ext.refl _⟩
                      go_simp
                    | 18, _ =>
                      obtain rfl := Option.some.inj ho
                      have h0 : a.tmps[76]?.getD undef = .int .i64 r := evalD ((hF.from_ 16 76 rfl (by decide)))
                      have h1 : a.tmps[77]?.getD undef = .int .i64 more := evalD ((hF.from_ 17 77 rfl (by decide)))
                      refine Ran.value rfl (v := .int .i64 (r + more)) (w1 := wa) ?_ ⟨rfl, Ext.refl _⟩
                      have hr9 := HR9.out
                      have hm9 := HM9.out
                      go_simp
                      exact IntWalk.i64_in _ ⟨by omega, by omega⟩
                    | 19, _ =>
                      obtain rfl := Option.some.inj ho
                      have h0 : a.tmps[66]?.getD undef = .int .i64 x := evalD ((hF.from_ 6 66 rfl (by decide)))
                      have h1 : a.tmps[71]?.getD undef = .int .i64 y := evalD ((hF.from_ 11 71 rfl (by decide)))
                      have h2 : a.tmps[78]?.getD undef = .int .i64 (r + more) := evalD ((hF.from_ 18 78 rfl (by decide)))
                      refine Ran.value rfl (v := .agg #[.int .i64 x, .int .i64 y, .int .i64 (r + more)]) (w1 := wa) ?_ ⟨rfl, Ext.refl _⟩
                      go_simp
                    | k + 20, hin => omega
                  case hQ =>
                    intro vs w2 hE hΦ
                    have f0 : vs 0 = .slice (some ⟨bb, o, none⟩) l.length c := hΦ 0 (by omega)
                    have f1 : vs 1 = .int .i64 (k : Int) := hΦ 1 (by omega)
                    have f2 : vs 2 = .slice (some ⟨bb, o, none⟩) l.length c := hΦ 2 (by omega)
                    have f3 : vs 3 = .int .i64 (k : Int) := hΦ 3 (by omega)
                    have f4 : vs 4 = .pointer (some ⟨bb, o + k * 3, none⟩) := hΦ 4 (by omega)
                    have f5 : vs 5 = .pointer (some ⟨bb, o + k * 3, none⟩) := hΦ 5 (by omega)
                    have f6 : vs 6 = .int .i64 x := hΦ 6 (by omega)
                    have f7 : vs 7 = .slice (some ⟨bb, o, none⟩) l.length c := hΦ 7 (by omega)
                    have f8 : vs 8 = .int .i64 (k : Int) := hΦ 8 (by omega)
                    have f9 : vs 9 = .pointer (some ⟨bb, o + k * 3, none⟩) := hΦ 9 (by omega)
                    have f10 : vs 10 = .pointer (some ⟨bb, o + k * 3 + 1, none⟩) := hΦ 10 (by omega)
                    have f11 : vs 11 = .int .i64 y := hΦ 11 (by omega)
                    have f12 : vs 12 = .slice (some ⟨bb, o, none⟩) l.length c := hΦ 12 (by omega)
                    have f13 : vs 13 = .int .i64 (k : Int) := hΦ 13 (by omega)
                    have f14 : vs 14 = .pointer (some ⟨bb, o + k * 3, none⟩) := hΦ 14 (by omega)
                    have f15 : vs 15 = .pointer (some ⟨bb, o + k * 3 + 2, none⟩) := hΦ 15 (by omega)
                    have f16 : vs 16 = .int .i64 r := hΦ 16 (by omega)
                    have f17 : vs 17 = .int .i64 more := hΦ 17 (by omega)
                    have f18 : vs 18 = .int .i64 (r + more) := hΦ 18 (by omega)
                    have f19 : vs 19 = .agg #[.int .i64 x, .int .i64 y, .int .i64 (r + more)] := hΦ 19 (by omega)
                    have hrg : List.range 20 = [0, 1, 2, 3, 4, 5, 6, 7, 8, 9, 10, 11, 12, 13, 14, 15, 16, 17, 18, 19] := rfl
                    unfold putAll putS
                    simp only [List.length_cons, List.length_nil, List.take_succ_cons, List.take_zero, List.drop_succ_cons, List.drop_zero, Nat.reduceAdd, hrg, List.foldl_cons, List.foldl_nil, dstOf, List.getElem?_cons_succ, List.getElem?_cons_zero, Option.bind_some]
                    clear hrg
                    rw [f0, f1, f2, f3, f4, f5, f6, f7, f8, f9, f10, f11, f12, f13, f14, f15, f16, f17, f18, f19]
                    simp only [Act.put, List.setIfInBounds_toArray, List.set_cons_succ, List.set_cons_zero]
                    have HE2 := Lib.hid (HE1.out.trans hE)
                    clear hE hΦ f0 f1 f2 f3 f4 f5 f6 f7 f8 f9 f10 f11 f12 f13 f14 f15 f16 f17 f18 f19
                    generalize w2 = w2 at *
                    go_wp2_with fail
                    refine (r7_Put_any l _ c k x y (r + more) w2 (HM.out.ext HE2.out) hk h9).mono ?_
                    rintro r w3 ⟨g, cap, rfl, hcap, hg, hBM, hE3⟩
                    have HE3 := Lib.hid (HE2.out.trans hE3)
                    clear hE3
                    rw [← HBG.out] at hBM
                    have HBM := Lib.hid hBM
                    clear hBM hg HBG
                    go_wp2_with fail
                    refine (balls_put l k _ g cap w3 HBM.out h9).mono ?_
                    rintro r w4 ⟨rfl, hE4⟩
                    have HE4 := Lib.hid (HE3.out.trans hE4)
                    replace HBM := Lib.hid (HBM.out.ext hE4)
                    clear hE4
                    cases cm : Ec.ballsOk (Ec.putB l k (Ec.bigger (Ec.ballAt l k) more)) with
                    | false =>
                      go_wp2_with fail
                      refine (l7_known_any w4 (HV.out.ext HE4.out)).mono ?_
                      rintro r w5 ⟨rfl, hE5⟩
                      go_wp2_with fail
                      go_ret
                      exact ⟨rfl, HE4.out.trans hE5⟩
                    | true =>
                      have HSB := Lib.hid (HSP.out _ cm)
                      have hge := HGE.out cm
                      obtain ⟨s, hs⟩ : ∃ s, Ec.shades (Ec.ballAt l k) (Ec.ballAt l j) = s := ⟨_, rfl⟩
                      obtain ⟨s2, hs2⟩ : ∃ s, Ec.shades (Ec.bigger (Ec.ballAt l k) more) (Ec.ballAt l j) = s := ⟨_, rfl⟩
                      rw [hs] at HSV hge
                      rw [hs2] at HSB hge
                      clear hs hs2
                      go_wp2_with fail
                      refine (e_Shades_any l _ c (k : Int) (j : Int) w4 (HM.out.ext HE4.out) HC.out h9).mono ?_
                      rintro r w5 ⟨rfl, hE5⟩
                      have HE5 := Lib.hid (HE4.out.trans hE5)
                      replace HBM := Lib.hid (HBM.out.ext hE5)
                      clear hE5
                      rw [HSV.out]
                      go_wp2_with fail
                      refine (e_Shades_put l k _ _ cap (k : Int) (j : Int) w5 HBM.out hcap h9).mono ?_
                      rintro r w6 ⟨rfl, hE6⟩
                      have HE6 := Lib.hid (HE5.out.trans hE6)
                      replace HBM := Lib.hid (HBM.out.ext hE6)
                      clear hE6
                      rw [HSB.out]
                      go_wp2_with fail
                      refine (l7_known_any w6 (HV.out.ext HE6.out)).mono ?_
                      rintro r w7 ⟨rfl, hE7⟩
                      go_wp2_with fail
                      go_ret
                      exact ⟨rfl, HE6.out.trans hE7⟩
end Go.Proofs.YtfkcbgehcbhjnaaGreatDoor
