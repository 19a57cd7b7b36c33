/- Volume 5 of the texts that the laws of this seat use: EcShades EcApart V14 EcText: walks of the program's functions, and plain laws. -/
import Derived.Carry
import Derived.BigQuiet
import Derived.Lib.ItoaLen
import Derived.Test.YtcbodpnmndbgnaaGreatDoorG01
import Derived.Test.YtcbodpnmndbgnaaGreatDoorG04
namespace Go.Proofs.YtcbodpnmndbgnaaGreatDoor
open Go.RowKit
open Sp (rd)
set_option maxRecDepth 100000
set_option maxHeartbeats 2000000
set_option linter.unusedVariables false
theorem sq_bounds {x B : Int} (h1 : -B ≤ x) (h2 : x ≤ B) : 0 ≤ x * x ∧ x * x ≤ B * B := by
 rcases Int.le_total 0 x with h | h
 ·exact ⟨Int.mul_nonneg h h, Int.mul_le_mul h2 h2 h (by omega)⟩
 ·have e : x * x = (-x) * (-x) := by rw [Int.neg_mul_neg]
  rw [e]
  exact ⟨Int.mul_nonneg (by omega) (by omega), Int.mul_le_mul (by omega) (by omega) (by omega) (by omega)⟩
theorem prod_lim {x y A B : Int} (h1 : -A ≤ x) (h2 : x ≤ A) (h3 : -B ≤ y) (h4 : y ≤ B) : -(A * B) ≤ x * y ∧ x * y ≤ A * B := by
 rcases Int.le_total 0 y with h | h
 ·exact mul_bounds h1 h2 h h4
 ·have := mul_bounds (a := x) (b := -y) (A := A) (B := B) h1 h2 (by omega) (by omega)
  rw [Int.mul_neg] at this
  omega
theorem e_squares1 (b : Nat) (x : Int) (w : World) (hr : Row w b 3 #[.int .i64 x]) (h1 : -1000000 ≤ x) (h2 : x ≤ 1000000) :
  Calls Tryz.prog 182 #[.slice (some ⟨b, 0, none⟩) 1 1] w fun e w' => e = .returned (.int .i64 (x * x)) ∧ w = w' := by
 have q := hr.cell
 have hx := sq_bounds h1 h2
 clear hr h1 h2
 go_enter Tryz.func182, Tryz.ntmps182
 go_wp2_with fail
 go_loopw [3, 8] (fun v i wr => ((i = .int .i64 0 ∧ v = .int .i64 0) ∨ (i = .int .i64 1 ∧ v = .int .i64 (x * x))) ∧ w = wr) (fun _ i _ => 1 - (intOf i).toNat)
 case atStart => exact ⟨.inl ⟨rfl, rfl⟩, rfl⟩
 case round =>
  obtain ⟨⟨rfl, rfl⟩ | ⟨rfl, rfl⟩, rfl⟩ := hrel
  ·go_wp2_with fail
   go_roundw
   case rel => exact ⟨.inr ⟨rfl, by simp⟩, by simp⟩
   case measure => simp [intOf]
  ·go_wp2_with fail
   go_ret
   exact ⟨rfl, by simp⟩
theorem e_squares2 (b : Nat) (x y : Int) (w : World) (hr : Row w b 3 #[.int .i64 x, .int .i64 y]) (h1 : -100000 ≤ x) (h2 : x ≤ 100000) (h3 : -100000 ≤ y) (h4 : y ≤ 100000) :
  Calls Tryz.prog 182 #[.slice (some ⟨b, 0, none⟩) 2 2] w fun e w' => e = .returned (.int .i64 (x * x + y * y)) ∧ w = w' := by
 have q := hr.cell
 have hx := sq_bounds h1 h2
 have hy := sq_bounds h3 h4
 clear hr h1 h2 h3 h4
 go_enter Tryz.func182, Tryz.ntmps182
 go_wp2_with fail
 go_loopw [3, 8] (fun v i wr => ((i = .int .i64 0 ∧ v = .int .i64 0) ∨ (i = .int .i64 1 ∧ v = .int .i64 (x * x)) ∨ (i = .int .i64 2 ∧ v = .int .i64 (x * x + y * y))) ∧ w = wr) (fun _ i _ => 2 - (intOf i).toNat)
 case atStart => exact ⟨.inl ⟨rfl, rfl⟩, rfl⟩
 case round =>
  obtain ⟨⟨rfl, rfl⟩ | ⟨rfl, rfl⟩ | ⟨rfl, rfl⟩, rfl⟩ := hrel
  ·go_wp2_with fail
   go_roundw
   case rel => exact ⟨.inr (.inl ⟨rfl, by simp⟩), by simp⟩
   case measure => simp [intOf]
  ·go_wp2_with fail
   go_roundw
   case rel => exact ⟨.inr (.inr ⟨rfl, by simp⟩), by simp⟩
   case measure => simp [intOf]
  ·go_wp2_with fail
   go_ret
   exact ⟨rfl, by simp⟩
def MkAt (w0 : World) (v : Value) (w : World) (t : TypeId) (n : Nat) (cs : Array Value) : Prop := ∃ b, v = .slice (some ⟨b, 0, none⟩) n n ∧ w0.heap.size ≤ b ∧ Row w b t cs
theorem MkAt.ext {w0 w w' : World} {v : Value} {t : TypeId} {n : Nat} {cs : Array Value} (h : MkAt w0 v w t n cs) (he : Ext w w') : MkAt w0 v w' t n cs := let ⟨b, h1, h2, h3⟩ := h; ⟨b, h1, h2, h3.ext he⟩
def shdΦ1 (ax ay ar bx by_ br Na Nb Ra Rb : Int) (pa pb : Nat) (w0 : World) (i : Nat) (v : Value) (w : World) : Prop :=
 match i with
 | 0 => v = .pointer (some ⟨pa, 0, none⟩)
 | 1 => v = .int .i64 ax
 | 2 => v = .pointer (some ⟨pa, 1, none⟩)
 | 3 => v = .int .i64 ay
 | 4 => MkAt w0 v w 3 2 #[.int .i64 ax, .int .i64 ay]
 | 5 => v = .int .i64 Na
 | 6 => v = .pointer (some ⟨pa, 2, none⟩)
 | 7 => v = .int .i64 ar
 | 8 => MkAt w0 v w 3 1 #[.int .i64 ar]
 | 9 => v = .int .i64 Ra
 | 10 => v = .int .i64 (Na - Ra)
 | 11 => v = .pointer (some ⟨pb, 0, none⟩)
 | 12 => v = .int .i64 bx
 | 13 => v = .pointer (some ⟨pb, 1, none⟩)
 | 14 => v = .int .i64 by_
 | 15 => MkAt w0 v w 3 2 #[.int .i64 bx, .int .i64 by_]
 | 16 => v = .int .i64 Nb
 | 17 => v = .pointer (some ⟨pb, 2, none⟩)
 | 18 => v = .int .i64 br
 | 19 => MkAt w0 v w 3 1 #[.int .i64 br]
 | 20 => v = .int .i64 Rb
 | 21 => v = .int .i64 (Nb - Rb)
 | _ => v = .int .i64 (Na - Ra)
theorem shdΦ1_mono {ax ay ar bx by_ br Na Nb Ra Rb : Int} {pa pb : Nat} {w0 : World} (i : Nat) (v : Value) (w w' : World) (h : shdΦ1 ax ay ar bx by_ br Na Nb Ra Rb pa pb w0 i v w) (he : Ext w w') : shdΦ1 ax ay ar bx by_ br Na Nb Ra Rb pa pb w0 i v w' := by
 unfold shdΦ1 at h ⊢
 split at h <;> first
  | exact h
  | exact MkAt.ext h he
  | exact fun hg => MkAt.ext (h hg) he
def shdΦ4 (ax ay ar bx by_ br Na Nb Ra Rb : Int) (pa pb : Nat) (w0 : World) (i : Nat) (v : Value) (w : World) : Prop :=
 match i with
 | 0 => v = .pointer (some ⟨pa, 0, none⟩)
 | 1 => v = .int .i64 ax
 | 2 => v = .pointer (some ⟨pb, 0, none⟩)
 | 3 => v = .int .i64 bx
 | 4 => v = .int .i64 (ax * bx)
 | 5 => v = .pointer (some ⟨pa, 1, none⟩)
 | 6 => v = .int .i64 ay
 | 7 => v = .pointer (some ⟨pb, 1, none⟩)
 | 8 => v = .int .i64 by_
 | 9 => v = .int .i64 (ay * by_)
 | 10 => v = .int .i64 (ax * bx + ay * by_)
 | 11 => v = .pointer (some ⟨pa, 2, none⟩)
 | 12 => v = .int .i64 ar
 | 13 => v = .pointer (some ⟨pb, 2, none⟩)
 | 14 => v = .int .i64 br
 | 15 => v = .int .i64 (ar * br)
 | _ => v = .int .i64 (ax * bx + ay * by_)
theorem shdΦ4_mono {ax ay ar bx by_ br Na Nb Ra Rb : Int} {pa pb : Nat} {w0 : World} (i : Nat) (v : Value) (w w' : World) (h : shdΦ4 ax ay ar bx by_ br Na Nb Ra Rb pa pb w0 i v w) (he : Ext w w') : shdΦ4 ax ay ar bx by_ br Na Nb Ra Rb pa pb w0 i v w' := by
 unfold shdΦ4 at h ⊢
 split at h <;> first
  | exact h
  | exact MkAt.ext h he
  | exact fun hg => MkAt.ext (h hg) he
def shdΦ5 (ax ay ar bx by_ br Na Nb Ra Rb : Int) (pa pb : Nat) (w0 : World) (i : Nat) (v : Value) (w : World) : Prop :=
 match i with
 | 0 => v = .pointer (some ⟨pa, 2, none⟩)
 | 1 => v = .int .i64 ar
 | 2 => MkAt w0 v w 3 1 #[.int .i64 ar]
 | 3 => v = .int .i64 Ra
 | 4 => v = .pointer (some ⟨pb, 0, none⟩)
 | 5 => v = .int .i64 bx
 | 6 => v = .pointer (some ⟨pb, 1, none⟩)
 | 7 => v = .int .i64 by_
 | 8 => MkAt w0 v w 3 2 #[.int .i64 bx, .int .i64 by_]
 | 9 => v = .int .i64 Nb
 | 10 => v = .int .i64 (Ra * Nb)
 | 11 => v = .pointer (some ⟨pb, 2, none⟩)
 | 12 => v = .int .i64 br
 | 13 => MkAt w0 v w 3 1 #[.int .i64 br]
 | 14 => v = .int .i64 Rb
 | 15 => v = .pointer (some ⟨pa, 0, none⟩)
 | 16 => v = .int .i64 ax
 | 17 => v = .pointer (some ⟨pa, 1, none⟩)
 | 18 => v = .int .i64 ay
 | 19 => MkAt w0 v w 3 2 #[.int .i64 ax, .int .i64 ay]
 | 20 => v = .int .i64 Na
 | 21 => v = .int .i64 (Rb * Na)
 | _ => v = .bool (decide (Rb * Na ≤ Ra * Nb))
theorem shdΦ5_mono {ax ay ar bx by_ br Na Nb Ra Rb : Int} {pa pb : Nat} {w0 : World} (i : Nat) (v : Value) (w w' : World) (h : shdΦ5 ax ay ar bx by_ br Na Nb Ra Rb pa pb w0 i v w) (he : Ext w w') : shdΦ5 ax ay ar bx by_ br Na Nb Ra Rb pa pb w0 i v w' := by
 unfold shdΦ5 at h ⊢
 split at h <;> first
  | exact h
  | exact MkAt.ext h he
  | exact fun hg => MkAt.ext (h hg) he
theorem e_shades_any (ax ay ar bx by_ br : Int) (w : World) (x1 : -200 ≤ ax ∧ ax ≤ 200) (y1 : -200 ≤ ay ∧ ay ≤ 200) (r1 : -200 ≤ ar ∧ ar ≤ 200) (x2 : -200 ≤ bx ∧ bx ≤ 200) (y2 : -200 ≤ by_ ∧ by_ ≤ 200) (r2 : -200 ≤ br ∧ br ≤ 200) :
  Calls Tryz.prog 157 #[.agg #[.int .i64 ax, .int .i64 ay, .int .i64 ar], .agg #[.int .i64 bx, .int .i64 by_, .int .i64 br]] w fun e w' => e = .returned (.int .i64 (Ec.shades ⟨ax, ay, ar⟩ ⟨bx, by_, br⟩)) ∧ Ext w w' := by
 obtain ⟨Na, hNa⟩ : ∃ Na, ax * ax + ay * ay = Na := ⟨_, rfl⟩
 obtain ⟨Nb, hNb⟩ : ∃ Nb, bx * bx + by_ * by_ = Nb := ⟨_, rfl⟩
 obtain ⟨Ra, hRa⟩ : ∃ Ra, ar * ar = Ra := ⟨_, rfl⟩
 obtain ⟨Rb, hRb⟩ : ∃ Rb, br * br = Rb := ⟨_, rfl⟩
 have HNa : Hid (∀ (b : Nat) (w : World), Row w b 3 #[.int .i64 ax, .int .i64 ay] → Calls Tryz.prog 182 #[.slice (some ⟨b, 0, none⟩) 2 2] w fun e w' => e = .returned (.int .i64 Na) ∧ w = w') := Lib.hid fun b w hr => by rw [← hNa]; exact e_squares2 b ax ay w hr (by omega) (by omega) (by omega) (by omega)
 have HNb : Hid (∀ (b : Nat) (w : World), Row w b 3 #[.int .i64 bx, .int .i64 by_] → Calls Tryz.prog 182 #[.slice (some ⟨b, 0, none⟩) 2 2] w fun e w' => e = .returned (.int .i64 Nb) ∧ w = w') := Lib.hid fun b w hr => by rw [← hNb]; exact e_squares2 b bx by_ w hr (by omega) (by omega) (by omega) (by omega)
 have HRa : Hid (∀ (b : Nat) (w : World), Row w b 3 #[.int .i64 ar] → Calls Tryz.prog 182 #[.slice (some ⟨b, 0, none⟩) 1 1] w fun e w' => e = .returned (.int .i64 Ra) ∧ w = w') := Lib.hid fun b w hr => by rw [← hRa]; exact e_squares1 b ar w hr (by omega) (by omega)
 have HRb : Hid (∀ (b : Nat) (w : World), Row w b 3 #[.int .i64 br] → Calls Tryz.prog 182 #[.slice (some ⟨b, 0, none⟩) 1 1] w fun e w' => e = .returned (.int .i64 Rb) ∧ w = w') := Lib.hid fun b w hr => by rw [← hRb]; exact e_squares1 b br w hr (by omega) (by omega)
 have q1 := sq_bounds x1.1 x1.2
 have q2 := sq_bounds y1.1 y1.2
 have q3 := sq_bounds r1.1 r1.2
 have q4 := sq_bounds x2.1 x2.2
 have q5 := sq_bounds y2.1 y2.2
 have q6 := sq_bounds r2.1 r2.2
 have n1 : 0 ≤ Na ∧ Na ≤ 80000 := by omega
 have n2 : 0 ≤ Nb ∧ Nb ≤ 80000 := by omega
 have n3 : 0 ≤ Ra ∧ Ra ≤ 40000 := by omega
 have n4 : 0 ≤ Rb ∧ Rb ≤ 40000 := by omega
 have p1 := prod_lim x1.1 x1.2 x2.1 x2.2
 have p2 := prod_lim y1.1 y1.2 y2.1 y2.2
 have p3 := prod_lim r1.1 r1.2 r2.1 r2.2
 have p4 := mul_bounds0 n3.1 n3.2 n2.1 n2.2
 have p5 := mul_bounds0 n4.1 n4.2 n1.1 n1.2
 have p6 := prod_lim (x := Na - Ra) (y := Nb - Rb) (A := 120000) (B := 120000) (by omega) (by omega) (by omega) (by omega)
 have HFIN : Hid (Ec.shades ⟨ax, ay, ar⟩ ⟨bx, by_, br⟩ = if Na - Ra < Nb - Rb then (if (decide (Rb * Na ≤ Ra * Nb) && (decide (ar * br ≤ ax * bx + ay * by_) && decide ((Na - Ra) * (Nb - Rb) ≤ (ax * bx + ay * by_ - ar * br) * (ax * bx + ay * by_ - ar * br)))) = true then 3 else if (decide (-(ar * br) < ax * bx + ay * by_) && decide ((Na - Ra) * (Nb - Rb) < (ax * bx + ay * by_ + ar * br) * (ax * bx + ay * by_ + ar * br))) = true then 2 else 1) else 1) := Lib.hid (by
  unfold Ec.shades Ec.darkB Ec.partB Ec.power Ec.norm2 Ec.dot
  simp only [hNa, hNb, hRa, hRb])
 clear q1 q2 q3 q4 q5 q6 hNa hNb hRa hRb
 have HRA : Hid (Row ((w.alloc (.cells #[.int .i64 ax, .int .i64 ay, .int .i64 ar] 145)).alloc (.cells #[.int .i64 bx, .int .i64 by_, .int .i64 br] 145)) w.heap.size 145 #[.int .i64 ax, .int .i64 ay, .int .i64 ar]) := Lib.hid (blocks2 w _ _).1
 have HRB : Hid (Row ((w.alloc (.cells #[.int .i64 ax, .int .i64 ay, .int .i64 ar] 145)).alloc (.cells #[.int .i64 bx, .int .i64 by_, .int .i64 br] 145)) (w.heap.size + 1) 145 #[.int .i64 bx, .int .i64 by_, .int .i64 br]) := Lib.hid (blocks2 w _ _).2
 have HE0 : Hid (Ext w ((w.alloc (.cells #[.int .i64 ax, .int .i64 ay, .int .i64 ar] 145)).alloc (.cells #[.int .i64 bx, .int .i64 by_, .int .i64 br] 145))) := Lib.hid (((Ext.refl w).alloc _).alloc _)
 go_enter Tryz.func157, Tryz.ntmps157
 go_wp2_with fail
 obtain ⟨W, hW⟩ : ∃ W, (w.alloc (.cells #[.int .i64 ax, .int .i64 ay, .int .i64 ar] 145)).alloc (.cells #[.int .i64 bx, .int .i64 by_, .int .i64 br] 145) = W := ⟨_, rfl⟩
 obtain ⟨pa, hpa⟩ : ∃ pa, w.heap.size = pa := ⟨_, rfl⟩
 obtain ⟨pb, hpb⟩ : ∃ pb, pa + 1 = pb := ⟨_, rfl⟩
 rw [hW, hpa] at HRA HRB
 rw [hW] at HE0
 rw [hpb] at HRB
 rw [hW, hpa, hpb]
 clear hW hpa hpb
 refine wp_region_free_tail 23 23 (shdΦ1 ax ay ar bx by_ br Na Nb Ra Rb pa pb W) (by kernel_rfl) (by simp) (by kernel_rfl) (by kernel_rfl) (by kernel_rfl) (by kernel_rfl) shdΦ1_mono ?hob ?hQ (fun h => absurd h (by omega))
 case hob =>
  intro i o hin ho a wa hE hF
  match i, hin with
  | 0, _ =>
   cases ho
   have h0 : a.tmps[2]?.getD undef = .pointer (some ⟨pa, 0, none⟩) := evalD (hF.old 2 (by decide))
   refine Ran.value rfl (v := .pointer (some ⟨pa, 0, none⟩)) (w1 := wa) ?_ ⟨rfl, Ext.refl _⟩
   go_simp
  | 1, _ =>
   cases ho
   have h0 : a.tmps[10]?.getD undef = .pointer (some ⟨pa, 0, none⟩) := evalD ((hF.from_ 0 10 rfl (by decide)))
   have q := (Row.ext (HRA.out) hE).cell
   refine Ran.value rfl (v := .int .i64 ax) (w1 := wa) ?_ ⟨rfl, Ext.refl _⟩
   go_simp
  | 2, _ =>
   cases ho
   have h0 : a.tmps[2]?.getD undef = .pointer (some ⟨pa, 0, none⟩) := evalD (hF.old 2 (by decide))
   refine Ran.value rfl (v := .pointer (some ⟨pa, 1, none⟩)) (w1 := wa) ?_ ⟨rfl, Ext.refl _⟩
   go_simp
  | 3, _ =>
   cases ho
   have h0 : a.tmps[12]?.getD undef = .pointer (some ⟨pa, 1, none⟩) := evalD ((hF.from_ 2 12 rfl (by decide)))
   have q := (Row.ext (HRA.out) hE).cell
   refine Ran.value rfl (v := .int .i64 ay) (w1 := wa) ?_ ⟨rfl, Ext.refl _⟩
   go_simp
  | 4, _ =>
   cases ho
   have h0 : a.tmps[11]?.getD undef = .int .i64 ax := evalD ((hF.from_ 1 11 rfl (by decide)))
   have h1 : a.tmps[13]?.getD undef = .int .i64 ay := evalD ((hF.from_ 3 13 rfl (by decide)))
   refine Ran.value rfl (v := .slice (some ⟨wa.heap.size, 0, none⟩) 2 2) (w1 := wa.alloc (.cells #[.int .i64 ax, .int .i64 ay] 3)) ?_ ⟨⟨wa.heap.size, rfl, hE.size, Row.new _ _ _⟩, (Ext.refl _).alloc _⟩
   go_simp
  | 5, _ =>
   cases ho
   obtain ⟨b_h0, h0, hb_h0, hr_h0⟩ : MkAt W (a.eval (.tmp 14)) wa 3 2 #[.int .i64 ax, .int .i64 ay] := (hF.from_ 4 14 rfl (by decide))
   replace h0 := evalD h0
   refine Ran.enter rfl (f := 182) (args := #[.slice (some ⟨b_h0, 0, none⟩) 2 2]) (w1 := wa) ?_ ?_
   ·go_simp
   ·refine (HNa.out b_h0 _ hr_h0).mono ?_
    rintro r w1 ⟨rfl, hX⟩
    exact ⟨_, rfl, rfl, hX ▸ Ext.refl _⟩
  | 6, _ =>
   cases ho
   have h0 : a.tmps[2]?.getD undef = .pointer (some ⟨pa, 0, none⟩) := evalD (hF.old 2 (by decide))
   refine Ran.value rfl (v := .pointer (some ⟨pa, 2, none⟩)) (w1 := wa) ?_ ⟨rfl, Ext.refl _⟩
   go_simp
  | 7, _ =>
   cases ho
   have h0 : a.tmps[16]?.getD undef = .pointer (some ⟨pa, 2, none⟩) := evalD ((hF.from_ 6 16 rfl (by decide)))
   have q := (Row.ext (HRA.out) hE).cell
   refine Ran.value rfl (v := .int .i64 ar) (w1 := wa) ?_ ⟨rfl, Ext.refl _⟩
   go_simp
  | 8, _ =>
   cases ho
   have h0 : a.tmps[17]?.getD undef = .int .i64 ar := evalD ((hF.from_ 7 17 rfl (by decide)))
   refine Ran.value rfl (v := .slice (some ⟨wa.heap.size, 0, none⟩) 1 1) (w1 := wa.alloc (.cells #[.int .i64 ar] 3)) ?_ ⟨⟨wa.heap.size, rfl, hE.size, Row.new _ _ _⟩, (Ext.refl _).alloc _⟩
   go_simp
  | 9, _ =>
   cases ho
   obtain ⟨b_h0, h0, hb_h0, hr_h0⟩ : MkAt W (a.eval (.tmp 18)) wa 3 1 #[.int .i64 ar] := (hF.from_ 8 18 rfl (by decide))
   replace h0 := evalD h0
   refine Ran.enter rfl (f := 182) (args := #[.slice (some ⟨b_h0, 0, none⟩) 1 1]) (w1 := wa) ?_ ?_
   ·go_simp
   ·refine (HRa.out b_h0 _ hr_h0).mono ?_
    rintro r w1 ⟨rfl, hX⟩
    exact ⟨_, rfl, rfl, hX ▸ Ext.refl _⟩
  | 10, _ =>
   cases ho
   have h0 : a.tmps[15]?.getD undef = .int .i64 Na := evalD ((hF.from_ 5 15 rfl (by decide)))
   have h1 : a.tmps[19]?.getD undef = .int .i64 Ra := evalD ((hF.from_ 9 19 rfl (by decide)))
   refine Ran.value rfl (v := .int .i64 (Na - Ra)) (w1 := wa) ?_ ⟨rfl, Ext.refl _⟩
   go_simp
   exact IntWalk.i64_in _ ⟨by omega, by omega⟩
  | 11, _ =>
   cases ho
   have h0 : a.tmps[3]?.getD undef = .pointer (some ⟨pb, 0, none⟩) := evalD (hF.old 3 (by decide))
   refine Ran.value rfl (v := .pointer (some ⟨pb, 0, none⟩)) (w1 := wa) ?_ ⟨rfl, Ext.refl _⟩
   go_simp
  | 12, _ =>
   cases ho
   have h0 : a.tmps[21]?.getD undef = .pointer (some ⟨pb, 0, none⟩) := evalD ((hF.from_ 11 21 rfl (by decide)))
   have q := (Row.ext (HRB.out) hE).cell
   refine Ran.value rfl (v := .int .i64 bx) (w1 := wa) ?_ ⟨rfl, Ext.refl _⟩
   go_simp
  | 13, _ =>
   cases ho
   have h0 : a.tmps[3]?.getD undef = .pointer (some ⟨pb, 0, none⟩) := evalD (hF.old 3 (by decide))
   refine Ran.value rfl (v := .pointer (some ⟨pb, 1, none⟩)) (w1 := wa) ?_ ⟨rfl, Ext.refl _⟩
   go_simp
  | 14, _ =>
   cases ho
   have h0 : a.tmps[23]?.getD undef = .pointer (some ⟨pb, 1, none⟩) := evalD ((hF.from_ 13 23 rfl (by decide)))
   have q := (Row.ext (HRB.out) hE).cell
   refine Ran.value rfl (v := .int .i64 by_) (w1 := wa) ?_ ⟨rfl, Ext.refl _⟩
   go_simp
  | 15, _ =>
   cases ho
   have h0 : a.tmps[22]?.getD undef = .int .i64 bx := evalD ((hF.from_ 12 22 rfl (by decide)))
   have h1 : a.tmps[24]?.getD undef = .int .i64 by_ := evalD ((hF.from_ 14 24 rfl (by decide)))
   refine Ran.value rfl (v := .slice (some ⟨wa.heap.size, 0, none⟩) 2 2) (w1 := wa.alloc (.cells #[.int .i64 bx, .int .i64 by_] 3)) ?_ ⟨⟨wa.heap.size, rfl, hE.size, Row.new _ _ _⟩, (Ext.refl _).alloc _⟩
   go_simp
  | 16, _ =>
   cases ho
   obtain ⟨b_h0, h0, hb_h0, hr_h0⟩ : MkAt W (a.eval (.tmp 25)) wa 3 2 #[.int .i64 bx, .int .i64 by_] := (hF.from_ 15 25 rfl (by decide))
   replace h0 := evalD h0
   refine Ran.enter rfl (f := 182) (args := #[.slice (some ⟨b_h0, 0, none⟩) 2 2]) (w1 := wa) ?_ ?_
   ·go_simp
   ·refine (HNb.out b_h0 _ hr_h0).mono ?_
    rintro r w1 ⟨rfl, hX⟩
    exact ⟨_, rfl, rfl, hX ▸ Ext.refl _⟩
  | 17, _ =>
   cases ho
   have h0 : a.tmps[3]?.getD undef = .pointer (some ⟨pb, 0, none⟩) := evalD (hF.old 3 (by decide))
   refine Ran.value rfl (v := .pointer (some ⟨pb, 2, none⟩)) (w1 := wa) ?_ ⟨rfl, Ext.refl _⟩
   go_simp
  | 18, _ =>
   cases ho
   have h0 : a.tmps[27]?.getD undef = .pointer (some ⟨pb, 2, none⟩) := evalD ((hF.from_ 17 27 rfl (by decide)))
   have q := (Row.ext (HRB.out) hE).cell
   refine Ran.value rfl (v := .int .i64 br) (w1 := wa) ?_ ⟨rfl, Ext.refl _⟩
   go_simp
  | 19, _ =>
   cases ho
   have h0 : a.tmps[28]?.getD undef = .int .i64 br := evalD ((hF.from_ 18 28 rfl (by decide)))
   refine Ran.value rfl (v := .slice (some ⟨wa.heap.size, 0, none⟩) 1 1) (w1 := wa.alloc (.cells #[.int .i64 br] 3)) ?_ ⟨⟨wa.heap.size, rfl, hE.size, Row.new _ _ _⟩, (Ext.refl _).alloc _⟩
   go_simp
  | 20, _ =>
   cases ho
   obtain ⟨b_h0, h0, hb_h0, hr_h0⟩ : MkAt W (a.eval (.tmp 29)) wa 3 1 #[.int .i64 br] := (hF.from_ 19 29 rfl (by decide))
   replace h0 := evalD h0
   refine Ran.enter rfl (f := 182) (args := #[.slice (some ⟨b_h0, 0, none⟩) 1 1]) (w1 := wa) ?_ ?_
   ·go_simp
   ·refine (HRb.out b_h0 _ hr_h0).mono ?_
    rintro r w1 ⟨rfl, hX⟩
    exact ⟨_, rfl, rfl, hX ▸ Ext.refl _⟩
  | 21, _ =>
   cases ho
   have h0 : a.tmps[26]?.getD undef = .int .i64 Nb := evalD ((hF.from_ 16 26 rfl (by decide)))
   have h1 : a.tmps[30]?.getD undef = .int .i64 Rb := evalD ((hF.from_ 20 30 rfl (by decide)))
   refine Ran.value rfl (v := .int .i64 (Nb - Rb)) (w1 := wa) ?_ ⟨rfl, Ext.refl _⟩
   go_simp
   exact IntWalk.i64_in _ ⟨by omega, by omega⟩
  | 22, _ =>
   cases ho
   have h0 : a.tmps[20]?.getD undef = .int .i64 (Na - Ra) := evalD ((hF.from_ 10 20 rfl (by decide)))
   refine Ran.value rfl (v := .int .i64 (Na - Ra)) (w1 := wa) ?_ ⟨rfl, Ext.refl _⟩
   go_simp
  | k + 23, hin => omega
 case hQ =>
  intro vs w2 hE hΦ
  have f0 : vs 0 = .pointer (some ⟨pa, 0, none⟩) := hΦ 0 (by omega)
  have f1 : vs 1 = .int .i64 ax := hΦ 1 (by omega)
  have f2 : vs 2 = .pointer (some ⟨pa, 1, none⟩) := hΦ 2 (by omega)
  have f3 : vs 3 = .int .i64 ay := hΦ 3 (by omega)
  obtain ⟨b4, f4, hb4, hr4⟩ : MkAt W (vs 4) w2 3 2 #[.int .i64 ax, .int .i64 ay] := hΦ 4 (by omega)
  have f5 : vs 5 = .int .i64 Na := hΦ 5 (by omega)
  have f6 : vs 6 = .pointer (some ⟨pa, 2, none⟩) := hΦ 6 (by omega)
  have f7 : vs 7 = .int .i64 ar := hΦ 7 (by omega)
  obtain ⟨b8, f8, hb8, hr8⟩ : MkAt W (vs 8) w2 3 1 #[.int .i64 ar] := hΦ 8 (by omega)
  have f9 : vs 9 = .int .i64 Ra := hΦ 9 (by omega)
  have f10 : vs 10 = .int .i64 (Na - Ra) := hΦ 10 (by omega)
  have f11 : vs 11 = .pointer (some ⟨pb, 0, none⟩) := hΦ 11 (by omega)
  have f12 : vs 12 = .int .i64 bx := hΦ 12 (by omega)
  have f13 : vs 13 = .pointer (some ⟨pb, 1, none⟩) := hΦ 13 (by omega)
  have f14 : vs 14 = .int .i64 by_ := hΦ 14 (by omega)
  obtain ⟨b15, f15, hb15, hr15⟩ : MkAt W (vs 15) w2 3 2 #[.int .i64 bx, .int .i64 by_] := hΦ 15 (by omega)
  have f16 : vs 16 = .int .i64 Nb := hΦ 16 (by omega)
  have f17 : vs 17 = .pointer (some ⟨pb, 2, none⟩) := hΦ 17 (by omega)
  have f18 : vs 18 = .int .i64 br := hΦ 18 (by omega)
  obtain ⟨b19, f19, hb19, hr19⟩ : MkAt W (vs 19) w2 3 1 #[.int .i64 br] := hΦ 19 (by omega)
  have f20 : vs 20 = .int .i64 Rb := hΦ 20 (by omega)
  have f21 : vs 21 = .int .i64 (Nb - Rb) := hΦ 21 (by omega)
  have f22 : vs 22 = .int .i64 (Na - Ra) := hΦ 22 (by omega)
  have hrg : List.range 23 = [0, 1, 2, 3, 4, 5, 6, 7, 8, 9, 10, 11, 12, 13, 14, 15, 16, 17, 18, 19, 20, 21, 22] := rfl
  unfold putAll putS
  simp only [List.length_cons, List.length_nil, List.take_succ_cons, List.take_zero, List.drop_succ_cons, List.drop_zero, Nat.reduceAdd, hrg, List.foldl_cons, List.foldl_nil, dstOf, List.getElem?_cons_succ, List.getElem?_cons_zero, Option.bind_some]
  clear hrg
  rw [f0, f1, f2, f3, f4, f5, f6, f7, f8, f9, f10, f11, f12, f13, f14, f15, f16, f17, f18, f19, f20, f21, f22]
  have HE1 := Lib.hid (HE0.out.trans hE)
  have HRA1 := Lib.hid (HRA.out.ext hE)
  have HRB1 := Lib.hid (HRB.out.ext hE)
  clear hΦ f0 f1 f2 f3 f4 f5 f6 f7 f8 f9 f10 f11 f12 f13 f14 f15 f16 f17 f18 f19 f20 f21 f22 hr4 hr8 hr15 hr19 hE
  obtain ⟨W4, rfl⟩ : ∃ W4, W4 = w2 := ⟨_, rfl⟩
  by_cases hlt : Nb - Rb ≤ Na - Ra
  ·have HL := Lib.hid hlt
   go_wp2_with fail
   go_ret
   exact ⟨by rw [HFIN.out, if_neg (by have := HL.out; omega)] <;> rfl, HE1.out⟩
  ·have hlt' : Na - Ra < Nb - Rb := by omega
   have HFIN2 := Lib.hid (HFIN.out.trans (if_pos hlt'))
   clear hlt'
   go_wp2_with fail
   refine wp_region_free_tail 17 17 (shdΦ4 ax ay ar bx by_ br Na Nb Ra Rb pa pb W4) (by kernel_rfl) (by simp) (by kernel_rfl) (by kernel_rfl) (by kernel_rfl) (by kernel_rfl) shdΦ4_mono ?hob ?hQ (fun h => absurd h (by omega))
   case hob =>
    intro i o hin ho a wa hE hF
    match i, hin with
    | 0, _ =>
     cases ho
     have h0 : a.tmps[2]?.getD undef = .pointer (some ⟨pa, 0, none⟩) := evalD (hF.old 2 (by decide))
     refine Ran.value rfl (v := .pointer (some ⟨pa, 0, none⟩)) (w1 := wa) ?_ ⟨rfl, Ext.refl _⟩
     go_simp
    | 1, _ =>
     cases ho
     have h0 : a.tmps[35]?.getD undef = .pointer (some ⟨pa, 0, none⟩) := evalD ((hF.from_ 0 35 rfl (by decide)))
     have q := (Row.ext (HRA1.out) hE).cell
     refine Ran.value rfl (v := .int .i64 ax) (w1 := wa) ?_ ⟨rfl, Ext.refl _⟩
     go_simp
    | 2, _ =>
     cases ho
     have h0 : a.tmps[3]?.getD undef = .pointer (some ⟨pb, 0, none⟩) := evalD (hF.old 3 (by decide))
     refine Ran.value rfl (v := .pointer (some ⟨pb, 0, none⟩)) (w1 := wa) ?_ ⟨rfl, Ext.refl _⟩
     go_simp
    | 3, _ =>
     cases ho
     have h0 : a.tmps[37]?.getD undef = .pointer (some ⟨pb, 0, none⟩) := evalD ((hF.from_ 2 37 rfl (by decide)))
     have q := (Row.ext (HRB1.out) hE).cell
     refine Ran.value rfl (v := .int .i64 bx) (w1 := wa) ?_ ⟨rfl, Ext.refl _⟩
     go_simp
    | 4, _ =>
     cases ho
     have h0 : a.tmps[36]?.getD undef = .int .i64 ax := evalD ((hF.from_ 1 36 rfl (by decide)))
     have h1 : a.tmps[38]?.getD undef = .int .i64 bx := evalD ((hF.from_ 3 38 rfl (by decide)))
     refine Ran.value rfl (v := .int .i64 (ax * bx)) (w1 := wa) ?_ ⟨rfl, Ext.refl _⟩
     go_simp
     exact IntWalk.i64_in _ ⟨by omega, by omega⟩
    | 5, _ =>
     cases ho
     have h0 : a.tmps[2]?.getD undef = .pointer (some ⟨pa, 0, none⟩) := evalD (hF.old 2 (by decide))
     refine Ran.value rfl (v := .pointer (some ⟨pa, 1, none⟩)) (w1 := wa) ?_ ⟨rfl, Ext.refl _⟩
     go_simp
    | 6, _ =>
     cases ho
     have h0 : a.tmps[40]?.getD undef = .pointer (some ⟨pa, 1, none⟩) := evalD ((hF.from_ 5 40 rfl (by decide)))
     have q := (Row.ext (HRA1.out) hE).cell
     refine Ran.value rfl (v := .int .i64 ay) (w1 := wa) ?_ ⟨rfl, Ext.refl _⟩
     go_simp
    | 7, _ =>
     cases ho
     have h0 : a.tmps[3]?.getD undef = .pointer (some ⟨pb, 0, none⟩) := evalD (hF.old 3 (by decide))
     refine Ran.value rfl (v := .pointer (some ⟨pb, 1, none⟩)) (w1 := wa) ?_ ⟨rfl, Ext.refl _⟩
     go_simp
    | 8, _ =>
     cases ho
     have h0 : a.tmps[42]?.getD undef = .pointer (some ⟨pb, 1, none⟩) := evalD ((hF.from_ 7 42 rfl (by decide)))
     have q := (Row.ext (HRB1.out) hE).cell
     refine Ran.value rfl (v := .int .i64 by_) (w1 := wa) ?_ ⟨rfl, Ext.refl _⟩
     go_simp
    | 9, _ =>
     cases ho
     have h0 : a.tmps[41]?.getD undef = .int .i64 ay := evalD ((hF.from_ 6 41 rfl (by decide)))
     have h1 : a.tmps[43]?.getD undef = .int .i64 by_ := evalD ((hF.from_ 8 43 rfl (by decide)))
     refine Ran.value rfl (v := .int .i64 (ay * by_)) (w1 := wa) ?_ ⟨rfl, Ext.refl _⟩
     go_simp
     exact IntWalk.i64_in _ ⟨by omega, by omega⟩
    | 10, _ =>
     cases ho
     have h0 : a.tmps[39]?.getD undef = .int .i64 (ax * bx) := evalD ((hF.from_ 4 39 rfl (by decide)))
     have h1 : a.tmps[44]?.getD undef = .int .i64 (ay * by_) := evalD ((hF.from_ 9 44 rfl (by decide)))
     refine Ran.value rfl (v := .int .i64 (ax * bx + ay * by_)) (w1 := wa) ?_ ⟨rfl, Ext.refl _⟩
     go_simp
     exact IntWalk.i64_in _ ⟨by omega, by omega⟩
    | 11, _ =>
     cases ho
     have h0 : a.tmps[2]?.getD undef = .pointer (some ⟨pa, 0, none⟩) := evalD (hF.old 2 (by decide))
     refine Ran.value rfl (v := .pointer (some ⟨pa, 2, none⟩)) (w1 := wa) ?_ ⟨rfl, Ext.refl _⟩
     go_simp
    | 12, _ =>
     cases ho
     have h0 : a.tmps[46]?.getD undef = .pointer (some ⟨pa, 2, none⟩) := evalD ((hF.from_ 11 46 rfl (by decide)))
     have q := (Row.ext (HRA1.out) hE).cell
     refine Ran.value rfl (v := .int .i64 ar) (w1 := wa) ?_ ⟨rfl, Ext.refl _⟩
     go_simp
    | 13, _ =>
     cases ho
     have h0 : a.tmps[3]?.getD undef = .pointer (some ⟨pb, 0, none⟩) := evalD (hF.old 3 (by decide))
     refine Ran.value rfl (v := .pointer (some ⟨pb, 2, none⟩)) (w1 := wa) ?_ ⟨rfl, Ext.refl _⟩
     go_simp
    | 14, _ =>
     cases ho
     have h0 : a.tmps[48]?.getD undef = .pointer (some ⟨pb, 2, none⟩) := evalD ((hF.from_ 13 48 rfl (by decide)))
     have q := (Row.ext (HRB1.out) hE).cell
     refine Ran.value rfl (v := .int .i64 br) (w1 := wa) ?_ ⟨rfl, Ext.refl _⟩
     go_simp
    | 15, _ =>
     cases ho
     have h0 : a.tmps[47]?.getD undef = .int .i64 ar := evalD ((hF.from_ 12 47 rfl (by decide)))
     have h1 : a.tmps[49]?.getD undef = .int .i64 br := evalD ((hF.from_ 14 49 rfl (by decide)))
     refine Ran.value rfl (v := .int .i64 (ar * br)) (w1 := wa) ?_ ⟨rfl, Ext.refl _⟩
     go_simp
     exact IntWalk.i64_in _ ⟨by omega, by omega⟩
    | 16, _ =>
     cases ho
     have h0 : a.tmps[45]?.getD undef = .int .i64 (ax * bx + ay * by_) := evalD ((hF.from_ 10 45 rfl (by decide)))
     refine Ran.value rfl (v := .int .i64 (ax * bx + ay * by_)) (w1 := wa) ?_ ⟨rfl, Ext.refl _⟩
     go_simp
    | k + 17, hin => omega
   case hQ =>
    intro vs w2 hE hΦ
    have f0 : vs 0 = .pointer (some ⟨pa, 0, none⟩) := hΦ 0 (by omega)
    have f1 : vs 1 = .int .i64 ax := hΦ 1 (by omega)
    have f2 : vs 2 = .pointer (some ⟨pb, 0, none⟩) := hΦ 2 (by omega)
    have f3 : vs 3 = .int .i64 bx := hΦ 3 (by omega)
    have f4 : vs 4 = .int .i64 (ax * bx) := hΦ 4 (by omega)
    have f5 : vs 5 = .pointer (some ⟨pa, 1, none⟩) := hΦ 5 (by omega)
    have f6 : vs 6 = .int .i64 ay := hΦ 6 (by omega)
    have f7 : vs 7 = .pointer (some ⟨pb, 1, none⟩) := hΦ 7 (by omega)
    have f8 : vs 8 = .int .i64 by_ := hΦ 8 (by omega)
    have f9 : vs 9 = .int .i64 (ay * by_) := hΦ 9 (by omega)
    have f10 : vs 10 = .int .i64 (ax * bx + ay * by_) := hΦ 10 (by omega)
    have f11 : vs 11 = .pointer (some ⟨pa, 2, none⟩) := hΦ 11 (by omega)
    have f12 : vs 12 = .int .i64 ar := hΦ 12 (by omega)
    have f13 : vs 13 = .pointer (some ⟨pb, 2, none⟩) := hΦ 13 (by omega)
    have f14 : vs 14 = .int .i64 br := hΦ 14 (by omega)
    have f15 : vs 15 = .int .i64 (ar * br) := hΦ 15 (by omega)
    have f16 : vs 16 = .int .i64 (ax * bx + ay * by_) := hΦ 16 (by omega)
    have hrg : List.range 17 = [0, 1, 2, 3, 4, 5, 6, 7, 8, 9, 10, 11, 12, 13, 14, 15, 16] := rfl
    unfold putAll putS
    simp only [List.length_cons, List.length_nil, List.take_succ_cons, List.take_zero, List.drop_succ_cons, List.drop_zero, Nat.reduceAdd, hrg, List.foldl_cons, List.foldl_nil, dstOf, List.getElem?_cons_succ, List.getElem?_cons_zero, Option.bind_some]
    clear hrg
    rw [f0, f1, f2, f3, f4, f5, f6, f7, f8, f9, f10, f11, f12, f13, f14, f15, f16]
    have HE4 := Lib.hid (HE1.out.trans hE)
    have HRA5 := Lib.hid (HRA1.out.ext hE)
    have HRB5 := Lib.hid (HRB1.out.ext hE)
    clear hΦ f0 f1 f2 f3 f4 f5 f6 f7 f8 f9 f10 f11 f12 f13 f14 f15 f16 hE
    obtain ⟨W5, rfl⟩ : ∃ W5, W5 = w2 := ⟨_, rfl⟩
    go_wp2_with fail
    refine wp_region_free_tail 23 23 (shdΦ5 ax ay ar bx by_ br Na Nb Ra Rb pa pb W5) (by kernel_rfl) (by simp) (by kernel_rfl) (by kernel_rfl) (by kernel_rfl) (by kernel_rfl) shdΦ5_mono ?hob ?hQ (fun h => absurd h (by omega))
    case hob =>
     intro i o hin ho a wa hE hF
     match i, hin with
     | 0, _ =>
      cases ho
      have h0 : a.tmps[2]?.getD undef = .pointer (some ⟨pa, 0, none⟩) := evalD (hF.old 2 (by decide))
      refine Ran.value rfl (v := .pointer (some ⟨pa, 2, none⟩)) (w1 := wa) ?_ ⟨rfl, Ext.refl _⟩
      go_simp
     | 1, _ =>
      cases ho
      have h0 : a.tmps[51]?.getD undef = .pointer (some ⟨pa, 2, none⟩) := evalD ((hF.from_ 0 51 rfl (by decide)))
      have q := (Row.ext (HRA5.out) hE).cell
      refine Ran.value rfl (v := .int .i64 ar) (w1 := wa) ?_ ⟨rfl, Ext.refl _⟩
      go_simp
     | 2, _ =>
      cases ho
      have h0 : a.tmps[52]?.getD undef = .int .i64 ar := evalD ((hF.from_ 1 52 rfl (by decide)))
      refine Ran.value rfl (v := .slice (some ⟨wa.heap.size, 0, none⟩) 1 1) (w1 := wa.alloc (.cells #[.int .i64 ar] 3)) ?_ ⟨⟨wa.heap.size, rfl, hE.size, Row.new _ _ _⟩, (Ext.refl _).alloc _⟩
      go_simp
     | 3, _ =>
      cases ho
      obtain ⟨b_h0, h0, hb_h0, hr_h0⟩ : MkAt W5 (a.eval (.tmp 53)) wa 3 1 #[.int .i64 ar] := (hF.from_ 2 53 rfl (by decide))
      replace h0 := evalD h0
      refine Ran.enter rfl (f := 182) (args := #[.slice (some ⟨b_h0, 0, none⟩) 1 1]) (w1 := wa) ?_ ?_
      ·go_simp
      ·refine (HRa.out b_h0 _ hr_h0).mono ?_
       rintro r w1 ⟨rfl, hX⟩
       exact ⟨_, rfl, rfl, hX ▸ Ext.refl _⟩
     | 4, _ =>
      cases ho
      have h0 : a.tmps[3]?.getD undef = .pointer (some ⟨pb, 0, none⟩) := evalD (hF.old 3 (by decide))
      refine Ran.value rfl (v := .pointer (some ⟨pb, 0, none⟩)) (w1 := wa) ?_ ⟨rfl, Ext.refl _⟩
      go_simp
     | 5, _ =>
      cases ho
      have h0 : a.tmps[55]?.getD undef = .pointer (some ⟨pb, 0, none⟩) := evalD ((hF.from_ 4 55 rfl (by decide)))
      have q := (Row.ext (HRB5.out) hE).cell
      refine Ran.value rfl (v := .int .i64 bx) (w1 := wa) ?_ ⟨rfl, Ext.refl _⟩
      go_simp
     | 6, _ =>
      cases ho
      have h0 : a.tmps[3]?.getD undef = .pointer (some ⟨pb, 0, none⟩) := evalD (hF.old 3 (by decide))
      refine Ran.value rfl (v := .pointer (some ⟨pb, 1, none⟩)) (w1 := wa) ?_ ⟨rfl, Ext.refl _⟩
      go_simp
     | 7, _ =>
      cases ho
      have h0 : a.tmps[57]?.getD undef = .pointer (some ⟨pb, 1, none⟩) := evalD ((hF.from_ 6 57 rfl (by decide)))
      have q := (Row.ext (HRB5.out) hE).cell
      refine Ran.value rfl (v := .int .i64 by_) (w1 := wa) ?_ ⟨rfl, Ext.refl _⟩
      go_simp
     | 8, _ =>
      cases ho
      have h0 : a.tmps[56]?.getD undef = .int .i64 bx := evalD ((hF.from_ 5 56 rfl (by decide)))
      have h1 : a.tmps[58]?.getD undef = .int .i64 by_ := evalD ((hF.from_ 7 58 rfl (by decide)))
      refine Ran.value rfl (v := .slice (some ⟨wa.heap.size, 0, none⟩) 2 2) (w1 := wa.alloc (.cells #[.int .i64 bx, .int .i64 by_] 3)) ?_ ⟨⟨wa.heap.size, rfl, hE.size, Row.new _ _ _⟩, (Ext.refl _).alloc _⟩
      go_simp
     | 9, _ =>
      cases ho
      obtain ⟨b_h0, h0, hb_h0, hr_h0⟩ : MkAt W5 (a.eval (.tmp 59)) wa 3 2 #[.int .i64 bx, .int .i64 by_] := (hF.from_ 8 59 rfl (by decide))
      replace h0 := evalD h0
      refine Ran.enter rfl (f := 182) (args := #[.slice (some ⟨b_h0, 0, none⟩) 2 2]) (w1 := wa) ?_ ?_
      ·go_simp
      ·refine (HNb.out b_h0 _ hr_h0).mono ?_
       rintro r w1 ⟨rfl, hX⟩
       exact ⟨_, rfl, rfl, hX ▸ Ext.refl _⟩
     | 10, _ =>
      cases ho
      have h0 : a.tmps[54]?.getD undef = .int .i64 Ra := evalD ((hF.from_ 3 54 rfl (by decide)))
      have h1 : a.tmps[60]?.getD undef = .int .i64 Nb := evalD ((hF.from_ 9 60 rfl (by decide)))
      refine Ran.value rfl (v := .int .i64 (Ra * Nb)) (w1 := wa) ?_ ⟨rfl, Ext.refl _⟩
      go_simp
      exact IntWalk.i64_in _ ⟨by omega, by omega⟩
     | 11, _ =>
      cases ho
      have h0 : a.tmps[3]?.getD undef = .pointer (some ⟨pb, 0, none⟩) := evalD (hF.old 3 (by decide))
      refine Ran.value rfl (v := .pointer (some ⟨pb, 2, none⟩)) (w1 := wa) ?_ ⟨rfl, Ext.refl _⟩
      go_simp
     | 12, _ =>
      cases ho
      have h0 : a.tmps[62]?.getD undef = .pointer (some ⟨pb, 2, none⟩) := evalD ((hF.from_ 11 62 rfl (by decide)))
      have q := (Row.ext (HRB5.out) hE).cell
      refine Ran.value rfl (v := .int .i64 br) (w1 := wa) ?_ ⟨rfl, Ext.refl _⟩
      go_simp
     | 13, _ =>
      cases ho
      have h0 : a.tmps[63]?.getD undef = .int .i64 br := evalD ((hF.from_ 12 63 rfl (by decide)))
      refine Ran.value rfl (v := .slice (some ⟨wa.heap.size, 0, none⟩) 1 1) (w1 := wa.alloc (.cells #[.int .i64 br] 3)) ?_ ⟨⟨wa.heap.size, rfl, hE.size, Row.new _ _ _⟩, (Ext.refl _).alloc _⟩
      go_simp
     | 14, _ =>
      cases ho
      obtain ⟨b_h0, h0, hb_h0, hr_h0⟩ : MkAt W5 (a.eval (.tmp 64)) wa 3 1 #[.int .i64 br] := (hF.from_ 13 64 rfl (by decide))
      replace h0 := evalD h0
      refine Ran.enter rfl (f := 182) (args := #[.slice (some ⟨b_h0, 0, none⟩) 1 1]) (w1 := wa) ?_ ?_
      ·go_simp
      ·refine (HRb.out b_h0 _ hr_h0).mono ?_
       rintro r w1 ⟨rfl, hX⟩
       exact ⟨_, rfl, rfl, hX ▸ Ext.refl _⟩
     | 15, _ =>
      cases ho
      have h0 : a.tmps[2]?.getD undef = .pointer (some ⟨pa, 0, none⟩) := evalD (hF.old 2 (by decide))
      refine Ran.value rfl (v := .pointer (some ⟨pa, 0, none⟩)) (w1 := wa) ?_ ⟨rfl, Ext.refl _⟩
      go_simp
     | 16, _ =>
      cases ho
      have h0 : a.tmps[66]?.getD undef = .pointer (some ⟨pa, 0, none⟩) := evalD ((hF.from_ 15 66 rfl (by decide)))
      have q := (Row.ext (HRA5.out) hE).cell
      refine Ran.value rfl (v := .int .i64 ax) (w1 := wa) ?_ ⟨rfl, Ext.refl _⟩
      go_simp
     | 17, _ =>
      cases ho
      have h0 : a.tmps[2]?.getD undef = .pointer (some ⟨pa, 0, none⟩) := evalD (hF.old 2 (by decide))
      refine Ran.value rfl (v := .pointer (some ⟨pa, 1, none⟩)) (w1 := wa) ?_ ⟨rfl, Ext.refl _⟩
      go_simp
     | 18, _ =>
      cases ho
      have h0 : a.tmps[68]?.getD undef = .pointer (some ⟨pa, 1, none⟩) := evalD ((hF.from_ 17 68 rfl (by decide)))
      have q := (Row.ext (HRA5.out) hE).cell
      refine Ran.value rfl (v := .int .i64 ay) (w1 := wa) ?_ ⟨rfl, Ext.refl _⟩
      go_simp
     | 19, _ =>
      cases ho
      have h0 : a.tmps[67]?.getD undef = .int .i64 ax := evalD ((hF.from_ 16 67 rfl (by decide)))
      have h1 : a.tmps[69]?.getD undef = .int .i64 ay := evalD ((hF.from_ 18 69 rfl (by decide)))
      refine Ran.value rfl (v := .slice (some ⟨wa.heap.size, 0, none⟩) 2 2) (w1 := wa.alloc (.cells #[.int .i64 ax, .int .i64 ay] 3)) ?_ ⟨⟨wa.heap.size, rfl, hE.size, Row.new _ _ _⟩, (Ext.refl _).alloc _⟩
      go_simp
     | 20, _ =>
      cases ho
      obtain ⟨b_h0, h0, hb_h0, hr_h0⟩ : MkAt W5 (a.eval (.tmp 70)) wa 3 2 #[.int .i64 ax, .int .i64 ay] := (hF.from_ 19 70 rfl (by decide))
      replace h0 := evalD h0
      refine Ran.enter rfl (f := 182) (args := #[.slice (some ⟨b_h0, 0, none⟩) 2 2]) (w1 := wa) ?_ ?_
      ·go_simp
      ·refine (HNa.out b_h0 _ hr_h0).mono ?_
       rintro r w1 ⟨rfl, hX⟩
       exact ⟨_, rfl, rfl, hX ▸ Ext.refl _⟩
     | 21, _ =>
      cases ho
      have h0 : a.tmps[65]?.getD undef = .int .i64 Rb := evalD ((hF.from_ 14 65 rfl (by decide)))
      have h1 : a.tmps[71]?.getD undef = .int .i64 Na := evalD ((hF.from_ 20 71 rfl (by decide)))
      refine Ran.value rfl (v := .int .i64 (Rb * Na)) (w1 := wa) ?_ ⟨rfl, Ext.refl _⟩
      go_simp
      exact IntWalk.i64_in _ ⟨by omega, by omega⟩
     | 22, _ =>
      cases ho
      have h0 : a.tmps[61]?.getD undef = .int .i64 (Ra * Nb) := evalD ((hF.from_ 10 61 rfl (by decide)))
      have h1 : a.tmps[72]?.getD undef = .int .i64 (Rb * Na) := evalD ((hF.from_ 21 72 rfl (by decide)))
      refine Ran.value rfl (v := .bool (decide (Rb * Na ≤ Ra * Nb))) (w1 := wa) ?_ ⟨rfl, Ext.refl _⟩
      go_simp
     | k + 23, hin => omega
    case hQ =>
     intro vs w2 hE hΦ
     have f0 : vs 0 = .pointer (some ⟨pa, 2, none⟩) := hΦ 0 (by omega)
     have f1 : vs 1 = .int .i64 ar := hΦ 1 (by omega)
     obtain ⟨b2, f2, hb2, hr2⟩ : MkAt W5 (vs 2) w2 3 1 #[.int .i64 ar] := hΦ 2 (by omega)
     have f3 : vs 3 = .int .i64 Ra := hΦ 3 (by omega)
     have f4 : vs 4 = .pointer (some ⟨pb, 0, none⟩) := hΦ 4 (by omega)
     have f5 : vs 5 = .int .i64 bx := hΦ 5 (by omega)
     have f6 : vs 6 = .pointer (some ⟨pb, 1, none⟩) := hΦ 6 (by omega)
     have f7 : vs 7 = .int .i64 by_ := hΦ 7 (by omega)
     obtain ⟨b8, f8, hb8, hr8⟩ : MkAt W5 (vs 8) w2 3 2 #[.int .i64 bx, .int .i64 by_] := hΦ 8 (by omega)
     have f9 : vs 9 = .int .i64 Nb := hΦ 9 (by omega)
     have f10 : vs 10 = .int .i64 (Ra * Nb) := hΦ 10 (by omega)
     have f11 : vs 11 = .pointer (some ⟨pb, 2, none⟩) := hΦ 11 (by omega)
     have f12 : vs 12 = .int .i64 br := hΦ 12 (by omega)
     obtain ⟨b13, f13, hb13, hr13⟩ : MkAt W5 (vs 13) w2 3 1 #[.int .i64 br] := hΦ 13 (by omega)
     have f14 : vs 14 = .int .i64 Rb := hΦ 14 (by omega)
     have f15 : vs 15 = .pointer (some ⟨pa, 0, none⟩) := hΦ 15 (by omega)
     have f16 : vs 16 = .int .i64 ax := hΦ 16 (by omega)
     have f17 : vs 17 = .pointer (some ⟨pa, 1, none⟩) := hΦ 17 (by omega)
     have f18 : vs 18 = .int .i64 ay := hΦ 18 (by omega)
     obtain ⟨b19, f19, hb19, hr19⟩ : MkAt W5 (vs 19) w2 3 2 #[.int .i64 ax, .int .i64 ay] := hΦ 19 (by omega)
     have f20 : vs 20 = .int .i64 Na := hΦ 20 (by omega)
     have f21 : vs 21 = .int .i64 (Rb * Na) := hΦ 21 (by omega)
     have f22 : vs 22 = .bool (decide (Rb * Na ≤ Ra * Nb)) := hΦ 22 (by omega)
     have hrg : List.range 23 = [0, 1, 2, 3, 4, 5, 6, 7, 8, 9, 10, 11, 12, 13, 14, 15, 16, 17, 18, 19, 20, 21, 22] := rfl
     unfold putAll putS
     simp only [List.length_cons, List.length_nil, List.take_succ_cons, List.take_zero, List.drop_succ_cons, List.drop_zero, Nat.reduceAdd, hrg, List.foldl_cons, List.foldl_nil, dstOf, List.getElem?_cons_succ, List.getElem?_cons_zero, Option.bind_some]
     clear hrg
     rw [f0, f1, f2, f3, f4, f5, f6, f7, f8, f9, f10, f11, f12, f13, f14, f15, f16, f17, f18, f19, f20, f21, f22]
     have HE5 := Lib.hid (HE4.out.trans hE)
     clear hΦ f0 f1 f2 f3 f4 f5 f6 f7 f8 f9 f10 f11 f12 f13 f14 f15 f16 f17 f18 f19 f20 f21 f22 hr2 hr8 hr13 hr19 hE
     obtain ⟨c1, hc1⟩ : ∃ c1, decide (Rb * Na ≤ Ra * Nb) = c1 := ⟨_, rfl⟩
     obtain ⟨dt, hdt⟩ : ∃ dt, ax * bx + ay * by_ = dt := ⟨_, rfl⟩
     obtain ⟨bo, hbo⟩ : ∃ bo, ar * br = bo := ⟨_, rfl⟩
     obtain ⟨st, hst⟩ : ∃ st, (Na - Ra) * (Nb - Rb) = st := ⟨_, rfl⟩
     have d1 : -80000 ≤ dt ∧ dt ≤ 80000 := by omega
     have d2 : -40000 ≤ bo ∧ bo ≤ 40000 := by omega
     have d3 : -14400000000 ≤ st ∧ st ≤ 14400000000 := by omega
     rw [hc1, hdt, hbo, hst] at HFIN2
     rw [hc1, hdt, hbo]
     have HM1 : Hid (∀ (b : Nat) (w : World), Row w b 3 #[.int .i64 (dt - bo)] → Calls Tryz.prog 182 #[.slice (some ⟨b, 0, none⟩) 1 1] w fun e w' => e = .returned (.int .i64 ((dt - bo) * (dt - bo))) ∧ w = w') := Lib.hid fun b w hr => e_squares1 b (dt - bo) w hr (by omega) (by omega)
     have HM2 : Hid (∀ (b : Nat) (w : World), Row w b 3 #[.int .i64 (dt + bo)] → Calls Tryz.prog 182 #[.slice (some ⟨b, 0, none⟩) 1 1] w fun e w' => e = .returned (.int .i64 ((dt + bo) * (dt + bo))) ∧ w = w') := Lib.hid fun b w hr => e_squares1 b (dt + bo) w hr (by omega) (by omega)
     obtain ⟨m1, hm1⟩ : ∃ m1, (dt - bo) * (dt - bo) = m1 := ⟨_, rfl⟩
     obtain ⟨m2, hm2⟩ : ∃ m2, (dt + bo) * (dt + bo) = m2 := ⟨_, rfl⟩
     rw [hm1] at HM1 HFIN2
     rw [hm2] at HM2 HFIN2
     clear p1 p2 p3 p4 p5 p6 hc1 hdt hbo hm1 hm2
     cases c1
     ·have HN : Hid (Ec.shades ⟨ax, ay, ar⟩ ⟨bx, by_, br⟩ = if (decide (-bo < dt) && decide (st < m2)) = true then 2 else 1) := Lib.hid (HFIN2.out.trans (if_neg (by simp)))
      have HEX := Lib.hid HE5.out
      clear HFIN2
      by_cases g1 : -bo < dt
      ·by_cases g2 : st < m2
       ·have HV : Hid (Ec.shades ⟨ax, ay, ar⟩ ⟨bx, by_, br⟩ = 2) := Lib.hid (by rw [HN.out, if_pos (by simp [g1, g2])])
        go_wp2_with fail
        refine (HM2.out _ _ (Row.new _ _ _)).mono ?_
        rintro e w7 ⟨rfl, rfl⟩
        go_wp2_with fail
        go_ret
        exact ⟨by rw [HV.out] <;> rfl, HEX.out.alloc _⟩
       ·have HV : Hid (Ec.shades ⟨ax, ay, ar⟩ ⟨bx, by_, br⟩ = 1) := Lib.hid (by rw [HN.out, if_neg (by simp [g2])])
        go_wp2_with fail
        refine (HM2.out _ _ (Row.new _ _ _)).mono ?_
        rintro e w7 ⟨rfl, rfl⟩
        go_wp2_with fail
        go_ret
        exact ⟨by rw [HV.out] <;> rfl, HEX.out.alloc _⟩
      ·have HV : Hid (Ec.shades ⟨ax, ay, ar⟩ ⟨bx, by_, br⟩ = 1) := Lib.hid (by rw [HN.out, if_neg (by simp [g1])])
       go_wp2_with fail
       go_ret
       exact ⟨by rw [HV.out] <;> rfl, HEX.out⟩
     ·by_cases hb : bo ≤ dt
      ·by_cases hm : st ≤ m1
       ·have HV : Hid (Ec.shades ⟨ax, ay, ar⟩ ⟨bx, by_, br⟩ = 3) := Lib.hid (by rw [HFIN2.out, if_pos (by simp [hb, hm])])
        go_wp2_with fail
        refine (HM1.out _ _ (Row.new _ _ _)).mono ?_
        rintro e w7 ⟨rfl, rfl⟩
        go_wp2_with fail
        go_ret
        exact ⟨by rw [HV.out] <;> rfl, HE5.out.alloc _⟩
       ·have HN : Hid (Ec.shades ⟨ax, ay, ar⟩ ⟨bx, by_, br⟩ = if (decide (-bo < dt) && decide (st < m2)) = true then 2 else 1) := Lib.hid (HFIN2.out.trans (if_neg (by simp [hm])))
        clear HFIN2
        have HEX := Lib.hid (HE5.out.alloc (.cells #[.int .i64 (dt - bo)] 3))
        go_wp2_with fail
        refine (HM1.out _ _ (Row.new _ _ _)).mono ?_
        rintro e w7 ⟨rfl, rfl⟩
        obtain ⟨W6, hW6⟩ : ∃ W6, w2.alloc (.cells #[.int .i64 (dt - bo)] 3) = W6 := ⟨_, rfl⟩
        rw [hW6] at HEX ⊢
        clear hW6
        by_cases g1 : -bo < dt
        ·by_cases g2 : st < m2
         ·have HV : Hid (Ec.shades ⟨ax, ay, ar⟩ ⟨bx, by_, br⟩ = 2) := Lib.hid (by rw [HN.out, if_pos (by simp [g1, g2])])
          go_wp2_with fail
          refine (HM2.out _ _ (Row.new _ _ _)).mono ?_
          rintro e w7 ⟨rfl, rfl⟩
          go_wp2_with fail
          go_ret
          exact ⟨by rw [HV.out] <;> rfl, HEX.out.alloc _⟩
         ·have HV : Hid (Ec.shades ⟨ax, ay, ar⟩ ⟨bx, by_, br⟩ = 1) := Lib.hid (by rw [HN.out, if_neg (by simp [g2])])
          go_wp2_with fail
          refine (HM2.out _ _ (Row.new _ _ _)).mono ?_
          rintro e w7 ⟨rfl, rfl⟩
          go_wp2_with fail
          go_ret
          exact ⟨by rw [HV.out] <;> rfl, HEX.out.alloc _⟩
        ·have HV : Hid (Ec.shades ⟨ax, ay, ar⟩ ⟨bx, by_, br⟩ = 1) := Lib.hid (by rw [HN.out, if_neg (by simp [g1])])
         go_wp2_with fail
         go_ret
         exact ⟨by rw [HV.out] <;> rfl, HEX.out⟩
      ·have HN : Hid (Ec.shades ⟨ax, ay, ar⟩ ⟨bx, by_, br⟩ = if (decide (-bo < dt) && decide (st < m2)) = true then 2 else 1) := Lib.hid (HFIN2.out.trans (if_neg (by simp [hb])))
       clear HFIN2
       have HEX := Lib.hid HE5.out
       by_cases g1 : -bo < dt
       ·by_cases g2 : st < m2
        ·have HV : Hid (Ec.shades ⟨ax, ay, ar⟩ ⟨bx, by_, br⟩ = 2) := Lib.hid (by rw [HN.out, if_pos (by simp [g1, g2])])
         go_wp2_with fail
         refine (HM2.out _ _ (Row.new _ _ _)).mono ?_
         rintro e w7 ⟨rfl, rfl⟩
         go_wp2_with fail
         go_ret
         exact ⟨by rw [HV.out] <;> rfl, HEX.out.alloc _⟩
        ·have HV : Hid (Ec.shades ⟨ax, ay, ar⟩ ⟨bx, by_, br⟩ = 1) := Lib.hid (by rw [HN.out, if_neg (by simp [g2])])
         go_wp2_with fail
         refine (HM2.out _ _ (Row.new _ _ _)).mono ?_
         rintro e w7 ⟨rfl, rfl⟩
         go_wp2_with fail
         go_ret
         exact ⟨by rw [HV.out] <;> rfl, HEX.out.alloc _⟩
       ·have HV : Hid (Ec.shades ⟨ax, ay, ar⟩ ⟨bx, by_, br⟩ = 1) := Lib.hid (by rw [HN.out, if_neg (by simp [g1])])
        go_wp2_with fail
        go_ret
        exact ⟨by rw [HV.out] <;> rfl, HEX.out⟩
def BallsAt (w : World) (A : Option Addr) (l : List Ec.Ball) : Prop := 0 < l.length → ∃ b o, A = some ⟨b, o, none⟩ ∧ ∀ k, k < l.length → w.cell? ⟨b, o + k * 3, none⟩ = some (.int .i64 (Ec.ballAt l k).x) ∧ w.cell? ⟨b, o + k * 3 + 1, none⟩ = some (.int .i64 (Ec.ballAt l k).y) ∧ w.cell? ⟨b, o + k * 3 + 2, none⟩ = some (.int .i64 (Ec.ballAt l k).r)
theorem BallsAt.ext {w w' : World} {A : Option Addr} {l : List Ec.Ball} (h : BallsAt w A l) (he : Ext w w') : BallsAt w' A l := fun h0 =>
 let ⟨b, o, e, hk⟩ := h h0
 ⟨b, o, e, fun k hk' => ⟨he.cell (hk k hk').1, he.cell (hk k hk').2.1, he.cell (hk k hk').2.2⟩⟩
structure BallIn (b : Ec.Ball) : Prop where
 x : -100 ≤ b.x ∧ b.x ≤ 100
 y : -100 ≤ b.y ∧ b.y ≤ 100
 r : 1 ≤ b.r ∧ b.r ≤ 20
 p : b.r * b.r < b.x * b.x + b.y * b.y
theorem ballIn_of {b : Ec.Ball} (h : Ec.oneOk b = true) : BallIn b := by
 simp only [Ec.oneOk, Bool.and_eq_true, decide_eq_true_eq] at h
 have h2 := h.2
 unfold Ec.power at h2
 exact ⟨h.1.1.1, h.1.1.2, h.1.2, by omega⟩
theorem ballsIn_of {l : List Ec.Ball} (h : Ec.ballsOk l = true) : (1 ≤ l.length ∧ l.length ≤ 5) ∧ (∀ k, k < l.length → BallIn (Ec.ballAt l k)) ∧ ∀ k j, k < l.length → j < k → Ec.apart (Ec.ballAt l j) (Ec.ballAt l k) = true := by
 unfold Ec.ballsOk at h
 rw [Bool.and_eq_true] at h
 have h1 := (Ec.fitN_iff _ _).1 h.1
 have h2 := inR_iff.1 h.2
 exact ⟨⟨by omega, by omega⟩, fun k hk => ballIn_of ((Ec.fits_iff _ _).1 (h1 k hk)).1, fun k j hk hj => ((Ec.fits_iff _ _).1 (h1 k hk)).2 j hj⟩
def aprΦ5 (ax ay ar Na Ra : Int) (pb : Nat) (w0 : World) (i : Nat) (v : Value) (w : World) : Prop :=
 match i with
 | 0 => v = .pointer (some ⟨pb, 0, none⟩)
 | 1 => v = .int .i64 ax
 | 2 => v = .bool true
 | 3 => v = .bool false
 | 4 => v = .bool false
 | 5 => v = .pointer (some ⟨pb, 1, none⟩)
 | 6 => v = .int .i64 ay
 | 7 => v = .bool true
 | 8 => v = .bool false
 | 9 => v = .bool false
 | 10 => v = .bool false
 | 11 => v = .pointer (some ⟨pb, 2, none⟩)
 | 12 => v = .int .i64 ar
 | 13 => v = .bool true
 | 14 => v = .bool false
 | 15 => v = .bool false
 | 16 => v = .bool false
 | 17 => v = .pointer (some ⟨pb, 0, none⟩)
 | 18 => v = .int .i64 ax
 | 19 => v = .pointer (some ⟨pb, 1, none⟩)
 | 20 => v = .int .i64 ay
 | 21 => MkAt w0 v w 3 2 #[.int .i64 ax, .int .i64 ay]
 | 22 => v = .int .i64 Na
 | 23 => v = .pointer (some ⟨pb, 2, none⟩)
 | 24 => v = .int .i64 ar
 | 25 => MkAt w0 v w 3 1 #[.int .i64 ar]
 | 26 => v = .int .i64 Ra
 | 27 => v = .bool false
 | _ => v = .bool false
theorem aprΦ5_mono {ax ay ar Na Ra : Int} {pb : Nat} {w0 : World} (i : Nat) (v : Value) (w w' : World) (h : aprΦ5 ax ay ar Na Ra pb w0 i v w) (he : Ext w w') : aprΦ5 ax ay ar Na Ra pb w0 i v w' := by
 unfold aprΦ5 at h ⊢
 split at h <;> first
  | exact h
  | exact MkAt.ext h he
  | exact fun hg => MkAt.ext (h hg) he
def aprΦ10 (ax ay ar cx cy cr Dq Sq : Int) (pb pc : Nat) (w0 : World) (i : Nat) (v : Value) (w : World) : Prop :=
 match i with
 | 0 => v = .pointer (some ⟨pb, 0, none⟩)
 | 1 => v = .int .i64 ax
 | 2 => v = .pointer (some ⟨pc, 0, none⟩)
 | 3 => v = .int .i64 cx
 | 4 => v = .int .i64 (ax - cx)
 | 5 => v = .pointer (some ⟨pb, 1, none⟩)
 | 6 => v = .int .i64 ay
 | 7 => v = .pointer (some ⟨pc, 1, none⟩)
 | 8 => v = .int .i64 cy
 | 9 => v = .int .i64 (ay - cy)
 | 10 => MkAt w0 v w 3 2 #[.int .i64 (ax - cx), .int .i64 (ay - cy)]
 | 11 => v = .int .i64 Dq
 | 12 => v = .pointer (some ⟨pb, 2, none⟩)
 | 13 => v = .int .i64 ar
 | 14 => v = .pointer (some ⟨pc, 2, none⟩)
 | 15 => v = .int .i64 cr
 | 16 => v = .int .i64 (ar + cr)
 | 17 => MkAt w0 v w 3 1 #[.int .i64 (ar + cr)]
 | 18 => v = .int .i64 Sq
 | _ => v = .bool false
theorem aprΦ10_mono {ax ay ar cx cy cr Dq Sq : Int} {pb pc : Nat} {w0 : World} (i : Nat) (v : Value) (w w' : World) (h : aprΦ10 ax ay ar cx cy cr Dq Sq pb pc w0 i v w) (he : Ext w w') : aprΦ10 ax ay ar cx cy cr Dq Sq pb pc w0 i v w' := by
 unfold aprΦ10 at h ⊢
 split at h <;> first
  | exact h
  | exact MkAt.ext h he
  | exact fun hg => MkAt.ext (h hg) he
theorem e_apart_ok (l : List Ec.Ball) (A : Option Addr) (c : Nat) (w : World) (hm : BallsAt w A l) (hc : l.length ≤ c) (h : Ec.ballsOk l = true) :
  Calls Tryz.prog 156 #[.slice A l.length c] w fun e w' => e = .returned (.tuple #[]) ∧ Ext w w' := by
 obtain ⟨⟨l1, l5⟩, hin, hap⟩ := ballsIn_of h
 have HIN := Lib.hid hin
 have HAP := Lib.hid hap
 have hci : Sp.inR (l.length : Int) 1 5 = true := inR_iff.2 ⟨by omega, by omega⟩
 obtain ⟨bb, o, rfl, hcell⟩ := hm (by omega)
 have HM := Lib.hid hcell
 clear hm hin hap hcell h
 go_enter Tryz.func156, Tryz.ntmps156
 go_wp2_with fail
 refine (e_in_any _ _ _ _).mono ?_
 rintro e w1 ⟨rfl, rfl⟩
 rw [hci]
 clear hci
 go_wp2_with fail
 go_loopw [16] (fun i wr => ∃ k : Nat, k ≤ l.length ∧ i = .int .i64 k ∧ Ext w wr) (fun i _ => l.length - (intOf i).toNat)
 case atStart => exact ⟨0, Nat.zero_le _, rfl, Ext.refl _⟩
 case round =>
  obtain ⟨k, hk, rfl, hE⟩ := hrel
  by_cases hlt : k < l.length
  ·obtain ⟨q1, q2, q3⟩ := HM.out k hlt
   replace q1 := hE.cell q1
   replace q2 := hE.cell q2
   replace q3 := hE.cell q3
   have hB := HIN.out k hlt
   have HAPk := Lib.hid (fun j (hj : j < k) => HAP.out k j hlt hj)
   obtain ⟨b, hb⟩ : ∃ b, Ec.ballAt l k = b := ⟨_, rfl⟩
   rw [hb] at q1 q2 q3 hB HAPk
   obtain ⟨ax, ay, ar⟩ := b
   obtain ⟨x1, y1, r1, hp⟩ := hB
   simp only at q1 q2 q3 x1 y1 r1 hp
   have HE := Lib.hid hE
   have z1 := lts (lt_of_cell q1)
   simp only at z1
   clear hb hE
   have HB0 := Lib.hid (Row.new wr 145 #[.int .i64 ax, .int .i64 ay, .int .i64 ar])
   have HE1 := Lib.hid (HE.out.alloc (.cells #[.int .i64 ax, .int .i64 ay, .int .i64 ar] 145))
   obtain ⟨Na, hNa⟩ : ∃ Na, ax * ax + ay * ay = Na := ⟨_, rfl⟩
   obtain ⟨Ra, hRa⟩ : ∃ Ra, ar * ar = Ra := ⟨_, rfl⟩
   have HNa : Hid (∀ (b : Nat) (w : World), Row w b 3 #[.int .i64 ax, .int .i64 ay] → Calls Tryz.prog 182 #[.slice (some ⟨b, 0, none⟩) 2 2] w fun e w' => e = .returned (.int .i64 Na) ∧ w = w') := Lib.hid fun b w hr => by rw [← hNa]; exact e_squares2 b ax ay w hr (by omega) (by omega) (by omega) (by omega)
   have HRa : Hid (∀ (b : Nat) (w : World), Row w b 3 #[.int .i64 ar] → Calls Tryz.prog 182 #[.slice (some ⟨b, 0, none⟩) 1 1] w fun e w' => e = .returned (.int .i64 Ra) ∧ w = w') := Lib.hid fun b w hr => by rw [← hRa]; exact e_squares1 b ar w hr (by omega) (by omega)
   rw [hNa, hRa] at hp
   clear hNa hRa
   have HI1 : Hid (∀ w : World, Calls Tryz.prog 106 #[.int .i64 ax, .int .i64 (-100), .int .i64 100] w fun e w' => e = .returned (.bool true) ∧ w = w') := Lib.hid fun w => by have := e_in_any ax (-100) 100 w; rwa [inR_iff.2 x1] at this
   have HI2 : Hid (∀ w : World, Calls Tryz.prog 106 #[.int .i64 ay, .int .i64 (-100), .int .i64 100] w fun e w' => e = .returned (.bool true) ∧ w = w') := Lib.hid fun w => by have := e_in_any ay (-100) 100 w; rwa [inR_iff.2 y1] at this
   have HI3 : Hid (∀ w : World, Calls Tryz.prog 106 #[.int .i64 ar, .int .i64 1, .int .i64 20] w fun e w' => e = .returned (.bool true) ∧ w = w') := Lib.hid fun w => by have := e_in_any ar 1 20 w; rwa [inR_iff.2 r1] at this
   go_wp2_with fail
   clear q1 q2 q3
   obtain ⟨W, hW⟩ : ∃ W, wr.alloc (.cells #[.int .i64 ax, .int .i64 ay, .int .i64 ar] 145) = W := ⟨_, rfl⟩
   obtain ⟨pb, hpb⟩ : ∃ pb, wr.heap.size = pb := ⟨_, rfl⟩
   have HB : Hid (Row W pb 145 #[.int .i64 ax, .int .i64 ay, .int .i64 ar]) := Lib.hid (by rw [← hW, ← hpb]; exact HB0.out)
   rw [hW] at HE1 ⊢
   rw [hpb] at z1 ⊢
   clear hW hpb HB0
   refine wp_region_free_tail 29 29 (aprΦ5 ax ay ar Na Ra pb W) (by kernel_rfl) (by simp) (by kernel_rfl) (by kernel_rfl) (by kernel_rfl) (by kernel_rfl) aprΦ5_mono ?hob ?hQ (fun h => absurd h (by omega))
   case hob =>
    intro i o hin ho a wa hE hF
    match i, hin with
    | 0, _ =>
     cases ho
     have h0 : a.tmps[3]?.getD undef = .pointer (some ⟨pb, 0, none⟩) := evalD (hF.old 3 (by decide))
     refine Ran.value rfl (v := .pointer (some ⟨pb, 0, none⟩)) (w1 := wa) ?_ ⟨rfl, Ext.refl _⟩
     go_simp
    | 1, _ =>
     cases ho
     have h0 : a.tmps[21]?.getD undef = .pointer (some ⟨pb, 0, none⟩) := evalD ((hF.from_ 0 21 rfl (by decide)))
     have q := (Row.ext (HB.out) hE).cell
     refine Ran.value rfl (v := .int .i64 ax) (w1 := wa) ?_ ⟨rfl, Ext.refl _⟩
     go_simp
    | 2, _ =>
     cases ho
     have h0 : a.tmps[22]?.getD undef = .int .i64 ax := evalD ((hF.from_ 1 22 rfl (by decide)))
     refine Ran.enter rfl (f := 106) (args := #[.int .i64 ax, .int .i64 (-100), .int .i64 100]) (w1 := wa) ?_ ?_
     ·go_simp
     ·refine (HI1.out _).mono ?_
      rintro r w1 ⟨rfl, hX⟩
      exact ⟨_, rfl, rfl, hX ▸ Ext.refl _⟩
    | 3, _ =>
     cases ho
     have h0 : a.tmps[23]?.getD undef = .bool true := evalD ((hF.from_ 2 23 rfl (by decide)))
     refine Ran.value rfl (v := .bool false) (w1 := wa) ?_ ⟨rfl, Ext.refl _⟩
     go_simp
    | 4, _ =>
     cases ho
     have h0 : a.tmps[24]?.getD undef = .bool false := evalD ((hF.from_ 3 24 rfl (by decide)))
     refine Ran.value rfl (v := .bool false) (w1 := wa) ?_ ⟨rfl, Ext.refl _⟩
     go_simp
    | 5, _ =>
     cases ho
     have hgv : a.eval (.tmp 25) = .bool false := hF.from_ 4 25 rfl (by decide)
     refine Ran.if_ rfl rfl rfl hgv (fun _ => ?_) (fun h => absurd rfl h)
     have h0 : a.tmps[3]?.getD undef = .pointer (some ⟨pb, 0, none⟩) := evalD (hF.old 3 (by decide))
     refine Ran.value rfl (v := .pointer (some ⟨pb, 1, none⟩)) (w1 := wa) ?_ ⟨rfl, Ext.refl _⟩
     go_simp
    | 6, _ =>
     cases ho
     have hgv : a.eval (.tmp 25) = .bool false := hF.from_ 4 25 rfl (by decide)
     refine Ran.if_ rfl rfl rfl hgv (fun _ => ?_) (fun h => absurd rfl h)
     have h0 : a.tmps[26]?.getD undef = .pointer (some ⟨pb, 1, none⟩) := evalD ((hF.from_ 5 26 rfl (by decide)))
     have q := (Row.ext (HB.out) hE).cell
     refine Ran.value rfl (v := .int .i64 ay) (w1 := wa) ?_ ⟨rfl, Ext.refl _⟩
     go_simp
    | 7, _ =>
     cases ho
     have hgv : a.eval (.tmp 25) = .bool false := hF.from_ 4 25 rfl (by decide)
     refine Ran.if_ rfl rfl rfl hgv (fun _ => ?_) (fun h => absurd rfl h)
     have h0 : a.tmps[27]?.getD undef = .int .i64 ay := evalD ((hF.from_ 6 27 rfl (by decide)))
     refine Ran.enter rfl (f := 106) (args := #[.int .i64 ay, .int .i64 (-100), .int .i64 100]) (w1 := wa) ?_ ?_
     ·go_simp
     ·refine (HI2.out _).mono ?_
      rintro r w1 ⟨rfl, hX⟩
      exact ⟨_, rfl, rfl, hX ▸ Ext.refl _⟩
    | 8, _ =>
     cases ho
     have hgv : a.eval (.tmp 25) = .bool false := hF.from_ 4 25 rfl (by decide)
     refine Ran.if_ rfl rfl rfl hgv (fun _ => ?_) (fun h => absurd rfl h)
     have h0 : a.tmps[28]?.getD undef = .bool true := evalD ((hF.from_ 7 28 rfl (by decide)))
     refine Ran.value rfl (v := .bool false) (w1 := wa) ?_ ⟨rfl, Ext.refl _⟩
     go_simp
    | 9, _ =>
     cases ho
     have h0 : a.tmps[25]?.getD undef = .bool false := evalD ((hF.from_ 4 25 rfl (by decide)))
     have h1 : a.tmps[29]?.getD undef = .bool false := evalD ((hF.from_ 8 29 rfl (by decide)))
     refine Ran.value rfl (v := .bool false) (w1 := wa) ?_ ⟨rfl, Ext.refl _⟩
     go_simp
    | 10, _ =>
     cases ho
     have h0 : a.tmps[30]?.getD undef = .bool false := evalD ((hF.from_ 9 30 rfl (by decide)))
     refine Ran.value rfl (v := .bool false) (w1 := wa) ?_ ⟨rfl, Ext.refl _⟩
     go_simp
    | 11, _ =>
     cases ho
     have hgv : a.eval (.tmp 31) = .bool false := hF.from_ 10 31 rfl (by decide)
     refine Ran.if_ rfl rfl rfl hgv (fun _ => ?_) (fun h => absurd rfl h)
     have h0 : a.tmps[3]?.getD undef = .pointer (some ⟨pb, 0, none⟩) := evalD (hF.old 3 (by decide))
     refine Ran.value rfl (v := .pointer (some ⟨pb, 2, none⟩)) (w1 := wa) ?_ ⟨rfl, Ext.refl _⟩
     go_simp
    | 12, _ =>
     cases ho
     have hgv : a.eval (.tmp 31) = .bool false := hF.from_ 10 31 rfl (by decide)
     refine Ran.if_ rfl rfl rfl hgv (fun _ => ?_) (fun h => absurd rfl h)
     have h0 : a.tmps[32]?.getD undef = .pointer (some ⟨pb, 2, none⟩) := evalD ((hF.from_ 11 32 rfl (by decide)))
     have q := (Row.ext (HB.out) hE).cell
     refine Ran.value rfl (v := .int .i64 ar) (w1 := wa) ?_ ⟨rfl, Ext.refl _⟩
     go_simp
    | 13, _ =>
     cases ho
     have hgv : a.eval (.tmp 31) = .bool false := hF.from_ 10 31 rfl (by decide)
     refine Ran.if_ rfl rfl rfl hgv (fun _ => ?_) (fun h => absurd rfl h)
     have h0 : a.tmps[33]?.getD undef = .int .i64 ar := evalD ((hF.from_ 12 33 rfl (by decide)))
     refine Ran.enter rfl (f := 106) (args := #[.int .i64 ar, .int .i64 1, .int .i64 20]) (w1 := wa) ?_ ?_
     ·go_simp
     ·refine (HI3.out _).mono ?_
      rintro r w1 ⟨rfl, hX⟩
      exact ⟨_, rfl, rfl, hX ▸ Ext.refl _⟩
    | 14, _ =>
     cases ho
     have hgv : a.eval (.tmp 31) = .bool false := hF.from_ 10 31 rfl (by decide)
     refine Ran.if_ rfl rfl rfl hgv (fun _ => ?_) (fun h => absurd rfl h)
     have h0 : a.tmps[34]?.getD undef = .bool true := evalD ((hF.from_ 13 34 rfl (by decide)))
     refine Ran.value rfl (v := .bool false) (w1 := wa) ?_ ⟨rfl, Ext.refl _⟩
     go_simp
    | 15, _ =>
     cases ho
     have h0 : a.tmps[31]?.getD undef = .bool false := evalD ((hF.from_ 10 31 rfl (by decide)))
     have h1 : a.tmps[35]?.getD undef = .bool false := evalD ((hF.from_ 14 35 rfl (by decide)))
     refine Ran.value rfl (v := .bool false) (w1 := wa) ?_ ⟨rfl, Ext.refl _⟩
     go_simp
    | 16, _ =>
     cases ho
     have h0 : a.tmps[36]?.getD undef = .bool false := evalD ((hF.from_ 15 36 rfl (by decide)))
     refine Ran.value rfl (v := .bool false) (w1 := wa) ?_ ⟨rfl, Ext.refl _⟩
     go_simp
    | 17, _ =>
     cases ho
     have hgv : a.eval (.tmp 37) = .bool false := hF.from_ 16 37 rfl (by decide)
     refine Ran.if_ rfl rfl rfl hgv (fun _ => ?_) (fun h => absurd rfl h)
     have h0 : a.tmps[3]?.getD undef = .pointer (some ⟨pb, 0, none⟩) := evalD (hF.old 3 (by decide))
     refine Ran.value rfl (v := .pointer (some ⟨pb, 0, none⟩)) (w1 := wa) ?_ ⟨rfl, Ext.refl _⟩
     go_simp
    | 18, _ =>
     cases ho
     have hgv : a.eval (.tmp 37) = .bool false := hF.from_ 16 37 rfl (by decide)
     refine Ran.if_ rfl rfl rfl hgv (fun _ => ?_) (fun h => absurd rfl h)
     have h0 : a.tmps[38]?.getD undef = .pointer (some ⟨pb, 0, none⟩) := evalD ((hF.from_ 17 38 rfl (by decide)))
     have q := (Row.ext (HB.out) hE).cell
     refine Ran.value rfl (v := .int .i64 ax) (w1 := wa) ?_ ⟨rfl, Ext.refl _⟩
     go_simp
    | 19, _ =>
     cases ho
     have hgv : a.eval (.tmp 37) = .bool false := hF.from_ 16 37 rfl (by decide)
     refine Ran.if_ rfl rfl rfl hgv (fun _ => ?_) (fun h => absurd rfl h)
     have h0 : a.tmps[3]?.getD undef = .pointer (some ⟨pb, 0, none⟩) := evalD (hF.old 3 (by decide))
     refine Ran.value rfl (v := .pointer (some ⟨pb, 1, none⟩)) (w1 := wa) ?_ ⟨rfl, Ext.refl _⟩
     go_simp
    | 20, _ =>
     cases ho
     have hgv : a.eval (.tmp 37) = .bool false := hF.from_ 16 37 rfl (by decide)
     refine Ran.if_ rfl rfl rfl hgv (fun _ => ?_) (fun h => absurd rfl h)
     have h0 : a.tmps[40]?.getD undef = .pointer (some ⟨pb, 1, none⟩) := evalD ((hF.from_ 19 40 rfl (by decide)))
     have q := (Row.ext (HB.out) hE).cell
     refine Ran.value rfl (v := .int .i64 ay) (w1 := wa) ?_ ⟨rfl, Ext.refl _⟩
     go_simp
    | 21, _ =>
     cases ho
     have hgv : a.eval (.tmp 37) = .bool false := hF.from_ 16 37 rfl (by decide)
     refine Ran.if_ rfl rfl rfl hgv (fun _ => ?_) (fun h => absurd rfl h)
     have h0 : a.tmps[39]?.getD undef = .int .i64 ax := evalD ((hF.from_ 18 39 rfl (by decide)))
     have h1 : a.tmps[41]?.getD undef = .int .i64 ay := evalD ((hF.from_ 20 41 rfl (by decide)))
     refine Ran.value rfl (v := .slice (some ⟨wa.heap.size, 0, none⟩) 2 2) (w1 := wa.alloc (.cells #[.int .i64 ax, .int .i64 ay] 3)) ?_ ⟨⟨wa.heap.size, rfl, hE.size, Row.new _ _ _⟩, (Ext.refl _).alloc _⟩
     go_simp
    | 22, _ =>
     cases ho
     have hgv : a.eval (.tmp 37) = .bool false := hF.from_ 16 37 rfl (by decide)
     refine Ran.if_ rfl rfl rfl hgv (fun _ => ?_) (fun h => absurd rfl h)
     obtain ⟨b_h0, h0, hb_h0, hr_h0⟩ : MkAt W (a.eval (.tmp 42)) wa 3 2 #[.int .i64 ax, .int .i64 ay] := (hF.from_ 21 42 rfl (by decide))
     replace h0 := evalD h0
     refine Ran.enter rfl (f := 182) (args := #[.slice (some ⟨b_h0, 0, none⟩) 2 2]) (w1 := wa) ?_ ?_
     ·go_simp
     ·refine (HNa.out b_h0 _ hr_h0).mono ?_
      rintro r w1 ⟨rfl, hX⟩
      exact ⟨_, rfl, rfl, hX ▸ Ext.refl _⟩
    | 23, _ =>
     cases ho
     have hgv : a.eval (.tmp 37) = .bool false := hF.from_ 16 37 rfl (by decide)
     refine Ran.if_ rfl rfl rfl hgv (fun _ => ?_) (fun h => absurd rfl h)
     have h0 : a.tmps[3]?.getD undef = .pointer (some ⟨pb, 0, none⟩) := evalD (hF.old 3 (by decide))
     refine Ran.value rfl (v := .pointer (some ⟨pb, 2, none⟩)) (w1 := wa) ?_ ⟨rfl, Ext.refl _⟩
     go_simp
    | 24, _ =>
     cases ho
     have hgv : a.eval (.tmp 37) = .bool false := hF.from_ 16 37 rfl (by decide)
     refine Ran.if_ rfl rfl rfl hgv (fun _ => ?_) (fun h => absurd rfl h)
     have h0 : a.tmps[44]?.getD undef = .pointer (some ⟨pb, 2, none⟩) := evalD ((hF.from_ 23 44 rfl (by decide)))
     have q := (Row.ext (HB.out) hE).cell
     refine Ran.value rfl (v := .int .i64 ar) (w1 := wa) ?_ ⟨rfl, Ext.refl _⟩
     go_simp
    | 25, _ =>
     cases ho
     have hgv : a.eval (.tmp 37) = .bool false := hF.from_ 16 37 rfl (by decide)
     refine Ran.if_ rfl rfl rfl hgv (fun _ => ?_) (fun h => absurd rfl h)
     have h0 : a.tmps[45]?.getD undef = .int .i64 ar := evalD ((hF.from_ 24 45 rfl (by decide)))
     refine Ran.value rfl (v := .slice (some ⟨wa.heap.size, 0, none⟩) 1 1) (w1 := wa.alloc (.cells #[.int .i64 ar] 3)) ?_ ⟨⟨wa.heap.size, rfl, hE.size, Row.new _ _ _⟩, (Ext.refl _).alloc _⟩
     go_simp
    | 26, _ =>
     cases ho
     have hgv : a.eval (.tmp 37) = .bool false := hF.from_ 16 37 rfl (by decide)
     refine Ran.if_ rfl rfl rfl hgv (fun _ => ?_) (fun h => absurd rfl h)
     obtain ⟨b_h0, h0, hb_h0, hr_h0⟩ : MkAt W (a.eval (.tmp 46)) wa 3 1 #[.int .i64 ar] := (hF.from_ 25 46 rfl (by decide))
     replace h0 := evalD h0
     refine Ran.enter rfl (f := 182) (args := #[.slice (some ⟨b_h0, 0, none⟩) 1 1]) (w1 := wa) ?_ ?_
     ·go_simp
     ·refine (HRa.out b_h0 _ hr_h0).mono ?_
      rintro r w1 ⟨rfl, hX⟩
      exact ⟨_, rfl, rfl, hX ▸ Ext.refl _⟩
    | 27, _ =>
     cases ho
     have hgv : a.eval (.tmp 37) = .bool false := hF.from_ 16 37 rfl (by decide)
     refine Ran.if_ rfl rfl rfl hgv (fun _ => ?_) (fun h => absurd rfl h)
     have h0 : a.tmps[43]?.getD undef = .int .i64 Na := evalD ((hF.from_ 22 43 rfl (by decide)))
     have h1 : a.tmps[47]?.getD undef = .int .i64 Ra := evalD ((hF.from_ 26 47 rfl (by decide)))
     refine Ran.value rfl (v := .bool false) (w1 := wa) ?_ ⟨rfl, Ext.refl _⟩
     have hna : ¬ Na ≤ Ra := by omega
     go_simp
    | 28, _ =>
     cases ho
     have h0 : a.tmps[37]?.getD undef = .bool false := evalD ((hF.from_ 16 37 rfl (by decide)))
     have h1 : a.tmps[48]?.getD undef = .bool false := evalD ((hF.from_ 27 48 rfl (by decide)))
     refine Ran.value rfl (v := .bool false) (w1 := wa) ?_ ⟨rfl, Ext.refl _⟩
     go_simp
    | k + 29, hin => omega
   case hQ =>
    intro vs w2 hE hΦ
    have f0 : vs 0 = .pointer (some ⟨pb, 0, none⟩) := hΦ 0 (by omega)
    have f1 : vs 1 = .int .i64 ax := hΦ 1 (by omega)
    have f2 : vs 2 = .bool true := hΦ 2 (by omega)
    have f3 : vs 3 = .bool false := hΦ 3 (by omega)
    have f4 : vs 4 = .bool false := hΦ 4 (by omega)
    have f5 : vs 5 = .pointer (some ⟨pb, 1, none⟩) := hΦ 5 (by omega)
    have f6 : vs 6 = .int .i64 ay := hΦ 6 (by omega)
    have f7 : vs 7 = .bool true := hΦ 7 (by omega)
    have f8 : vs 8 = .bool false := hΦ 8 (by omega)
    have f9 : vs 9 = .bool false := hΦ 9 (by omega)
    have f10 : vs 10 = .bool false := hΦ 10 (by omega)
    have f11 : vs 11 = .pointer (some ⟨pb, 2, none⟩) := hΦ 11 (by omega)
    have f12 : vs 12 = .int .i64 ar := hΦ 12 (by omega)
    have f13 : vs 13 = .bool true := hΦ 13 (by omega)
    have f14 : vs 14 = .bool false := hΦ 14 (by omega)
    have f15 : vs 15 = .bool false := hΦ 15 (by omega)
    have f16 : vs 16 = .bool false := hΦ 16 (by omega)
    have f17 : vs 17 = .pointer (some ⟨pb, 0, none⟩) := hΦ 17 (by omega)
    have f18 : vs 18 = .int .i64 ax := hΦ 18 (by omega)
    have f19 : vs 19 = .pointer (some ⟨pb, 1, none⟩) := hΦ 19 (by omega)
    have f20 : vs 20 = .int .i64 ay := hΦ 20 (by omega)
    obtain ⟨b21, f21, hb21, hr21⟩ : MkAt W (vs 21) w2 3 2 #[.int .i64 ax, .int .i64 ay] := hΦ 21 (by omega)
    have f22 : vs 22 = .int .i64 Na := hΦ 22 (by omega)
    have f23 : vs 23 = .pointer (some ⟨pb, 2, none⟩) := hΦ 23 (by omega)
    have f24 : vs 24 = .int .i64 ar := hΦ 24 (by omega)
    obtain ⟨b25, f25, hb25, hr25⟩ : MkAt W (vs 25) w2 3 1 #[.int .i64 ar] := hΦ 25 (by omega)
    have f26 : vs 26 = .int .i64 Ra := hΦ 26 (by omega)
    have f27 : vs 27 = .bool false := hΦ 27 (by omega)
    have f28 : vs 28 = .bool false := hΦ 28 (by omega)
    have hrg : List.range 29 = [0, 1, 2, 3, 4, 5, 6, 7, 8, 9, 10, 11, 12, 13, 14, 15, 16, 17, 18, 19, 20, 21, 22, 23, 24, 25, 26, 27, 28] := rfl
    unfold putAll putS
    simp only [List.length_cons, List.length_nil, List.take_succ_cons, List.take_zero, List.drop_succ_cons, List.drop_zero, Nat.reduceAdd, hrg, List.foldl_cons, List.foldl_nil, dstOf, List.getElem?_cons_succ, List.getElem?_cons_zero, Option.bind_some]
    clear hrg
    rw [f0, f1, f2, f3, f4, f5, f6, f7, f8, f9, f10, f11, f12, f13, f14, f15, f16, f17, f18, f19, f20, f21, f22, f23, f24, f25, f26, f27, f28]
    simp only [Act.put, List.setIfInBounds_toArray, List.set_cons_succ, List.set_cons_zero]
    have HE2 := Lib.hid (HE1.out.trans hE)
    have HB2 := Lib.hid (HB.out.ext hE)
    clear hΦ f0 f1 f2 f3 f4 f5 f6 f7 f8 f9 f10 f11 f12 f13 f14 f15 f16 f17 f18 f19 f20 f21 f22 f23 f24 f25 f26 f27 f28 hr21 hr25 hE
    have s1 : (k : Int) ≤ (c : Int) := by omega
    have s2 : (0 : Int) ≤ (k : Int) := by omega
    go_wp2_with fail
    obtain ⟨wo, rfl⟩ : ∃ wo : World, wo = wr := ⟨_, rfl⟩
    go_loopw [57] (fun i wx => ∃ j : Nat, j ≤ k ∧ i = .int .i64 j ∧ Ext w2 wx) (fun i _ => k - (intOf i).toNat)
    case atStart => exact ⟨0, Nat.zero_le _, rfl, Ext.refl _⟩
    case round =>
     obtain ⟨j, hj, rfl, hX⟩ := hrel
     by_cases hjk : j < k
     ·obtain ⟨p1, p2, p3⟩ := HM.out j (by omega)
      replace p1 := hX.cell (HE2.out.cell p1)
      replace p2 := hX.cell (HE2.out.cell p2)
      replace p3 := hX.cell (HE2.out.cell p3)
      have hC := HIN.out j (by omega)
      have hA := HAPk.out j hjk
      obtain ⟨b, hb⟩ : ∃ b, Ec.ballAt l j = b := ⟨_, rfl⟩
      rw [hb] at p1 p2 p3 hC hA
      obtain ⟨cx, cy, cr⟩ := b
      obtain ⟨x2, y2, r2, _⟩ := hC
      simp only at p1 p2 p3 x2 y2 r2
      rw [Ec.apart_swap] at hA
      simp only [Ec.apart, decide_eq_true_eq] at hA
      have z2 := lts (lt_of_cell p1)
      simp only at z2
      have HX := Lib.hid hX
      have HB3 := Lib.hid ((HB2.out.ext hX).alloc (.cells #[.int .i64 cx, .int .i64 cy, .int .i64 cr] 145))
      have HC0 := Lib.hid (Row.new wr 145 #[.int .i64 cx, .int .i64 cy, .int .i64 cr])
      have HX1 := Lib.hid (hX.alloc (.cells #[.int .i64 cx, .int .i64 cy, .int .i64 cr] 145))
      clear hb hX
      obtain ⟨Dq, hDq⟩ : ∃ Dq, (ax - cx) * (ax - cx) + (ay - cy) * (ay - cy) = Dq := ⟨_, rfl⟩
      obtain ⟨Sq, hSq⟩ : ∃ Sq, (ar + cr) * (ar + cr) = Sq := ⟨_, rfl⟩
      have HDq : Hid (∀ (b : Nat) (w : World), Row w b 3 #[.int .i64 (ax - cx), .int .i64 (ay - cy)] → Calls Tryz.prog 182 #[.slice (some ⟨b, 0, none⟩) 2 2] w fun e w' => e = .returned (.int .i64 Dq) ∧ w = w') := Lib.hid fun b w hr => by rw [← hDq]; exact e_squares2 b (ax - cx) (ay - cy) w hr (by omega) (by omega) (by omega) (by omega)
      have HSq : Hid (∀ (b : Nat) (w : World), Row w b 3 #[.int .i64 (ar + cr)] → Calls Tryz.prog 182 #[.slice (some ⟨b, 0, none⟩) 1 1] w fun e w' => e = .returned (.int .i64 Sq) ∧ w = w') := Lib.hid fun b w hr => by rw [← hSq]; exact e_squares1 b (ar + cr) w hr (by omega) (by omega)
      rw [hDq, hSq] at hA
      clear hDq hSq
      go_wp2_with fail
      clear p1 p2 p3
      obtain ⟨W2, hW2⟩ : ∃ W2, wr.alloc (.cells #[.int .i64 cx, .int .i64 cy, .int .i64 cr] 145) = W2 := ⟨_, rfl⟩
      obtain ⟨pc, hpc⟩ : ∃ pc, wr.heap.size = pc := ⟨_, rfl⟩
      have HC : Hid (Row W2 pc 145 #[.int .i64 cx, .int .i64 cy, .int .i64 cr]) := Lib.hid (by rw [← hW2, ← hpc]; exact HC0.out)
      rw [hW2] at HX1 HB3 ⊢
      rw [hpc] at z2 ⊢
      clear hW2 hpc HC0
      refine wp_region_free_tail 20 20 (aprΦ10 ax ay ar cx cy cr Dq Sq pb pc W2) (by kernel_rfl) (by simp) (by kernel_rfl) (by kernel_rfl) (by kernel_rfl) (by kernel_rfl) aprΦ10_mono ?hob ?hQ (fun h => absurd h (by omega))
      case hob =>
       intro i o hin ho a wa hE hF
       match i, hin with
       | 0, _ =>
        cases ho
        have h0 : a.tmps[3]?.getD undef = .pointer (some ⟨pb, 0, none⟩) := evalD (hF.old 3 (by decide))
        refine Ran.value rfl (v := .pointer (some ⟨pb, 0, none⟩)) (w1 := wa) ?_ ⟨rfl, Ext.refl _⟩
        go_simp
       | 1, _ =>
        cases ho
        have h0 : a.tmps[61]?.getD undef = .pointer (some ⟨pb, 0, none⟩) := evalD ((hF.from_ 0 61 rfl (by decide)))
        have q := (Row.ext (HB3.out) hE).cell
        refine Ran.value rfl (v := .int .i64 ax) (w1 := wa) ?_ ⟨rfl, Ext.refl _⟩
        go_simp
       | 2, _ =>
        cases ho
        have h0 : a.tmps[5]?.getD undef = .pointer (some ⟨pc, 0, none⟩) := evalD (hF.old 5 (by decide))
        refine Ran.value rfl (v := .pointer (some ⟨pc, 0, none⟩)) (w1 := wa) ?_ ⟨rfl, Ext.refl _⟩
        go_simp
       | 3, _ =>
        cases ho
        have h0 : a.tmps[63]?.getD undef = .pointer (some ⟨pc, 0, none⟩) := evalD ((hF.from_ 2 63 rfl (by decide)))
        have q := (Row.ext (HC.out) hE).cell
        refine Ran.value rfl (v := .int .i64 cx) (w1 := wa) ?_ ⟨rfl, Ext.refl _⟩
        go_simp
       | 4, _ =>
        cases ho
        have h0 : a.tmps[62]?.getD undef = .int .i64 ax := evalD ((hF.from_ 1 62 rfl (by decide)))
        have h1 : a.tmps[64]?.getD undef = .int .i64 cx := evalD ((hF.from_ 3 64 rfl (by decide)))
        refine Ran.value rfl (v := .int .i64 (ax - cx)) (w1 := wa) ?_ ⟨rfl, Ext.refl _⟩
        go_simp
        exact IntWalk.i64_in _ ⟨by omega, by omega⟩
       | 5, _ =>
        cases ho
        have h0 : a.tmps[3]?.getD undef = .pointer (some ⟨pb, 0, none⟩) := evalD (hF.old 3 (by decide))
        refine Ran.value rfl (v := .pointer (some ⟨pb, 1, none⟩)) (w1 := wa) ?_ ⟨rfl, Ext.refl _⟩
        go_simp
       | 6, _ =>
        cases ho
        have h0 : a.tmps[66]?.getD undef = .pointer (some ⟨pb, 1, none⟩) := evalD ((hF.from_ 5 66 rfl (by decide)))
        have q := (Row.ext (HB3.out) hE).cell
        refine Ran.value rfl (v := .int .i64 ay) (w1 := wa) ?_ ⟨rfl, Ext.refl _⟩
        go_simp
       | 7, _ =>
        cases ho
        have h0 : a.tmps[5]?.getD undef = .pointer (some ⟨pc, 0, none⟩) := evalD (hF.old 5 (by decide))
        refine Ran.value rfl (v := .pointer (some ⟨pc, 1, none⟩)) (w1 := wa) ?_ ⟨rfl, Ext.refl _⟩
        go_simp
       | 8, _ =>
        cases ho
        have h0 : a.tmps[68]?.getD undef = .pointer (some ⟨pc, 1, none⟩) := evalD ((hF.from_ 7 68 rfl (by decide)))
        have q := (Row.ext (HC.out) hE).cell
        refine Ran.value rfl (v := .int .i64 cy) (w1 := wa) ?_ ⟨rfl, Ext.refl _⟩
        go_simp
       | 9, _ =>
        cases ho
        have h0 : a.tmps[67]?.getD undef = .int .i64 ay := evalD ((hF.from_ 6 67 rfl (by decide)))
        have h1 : a.tmps[69]?.getD undef = .int .i64 cy := evalD ((hF.from_ 8 69 rfl (by decide)))
        refine Ran.value rfl (v := .int .i64 (ay - cy)) (w1 := wa) ?_ ⟨rfl, Ext.refl _⟩
        go_simp
        exact IntWalk.i64_in _ ⟨by omega, by omega⟩
       | 10, _ =>
        cases ho
        have h0 : a.tmps[65]?.getD undef = .int .i64 (ax - cx) := evalD ((hF.from_ 4 65 rfl (by decide)))
        have h1 : a.tmps[70]?.getD undef = .int .i64 (ay - cy) := evalD ((hF.from_ 9 70 rfl (by decide)))
        refine Ran.value rfl (v := .slice (some ⟨wa.heap.size, 0, none⟩) 2 2) (w1 := wa.alloc (.cells #[.int .i64 (ax - cx), .int .i64 (ay - cy)] 3)) ?_ ⟨⟨wa.heap.size, rfl, hE.size, Row.new _ _ _⟩, (Ext.refl _).alloc _⟩
        go_simp
       | 11, _ =>
        cases ho
        obtain ⟨b_h0, h0, hb_h0, hr_h0⟩ : MkAt W2 (a.eval (.tmp 71)) wa 3 2 #[.int .i64 (ax - cx), .int .i64 (ay - cy)] := (hF.from_ 10 71 rfl (by decide))
        replace h0 := evalD h0
        refine Ran.enter rfl (f := 182) (args := #[.slice (some ⟨b_h0, 0, none⟩) 2 2]) (w1 := wa) ?_ ?_
        ·go_simp
        ·refine (HDq.out b_h0 _ hr_h0).mono ?_
         rintro r w1 ⟨rfl, hX⟩
         exact ⟨_, rfl, rfl, hX ▸ Ext.refl _⟩
       | 12, _ =>
        cases ho
        have h0 : a.tmps[3]?.getD undef = .pointer (some ⟨pb, 0, none⟩) := evalD (hF.old 3 (by decide))
        refine Ran.value rfl (v := .pointer (some ⟨pb, 2, none⟩)) (w1 := wa) ?_ ⟨rfl, Ext.refl _⟩
        go_simp
       | 13, _ =>
        cases ho
        have h0 : a.tmps[73]?.getD undef = .pointer (some ⟨pb, 2, none⟩) := evalD ((hF.from_ 12 73 rfl (by decide)))
        have q := (Row.ext (HB3.out) hE).cell
        refine Ran.value rfl (v := .int .i64 ar) (w1 := wa) ?_ ⟨rfl, Ext.refl _⟩
        go_simp
       | 14, _ =>
        cases ho
        have h0 : a.tmps[5]?.getD undef = .pointer (some ⟨pc, 0, none⟩) := evalD (hF.old 5 (by decide))
        refine Ran.value rfl (v := .pointer (some ⟨pc, 2, none⟩)) (w1 := wa) ?_ ⟨rfl, Ext.refl _⟩
        go_simp
       | 15, _ =>
        cases ho
        have h0 : a.tmps[75]?.getD undef = .pointer (some ⟨pc, 2, none⟩) := evalD ((hF.from_ 14 75 rfl (by decide)))
        have q := (Row.ext (HC.out) hE).cell
        refine Ran.value rfl (v := .int .i64 cr) (w1 := wa) ?_ ⟨rfl, Ext.refl _⟩
        go_simp
       | 16, _ =>
        cases ho
        have h0 : a.tmps[74]?.getD undef = .int .i64 ar := evalD ((hF.from_ 13 74 rfl (by decide)))
        have h1 : a.tmps[76]?.getD undef = .int .i64 cr := evalD ((hF.from_ 15 76 rfl (by decide)))
        refine Ran.value rfl (v := .int .i64 (ar + cr)) (w1 := wa) ?_ ⟨rfl, Ext.refl _⟩
        go_simp
        exact IntWalk.i64_in _ ⟨by omega, by omega⟩
       | 17, _ =>
        cases ho
        have h0 : a.tmps[77]?.getD undef = .int .i64 (ar + cr) := evalD ((hF.from_ 16 77 rfl (by decide)))
        refine Ran.value rfl (v := .slice (some ⟨wa.heap.size, 0, none⟩) 1 1) (w1 := wa.alloc (.cells #[.int .i64 (ar + cr)] 3)) ?_ ⟨⟨wa.heap.size, rfl, hE.size, Row.new _ _ _⟩, (Ext.refl _).alloc _⟩
        go_simp
       | 18, _ =>
        cases ho
        obtain ⟨b_h0, h0, hb_h0, hr_h0⟩ : MkAt W2 (a.eval (.tmp 78)) wa 3 1 #[.int .i64 (ar + cr)] := (hF.from_ 17 78 rfl (by decide))
        replace h0 := evalD h0
        refine Ran.enter rfl (f := 182) (args := #[.slice (some ⟨b_h0, 0, none⟩) 1 1]) (w1 := wa) ?_ ?_
        ·go_simp
        ·refine (HSq.out b_h0 _ hr_h0).mono ?_
         rintro r w1 ⟨rfl, hX⟩
         exact ⟨_, rfl, rfl, hX ▸ Ext.refl _⟩
       | 19, _ =>
        cases ho
        have h0 : a.tmps[72]?.getD undef = .int .i64 Dq := evalD ((hF.from_ 11 72 rfl (by decide)))
        have h1 : a.tmps[79]?.getD undef = .int .i64 Sq := evalD ((hF.from_ 18 79 rfl (by decide)))
        refine Ran.value rfl (v := .bool false) (w1 := wa) ?_ ⟨rfl, Ext.refl _⟩
        have hds : ¬ Dq ≤ Sq := by omega
        go_simp
       | k + 20, hin => omega
      case hQ =>
       intro vs w2 hE hΦ
       have f0 : vs 0 = .pointer (some ⟨pb, 0, none⟩) := hΦ 0 (by omega)
       have f1 : vs 1 = .int .i64 ax := hΦ 1 (by omega)
       have f2 : vs 2 = .pointer (some ⟨pc, 0, none⟩) := hΦ 2 (by omega)
       have f3 : vs 3 = .int .i64 cx := hΦ 3 (by omega)
       have f4 : vs 4 = .int .i64 (ax - cx) := hΦ 4 (by omega)
       have f5 : vs 5 = .pointer (some ⟨pb, 1, none⟩) := hΦ 5 (by omega)
       have f6 : vs 6 = .int .i64 ay := hΦ 6 (by omega)
       have f7 : vs 7 = .pointer (some ⟨pc, 1, none⟩) := hΦ 7 (by omega)
       have f8 : vs 8 = .int .i64 cy := hΦ 8 (by omega)
       have f9 : vs 9 = .int .i64 (ay - cy) := hΦ 9 (by omega)
       obtain ⟨b10, f10, hb10, hr10⟩ : MkAt W2 (vs 10) w2 3 2 #[.int .i64 (ax - cx), .int .i64 (ay - cy)] := hΦ 10 (by omega)
       have f11 : vs 11 = .int .i64 Dq := hΦ 11 (by omega)
       have f12 : vs 12 = .pointer (some ⟨pb, 2, none⟩) := hΦ 12 (by omega)
       have f13 : vs 13 = .int .i64 ar := hΦ 13 (by omega)
       have f14 : vs 14 = .pointer (some ⟨pc, 2, none⟩) := hΦ 14 (by omega)
       have f15 : vs 15 = .int .i64 cr := hΦ 15 (by omega)
       have f16 : vs 16 = .int .i64 (ar + cr) := hΦ 16 (by omega)
       obtain ⟨b17, f17, hb17, hr17⟩ : MkAt W2 (vs 17) w2 3 1 #[.int .i64 (ar + cr)] := hΦ 17 (by omega)
       have f18 : vs 18 = .int .i64 Sq := hΦ 18 (by omega)
       have f19 : vs 19 = .bool false := hΦ 19 (by omega)
       have hrg : List.range 20 = [0, 1, 2, 3, 4, 5, 6, 7, 8, 9, 10, 11, 12, 13, 14, 15, 16, 17, 18, 19] := rfl
       unfold putAll putS
       simp only [List.length_cons, List.length_nil, List.take_succ_cons, List.take_zero, List.drop_succ_cons, List.drop_zero, Nat.reduceAdd, hrg, List.foldl_cons, List.foldl_nil, dstOf, List.getElem?_cons_succ, List.getElem?_cons_zero, Option.bind_some]
       clear hrg
       rw [f0, f1, f2, f3, f4, f5, f6, f7, f8, f9, f10, f11, f12, f13, f14, f15, f16, f17, f18, f19]
       simp only [Act.put, List.setIfInBounds_toArray, List.set_cons_succ, List.set_cons_zero]
       have HX2 := Lib.hid (HX1.out.trans hE)
       clear hΦ f0 f1 f2 f3 f4 f5 f6 f7 f8 f9 f10 f11 f12 f13 f14 f15 f16 f17 f18 f19 hr10 hr17 hE
       go_wp2_with fail
       go_roundw
       case rel => exact ⟨j + 1, by omega, by go_num, HX2.out⟩
       case measure => simp [intOf]; omega
     ·obtain rfl : j = k := by omega
      have HX := Lib.hid hX
      clear hX
      go_wp2_with fail
      go_roundw
      case rel => exact ⟨j + 1, by omega, by go_num, HE2.out.trans HX.out⟩
      case measure => simp [intOf]; omega
  ·go_wp2_with fail
   go_end0
   exact ⟨rfl, hE⟩
end Go.Proofs.YtcbodpnmndbgnaaGreatDoor
namespace Go.Proofs.YtcbodpnmndbgnaaGreatDoor
theorem mapM_some {α β : Type} {f : α → Option β} {l : List α} {r : List β} : l.mapM f = some r ↔ l.map f = r.map some := by
 induction l generalizing r with
 | nil => cases r <;> simp
 | cons a l ih =>
  rw [List.mapM_cons]
  cases h : f a with
  | none => cases r <;> simp [h]
  | some b =>
   cases h2 : l.mapM f with
   | none =>
    simp only [Option.bind_eq_bind, Option.bind_some, Option.bind_none, List.map_cons, h]
    constructor
    ·intro e; cases e
    ·intro e
     cases r with
     | nil => cases e
     | cons c r =>
      simp only [List.map_cons, List.cons.injEq] at e
      rw [ih.2 e.2] at h2
      cases h2
   | some t =>
    have ht := ih.1 h2
    cases r with
    | nil => simp [h]
    | cons c r => simp [h, ht, List.map_inj_right (f := (some : β → Option β)) (fun _ _ e => Option.some.inj e)]
theorem isDig_digit (u : Nat) (h : u < 10) : isDig (UInt8.ofNat (48 + u)) = true := by
 have : (UInt8.ofNat (48 + u)).toNat = 48 + u := by simp [UInt8.toNat_ofNat']; omega
 unfold isDig
 rw [this]
 simp
 omega
theorem digN_app (l : Bs) (c : UInt8) (k : Nat) (hk : k ≤ l.length) : digN (l ++ [c]) k = digN l k := by
 induction k with
 | zero => rfl
 | succ k ih =>
  rw [digN, digN, ih (by omega)]
  congr 3
  rw [List.getD_eq_getElem?_getD, List.getD_eq_getElem?_getD, List.getElem?_append_left (by omega)]
theorem digV_snoc (l : Bs) (c : UInt8) : digV (l ++ [c]) = 10 * digV l + (c.toNat - 48) := by
 unfold digV
 rw [List.length_append, List.length_singleton, digN, digN_app l c _ (Nat.le_refl _)]
 congr 3
 rw [List.getD_eq_getElem?_getD, List.getElem?_append_right (Nat.le_refl _)]
 simp
theorem dec_all (u : Nat) : (Lib.decDigits u).all isDig = true ∧ digV (Lib.decDigits u) = u ∧ Lib.decDigits u ≠ [] := by
 induction u using Nat.strongRecOn with
 | _ u ih =>
  rw [Lib.decDigits]
  by_cases h : u < 10
  ·rw [dif_pos h]
   have : (UInt8.ofNat (48 + u)).toNat = 48 + u := by simp [UInt8.toNat_ofNat']; omega
   refine ⟨by rw [List.all_cons, isDig_digit u h]; rfl, ?_, by simp⟩
   show 10 * 0 + ((UInt8.ofNat (48 + u)).toNat - 48) = u
   rw [this]
   omega
  ·rw [dif_neg h]
   obtain ⟨a, b, _⟩ := ih (u / 10) (by omega)
   have : (UInt8.ofNat (48 + u % 10)).toNat = 48 + u % 10 := by simp [UInt8.toNat_ofNat']; omega
   refine ⟨by rw [List.all_append, a, List.all_cons, isDig_digit (u % 10) (by omega)]; rfl, ?_, by simp⟩
   rw [digV_snoc, b, this]
   omega
theorem nDigits_le (k u : Nat) (h : u < 10 ^ (k + 1)) : Lib.nDigits u ≤ k + 1 := by
 induction k generalizing u with
 | zero => rw [Lib.nDigits_small (by simpa using h)]; omega
 | succ k ih =>
  by_cases h1 : u < 10
  ·rw [Lib.nDigits_small h1]; omega
  ·rw [Lib.nDigits_big h1]
   have := ih (u / 10) (by rw [Nat.pow_succ] at h; omega)
   omega
theorem dec_len5 (u : Nat) (h : u ≤ 99999) : (Lib.decDigits u).length ≤ 5 := by
 rw [Lib.decDigits_length]
 exact nDigits_le 4 u (by omega)
theorem dec_no (u : Nat) (c : UInt8) (hc : isDig c = false) : c ∉ Lib.decDigits u := by
 intro hm
 have := (dec_all u).1
 rw [List.all_eq_true] at this
 have := this c hm
 rw [hc] at this; cases this
theorem itoa_no (n : Int) (c : UInt8) (hc : isDig c = false) (h : c ≠ 45) : c ∉ Lib.itoa n := by
 unfold Lib.itoa
 split
 ·rw [List.mem_cons, not_or]; exact ⟨h, dec_no _ c hc⟩
 ·exact dec_no _ c hc
theorem digN_lt (l : Bs) (h : l.all isDig = true) (k : Nat) (hk : k ≤ l.length) : digN l k < 10 ^ k := by
 induction k with
 | zero => simp [digN]
 | succ k ih =>
  have := ih (by omega)
  rw [List.all_eq_true] at h
  have hm := h (l[k]'(by omega)) (List.getElem_mem _)
  have e : l.getD k 0 = l[k]'(by omega) := by rw [List.getD_eq_getElem?_getD, List.getElem?_eq_getElem (by omega)]; rfl
  rw [digN, e, Nat.pow_succ]
  simp only [isDig, Bool.and_eq_true, decide_eq_true_eq] at hm
  omega
theorem lineL_tail (name : Bs) (l : List Int) : lineL name l = name ++ Lib.joinTail [32] (l.map Lib.itoa) := by
 unfold lineL Lib.joinTail
 rw [List.map_map]
 rfl
theorem sp1_line (name : Bs) (l : List Int) (h : (32 : UInt8) ∉ name) : sp1 32 (lineL name l) = name :: l.map Lib.itoa := by
 rw [lineL_tail]
 exact sp1_tail 32 _ (fun x hx => by
  obtain ⟨n, _, rfl⟩ := List.mem_map.1 hx
  exact itoa_no n 32 (by decide) (by decide)) name h
theorem line_no (name : Bs) (l : List Int) (c : UInt8) (hc : isDig c = false) (h1 : c ≠ 45) (h2 : c ≠ 32) (hn : c ∉ name) : c ∉ lineL name l := by
 unfold lineL
 rw [List.mem_append, not_or]
 refine ⟨hn, fun hm => ?_⟩
 obtain ⟨x, hx, hc'⟩ := List.mem_flatten.1 hm
 obtain ⟨n, _, rfl⟩ := List.mem_map.1 hx
 rcases List.mem_cons.1 hc' with e | e
 ·exact h2 e
 ·exact itoa_no n c hc h1 e
theorem endL_no (c : Nat) : (10 : UInt8) ∉ endL c := by
 unfold endL
 simp only [List.mem_append, not_or]
 exact ⟨⟨⟨by decide, itoa_no _ 10 (by decide) (by decide)⟩, itoa_no _ 10 (by decide) (by decide)⟩, itoa_no _ 10 (by decide) (by decide)⟩
theorem joinTail_app (sep : Bs) (a b : List Bs) : Lib.joinTail sep (a ++ b) = Lib.joinTail sep a ++ Lib.joinTail sep b := by
 simp [Lib.joinTail]
theorem mapM_mem {α β : Type} {f : α → Option β} {l : List α} {r : List β} (h : l.mapM f = some r) (b : β) (hb : b ∈ r) : ∃ a ∈ l, f a = some b := by
 rw [mapM_some] at h
 have : some b ∈ l.map f := by rw [h]; exact List.mem_map.2 ⟨b, hb, rfl⟩
 obtain ⟨a, ha, e⟩ := List.mem_map.1 this
 exact ⟨a, ha, e⟩
end Go.Proofs.YtcbodpnmndbgnaaGreatDoor
namespace Go.Proofs.YtcbodpnmndbgnaaGreatDoor
open Sp (rd)
set_option linter.unusedSimpArgs false
set_option linter.unusedVariables false
namespace Ec
def wEcl : Bs := [101, 99, 108, 105, 112, 115, 101, 115]
def wNew : Bs := [110, 101, 119]
def wFull : Bs := [102, 117, 108, 108]
def eWord (full : Bool) : Bs := if full then wFull else wNew
def eLine (e : Sp.Ecl) : Bs := lineL (eWord e.full) [e.day, e.far]
def tabE (l : List Sp.Ecl) : List Bs := lineL wEcl [(l.length : Int)] :: l.map eLine
def checkE (L : List Bs) : Nat := checkN L L.length % 139
def textE (l : List Sp.Ecl) : Bs := Lib.join (tabE l) [10] ++ [10] ++ endL (checkE (tabE l)) ++ [10]
def numFineE (w : Bs) : Bool := w.all isDig && decide (w.length ≤ 5) && !w.isEmpty && (Lib.itoa (digV w : Int) == w)
def numE (w : Bs) : Option Int := if numFineE w = true then some (digV w : Int) else none
def eclP (r : Bs) : Option Sp.Ecl :=
 match sp1 32 r with
 | [w, d, f] => if w = wFull ∨ w = wNew then (numE d).bind fun day => (numE f).bind fun far => some ⟨day, decide (w = wFull), far⟩ else none
 | _ => none
def midE (s : Bs) : List Bs := ((sp1 10 s).drop 1).take ((sp1 10 s).length - 3)
def parseE (s : Bs) : Option (List Sp.Ecl) := if (sp1 10 s).length < 3 then none else ((midE s).mapM eclP).bind fun l => if textE l = s then some l else none
structure EclNum (l : List Sp.Ecl) : Prop where
 day : ∀ e ∈ l, 0 ≤ e.day ∧ e.day ≤ 99999
 far : ∀ e ∈ l, 0 ≤ e.far ∧ e.far ≤ 99999
theorem numE_itoa (n : Int) (h0 : 0 ≤ n) (h1 : n ≤ 99999) : numE (Lib.itoa n) = some n := by
 obtain ⟨u, rfl⟩ := Int.eq_ofNat_of_zero_le h0
 obtain ⟨a, b, c⟩ := dec_all u
 have hl := dec_len5 u (by omega)
 have e : Lib.itoa (u : Int) = Lib.decDigits u := Lib.itoa_nonneg u
 unfold numE numFineE
 rw [e, a, b]
 have hne : (Lib.decDigits u).isEmpty = false := by simpa using c
 rw [hne, e]
 simp [hl]
theorem numE_some {w : Bs} {n : Int} (h : numE w = some n) : w = Lib.itoa n ∧ 0 ≤ n ∧ n ≤ 99999 := by
 unfold numE at h
 split at h
 ·rename_i hf
  simp only [numFineE, Bool.and_eq_true, decide_eq_true_eq, beq_iff_eq] at hf
  obtain rfl := Option.some.inj h
  have hlt := digN_lt w hf.1.1.1 w.length (Nat.le_refl _)
  have : 10 ^ w.length ≤ 10 ^ 5 := Nat.pow_le_pow_right (by omega) hf.1.1.2
  refine ⟨hf.2.symm, by omega, ?_⟩
  unfold digV
  omega
 ·cases h
theorem eWord_no (b : Bool) : (32 : UInt8) ∉ eWord b ∧ (10 : UInt8) ∉ eWord b := by cases b <;> decide
theorem eWord_full (b : Bool) : decide (eWord b = wFull) = b := by cases b <;> decide
theorem eWord_is (b : Bool) : eWord b = wFull ∨ eWord b = wNew := by cases b <;> decide
theorem sp1_eLine (e : Sp.Ecl) : sp1 32 (eLine e) = [eWord e.full, Lib.itoa e.day, Lib.itoa e.far] := sp1_line _ _ (eWord_no e.full).1
theorem eclP_line {e : Sp.Ecl} (h1 : 0 ≤ e.day ∧ e.day ≤ 99999) (h2 : 0 ≤ e.far ∧ e.far ≤ 99999) : eclP (eLine e) = some e := by
 unfold eclP
 rw [sp1_eLine]
 simp only []
 rw [if_pos (eWord_is e.full), numE_itoa _ h1.1 h1.2, numE_itoa _ h2.1 h2.2]
 simp only [Option.bind_some, eWord_full]
theorem eclP_num {r : Bs} {e : Sp.Ecl} (h : eclP r = some e) : (0 ≤ e.day ∧ e.day ≤ 99999) ∧ (0 ≤ e.far ∧ e.far ≤ 99999) := by
 unfold eclP at h
 split at h
 ·split at h
  ·rename_i w d f _ _
   cases hd : numE d with
   | none => rw [hd] at h; cases h
   | some n =>
    cases hf : numE f with
    | none => rw [hd, hf] at h; cases h
    | some m =>
     rw [hd, hf] at h
     obtain rfl := Option.some.inj h
     exact ⟨(numE_some hd).2, (numE_some hf).2⟩
  ·cases h
 ·cases h
theorem tabE_no (l : List Sp.Ecl) : ∀ x ∈ tabE l, (10 : UInt8) ∉ x := by
 intro x hx
 unfold tabE at hx
 rcases List.mem_cons.1 hx with rfl | hx
 ·exact line_no _ _ 10 (by decide) (by decide) (by decide) (by decide)
 ·obtain ⟨e, _, rfl⟩ := List.mem_map.1 hx
  exact line_no _ _ 10 (by decide) (by decide) (by decide) (eWord_no e.full).2
theorem textE_join (l : List Sp.Ecl) : textE l = Lib.join (tabE l ++ [endL (checkE (tabE l)), []]) [10] := by
 unfold textE
 have e : ∃ x r, tabE l = x :: r := ⟨_, _, rfl⟩
 obtain ⟨x, r, e⟩ := e
 rw [e, List.cons_append, Lib.join_cons, Lib.join_cons, joinTail_app]
 simp [Lib.joinTail]
theorem sp1_textE (l : List Sp.Ecl) : sp1 10 (textE l) = tabE l ++ [endL (checkE (tabE l)), []] := by
 rw [textE_join]
 refine sp1_join 10 _ (by simp) fun x hx => ?_
 rcases List.mem_append.1 hx with hx | hx
 ·exact tabE_no l x hx
 ·simp only [List.mem_cons, List.not_mem_nil, or_false] at hx
  rcases hx with rfl | rfl
  ·exact endL_no _
  ·simp
theorem tabE_length (l : List Sp.Ecl) : (tabE l).length = l.length + 1 := by simp [tabE]
theorem midE_text (l : List Sp.Ecl) : midE (textE l) = l.map eLine := by
 unfold midE
 rw [sp1_textE]
 have e : (tabE l ++ [endL (checkE (tabE l)), []]).drop 1 = l.map eLine ++ [endL (checkE (tabE l)), []] := by simp [tabE]
 rw [e]
 exact List.take_left' (by simp [tabE])
theorem mapM_lines {f : Bs → Option Sp.Ecl} {l : List Sp.Ecl} (h : ∀ e ∈ l, f (eLine e) = some e) : (l.map eLine).mapM f = some l := by
 rw [mapM_some, List.map_map]
 exact List.map_congr_left fun e he => h e he
theorem parse_textE (l : List Sp.Ecl) (h : EclNum l) : parseE (textE l) = some l := by
 unfold parseE
 rw [midE_text, sp1_textE, if_neg (by simp [tabE]), mapM_lines fun e he => eclP_line (h.day e he) (h.far e he)]
 simp
theorem parse_someE {s : Bs} {l : List Sp.Ecl} (h : parseE s = some l) : textE l = s ∧ EclNum l := by
 unfold parseE at h
 split at h
 ·cases h
 ·cases hm : (midE s).mapM eclP with
  | none => rw [hm] at h; cases h
  | some r =>
   rw [hm] at h
   simp only [Option.bind_some] at h
   split at h
   ·rename_i ht
    obtain rfl := Option.some.inj h
    exact ⟨ht, fun e he => by obtain ⟨a, _, ha⟩ := mapM_mem hm e he; exact (eclP_num ha).1, fun e he => by obtain ⟨a, _, ha⟩ := mapM_mem hm e he; exact (eclP_num ha).2⟩
   ·cases h
theorem parse_iffE (s : Bs) (l : List Sp.Ecl) : parseE s = some l ↔ textE l = s ∧ EclNum l :=
 ⟨parse_someE, fun ⟨e, h⟩ => by rw [← e]; exact parse_textE l h⟩
def before (a b : Sp.Ecl) : Bool := decide (a.day < b.day) || (decide (a.day = b.day) && (!a.full && b.full))
end Ec
end Go.Proofs.YtcbodpnmndbgnaaGreatDoor
