/- Volume 6 of the texts that the laws of this seat use: EcApart EcApart2 EcKept EcSets EcSets2 EcCmp: walks of the program's functions, and plain laws. -/
import Derived.Carry
import Derived.BigQuiet
import Derived.Test.YtfkcbgehcbhjnaaGreatDoorH02
import Derived.Test.YtfkcbgehcbhjnaaGreatDoorH04
import Derived.Test.YtfkcbgehcbhjnaaGreatDoorH05
namespace Go.Proofs.YtfkcbgehcbhjnaaGreatDoor
open Go.RowKit
open Sp (rd)
set_option maxRecDepth 100000
set_option maxHeartbeats 2000000
set_option linter.unusedVariables false
def BallsAt (w : World) (A : Option Addr) (l : List Ec.Ball) : Prop := 0 < l.length → ∃ b o, A = some ⟨b, o, none⟩ ∧ ∀ k, k < l.length → w.cell? ⟨b, o + k * 3, none⟩ = some (.int .i64 (Ec.ballAt l k).x) ∧ w.cell? ⟨b, o + k * 3 + 1, none⟩ = some (.int .i64 (Ec.ballAt l k).y) ∧ w.cell? ⟨b, o + k * 3 + 2, none⟩ = some (.int .i64 (Ec.ballAt l k).r)
theorem BallsAt.ext {w w' : World} {A : Option Addr} {l : List Ec.Ball} (h : BallsAt w A l) (he : Ext w w') : BallsAt w' A l := fun h0 =>
 let ⟨b, o, e, hk⟩ := h h0
 ⟨b, o, e, fun k hk' => ⟨he.cell (hk k hk').1, he.cell (hk k hk').2.1, he.cell (hk k hk').2.2⟩⟩
structure BallIn (b : Ec.Ball) : Prop where
 x : -100 ≤ b.x ∧ b.x ≤ 100
 y : -100 ≤ b.y ∧ b.y ≤ 100
 r : 1 ≤ b.r ∧ b.r ≤ 20
 p : b.r * b.r < b.x * b.x + b.y * b.y
theorem ballIn_of {b : Ec.Ball} (h : Ec.oneOk b = true) : BallIn b := by
 simp only [Ec.oneOk, Bool.and_eq_true, decide_eq_true_eq] at h
 have h2 := h.2
 unfold Ec.power at h2
 exact ⟨h.1.1.1, h.1.1.2, h.1.2, by omega⟩
theorem ballsIn_of {l : List Ec.Ball} (h : Ec.ballsOk l = true) : (1 ≤ l.length ∧ l.length ≤ 5) ∧ (∀ k, k < l.length → BallIn (Ec.ballAt l k)) ∧ ∀ k j, k < l.length → j < k → Ec.apart (Ec.ballAt l j) (Ec.ballAt l k) = true := by
 unfold Ec.ballsOk at h
 rw [Bool.and_eq_true] at h
 have h1 := (Ec.fitN_iff _ _).1 h.1
 have h2 := inR_iff.1 h.2
 exact ⟨⟨by omega, by omega⟩, fun k hk => ballIn_of ((Ec.fits_iff _ _).1 (h1 k hk)).1, fun k j hk hj => ((Ec.fits_iff _ _).1 (h1 k hk)).2 j hj⟩
def aprΦ5 (ax ay ar Na Ra : Int) (pb : Nat) (w0 : World) (i : Nat) (v : Value) (w : World) : Prop :=
 match i with
 | 0 => v = .pointer (some ⟨pb, 0, none⟩)
 | 1 => v = .int .i64 ax
 | 2 => v = .bool true
 | 3 => v = .bool false
 | 4 => v = .bool false
 | 5 => v = .pointer (some ⟨pb, 1, none⟩)
 | 6 => v = .int .i64 ay
 | 7 => v = .bool true
 | 8 => v = .bool false
 | 9 => v = .bool false
 | 10 => v = .bool false
 | 11 => v = .pointer (some ⟨pb, 2, none⟩)
 | 12 => v = .int .i64 ar
 | 13 => v = .bool true
 | 14 => v = .bool false
 | 15 => v = .bool false
 | 16 => v = .bool false
 | 17 => v = .pointer (some ⟨pb, 0, none⟩)
 | 18 => v = .int .i64 ax
 | 19 => v = .pointer (some ⟨pb, 1, none⟩)
 | 20 => v = .int .i64 ay
 | 21 => MkAt w0 v w 3 2 #[.int .i64 ax, .int .i64 ay]
 | 22 => v = .int .i64 Na
 | 23 => v = .pointer (some ⟨pb, 2, none⟩)
 | 24 => v = .int .i64 ar
 | 25 => MkAt w0 v w 3 1 #[.int .i64 ar]
 | 26 => v = .int .i64 Ra
 | 27 => v = .bool false
 | _ => v = .bool false
theorem aprΦ5_mono {ax ay ar Na Ra : Int} {pb : Nat} {w0 : World} (i : Nat) (v : Value) (w w' : World) (h : aprΦ5 ax ay ar Na Ra pb w0 i v w) (he : Ext w w') : aprΦ5 ax ay ar Na Ra pb w0 i v w' := by
 unfold aprΦ5 at h ⊢
 split at h <;> first
  | exact h
  | exact MkAt.ext h he
  | exact fun hg => MkAt.ext (h hg) he
def aprΦ10 (ax ay ar cx cy cr Dq Sq : Int) (pb pc : Nat) (w0 : World) (i : Nat) (v : Value) (w : World) : Prop :=
 match i with
 | 0 => v = .pointer (some ⟨pb, 0, none⟩)
 | 1 => v = .int .i64 ax
 | 2 => v = .pointer (some ⟨pc, 0, none⟩)
 | 3 => v = .int .i64 cx
 | 4 => v = .int .i64 (ax - cx)
 | 5 => v = .pointer (some ⟨pb, 1, none⟩)
 | 6 => v = .int .i64 ay
 | 7 => v = .pointer (some ⟨pc, 1, none⟩)
 | 8 => v = .int .i64 cy
 | 9 => v = .int .i64 (ay - cy)
 | 10 => MkAt w0 v w 3 2 #[.int .i64 (ax - cx), .int .i64 (ay - cy)]
 | 11 => v = .int .i64 Dq
 | 12 => v = .pointer (some ⟨pb, 2, none⟩)
 | 13 => v = .int .i64 ar
 | 14 => v = .pointer (some ⟨pc, 2, none⟩)
 | 15 => v = .int .i64 cr
 | 16 => v = .int .i64 (ar + cr)
 | 17 => MkAt w0 v w 3 1 #[.int .i64 (ar + cr)]
 | 18 => v = .int .i64 Sq
 | _ => v = .bool false
theorem aprΦ10_mono {ax ay ar cx cy cr Dq Sq : Int} {pb pc : Nat} {w0 : World} (i : Nat) (v : Value) (w w' : World) (h : aprΦ10 ax ay ar cx cy cr Dq Sq pb pc w0 i v w) (he : Ext w w') : aprΦ10 ax ay ar cx cy cr Dq Sq pb pc w0 i v w' := by
 unfold aprΦ10 at h ⊢
 split at h <;> first
  | exact h
  | exact MkAt.ext h he
  | exact fun hg => MkAt.ext (h hg) he
theorem e_apart_ok (l : List Ec.Ball) (A : Option Addr) (c : Nat) (w : World) (hm : BallsAt w A l) (hc : l.length ≤ c) (h : Ec.ballsOk l = true) :
  Calls Tryz.prog 54 #[.slice A l.length c] w fun e w' => e = .returned (.tuple #[]) ∧ Ext w w' := by
 obtain ⟨⟨l1, l5⟩, hin, hap⟩ := ballsIn_of h
 have HIN := Lib.hid hin
 have HAP := Lib.hid hap
 have hci : Sp.inR (l.length : Int) 1 5 = true := inR_iff.2 ⟨by omega, by omega⟩
 obtain ⟨bb, o, rfl, hcell⟩ := hm (by omega)
 have HM := Lib.hid hcell
 clear hm hin hap hcell h
 go_enter Tryz.func54, Tryz.ntmps54
 go_wp2_with fail
 refine (e_in_any _ _ _ _).mono ?_
 rintro e w1 ⟨rfl, rfl⟩
 rw [hci]
 clear hci
 go_wp2_with fail
 go_loopw [16] (fun i wr => ∃ k : Nat, k ≤ l.length ∧ i = .int .i64 k ∧ Ext w wr) (fun i _ => l.length - (intOf i).toNat)
 case atStart => exact ⟨0, Nat.zero_le _, rfl, Ext.refl _⟩
 case round =>
  obtain ⟨k, hk, rfl, hE⟩ := hrel
  by_cases hlt : k < l.length
  ·obtain ⟨q1, q2, q3⟩ := HM.out k hlt
   replace q1 := hE.cell q1
   replace q2 := hE.cell q2
   replace q3 := hE.cell q3
   have hB := HIN.out k hlt
   have HAPk := Lib.hid (fun j (hj : j < k) => HAP.out k j hlt hj)
   obtain ⟨b, hb⟩ : ∃ b, Ec.ballAt l k = b := ⟨_, rfl⟩
   rw [hb] at q1 q2 q3 hB HAPk
   obtain ⟨ax, ay, ar⟩ := b
   obtain ⟨x1, y1, r1, hp⟩ := hB
   simp only at q1 q2 q3 x1 y1 r1 hp
   have HE := Lib.hid hE
   have z1 := lts (lt_of_cell q1)
   simp only at z1
   clear hb hE
   have HB0 := Lib.hid (Row.new wr 51 #[.int .i64 ax, .int .i64 ay, .int .i64 ar])
   have HE1 := Lib.hid (HE.out.alloc (.cells #[.int .i64 ax, .int .i64 ay, .int .i64 ar] 51))
   obtain ⟨Na, hNa⟩ : ∃ Na, ax * ax + ay * ay = Na := ⟨_, rfl⟩
   obtain ⟨Ra, hRa⟩ : ∃ Ra, ar * ar = Ra := ⟨_, rfl⟩
   have HNa : Hid (∀ (b : Nat) (w : World), Row w b 3 #[.int .i64 ax, .int .i64 ay] → Calls Tryz.prog 93 #[.slice (some ⟨b, 0, none⟩) 2 2] w fun e w' => e = .returned (.int .i64 Na) ∧ w = w') := Lib.hid fun b w hr => by rw [← hNa]; exact e_squares2 b ax ay w hr (by omega) (by omega) (by omega) (by omega)
   have HRa : Hid (∀ (b : Nat) (w : World), Row w b 3 #[.int .i64 ar] → Calls Tryz.prog 93 #[.slice (some ⟨b, 0, none⟩) 1 1] w fun e w' => e = .returned (.int .i64 Ra) ∧ w = w') := Lib.hid fun b w hr => by rw [← hRa]; exact e_squares1 b ar w hr (by omega) (by omega)
   rw [hNa, hRa] at hp
   clear hNa hRa
   have HI1 : Hid (∀ w : World, Calls Tryz.prog 61 #[.int .i64 ax, .int .i64 (-100), .int .i64 100] w fun e w' => e = .returned (.bool true) ∧ w = w') := Lib.hid fun w => by have := e_in_any ax (-100) 100 w; rwa [inR_iff.2 x1] at this
   have HI2 : Hid (∀ w : World, Calls Tryz.prog 61 #[.int .i64 ay, .int .i64 (-100), .int .i64 100] w fun e w' => e = .returned (.bool true) ∧ w = w') := Lib.hid fun w => by have := e_in_any ay (-100) 100 w; rwa [inR_iff.2 y1] at this
   have HI3 : Hid (∀ w : World, Calls Tryz.prog 61 #[.int .i64 ar, .int .i64 1, .int .i64 20] w fun e w' => e = .returned (.bool true) ∧ w = w') := Lib.hid fun w => by have := e_in_any ar 1 20 w; rwa [inR_iff.2 r1] at this
   go_wp2_with fail
   clear q1 q2 q3
   obtain ⟨W, hW⟩ : ∃ W, wr.alloc (.cells #[.int .i64 ax, .int .i64 ay, .int .i64 ar] 51) = W := ⟨_, rfl⟩
   obtain ⟨pb, hpb⟩ : ∃ pb, wr.heap.size = pb := ⟨_, rfl⟩
   have HB : Hid (Row W pb 51 #[.int .i64 ax, .int .i64 ay, .int .i64 ar]) := Lib.hid (by rw [← hW, ← hpb]; exact HB0.out)
   rw [hW] at HE1 ⊢
   rw [hpb] at z1 ⊢
   clear hW hpb HB0
   refine wp_region_free_tail 29 29 (aprΦ5 ax ay ar Na Ra pb W) (by kernel_rfl) (by simp) (by kernel_rfl) (by kernel_rfl) (by kernel_rfl) (by kernel_rfl) aprΦ5_mono ?hob ?hQ (fun h => absurd h (by omega))
   case hob =>
    intro i o hin ho a wa hE hF
    match i, hin with
    | 0, _ =>
     cases ho
     have h0 : a.tmps[3]?.getD undef = .pointer (some ⟨pb, 0, none⟩) := evalD (hF.old 3 (by decide))
     refine Ran.value rfl (v := .pointer (some ⟨pb, 0, none⟩)) (w1 := wa) ?_ ⟨rfl, Ext.refl _⟩
     go_simp
    | 1, _ =>
     cases ho
     have h0 : a.tmps[21]?.getD undef = .pointer (some ⟨pb, 0, none⟩) := evalD ((hF.from_ 0 21 rfl (by decide)))
     have q := (Row.ext (HB.out) hE).cell
     refine Ran.value rfl (v := .int .i64 ax) (w1 := wa) ?_ ⟨rfl, Ext.refl _⟩
     go_simp
    | 2, _ =>
     cases ho
     have h0 : a.tmps[22]?.getD undef = .int .i64 ax := evalD ((hF.from_ 1 22 rfl (by decide)))
     refine Ran.enter rfl (f := 61) (args := #[.int .i64 ax, .int .i64 (-100), .int .i64 100]) (w1 := wa) ?_ ?_
     ·go_simp
     ·refine (HI1.out _).mono ?_
      rintro r w1 ⟨rfl, hX⟩
      exact ⟨_, rfl, rfl, hX ▸ Ext.refl _⟩
    | 3, _ =>
     cases ho
     have h0 : a.tmps[23]?.getD undef = .bool true := evalD ((hF.from_ 2 23 rfl (by decide)))
     refine Ran.value rfl (v := .bool false) (w1 := wa) ?_ ⟨rfl, Ext.refl _⟩
     go_simp
    | 4, _ =>
     cases ho
     have h0 : a.tmps[24]?.getD undef = .bool false := evalD ((hF.from_ 3 24 rfl (by decide)))
     refine Ran.value rfl (v := .bool false) (w1 := wa) ?_ ⟨rfl, Ext.refl _⟩
     go_simp
    | 5, _ =>
     cases ho
     have hgv : a.eval (.tmp 25) = .bool false := hF.from_ 4 25 rfl (by decide)
     refine Ran.if_ rfl rfl rfl hgv (fun _ => ?_) (fun h => absurd rfl h)
     have h0 : a.tmps[3]?.getD undef = .pointer (some ⟨pb, 0, none⟩) := evalD (hF.old 3 (by decide))
     refine Ran.value rfl (v := .pointer (some ⟨pb, 1, none⟩)) (w1 := wa) ?_ ⟨rfl, Ext.refl _⟩
     go_simp
    | 6, _ =>
     cases ho
     have hgv : a.eval (.tmp 25) = .bool false := hF.from_ 4 25 rfl (by decide)
     refine Ran.if_ rfl rfl rfl hgv (fun _ => ?_) (fun h => absurd rfl h)
     have h0 : a.tmps[26]?.getD undef = .pointer (some ⟨pb, 1, none⟩) := evalD ((hF.from_ 5 26 rfl (by decide)))
     have q := (Row.ext (HB.out) hE).cell
     refine Ran.value rfl (v := .int .i64 ay) (w1 := wa) ?_ ⟨rfl, Ext.refl _⟩
     go_simp
    | 7, _ =>
     cases ho
     have hgv : a.eval (.tmp 25) = .bool false := hF.from_ 4 25 rfl (by decide)
     refine Ran.if_ rfl rfl rfl hgv (fun _ => ?_) (fun h => absurd rfl h)
     have h0 : a.tmps[27]?.getD undef = .int .i64 ay := evalD ((hF.from_ 6 27 rfl (by decide)))
     refine Ran.enter rfl (f := 61) (args := #[.int .i64 ay, .int .i64 (-100), .int .i64 100]) (w1 := wa) ?_ ?_
     ·go_simp
     ·refine (HI2.out _).mono ?_
      rintro r w1 ⟨rfl, hX⟩
      exact ⟨_, rfl, rfl, hX ▸ Ext.refl _⟩
    | 8, _ =>
     cases ho
     have hgv : a.eval (.tmp 25) = .bool false := hF.from_ 4 25 rfl (by decide)
     refine Ran.if_ rfl rfl rfl hgv (fun _ => ?_) (fun h => absurd rfl h)
     have h0 : a.tmps[28]?.getD undef = .bool true := evalD ((hF.from_ 7 28 rfl (by decide)))
     refine Ran.value rfl (v := .bool false) (w1 := wa) ?_ ⟨rfl, Ext.refl _⟩
     go_simp
    | 9, _ =>
     cases ho
     have h0 : a.tmps[25]?.getD undef = .bool false := evalD ((hF.from_ 4 25 rfl (by decide)))
     have h1 : a.tmps[29]?.getD undef = .bool false := evalD ((hF.from_ 8 29 rfl (by decide)))
     refine Ran.value rfl (v := .bool false) (w1 := wa) ?_ ⟨rfl, Ext.refl _⟩
     go_simp
    | 10, _ =>
     cases ho
     have h0 : a.tmps[30]?.getD undef = .bool false := evalD ((hF.from_ 9 30 rfl (by decide)))
     refine Ran.value rfl (v := .bool false) (w1 := wa) ?_ ⟨rfl, Ext.refl _⟩
     go_simp
    | 11, _ =>
     cases ho
     have hgv : a.eval (.tmp 31) = .bool false := hF.from_ 10 31 rfl (by decide)
     refine Ran.if_ rfl rfl rfl hgv (fun _ => ?_) (fun h => absurd rfl h)
     have h0 : a.tmps[3]?.getD undef = .pointer (some ⟨pb, 0, none⟩) := evalD (hF.old 3 (by decide))
     refine Ran.value rfl (v := .pointer (some ⟨pb, 2, none⟩)) (w1 := wa) ?_ ⟨rfl, Ext.refl _⟩
     go_simp
    | 12, _ =>
     cases ho
     have hgv : a.eval (.tmp 31) = .bool false := hF.from_ 10 31 rfl (by decide)
     refine Ran.if_ rfl rfl rfl hgv (fun _ => ?_) (fun h => absurd rfl h)
     have h0 : a.tmps[32]?.getD undef = .pointer (some ⟨pb, 2, none⟩) := evalD ((hF.from_ 11 32 rfl (by decide)))
     have q := (Row.ext (HB.out) hE).cell
     refine Ran.value rfl (v := .int .i64 ar) (w1 := wa) ?_ ⟨rfl, Ext.refl _⟩
     go_simp
    | 13, _ =>
     cases ho
     have hgv : a.eval (.tmp 31) = .bool false := hF.from_ 10 31 rfl (by decide)
     refine Ran.if_ rfl rfl rfl hgv (fun _ => ?_) (fun h => absurd rfl h)
     have h0 : a.tmps[33]?.getD undef = .int .i64 ar := evalD ((hF.from_ 12 33 rfl (by decide)))
     refine Ran.enter rfl (f := 61) (args := #[.int .i64 ar, .int .i64 1, .int .i64 20]) (w1 := wa) ?_ ?_
     ·go_simp
     ·refine (HI3.out _).mono ?_
      rintro r w1 ⟨rfl, hX⟩
      exact ⟨_, rfl, rfl, hX ▸ Ext.refl _⟩
    | 14, _ =>
     cases ho
     have hgv : a.eval (.tmp 31) = .bool false := hF.from_ 10 31 rfl (by decide)
     refine Ran.if_ rfl rfl rfl hgv (fun _ => ?_) (fun h => absurd rfl h)
     have h0 : a.tmps[34]?.getD undef = .bool true := evalD ((hF.from_ 13 34 rfl (by decide)))
     refine Ran.value rfl (v := .bool false) (w1 := wa) ?_ ⟨rfl, Ext.refl _⟩
     go_simp
    | 15, _ =>
     cases ho
     have h0 : a.tmps[31]?.getD undef = .bool false := evalD ((hF.from_ 10 31 rfl (by decide)))
     have h1 : a.tmps[35]?.getD undef = .bool false := evalD ((hF.from_ 14 35 rfl (by decide)))
     refine Ran.value rfl (v := .bool false) (w1 := wa) ?_ ⟨rfl, Ext.refl _⟩
     go_simp
    | 16, _ =>
     cases ho
     have h0 : a.tmps[36]?.getD undef = .bool false := evalD ((hF.from_ 15 36 rfl (by decide)))
     refine Ran.value rfl (v := .bool false) (w1 := wa) ?_ ⟨rfl, Ext.refl _⟩
     go_simp
    | 17, _ =>
     cases ho
     have hgv : a.eval (.tmp 37) = .bool false := hF.from_ 16 37 rfl (by decide)
     refine Ran.if_ rfl rfl rfl hgv (fun _ => ?_) (fun h => absurd rfl h)
     have h0 : a.tmps[3]?.getD undef = .pointer (some ⟨pb, 0, none⟩) := evalD (hF.old 3 (by decide))
     refine Ran.value rfl (v := .pointer (some ⟨pb, 0, none⟩)) (w1 := wa) ?_ ⟨rfl, Ext.refl _⟩
     go_simp
    | 18, _ =>
     cases ho
     have hgv : a.eval (.tmp 37) = .bool false := hF.from_ 16 37 rfl (by decide)
     refine Ran.if_ rfl rfl rfl hgv (fun _ => ?_) (fun h => absurd rfl h)
     have h0 : a.tmps[38]?.getD undef = .pointer (some ⟨pb, 0, none⟩) := evalD ((hF.from_ 17 38 rfl (by decide)))
     have q := (Row.ext (HB.out) hE).cell
     refine Ran.value rfl (v := .int .i64 ax) (w1 := wa) ?_ ⟨rfl, Ext.refl _⟩
     go_simp
    | 19, _ =>
     cases ho
     have hgv : a.eval (.tmp 37) = .bool false := hF.from_ 16 37 rfl (by decide)
     refine Ran.if_ rfl rfl rfl hgv (fun _ => ?_) (fun h => absurd rfl h)
     have h0 : a.tmps[3]?.getD undef = .pointer (some ⟨pb, 0, none⟩) := evalD (hF.old 3 (by decide))
     refine Ran.value rfl (v := .pointer (some ⟨pb, 1, none⟩)) (w1 := wa) ?_ ⟨rfl, Ext.refl _⟩
     go_simp
    | 20, _ =>
     cases ho
     have hgv : a.eval (.tmp 37) = .bool false := hF.from_ 16 37 rfl (by decide)
     refine Ran.if_ rfl rfl rfl hgv (fun _ => ?_) (fun h => absurd rfl h)
     have h0 : a.tmps[40]?.getD undef = .pointer (some ⟨pb, 1, none⟩) := evalD ((hF.from_ 19 40 rfl (by decide)))
     have q := (Row.ext (HB.out) hE).cell
     refine Ran.value rfl (v := .int .i64 ay) (w1 := wa) ?_ ⟨rfl, Ext.refl _⟩
     go_simp
    | 21, _ =>
     cases ho
     have hgv : a.eval (.tmp 37) = .bool false := hF.from_ 16 37 rfl (by decide)
     refine Ran.if_ rfl rfl rfl hgv (fun _ => ?_) (fun h => absurd rfl h)
     have h0 : a.tmps[39]?.getD undef = .int .i64 ax := evalD ((hF.from_ 18 39 rfl (by decide)))
     have h1 : a.tmps[41]?.getD undef = .int .i64 ay := evalD ((hF.from_ 20 41 rfl (by decide)))
     refine Ran.value rfl (v := .slice (some ⟨wa.heap.size, 0, none⟩) 2 2) (w1 := wa.alloc (.cells #[.int .i64 ax, .int .i64 ay] 3)) ?_ ⟨⟨wa.heap.size, rfl, hE.size, Row.new _ _ _⟩, (Ext.refl _).alloc _⟩
     go_simp
    | 22, _ =>
     cases ho
     have hgv : a.eval (.tmp 37) = .bool false := hF.from_ 16 37 rfl (by decide)
     refine Ran.if_ rfl rfl rfl hgv (fun _ => ?_) (fun h => absurd rfl h)
     obtain ⟨b_h0, h0, hb_h0, hr_h0⟩ : MkAt W (a.eval (.tmp 42)) wa 3 2 #[.int .i64 ax, .int .i64 ay] := (hF.from_ 21 42 rfl (by decide))
     replace h0 := evalD h0
     refine Ran.enter rfl (f := 93) (args := #[.slice (some ⟨b_h0, 0, none⟩) 2 2]) (w1 := wa) ?_ ?_
     ·go_simp
     ·refine (HNa.out b_h0 _ hr_h0).mono ?_
      rintro r w1 ⟨rfl, hX⟩
      exact ⟨_, rfl, rfl, hX ▸ Ext.refl _⟩
    | 23, _ =>
     cases ho
     have hgv : a.eval (.tmp 37) = .bool false := hF.from_ 16 37 rfl (by decide)
     refine Ran.if_ rfl rfl rfl hgv (fun _ => ?_) (fun h => absurd rfl h)
     have h0 : a.tmps[3]?.getD undef = .pointer (some ⟨pb, 0, none⟩) := evalD (hF.old 3 (by decide))
     refine Ran.value rfl (v := .pointer (some ⟨pb, 2, none⟩)) (w1 := wa) ?_ ⟨rfl, Ext.refl _⟩
     go_simp
    | 24, _ =>
     cases ho
     have hgv : a.eval (.tmp 37) = .bool false := hF.from_ 16 37 rfl (by decide)
     refine Ran.if_ rfl rfl rfl hgv (fun _ => ?_) (fun h => absurd rfl h)
     have h0 : a.tmps[44]?.getD undef = .pointer (some ⟨pb, 2, none⟩) := evalD ((hF.from_ 23 44 rfl (by decide)))
     have q := (Row.ext (HB.out) hE).cell
     refine Ran.value rfl (v := .int .i64 ar) (w1 := wa) ?_ ⟨rfl, Ext.refl _⟩
     go_simp
    | 25, _ =>
     cases ho
     have hgv : a.eval (.tmp 37) = .bool false := hF.from_ 16 37 rfl (by decide)
     refine Ran.if_ rfl rfl rfl hgv (fun _ => ?_) (fun h => absurd rfl h)
     have h0 : a.tmps[45]?.getD undef = .int .i64 ar := evalD ((hF.from_ 24 45 rfl (by decide)))
     refine Ran.value rfl (v := .slice (some ⟨wa.heap.size, 0, none⟩) 1 1) (w1 := wa.alloc (.cells #[.int .i64 ar] 3)) ?_ ⟨⟨wa.heap.size, rfl, hE.size, Row.new _ _ _⟩, (Ext.refl _).alloc _⟩
     go_simp
    | 26, _ =>
     cases ho
     have hgv : a.eval (.tmp 37) = .bool false := hF.from_ 16 37 rfl (by decide)
     refine Ran.if_ rfl rfl rfl hgv (fun _ => ?_) (fun h => absurd rfl h)
     obtain ⟨b_h0, h0, hb_h0, hr_h0⟩ : MkAt W (a.eval (.tmp 46)) wa 3 1 #[.int .i64 ar] := (hF.from_ 25 46 rfl (by decide))
     replace h0 := evalD h0
     refine Ran.enter rfl (f := 93) (args := #[.slice (some ⟨b_h0, 0, none⟩) 1 1]) (w1 := wa) ?_ ?_
     ·go_simp
     ·refine (HRa.out b_h0 _ hr_h0).mono ?_
      rintro r w1 ⟨rfl, hX⟩
      exact ⟨_, rfl, rfl, hX ▸ Ext.refl _⟩
    | 27, _ =>
     cases ho
     have hgv : a.eval (.tmp 37) = .bool false := hF.from_ 16 37 rfl (by decide)
     refine Ran.if_ rfl rfl rfl hgv (fun _ => ?_) (fun h => absurd rfl h)
     have h0 : a.tmps[43]?.getD undef = .int .i64 Na := evalD ((hF.from_ 22 43 rfl (by decide)))
     have h1 : a.tmps[47]?.getD undef = .int .i64 Ra := evalD ((hF.from_ 26 47 rfl (by decide)))
     refine Ran.value rfl (v := .bool false) (w1 := wa) ?_ ⟨rfl, Ext.refl _⟩
     have hna : ¬ Na ≤ Ra := by omega
     go_simp
    | 28, _ =>
     cases ho
     have h0 : a.tmps[37]?.getD undef = .bool false := evalD ((hF.from_ 16 37 rfl (by decide)))
     have h1 : a.tmps[48]?.getD undef = .bool false := evalD ((hF.from_ 27 48 rfl (by decide)))
     refine Ran.value rfl (v := .bool false) (w1 := wa) ?_ ⟨rfl, Ext.refl _⟩
     go_simp
    | k + 29, hin => omega
   case hQ =>
    intro vs w2 hE hΦ
    have f0 : vs 0 = .pointer (some ⟨pb, 0, none⟩) := hΦ 0 (by omega)
    have f1 : vs 1 = .int .i64 ax := hΦ 1 (by omega)
    have f2 : vs 2 = .bool true := hΦ 2 (by omega)
    have f3 : vs 3 = .bool false := hΦ 3 (by omega)
    have f4 : vs 4 = .bool false := hΦ 4 (by omega)
    have f5 : vs 5 = .pointer (some ⟨pb, 1, none⟩) := hΦ 5 (by omega)
    have f6 : vs 6 = .int .i64 ay := hΦ 6 (by omega)
    have f7 : vs 7 = .bool true := hΦ 7 (by omega)
    have f8 : vs 8 = .bool false := hΦ 8 (by omega)
    have f9 : vs 9 = .bool false := hΦ 9 (by omega)
    have f10 : vs 10 = .bool false := hΦ 10 (by omega)
    have f11 : vs 11 = .pointer (some ⟨pb, 2, none⟩) := hΦ 11 (by omega)
    have f12 : vs 12 = .int .i64 ar := hΦ 12 (by omega)
    have f13 : vs 13 = .bool true := hΦ 13 (by omega)
    have f14 : vs 14 = .bool false := hΦ 14 (by omega)
    have f15 : vs 15 = .bool false := hΦ 15 (by omega)
    have f16 : vs 16 = .bool false := hΦ 16 (by omega)
    have f17 : vs 17 = .pointer (some ⟨pb, 0, none⟩) := hΦ 17 (by omega)
    have f18 : vs 18 = .int .i64 ax := hΦ 18 (by omega)
    have f19 : vs 19 = .pointer (some ⟨pb, 1, none⟩) := hΦ 19 (by omega)
    have f20 : vs 20 = .int .i64 ay := hΦ 20 (by omega)
    obtain ⟨b21, f21, hb21, hr21⟩ : MkAt W (vs 21) w2 3 2 #[.int .i64 ax, .int .i64 ay] := hΦ 21 (by omega)
    have f22 : vs 22 = .int .i64 Na := hΦ 22 (by omega)
    have f23 : vs 23 = .pointer (some ⟨pb, 2, none⟩) := hΦ 23 (by omega)
    have f24 : vs 24 = .int .i64 ar := hΦ 24 (by omega)
    obtain ⟨b25, f25, hb25, hr25⟩ : MkAt W (vs 25) w2 3 1 #[.int .i64 ar] := hΦ 25 (by omega)
    have f26 : vs 26 = .int .i64 Ra := hΦ 26 (by omega)
    have f27 : vs 27 = .bool false := hΦ 27 (by omega)
    have f28 : vs 28 = .bool false := hΦ 28 (by omega)
    have hrg : List.range 29 = [0, 1, 2, 3, 4, 5, 6, 7, 8, 9, 10, 11, 12, 13, 14, 15, 16, 17, 18, 19, 20, 21, 22, 23, 24, 25, 26, 27, 28] := rfl
    unfold putAll putS
    simp only [List.length_cons, List.length_nil, List.take_succ_cons, List.take_zero, List.drop_succ_cons, List.drop_zero, Nat.reduceAdd, hrg, List.foldl_cons, List.foldl_nil, dstOf, List.getElem?_cons_succ, List.getElem?_cons_zero, Option.bind_some]
    clear hrg
    rw [f0, f1, f2, f3, f4, f5, f6, f7, f8, f9, f10, f11, f12, f13, f14, f15, f16, f17, f18, f19, f20, f21, f22, f23, f24, f25, f26, f27, f28]
    simp only [Act.put, List.setIfInBounds_toArray, List.set_cons_succ, List.set_cons_zero]
    have HE2 := Lib.hid (HE1.out.trans hE)
    have HB2 := Lib.hid (HB.out.ext hE)
    clear hΦ f0 f1 f2 f3 f4 f5 f6 f7 f8 f9 f10 f11 f12 f13 f14 f15 f16 f17 f18 f19 f20 f21 f22 f23 f24 f25 f26 f27 f28 hr21 hr25 hE
    have s1 : (k : Int) ≤ (c : Int) := by omega
    have s2 : (0 : Int) ≤ (k : Int) := by omega
    go_wp2_with fail
    obtain ⟨wo, rfl⟩ : ∃ wo : World, wo = wr := ⟨_, rfl⟩
    go_loopw [57] (fun i wx => ∃ j : Nat, j ≤ k ∧ i = .int .i64 j ∧ Ext w2 wx) (fun i _ => k - (intOf i).toNat)
    case atStart => exact ⟨0, Nat.zero_le _, rfl, Ext.refl _⟩
    case round =>
     obtain ⟨j, hj, rfl, hX⟩ := hrel
     by_cases hjk : j < k
     ·obtain ⟨p1, p2, p3⟩ := HM.out j (by omega)
      replace p1 := hX.cell (HE2.out.cell p1)
      replace p2 := hX.cell (HE2.out.cell p2)
      replace p3 := hX.cell (HE2.out.cell p3)
      have hC := HIN.out j (by omega)
      have hA := HAPk.out j hjk
      obtain ⟨b, hb⟩ : ∃ b, Ec.ballAt l j = b := ⟨_, rfl⟩
      rw [hb] at p1 p2 p3 hC hA
      obtain ⟨cx, cy, cr⟩ := b
      obtain ⟨x2, y2, r2, _⟩ := hC
      simp only at p1 p2 p3 x2 y2 r2
      rw [Ec.apart_swap] at hA
      simp only [Ec.apart, decide_eq_true_eq] at hA
      have z2 := lts (lt_of_cell p1)
      simp only at z2
      have HX := Lib.hid hX
      have HB3 := Lib.hid ((HB2.out.ext hX).alloc (.cells #[.int .i64 cx, .int .i64 cy, .int .i64 cr] 51))
      have HC0 := Lib.hid (Row.new wr 51 #[.int .i64 cx, .int .i64 cy, .int .i64 cr])
      have HX1 := Lib.hid (hX.alloc (.cells #[.int .i64 cx, .int .i64 cy, .int .i64 cr] 51))
      clear hb hX
      obtain ⟨Dq, hDq⟩ : ∃ Dq, (ax - cx) * (ax - cx) + (ay - cy) * (ay - cy) = Dq := ⟨_, rfl⟩
      obtain ⟨Sq, hSq⟩ : ∃ Sq, (ar + cr) * (ar + cr) = Sq := ⟨_, rfl⟩
      have HDq : Hid (∀ (b : Nat) (w : World), Row w b 3 #[.int .i64 (ax - cx), .int .i64 (ay - cy)] → Calls Tryz.prog 93 #[.slice (some ⟨b, 0, none⟩) 2 2] w fun e w' => e = .returned (.int .i64 Dq) ∧ w = w') := Lib.hid fun b w hr => by rw [← hDq]; exact e_squares2 b (ax - cx) (ay - cy) w hr (by omega) (by omega) (by omega) (by omega)
      have HSq : Hid (∀ (b : Nat) (w : World), Row w b 3 #[.int .i64 (ar + cr)] → Calls Tryz.prog 93 #[.slice (some ⟨b, 0, none⟩) 1 1] w fun e w' => e = .returned (.int .i64 Sq) ∧ w = w') := Lib.hid fun b w hr => by rw [← hSq]; exact e_squares1 b (ar + cr) w hr (by omega) (by omega)
      rw [hDq, hSq] at hA
      clear hDq hSq
      go_wp2_with fail
      clear p1 p2 p3
      obtain ⟨W2, hW2⟩ : ∃ W2, wr.alloc (.cells #[.int .i64 cx, .int .i64 cy, .int .i64 cr] 51) = W2 := ⟨_, rfl⟩
      obtain ⟨pc, hpc⟩ : ∃ pc, wr.heap.size = pc := ⟨_, rfl⟩
      have HC : Hid (Row W2 pc 51 #[.int .i64 cx, .int .i64 cy, .int .i64 cr]) := Lib.hid (by rw [← hW2, ← hpc]; exact HC0.out)
      rw [hW2] at HX1 HB3 ⊢
      rw [hpc] at z2 ⊢
      clear hW2 hpc HC0
      refine wp_region_free_tail 20 20 (aprΦ10 ax ay ar cx cy cr Dq Sq pb pc W2) (by kernel_rfl) (by simp) (by kernel_rfl) (by kernel_rfl) (by kernel_rfl) (by kernel_rfl) aprΦ10_mono ?hob ?hQ (fun h => absurd h (by omega))
      case hob =>
       intro i o hin ho a wa hE hF
       match i, hin with
       | 0, _ =>
        cases ho
        have h0 : a.tmps[3]?.getD undef = .pointer (some ⟨pb, 0, none⟩) := evalD (hF.old 3 (by decide))
        refine Ran.value rfl (v := .pointer (some ⟨pb, 0, none⟩)) (w1 := wa) ?_ ⟨rfl, Ext.refl _⟩
        go_simp
       | 1, _ =>
        cases ho
        have h0 : a.tmps[61]?.getD undef = .pointer (some ⟨pb, 0, none⟩) := evalD ((hF.from_ 0 61 rfl (by decide)))
        have q := (Row.ext (HB3.out) hE).cell
        refine Ran.value rfl (v := .int .i64 ax) (w1 := wa) ?_ ⟨rfl, Ext.refl _⟩
        go_simp
       | 2, _ =>
        cases ho
        have h0 : a.tmps[5]?.getD undef = .pointer (some ⟨pc, 0, none⟩) := evalD (hF.old 5 (by decide))
        refine Ran.value rfl (v := .pointer (some ⟨pc, 0, none⟩)) (w1 := wa) ?_ ⟨rfl, Ext.refl _⟩
        go_simp
       | 3, _ =>
        cases ho
        have h0 : a.tmps[63]?.getD undef = .pointer (some ⟨pc, 0, none⟩) := evalD ((hF.from_ 2 63 rfl (by decide)))
        have q := (Row.ext (HC.out) hE).cell
        refine Ran.value rfl (v := .int .i64 cx) (w1 := wa) ?_ ⟨rfl, Ext.refl _⟩
        go_simp
       | 4, _ =>
        cases ho
        have h0 : a.tmps[62]?.getD undef = .int .i64 ax := evalD ((hF.from_ 1 62 rfl (by decide)))
        have h1 : a.tmps[64]?.getD undef = .int .i64 cx := evalD ((hF.from_ 3 64 rfl (by decide)))
        refine Ran.value rfl (v := .int .i64 (ax - cx)) (w1 := wa) ?_ ⟨rfl, Ext.refl _⟩
        go_simp
        exact IntWalk.i64_in _ ⟨by omega, by omega⟩
       | 5, _ =>
        cases ho
        have h0 : a.tmps[3]?.getD undef = .pointer (some ⟨pb, 0, none⟩) := evalD (hF.old 3 (by decide))
        refine Ran.value rfl (v := .pointer (some ⟨pb, 1, none⟩)) (w1 := wa) ?_ ⟨rfl, Ext.refl _⟩
        go_simp
       | 6, _ =>
        cases ho
        have h0 : a.tmps[66]?.getD undef = .pointer (some ⟨pb, 1, none⟩) := evalD ((hF.from_ 5 66 rfl (by decide)))
        have q := (Row.ext (HB3.out) hE).cell
        refine Ran.value rfl (v := .int .i64 ay) (w1 := wa) ?_ ⟨rfl, Ext.refl _⟩
        go_simp
       | 7, _ =>
        cases ho
        have h0 : a.tmps[5]?.getD undef = .pointer (some ⟨pc, 0, none⟩) := evalD (hF.old 5 (by decide))
        refine Ran.value rfl (v := .pointer (some ⟨pc, 1, none⟩)) (w1 := wa) ?_ ⟨rfl, Ext.refl _⟩
        go_simp
       | 8, _ =>
        cases ho
        have h0 : a.tmps[68]?.getD undef = .pointer (some ⟨pc, 1, none⟩) := evalD ((hF.from_ 7 68 rfl (by decide)))
        have q := (Row.ext (HC.out) hE).cell
        refine Ran.value rfl (v := .int .i64 cy) (w1 := wa) ?_ ⟨rfl, Ext.refl _⟩
        go_simp
       | 9, _ =>
        cases ho
        have h0 : a.tmps[67]?.getD undef = .int .i64 ay := evalD ((hF.from_ 6 67 rfl (by decide)))
        have h1 : a.tmps[69]?.getD undef = .int .i64 cy := evalD ((hF.from_ 8 69 rfl (by decide)))
        refine Ran.value rfl (v := .int .i64 (ay - cy)) (w1 := wa) ?_ ⟨rfl, Ext.refl _⟩
        go_simp
        exact IntWalk.i64_in _ ⟨by omega, by omega⟩
       | 10, _ =>
        cases ho
        have h0 : a.tmps[65]?.getD undef = .int .i64 (ax - cx) := evalD ((hF.from_ 4 65 rfl (by decide)))
        have h1 : a.tmps[70]?.getD undef = .int .i64 (ay - cy) := evalD ((hF.from_ 9 70 rfl (by decide)))
        refine Ran.value rfl (v := .slice (some ⟨wa.heap.size, 0, none⟩) 2 2) (w1 := wa.alloc (.cells #[.int .i64 (ax - cx), .int .i64 (ay - cy)] 3)) ?_ ⟨⟨wa.heap.size, rfl, hE.size, Row.new _ _ _⟩, (Ext.refl _).alloc _⟩
        go_simp
       | 11, _ =>
        cases ho
        obtain ⟨b_h0, h0, hb_h0, hr_h0⟩ : MkAt W2 (a.eval (.tmp 71)) wa 3 2 #[.int .i64 (ax - cx), .int .i64 (ay - cy)] := (hF.from_ 10 71 rfl (by decide))
        replace h0 := evalD h0
        refine Ran.enter rfl (f := 93) (args := #[.slice (some ⟨b_h0, 0, none⟩) 2 2]) (w1 := wa) ?_ ?_
        ·go_simp
        ·refine (HDq.out b_h0 _ hr_h0).mono ?_
         rintro r w1 ⟨rfl, hX⟩
         exact ⟨_, rfl, rfl, hX ▸ Ext.refl _⟩
       | 12, _ =>
        cases ho
        have h0 : a.tmps[3]?.getD undef = .pointer (some ⟨pb, 0, none⟩) := evalD (hF.old 3 (by decide))
        refine Ran.value rfl (v := .pointer (some ⟨pb, 2, none⟩)) (w1 := wa) ?_ ⟨rfl, Ext.refl _⟩
        go_simp
       | 13, _ =>
        cases ho
        have h0 : a.tmps[73]?.getD undef = .pointer (some ⟨pb, 2, none⟩) := evalD ((hF.from_ 12 73 rfl (by decide)))
        have q := (Row.ext (HB3.out) hE).cell
        refine Ran.value rfl (v := .int .i64 ar) (w1 := wa) ?_ ⟨rfl, Ext.refl _⟩
        go_simp
       | 14, _ =>
        cases ho
        have h0 : a.tmps[5]?.getD undef = .pointer (some ⟨pc, 0, none⟩) := evalD (hF.old 5 (by decide))
        refine Ran.value rfl (v := .pointer (some ⟨pc, 2, none⟩)) (w1 := wa) ?_ ⟨rfl, Ext.refl _⟩
        go_simp
       | 15, _ =>
        cases ho
        have h0 : a.tmps[75]?.getD undef = .pointer (some ⟨pc, 2, none⟩) := evalD ((hF.from_ 14 75 rfl (by decide)))
        have q := (Row.ext (HC.out) hE).cell
        refine Ran.value rfl (v := .int .i64 cr) (w1 := wa) ?_ ⟨rfl, Ext.refl _⟩
        go_simp
       | 16, _ =>
        cases ho
        have h0 : a.tmps[74]?.getD undef = .int .i64 ar := evalD ((hF.from_ 13 74 rfl (by decide)))
        have h1 : a.tmps[76]?.getD undef = .int .i64 cr := evalD ((hF.from_ 15 76 rfl (by decide)))
        refine Ran.value rfl (v := .int .i64 (ar + cr)) (w1 := wa) ?_ ⟨rfl, Ext.refl _⟩
        go_simp
        exact IntWalk.i64_in _ ⟨by omega, by omega⟩
       | 17, _ =>
        cases ho
        have h0 : a.tmps[77]?.getD undef = .int .i64 (ar + cr) := evalD ((hF.from_ 16 77 rfl (by decide)))
        refine Ran.value rfl (v := .slice (some ⟨wa.heap.size, 0, none⟩) 1 1) (w1 := wa.alloc (.cells #[.int .i64 (ar + cr)] 3)) ?_ ⟨⟨wa.heap.size, rfl, hE.size, Row.new _ _ _⟩, (Ext.refl _).alloc _⟩
        go_simp
       | 18, _ =>
        cases ho
        obtain ⟨b_h0, h0, hb_h0, hr_h0⟩ : MkAt W2 (a.eval (.tmp 78)) wa 3 1 #[.int .i64 (ar + cr)] := (hF.from_ 17 78 rfl (by decide))
        replace h0 := evalD h0
        refine Ran.enter rfl (f := 93) (args := #[.slice (some ⟨b_h0, 0, none⟩) 1 1]) (w1 := wa) ?_ ?_
        ·go_simp
        ·refine (HSq.out b_h0 _ hr_h0).mono ?_
         rintro r w1 ⟨rfl, hX⟩
         exact ⟨_, rfl, rfl, hX ▸ Ext.refl _⟩
       | 19, _ =>
        cases ho
        have h0 : a.tmps[72]?.getD undef = .int .i64 Dq := evalD ((hF.from_ 11 72 rfl (by decide)))
        have h1 : a.tmps[79]?.getD undef = .int .i64 Sq := evalD ((hF.from_ 18 79 rfl (by decide)))
        refine Ran.value rfl (v := .bool false) (w1 := wa) ?_ ⟨rfl, Ext.refl _⟩
        have hds : ¬ Dq ≤ Sq := by omega
        go_simp
       | k + 20, hin => omega
      case hQ =>
       intro vs w2 hE hΦ
       have f0 : vs 0 = .pointer (some ⟨pb, 0, none⟩) := hΦ 0 (by omega)
       have f1 : vs 1 = .int .i64 ax := hΦ 1 (by omega)
       have f2 : vs 2 = .pointer (some ⟨pc, 0, none⟩) := hΦ 2 (by omega)
       have f3 : vs 3 = .int .i64 cx := hΦ 3 (by omega)
       have f4 : vs 4 = .int .i64 (ax - cx) := hΦ 4 (by omega)
       have f5 : vs 5 = .pointer (some ⟨pb, 1, none⟩) := hΦ 5 (by omega)
       have f6 : vs 6 = .int .i64 ay := hΦ 6 (by omega)
       have f7 : vs 7 = .pointer (some ⟨pc, 1, none⟩) := hΦ 7 (by omega)
       have f8 : vs 8 = .int .i64 cy := hΦ 8 (by omega)
       have f9 : vs 9 = .int .i64 (ay - cy) := hΦ 9 (by omega)
       obtain ⟨b10, f10, hb10, hr10⟩ : MkAt W2 (vs 10) w2 3 2 #[.int .i64 (ax - cx), .int .i64 (ay - cy)] := hΦ 10 (by omega)
       have f11 : vs 11 = .int .i64 Dq := hΦ 11 (by omega)
       have f12 : vs 12 = .pointer (some ⟨pb, 2, none⟩) := hΦ 12 (by omega)
       have f13 : vs 13 = .int .i64 ar := hΦ 13 (by omega)
       have f14 : vs 14 = .pointer (some ⟨pc, 2, none⟩) := hΦ 14 (by omega)
       have f15 : vs 15 = .int .i64 cr := hΦ 15 (by omega)
       have f16 : vs 16 = .int .i64 (ar + cr) := hΦ 16 (by omega)
       obtain ⟨b17, f17, hb17, hr17⟩ : MkAt W2 (vs 17) w2 3 1 #[.int .i64 (ar + cr)] := hΦ 17 (by omega)
       have f18 : vs 18 = .int .i64 Sq := hΦ 18 (by omega)
       have f19 : vs 19 = .bool false := hΦ 19 (by omega)
       have hrg : List.range 20 = [0, 1, 2, 3, 4, 5, 6, 7, 8, 9, 10, 11, 12, 13, 14, 15, 16, 17, 18, 19] := rfl
       unfold putAll putS
       simp only [List.length_cons, List.length_nil, List.take_succ_cons, List.take_zero, List.drop_succ_cons, List.drop_zero, Nat.reduceAdd, hrg, List.foldl_cons, List.foldl_nil, dstOf, List.getElem?_cons_succ, List.getElem?_cons_zero, Option.bind_some]
       clear hrg
       rw [f0, f1, f2, f3, f4, f5, f6, f7, f8, f9, f10, f11, f12, f13, f14, f15, f16, f17, f18, f19]
       simp only [Act.put, List.setIfInBounds_toArray, List.set_cons_succ, List.set_cons_zero]
       have HX2 := Lib.hid (HX1.out.trans hE)
       clear hΦ f0 f1 f2 f3 f4 f5 f6 f7 f8 f9 f10 f11 f12 f13 f14 f15 f16 f17 f18 f19 hr10 hr17 hE
       go_wp2_with fail
       go_roundw
       case rel => exact ⟨j + 1, by omega, by go_num, HX2.out⟩
       case measure => simp [intOf]; omega
     ·obtain rfl : j = k := by omega
      have HX := Lib.hid hX
      clear hX
      go_wp2_with fail
      go_roundw
      case rel => exact ⟨j + 1, by omega, by go_num, HE2.out.trans HX.out⟩
      case measure => simp [intOf]; omega
  ·go_wp2_with fail
   go_end0
   exact ⟨rfl, hE⟩
end Go.Proofs.YtfkcbgehcbhjnaaGreatDoor
namespace Go.Proofs.YtfkcbgehcbhjnaaGreatDoor
open Go.RowKit
open Sp (rd)
set_option maxRecDepth 100000
set_option maxHeartbeats 4000000
set_option linter.unusedVariables false
def ApartPost (l : List Ec.Ball) (e : Ending) : Prop := (Ec.ballsOk l = true ∧ e = .returned (.tuple #[])) ∨ (Ec.ballsOk l = false ∧ ∃ n : Int, e = .panicked [{ v := .iface 99 (.agg #[.int .i64 n]), recovered := false }])
theorem one_in {ax ay ar : Int} (h : (((!Sp.inR ax (-100) 100) || (!Sp.inR ay (-100) 100)) || (!Sp.inR ar 1 20)) = false) : (-100 ≤ ax ∧ ax ≤ 100) ∧ (-100 ≤ ay ∧ ay ≤ 100) ∧ (1 ≤ ar ∧ ar ≤ 20) := by
 simp only [Bool.or_eq_false_iff, Bool.not_eq_false', inR_iff] at h
 exact ⟨h.1.1, h.1.2, h.2⟩
theorem one_bad (ax ay ar Na Ra : Int) (hN : ax * ax + ay * ay = Na) (hR : ar * ar = Ra) : Ec.oneOk ⟨ax, ay, ar⟩ = !((((!Sp.inR ax (-100) 100) || (!Sp.inR ay (-100) 100)) || (!Sp.inR ar 1 20)) || decide (Na ≤ Ra)) := by
 subst hN hR
 have e : Ec.power ⟨ax, ay, ar⟩ = ax * ax + ay * ay - ar * ar := rfl
 rw [Bool.eq_iff_iff]
 simp only [Ec.oneOk, e, Bool.and_eq_true, decide_eq_true_eq, Bool.not_eq_true', Bool.or_eq_false_iff, Bool.not_eq_false', inR_iff, decide_eq_false_iff_not]
 constructor
 ·rintro ⟨⟨⟨a, b⟩, c⟩, d⟩
  exact ⟨⟨⟨a, b⟩, c⟩, by omega⟩
 ·rintro ⟨⟨⟨a, b⟩, c⟩, d⟩
  exact ⟨⟨⟨a, b⟩, c⟩, by omega⟩
theorem fits_one {l : List Ec.Ball} {k : Nat} (h : Ec.fitsB l k = true) : BallIn (Ec.ballAt l k) := ballIn_of ((Ec.fits_iff _ _).1 h).1
theorem not_balls {l : List Ec.Ball} {k : Nat} (hk : k < l.length) (h : Ec.fitsB l k = false) : Ec.ballsOk l = false := by
 unfold Ec.ballsOk
 rw [Bool.and_eq_false_iff]
 left
 rw [← Bool.not_eq_true, Ec.fitN_iff]
 intro h2
 rw [h2 k hk] at h
 cases h
theorem not_fits_one {l : List Ec.Ball} {k : Nat} (h : Ec.oneOk (Ec.ballAt l k) = false) : Ec.fitsB l k = false := by simp [Ec.fitsB, h]
theorem not_fits_two {l : List Ec.Ball} {k j : Nat} (hj : j < k) (h : Ec.apart (Ec.ballAt l j) (Ec.ballAt l k) = false) : Ec.fitsB l k = false := by
 rw [← Bool.not_eq_true, Ec.fits_iff]
 rintro ⟨_, h2⟩
 rw [h2 j hj] at h
 cases h
def apaΦ5 (ax ay ar Na Ra : Int) (pb : Nat) (w0 : World) (i : Nat) (v : Value) (w : World) : Prop :=
 match i with
 | 0 => v = .pointer (some ⟨pb, 0, none⟩)
 | 1 => v = .int .i64 ax
 | 2 => v = .bool (Sp.inR ax (-100) 100)
 | 3 => v = .bool (!Sp.inR ax (-100) 100)
 | 4 => v = .bool (!Sp.inR ax (-100) 100)
 | 5 => (!Sp.inR ax (-100) 100) = false → v = .pointer (some ⟨pb, 1, none⟩)
 | 6 => (!Sp.inR ax (-100) 100) = false → v = .int .i64 ay
 | 7 => (!Sp.inR ax (-100) 100) = false → v = .bool (Sp.inR ay (-100) 100)
 | 8 => (!Sp.inR ax (-100) 100) = false → v = .bool (!Sp.inR ay (-100) 100)
 | 9 => v = .bool ((!Sp.inR ax (-100) 100) || (!Sp.inR ay (-100) 100))
 | 10 => v = .bool ((!Sp.inR ax (-100) 100) || (!Sp.inR ay (-100) 100))
 | 11 => ((!Sp.inR ax (-100) 100) || (!Sp.inR ay (-100) 100)) = false → v = .pointer (some ⟨pb, 2, none⟩)
 | 12 => ((!Sp.inR ax (-100) 100) || (!Sp.inR ay (-100) 100)) = false → v = .int .i64 ar
 | 13 => ((!Sp.inR ax (-100) 100) || (!Sp.inR ay (-100) 100)) = false → v = .bool (Sp.inR ar 1 20)
 | 14 => ((!Sp.inR ax (-100) 100) || (!Sp.inR ay (-100) 100)) = false → v = .bool (!Sp.inR ar 1 20)
 | 15 => v = .bool (((!Sp.inR ax (-100) 100) || (!Sp.inR ay (-100) 100)) || (!Sp.inR ar 1 20))
 | 16 => v = .bool (((!Sp.inR ax (-100) 100) || (!Sp.inR ay (-100) 100)) || (!Sp.inR ar 1 20))
 | 17 => (((!Sp.inR ax (-100) 100) || (!Sp.inR ay (-100) 100)) || (!Sp.inR ar 1 20)) = false → v = .pointer (some ⟨pb, 0, none⟩)
 | 18 => (((!Sp.inR ax (-100) 100) || (!Sp.inR ay (-100) 100)) || (!Sp.inR ar 1 20)) = false → v = .int .i64 ax
 | 19 => (((!Sp.inR ax (-100) 100) || (!Sp.inR ay (-100) 100)) || (!Sp.inR ar 1 20)) = false → v = .pointer (some ⟨pb, 1, none⟩)
 | 20 => (((!Sp.inR ax (-100) 100) || (!Sp.inR ay (-100) 100)) || (!Sp.inR ar 1 20)) = false → v = .int .i64 ay
 | 21 => (((!Sp.inR ax (-100) 100) || (!Sp.inR ay (-100) 100)) || (!Sp.inR ar 1 20)) = false → MkAt w0 v w 3 2 #[.int .i64 ax, .int .i64 ay]
 | 22 => (((!Sp.inR ax (-100) 100) || (!Sp.inR ay (-100) 100)) || (!Sp.inR ar 1 20)) = false → v = .int .i64 Na
 | 23 => (((!Sp.inR ax (-100) 100) || (!Sp.inR ay (-100) 100)) || (!Sp.inR ar 1 20)) = false → v = .pointer (some ⟨pb, 2, none⟩)
 | 24 => (((!Sp.inR ax (-100) 100) || (!Sp.inR ay (-100) 100)) || (!Sp.inR ar 1 20)) = false → v = .int .i64 ar
 | 25 => (((!Sp.inR ax (-100) 100) || (!Sp.inR ay (-100) 100)) || (!Sp.inR ar 1 20)) = false → MkAt w0 v w 3 1 #[.int .i64 ar]
 | 26 => (((!Sp.inR ax (-100) 100) || (!Sp.inR ay (-100) 100)) || (!Sp.inR ar 1 20)) = false → v = .int .i64 Ra
 | 27 => (((!Sp.inR ax (-100) 100) || (!Sp.inR ay (-100) 100)) || (!Sp.inR ar 1 20)) = false → v = .bool (decide (Na ≤ Ra))
 | _ => v = .bool ((((!Sp.inR ax (-100) 100) || (!Sp.inR ay (-100) 100)) || (!Sp.inR ar 1 20)) || decide (Na ≤ Ra))
theorem apaΦ5_mono {ax ay ar Na Ra : Int} {pb : Nat} {w0 : World} (i : Nat) (v : Value) (w w' : World) (h : apaΦ5 ax ay ar Na Ra pb w0 i v w) (he : Ext w w') : apaΦ5 ax ay ar Na Ra pb w0 i v w' := by
 unfold apaΦ5 at h ⊢
 split at h <;> first
  | exact h
  | exact MkAt.ext h he
  | exact fun hg => MkAt.ext (h hg) he
def apaΦ10 (ax ay ar cx cy cr Dq Sq : Int) (pb pc : Nat) (w0 : World) (i : Nat) (v : Value) (w : World) : Prop :=
 match i with
 | 0 => v = .pointer (some ⟨pb, 0, none⟩)
 | 1 => v = .int .i64 ax
 | 2 => v = .pointer (some ⟨pc, 0, none⟩)
 | 3 => v = .int .i64 cx
 | 4 => v = .int .i64 (ax - cx)
 | 5 => v = .pointer (some ⟨pb, 1, none⟩)
 | 6 => v = .int .i64 ay
 | 7 => v = .pointer (some ⟨pc, 1, none⟩)
 | 8 => v = .int .i64 cy
 | 9 => v = .int .i64 (ay - cy)
 | 10 => MkAt w0 v w 3 2 #[.int .i64 (ax - cx), .int .i64 (ay - cy)]
 | 11 => v = .int .i64 Dq
 | 12 => v = .pointer (some ⟨pb, 2, none⟩)
 | 13 => v = .int .i64 ar
 | 14 => v = .pointer (some ⟨pc, 2, none⟩)
 | 15 => v = .int .i64 cr
 | 16 => v = .int .i64 (ar + cr)
 | 17 => MkAt w0 v w 3 1 #[.int .i64 (ar + cr)]
 | 18 => v = .int .i64 Sq
 | _ => v = .bool (decide (Dq ≤ Sq))
theorem apaΦ10_mono {ax ay ar cx cy cr Dq Sq : Int} {pb pc : Nat} {w0 : World} (i : Nat) (v : Value) (w w' : World) (h : apaΦ10 ax ay ar cx cy cr Dq Sq pb pc w0 i v w) (he : Ext w w') : apaΦ10 ax ay ar cx cy cr Dq Sq pb pc w0 i v w' := by
 unfold apaΦ10 at h ⊢
 split at h <;> first
  | exact h
  | exact MkAt.ext h he
  | exact fun hg => MkAt.ext (h hg) he
theorem e_apart_any (l : List Ec.Ball) (A : Option Addr) (c : Nat) (w : World) (hm : BallsAt w A l) (hc : l.length ≤ c) (hl : l.length ≤ 1000) :
  Calls Tryz.prog 54 #[.slice A l.length c] w fun e w' => ApartPost l e ∧ Ext w w' := by
 have HM0 := Lib.hid hm
 cases hci : Sp.inR (l.length : Int) 1 5 with
 | false =>
  have HB : Hid (Ec.ballsOk l = false) := Lib.hid (by unfold Ec.ballsOk; rw [hci, Bool.and_false])
  clear hm
  go_enter Tryz.func54, Tryz.ntmps54
  go_wp2_with fail
  refine (e_in_any _ _ _ _).mono ?_
  rintro e w1 ⟨rfl, rfl⟩
  rw [hci]
  clear hci
  go_wp2_with fail
  exact ⟨rfl, .inr ⟨HB.out, _, rfl⟩, Ext.refl _⟩
 | true =>
  have hl5 := inR_iff.1 hci
  obtain ⟨bb, o, rfl, hcell⟩ := hm (by omega)
  have HM := Lib.hid hcell
  clear hm hcell
  go_enter Tryz.func54, Tryz.ntmps54
  go_wp2_with fail
  refine (e_in_any _ _ _ _).mono ?_
  rintro e w1 ⟨rfl, rfl⟩
  rw [hci]
  have HCI := Lib.hid hci
  clear hci
  go_wp2_with fail
  go_loopw [16] (fun i wr => ∃ k : Nat, k ≤ l.length ∧ i = .int .i64 k ∧ (∀ j, j < k → Ec.fitsB l j = true) ∧ Ext w wr) (fun i _ => l.length - (intOf i).toNat)
  case atStart => exact ⟨0, Nat.zero_le _, rfl, fun j hj => absurd hj (Nat.not_lt_zero _), Ext.refl _⟩
  case round =>
   obtain ⟨k, hk, rfl, hfit, hE⟩ := hrel
   have HFIT := Lib.hid hfit
   clear hfit
   by_cases hlt : k < l.length
   ·obtain ⟨q1, q2, q3⟩ := HM.out k hlt
    replace q1 := hE.cell q1
    replace q2 := hE.cell q2
    replace q3 := hE.cell q3
    have HNB := Lib.hid (fun h => not_balls (l := l) hlt h)
    have HN1 := Lib.hid (fun h => not_fits_one (l := l) (k := k) h)
    have HN2 := Lib.hid (fun j (hj : j < k) h => not_fits_two (l := l) (k := k) (j := j) hj h)
    have HFK := Lib.hid ((Ec.fits_iff l k).2)
    obtain ⟨b, hb⟩ : ∃ b, Ec.ballAt l k = b := ⟨_, rfl⟩
    rw [hb] at q1 q2 q3 HN1 HFK
    have HN2' : Hid (∀ j, j < k → Ec.apart (Ec.ballAt l j) b = false → Ec.fitsB l k = false) := Lib.hid (by rw [← hb]; exact HN2.out)
    obtain ⟨ax, ay, ar⟩ := b
    simp only at q1 q2 q3
    have HE := Lib.hid hE
    have z1 := lts (lt_of_cell q1)
    simp only at z1
    clear hb hE HN2
    have HB0 := Lib.hid (Row.new wr 51 #[.int .i64 ax, .int .i64 ay, .int .i64 ar])
    have HE1 := Lib.hid (HE.out.alloc (.cells #[.int .i64 ax, .int .i64 ay, .int .i64 ar] 51))
    obtain ⟨Na, hNa⟩ : ∃ Na, ax * ax + ay * ay = Na := ⟨_, rfl⟩
    obtain ⟨Ra, hRa⟩ : ∃ Ra, ar * ar = Ra := ⟨_, rfl⟩
    have HNa : Hid ((((!Sp.inR ax (-100) 100) || (!Sp.inR ay (-100) 100)) || (!Sp.inR ar 1 20)) = false → ∀ (b : Nat) (w : World), Row w b 3 #[.int .i64 ax, .int .i64 ay] → Calls Tryz.prog 93 #[.slice (some ⟨b, 0, none⟩) 2 2] w fun e w' => e = .returned (.int .i64 Na) ∧ w = w') := Lib.hid fun h b w hr => by have := one_in h; rw [← hNa]; exact e_squares2 b ax ay w hr (by omega) (by omega) (by omega) (by omega)
    have HRa : Hid ((((!Sp.inR ax (-100) 100) || (!Sp.inR ay (-100) 100)) || (!Sp.inR ar 1 20)) = false → ∀ (b : Nat) (w : World), Row w b 3 #[.int .i64 ar] → Calls Tryz.prog 93 #[.slice (some ⟨b, 0, none⟩) 1 1] w fun e w' => e = .returned (.int .i64 Ra) ∧ w = w') := Lib.hid fun h b w hr => by have := one_in h; rw [← hRa]; exact e_squares1 b ar w hr (by omega) (by omega)
    have HONE := Lib.hid (one_bad ax ay ar Na Ra hNa hRa)
    clear hNa hRa
    go_wp2_with fail
    clear q1 q2 q3
    obtain ⟨W, hW⟩ : ∃ W, wr.alloc (.cells #[.int .i64 ax, .int .i64 ay, .int .i64 ar] 51) = W := ⟨_, rfl⟩
    obtain ⟨pb, hpb⟩ : ∃ pb, wr.heap.size = pb := ⟨_, rfl⟩
    have HB : Hid (Row W pb 51 #[.int .i64 ax, .int .i64 ay, .int .i64 ar]) := Lib.hid (by rw [← hW, ← hpb]; exact HB0.out)
    rw [hW] at HE1 ⊢
    rw [hpb] at z1 ⊢
    clear hW hpb HB0
    refine wp_region_free_tail 29 29 (apaΦ5 ax ay ar Na Ra pb W) (by kernel_rfl) (by simp) (by kernel_rfl) (by kernel_rfl) (by kernel_rfl) (by kernel_rfl) apaΦ5_mono ?hob ?hQ (fun h => absurd h (by omega))
    case hob =>
     intro i o hin ho a wa hE hF
     match i, hin with
     | 0, _ =>
      cases ho
      have h0 : a.tmps[3]?.getD undef = .pointer (some ⟨pb, 0, none⟩) := evalD (hF.old 3 (by decide))
      refine Ran.value rfl (v := .pointer (some ⟨pb, 0, none⟩)) (w1 := wa) ?_ ⟨rfl, Ext.refl _⟩
      go_simp
     | 1, _ =>
      cases ho
      have h0 : a.tmps[21]?.getD undef = .pointer (some ⟨pb, 0, none⟩) := evalD ((hF.from_ 0 21 rfl (by decide)))
      have q := (Row.ext (HB.out) hE).cell
      refine Ran.value rfl (v := .int .i64 ax) (w1 := wa) ?_ ⟨rfl, Ext.refl _⟩
      go_simp
     | 2, _ =>
      cases ho
      have h0 : a.tmps[22]?.getD undef = .int .i64 ax := evalD ((hF.from_ 1 22 rfl (by decide)))
      refine Ran.enter rfl (f := 61) (args := #[.int .i64 ax, .int .i64 (-100), .int .i64 100]) (w1 := wa) ?_ ?_
      ·go_simp
      ·refine (e_in_any ax (-100) 100 wa).mono ?_
       rintro r w1 ⟨rfl, hX⟩
       exact ⟨_, rfl, rfl, hX ▸ Ext.refl _⟩
     | 3, _ =>
      cases ho
      have h0 : a.tmps[23]?.getD undef = .bool (Sp.inR ax (-100) 100) := evalD ((hF.from_ 2 23 rfl (by decide)))
      refine Ran.value rfl (v := .bool (!Sp.inR ax (-100) 100)) (w1 := wa) ?_ ⟨rfl, Ext.refl _⟩
      go_simp
     | 4, _ =>
      cases ho
      have h0 : a.tmps[24]?.getD undef = .bool (!Sp.inR ax (-100) 100) := evalD ((hF.from_ 3 24 rfl (by decide)))
      refine Ran.value rfl (v := .bool (!Sp.inR ax (-100) 100)) (w1 := wa) ?_ ⟨rfl, Ext.refl _⟩
      go_simp
     | 5, _ =>
      cases ho
      have hgv : a.eval (.tmp 25) = .bool ((!Sp.inR ax (-100) 100)) := hF.from_ 4 25 rfl (by decide)
      refine Ran.if_ rfl rfl rfl hgv (fun hg => ?_) (fun hg => ⟨fun h => absurd h hg, Ext.refl _⟩)
      have h0 : a.tmps[3]?.getD undef = .pointer (some ⟨pb, 0, none⟩) := evalD (hF.old 3 (by decide))
      refine Ran.value rfl (v := .pointer (some ⟨pb, 1, none⟩)) (w1 := wa) ?_ ⟨fun _ => rfl, Ext.refl _⟩
      go_simp
     | 6, _ =>
      cases ho
      have hgv : a.eval (.tmp 25) = .bool ((!Sp.inR ax (-100) 100)) := hF.from_ 4 25 rfl (by decide)
      refine Ran.if_ rfl rfl rfl hgv (fun hg => ?_) (fun hg => ⟨fun h => absurd h hg, Ext.refl _⟩)
      have h0 : a.tmps[26]?.getD undef = .pointer (some ⟨pb, 1, none⟩) := evalD ((hF.from_ 5 26 rfl (by decide)) hg)
      have q := (Row.ext (HB.out) hE).cell
      refine Ran.value rfl (v := .int .i64 ay) (w1 := wa) ?_ ⟨fun _ => rfl, Ext.refl _⟩
      go_simp
     | 7, _ =>
      cases ho
      have hgv : a.eval (.tmp 25) = .bool ((!Sp.inR ax (-100) 100)) := hF.from_ 4 25 rfl (by decide)
      refine Ran.if_ rfl rfl rfl hgv (fun hg => ?_) (fun hg => ⟨fun h => absurd h hg, Ext.refl _⟩)
      have h0 : a.tmps[27]?.getD undef = .int .i64 ay := evalD ((hF.from_ 6 27 rfl (by decide)) hg)
      refine Ran.enter rfl (f := 61) (args := #[.int .i64 ay, .int .i64 (-100), .int .i64 100]) (w1 := wa) ?_ ?_
      ·go_simp
      ·refine (e_in_any ay (-100) 100 wa).mono ?_
       rintro r w1 ⟨rfl, hX⟩
       exact ⟨_, rfl, fun _ => rfl, hX ▸ Ext.refl _⟩
     | 8, _ =>
      cases ho
      have hgv : a.eval (.tmp 25) = .bool ((!Sp.inR ax (-100) 100)) := hF.from_ 4 25 rfl (by decide)
      refine Ran.if_ rfl rfl rfl hgv (fun hg => ?_) (fun hg => ⟨fun h => absurd h hg, Ext.refl _⟩)
      have h0 : a.tmps[28]?.getD undef = .bool (Sp.inR ay (-100) 100) := evalD ((hF.from_ 7 28 rfl (by decide)) hg)
      refine Ran.value rfl (v := .bool (!Sp.inR ay (-100) 100)) (w1 := wa) ?_ ⟨fun _ => rfl, Ext.refl _⟩
      go_simp
     | 9, _ =>
      cases ho
      have h0 : a.tmps[25]?.getD undef = .bool ((!Sp.inR ax (-100) 100)) := evalD (hF.from_ 4 25 rfl (by decide))
      cases hC : ((!Sp.inR ax (-100) 100))
      ·rw [hC] at h0
       have h1 : a.tmps[29]?.getD undef = .bool ((!Sp.inR ay (-100) 100)) := evalD ((hF.from_ 8 29 rfl (by decide)) hC)
       refine Ran.value rfl (v := .bool ((!Sp.inR ay (-100) 100))) (w1 := wa) ?_ ⟨by show Value.bool ((!Sp.inR ay (-100) 100)) = .bool ((!Sp.inR ax (-100) 100) || (!Sp.inR ay (-100) 100)); rw [hC]; rfl, Ext.refl _⟩
       go_simp
      ·rw [hC] at h0
       refine Ran.value rfl (v := .bool true) (w1 := wa) ?_ ⟨by show Value.bool true = .bool ((!Sp.inR ax (-100) 100) || (!Sp.inR ay (-100) 100)); rw [hC]; rfl, Ext.refl _⟩
       go_simp
     | 10, _ =>
      cases ho
      have h0 : a.tmps[30]?.getD undef = .bool ((!Sp.inR ax (-100) 100) || (!Sp.inR ay (-100) 100)) := evalD ((hF.from_ 9 30 rfl (by decide)))
      refine Ran.value rfl (v := .bool ((!Sp.inR ax (-100) 100) || (!Sp.inR ay (-100) 100))) (w1 := wa) ?_ ⟨rfl, Ext.refl _⟩
      go_simp
     | 11, _ =>
      cases ho
      have hgv : a.eval (.tmp 31) = .bool (((!Sp.inR ax (-100) 100) || (!Sp.inR ay (-100) 100))) := hF.from_ 10 31 rfl (by decide)
      refine Ran.if_ rfl rfl rfl hgv (fun hg => ?_) (fun hg => ⟨fun h => absurd h hg, Ext.refl _⟩)
      have h0 : a.tmps[3]?.getD undef = .pointer (some ⟨pb, 0, none⟩) := evalD (hF.old 3 (by decide))
      refine Ran.value rfl (v := .pointer (some ⟨pb, 2, none⟩)) (w1 := wa) ?_ ⟨fun _ => rfl, Ext.refl _⟩
      go_simp
     | 12, _ =>
      cases ho
      have hgv : a.eval (.tmp 31) = .bool (((!Sp.inR ax (-100) 100) || (!Sp.inR ay (-100) 100))) := hF.from_ 10 31 rfl (by decide)
      refine Ran.if_ rfl rfl rfl hgv (fun hg => ?_) (fun hg => ⟨fun h => absurd h hg, Ext.refl _⟩)
      have h0 : a.tmps[32]?.getD undef = .pointer (some ⟨pb, 2, none⟩) := evalD ((hF.from_ 11 32 rfl (by decide)) hg)
      have q := (Row.ext (HB.out) hE).cell
      refine Ran.value rfl (v := .int .i64 ar) (w1 := wa) ?_ ⟨fun _ => rfl, Ext.refl _⟩
      go_simp
     | 13, _ =>
      cases ho
      have hgv : a.eval (.tmp 31) = .bool (((!Sp.inR ax (-100) 100) || (!Sp.inR ay (-100) 100))) := hF.from_ 10 31 rfl (by decide)
      refine Ran.if_ rfl rfl rfl hgv (fun hg => ?_) (fun hg => ⟨fun h => absurd h hg, Ext.refl _⟩)
      have h0 : a.tmps[33]?.getD undef = .int .i64 ar := evalD ((hF.from_ 12 33 rfl (by decide)) hg)
      refine Ran.enter rfl (f := 61) (args := #[.int .i64 ar, .int .i64 1, .int .i64 20]) (w1 := wa) ?_ ?_
      ·go_simp
      ·refine (e_in_any ar 1 20 wa).mono ?_
       rintro r w1 ⟨rfl, hX⟩
       exact ⟨_, rfl, fun _ => rfl, hX ▸ Ext.refl _⟩
     | 14, _ =>
      cases ho
      have hgv : a.eval (.tmp 31) = .bool (((!Sp.inR ax (-100) 100) || (!Sp.inR ay (-100) 100))) := hF.from_ 10 31 rfl (by decide)
      refine Ran.if_ rfl rfl rfl hgv (fun hg => ?_) (fun hg => ⟨fun h => absurd h hg, Ext.refl _⟩)
      have h0 : a.tmps[34]?.getD undef = .bool (Sp.inR ar 1 20) := evalD ((hF.from_ 13 34 rfl (by decide)) hg)
      refine Ran.value rfl (v := .bool (!Sp.inR ar 1 20)) (w1 := wa) ?_ ⟨fun _ => rfl, Ext.refl _⟩
      go_simp
     | 15, _ =>
      cases ho
      have h0 : a.tmps[31]?.getD undef = .bool (((!Sp.inR ax (-100) 100) || (!Sp.inR ay (-100) 100))) := evalD (hF.from_ 10 31 rfl (by decide))
      cases hC : (((!Sp.inR ax (-100) 100) || (!Sp.inR ay (-100) 100)))
      ·rw [hC] at h0
       have h1 : a.tmps[35]?.getD undef = .bool ((!Sp.inR ar 1 20)) := evalD ((hF.from_ 14 35 rfl (by decide)) hC)
       refine Ran.value rfl (v := .bool ((!Sp.inR ar 1 20))) (w1 := wa) ?_ ⟨by show Value.bool ((!Sp.inR ar 1 20)) = .bool (((!Sp.inR ax (-100) 100) || (!Sp.inR ay (-100) 100)) || (!Sp.inR ar 1 20)); rw [hC]; rfl, Ext.refl _⟩
       go_simp
      ·rw [hC] at h0
       refine Ran.value rfl (v := .bool true) (w1 := wa) ?_ ⟨by show Value.bool true = .bool (((!Sp.inR ax (-100) 100) || (!Sp.inR ay (-100) 100)) || (!Sp.inR ar 1 20)); rw [hC]; rfl, Ext.refl _⟩
       go_simp
     | 16, _ =>
      cases ho
      have h0 : a.tmps[36]?.getD undef = .bool (((!Sp.inR ax (-100) 100) || (!Sp.inR ay (-100) 100)) || (!Sp.inR ar 1 20)) := evalD ((hF.from_ 15 36 rfl (by decide)))
      refine Ran.value rfl (v := .bool (((!Sp.inR ax (-100) 100) || (!Sp.inR ay (-100) 100)) || (!Sp.inR ar 1 20))) (w1 := wa) ?_ ⟨rfl, Ext.refl _⟩
      go_simp
     | 17, _ =>
      cases ho
      have hgv : a.eval (.tmp 37) = .bool ((((!Sp.inR ax (-100) 100) || (!Sp.inR ay (-100) 100)) || (!Sp.inR ar 1 20))) := hF.from_ 16 37 rfl (by decide)
      refine Ran.if_ rfl rfl rfl hgv (fun hg => ?_) (fun hg => ⟨fun h => absurd h hg, Ext.refl _⟩)
      have h0 : a.tmps[3]?.getD undef = .pointer (some ⟨pb, 0, none⟩) := evalD (hF.old 3 (by decide))
      refine Ran.value rfl (v := .pointer (some ⟨pb, 0, none⟩)) (w1 := wa) ?_ ⟨fun _ => rfl, Ext.refl _⟩
      go_simp
     | 18, _ =>
      cases ho
      have hgv : a.eval (.tmp 37) = .bool ((((!Sp.inR ax (-100) 100) || (!Sp.inR ay (-100) 100)) || (!Sp.inR ar 1 20))) := hF.from_ 16 37 rfl (by decide)
      refine Ran.if_ rfl rfl rfl hgv (fun hg => ?_) (fun hg => ⟨fun h => absurd h hg, Ext.refl _⟩)
      have h0 : a.tmps[38]?.getD undef = .pointer (some ⟨pb, 0, none⟩) := evalD ((hF.from_ 17 38 rfl (by decide)) hg)
      have q := (Row.ext (HB.out) hE).cell
      refine Ran.value rfl (v := .int .i64 ax) (w1 := wa) ?_ ⟨fun _ => rfl, Ext.refl _⟩
      go_simp
     | 19, _ =>
      cases ho
      have hgv : a.eval (.tmp 37) = .bool ((((!Sp.inR ax (-100) 100) || (!Sp.inR ay (-100) 100)) || (!Sp.inR ar 1 20))) := hF.from_ 16 37 rfl (by decide)
      refine Ran.if_ rfl rfl rfl hgv (fun hg => ?_) (fun hg => ⟨fun h => absurd h hg, Ext.refl _⟩)
      have h0 : a.tmps[3]?.getD undef = .pointer (some ⟨pb, 0, none⟩) := evalD (hF.old 3 (by decide))
      refine Ran.value rfl (v := .pointer (some ⟨pb, 1, none⟩)) (w1 := wa) ?_ ⟨fun _ => rfl, Ext.refl _⟩
      go_simp
     | 20, _ =>
      cases ho
      have hgv : a.eval (.tmp 37) = .bool ((((!Sp.inR ax (-100) 100) || (!Sp.inR ay (-100) 100)) || (!Sp.inR ar 1 20))) := hF.from_ 16 37 rfl (by decide)
      refine Ran.if_ rfl rfl rfl hgv (fun hg => ?_) (fun hg => ⟨fun h => absurd h hg, Ext.refl _⟩)
      have h0 : a.tmps[40]?.getD undef = .pointer (some ⟨pb, 1, none⟩) := evalD ((hF.from_ 19 40 rfl (by decide)) hg)
      have q := (Row.ext (HB.out) hE).cell
      refine Ran.value rfl (v := .int .i64 ay) (w1 := wa) ?_ ⟨fun _ => rfl, Ext.refl _⟩
      go_simp
     | 21, _ =>
      cases ho
      have hgv : a.eval (.tmp 37) = .bool ((((!Sp.inR ax (-100) 100) || (!Sp.inR ay (-100) 100)) || (!Sp.inR ar 1 20))) := hF.from_ 16 37 rfl (by decide)
      refine Ran.if_ rfl rfl rfl hgv (fun hg => ?_) (fun hg => ⟨fun h => absurd h hg, Ext.refl _⟩)
      have h0 : a.tmps[39]?.getD undef = .int .i64 ax := evalD ((hF.from_ 18 39 rfl (by decide)) hg)
      have h1 : a.tmps[41]?.getD undef = .int .i64 ay := evalD ((hF.from_ 20 41 rfl (by decide)) hg)
      refine Ran.value rfl (v := .slice (some ⟨wa.heap.size, 0, none⟩) 2 2) (w1 := wa.alloc (.cells #[.int .i64 ax, .int .i64 ay] 3)) ?_ ⟨fun _ => ⟨wa.heap.size, rfl, hE.size, Row.new _ _ _⟩, (Ext.refl _).alloc _⟩
      go_simp
     | 22, _ =>
      cases ho
      have hgv : a.eval (.tmp 37) = .bool ((((!Sp.inR ax (-100) 100) || (!Sp.inR ay (-100) 100)) || (!Sp.inR ar 1 20))) := hF.from_ 16 37 rfl (by decide)
      refine Ran.if_ rfl rfl rfl hgv (fun hg => ?_) (fun hg => ⟨fun h => absurd h hg, Ext.refl _⟩)
      obtain ⟨b_h0, h0, hb_h0, hr_h0⟩ : MkAt W (a.eval (.tmp 42)) wa 3 2 #[.int .i64 ax, .int .i64 ay] := (hF.from_ 21 42 rfl (by decide)) hg
      replace h0 := evalD h0
      refine Ran.enter rfl (f := 93) (args := #[.slice (some ⟨b_h0, 0, none⟩) 2 2]) (w1 := wa) ?_ ?_
      ·go_simp
      ·refine (HNa.out hg b_h0 _ hr_h0).mono ?_
       rintro r w1 ⟨rfl, hX⟩
       exact ⟨_, rfl, fun _ => rfl, hX ▸ Ext.refl _⟩
     | 23, _ =>
      cases ho
      have hgv : a.eval (.tmp 37) = .bool ((((!Sp.inR ax (-100) 100) || (!Sp.inR ay (-100) 100)) || (!Sp.inR ar 1 20))) := hF.from_ 16 37 rfl (by decide)
      refine Ran.if_ rfl rfl rfl hgv (fun hg => ?_) (fun hg => ⟨fun h => absurd h hg, Ext.refl _⟩)
      have h0 : a.tmps[3]?.getD undef = .pointer (some ⟨pb, 0, none⟩) := evalD (hF.old 3 (by decide))
      refine Ran.value rfl (v := .pointer (some ⟨pb, 2, none⟩)) (w1 := wa) ?_ ⟨fun _ => rfl, Ext.refl _⟩
      go_simp
     | 24, _ =>
      cases ho
      have hgv : a.eval (.tmp 37) = .bool ((((!Sp.inR ax (-100) 100) || (!Sp.inR ay (-100) 100)) || (!Sp.inR ar 1 20))) := hF.from_ 16 37 rfl (by decide)
      refine Ran.if_ rfl rfl rfl hgv (fun hg => ?_) (fun hg => ⟨fun h => absurd h hg, Ext.refl _⟩)
      have h0 : a.tmps[44]?.getD undef = .pointer (some ⟨pb, 2, none⟩) := evalD ((hF.from_ 23 44 rfl (by decide)) hg)
      have q := (Row.ext (HB.out) hE).cell
      refine Ran.value rfl (v := .int .i64 ar) (w1 := wa) ?_ ⟨fun _ => rfl, Ext.refl _⟩
      go_simp
     | 25, _ =>
      cases ho
      have hgv : a.eval (.tmp 37) = .bool ((((!Sp.inR ax (-100) 100) || (!Sp.inR ay (-100) 100)) || (!Sp.inR ar 1 20))) := hF.from_ 16 37 rfl (by decide)
      refine Ran.if_ rfl rfl rfl hgv (fun hg => ?_) (fun hg => ⟨fun h => absurd h hg, Ext.refl _⟩)
      have h0 : a.tmps[45]?.getD undef = .int .i64 ar := evalD ((hF.from_ 24 45 rfl (by decide)) hg)
      refine Ran.value rfl (v := .slice (some ⟨wa.heap.size, 0, none⟩) 1 1) (w1 := wa.alloc (.cells #[.int .i64 ar] 3)) ?_ ⟨fun _ => ⟨wa.heap.size, rfl, hE.size, Row.new _ _ _⟩, (Ext.refl _).alloc _⟩
      go_simp
     | 26, _ =>
      cases ho
      have hgv : a.eval (.tmp 37) = .bool ((((!Sp.inR ax (-100) 100) || (!Sp.inR ay (-100) 100)) || (!Sp.inR ar 1 20))) := hF.from_ 16 37 rfl (by decide)
      refine Ran.if_ rfl rfl rfl hgv (fun hg => ?_) (fun hg => ⟨fun h => absurd h hg, Ext.refl _⟩)
      obtain ⟨b_h0, h0, hb_h0, hr_h0⟩ : MkAt W (a.eval (.tmp 46)) wa 3 1 #[.int .i64 ar] := (hF.from_ 25 46 rfl (by decide)) hg
      replace h0 := evalD h0
      refine Ran.enter rfl (f := 93) (args := #[.slice (some ⟨b_h0, 0, none⟩) 1 1]) (w1 := wa) ?_ ?_
      ·go_simp
      ·refine (HRa.out hg b_h0 _ hr_h0).mono ?_
       rintro r w1 ⟨rfl, hX⟩
       exact ⟨_, rfl, fun _ => rfl, hX ▸ Ext.refl _⟩
     | 27, _ =>
      cases ho
      have hgv : a.eval (.tmp 37) = .bool ((((!Sp.inR ax (-100) 100) || (!Sp.inR ay (-100) 100)) || (!Sp.inR ar 1 20))) := hF.from_ 16 37 rfl (by decide)
      refine Ran.if_ rfl rfl rfl hgv (fun hg => ?_) (fun hg => ⟨fun h => absurd h hg, Ext.refl _⟩)
      have h0 : a.tmps[43]?.getD undef = .int .i64 Na := evalD ((hF.from_ 22 43 rfl (by decide)) hg)
      have h1 : a.tmps[47]?.getD undef = .int .i64 Ra := evalD ((hF.from_ 26 47 rfl (by decide)) hg)
      refine Ran.value rfl (v := .bool (decide (Na ≤ Ra))) (w1 := wa) ?_ ⟨fun _ => rfl, Ext.refl _⟩
      go_simp
     | 28, _ =>
      cases ho
      have h0 : a.tmps[37]?.getD undef = .bool ((((!Sp.inR ax (-100) 100) || (!Sp.inR ay (-100) 100)) || (!Sp.inR ar 1 20))) := evalD (hF.from_ 16 37 rfl (by decide))
      cases hC : ((((!Sp.inR ax (-100) 100) || (!Sp.inR ay (-100) 100)) || (!Sp.inR ar 1 20)))
      ·rw [hC] at h0
       have h1 : a.tmps[48]?.getD undef = .bool (decide (Na ≤ Ra)) := evalD ((hF.from_ 27 48 rfl (by decide)) hC)
       refine Ran.value rfl (v := .bool (decide (Na ≤ Ra))) (w1 := wa) ?_ ⟨by show Value.bool (decide (Na ≤ Ra)) = .bool ((((!Sp.inR ax (-100) 100) || (!Sp.inR ay (-100) 100)) || (!Sp.inR ar 1 20)) || decide (Na ≤ Ra)); rw [hC]; rfl, Ext.refl _⟩
       go_simp
      ·rw [hC] at h0
       refine Ran.value rfl (v := .bool true) (w1 := wa) ?_ ⟨by show Value.bool true = .bool ((((!Sp.inR ax (-100) 100) || (!Sp.inR ay (-100) 100)) || (!Sp.inR ar 1 20)) || decide (Na ≤ Ra)); rw [hC]; rfl, Ext.refl _⟩
       go_simp
     | k + 29, hin => omega
    case hQ =>
     intro vs w2 hE hΦ
     have f0 : vs 0 = .pointer (some ⟨pb, 0, none⟩) := hΦ 0 (by omega)
     have f1 : vs 1 = .int .i64 ax := hΦ 1 (by omega)
     have f2 : vs 2 = .bool (Sp.inR ax (-100) 100) := hΦ 2 (by omega)
     have f3 : vs 3 = .bool (!Sp.inR ax (-100) 100) := hΦ 3 (by omega)
     have f4 : vs 4 = .bool (!Sp.inR ax (-100) 100) := hΦ 4 (by omega)
     have f9 : vs 9 = .bool ((!Sp.inR ax (-100) 100) || (!Sp.inR ay (-100) 100)) := hΦ 9 (by omega)
     have f10 : vs 10 = .bool ((!Sp.inR ax (-100) 100) || (!Sp.inR ay (-100) 100)) := hΦ 10 (by omega)
     have f15 : vs 15 = .bool (((!Sp.inR ax (-100) 100) || (!Sp.inR ay (-100) 100)) || (!Sp.inR ar 1 20)) := hΦ 15 (by omega)
     have f16 : vs 16 = .bool (((!Sp.inR ax (-100) 100) || (!Sp.inR ay (-100) 100)) || (!Sp.inR ar 1 20)) := hΦ 16 (by omega)
     have f28 : vs 28 = .bool ((((!Sp.inR ax (-100) 100) || (!Sp.inR ay (-100) 100)) || (!Sp.inR ar 1 20)) || decide (Na ≤ Ra)) := hΦ 28 (by omega)
     have hrg : List.range 29 = [0, 1, 2, 3, 4, 5, 6, 7, 8, 9, 10, 11, 12, 13, 14, 15, 16, 17, 18, 19, 20, 21, 22, 23, 24, 25, 26, 27, 28] := rfl
     unfold putAll putS
     simp only [List.length_cons, List.length_nil, List.take_succ_cons, List.take_zero, List.drop_succ_cons, List.drop_zero, Nat.reduceAdd, hrg, List.foldl_cons, List.foldl_nil, dstOf, List.getElem?_cons_succ, List.getElem?_cons_zero, Option.bind_some]
     clear hrg
     rw [f0, f1, f2, f3, f4, f9, f10, f15, f16, f28]
     simp only [Act.put, List.setIfInBounds_toArray, List.set_cons_succ, List.set_cons_zero]
     have HE2 := Lib.hid (HE1.out.trans hE)
     have HB2 := Lib.hid (HB.out.ext hE)
     clear hΦ f0 f1 f2 f3 f4 f9 f10 f15 f16 f28 hE
     obtain ⟨bad, hbad⟩ : ∃ bad, ((((!Sp.inR ax (-100) 100) || (!Sp.inR ay (-100) 100)) || (!Sp.inR ar 1 20)) || decide (Na ≤ Ra)) = bad := ⟨_, rfl⟩
     rw [hbad] at HONE ⊢
     cases bad with
     | true =>
      have HNO := Lib.hid (HNB.out (HN1.out HONE.out))
      clear hbad
      go_wp2_with fail
      exact ⟨rfl, .inr ⟨HNO.out, _, rfl⟩, HE2.out⟩
     | false =>
      have hone : Ec.oneOk ⟨ax, ay, ar⟩ = true := HONE.out
      obtain ⟨x1, y1, r1, hp⟩ := ballIn_of hone
      simp only at x1 y1 r1
      have HON := Lib.hid hone
      have s1 : (k : Int) ≤ (c : Int) := by omega
      have s2 : (0 : Int) ≤ (k : Int) := by omega
      clear hbad hone hp HNa HRa
      go_wp2_with fail
      obtain ⟨wo, rfl⟩ : ∃ wo : World, wo = wr := ⟨_, rfl⟩
      go_loopw [57] (fun i wx => ∃ j : Nat, j ≤ k ∧ i = .int .i64 j ∧ (∀ i, i < j → Ec.apart (Ec.ballAt l i) ⟨ax, ay, ar⟩ = true) ∧ Ext w2 wx) (fun i _ => k - (intOf i).toNat)
      case atStart => exact ⟨0, Nat.zero_le _, rfl, fun i hi => absurd hi (Nat.not_lt_zero _), Ext.refl _⟩
      case round =>
       obtain ⟨j, hj, rfl, hap, hX⟩ := hrel
       have HAP := Lib.hid hap
       clear hap
       by_cases hjk : j < k
       ·obtain ⟨p1, p2, p3⟩ := HM.out j (by omega)
        replace p1 := hX.cell (HE2.out.cell p1)
        replace p2 := hX.cell (HE2.out.cell p2)
        replace p3 := hX.cell (HE2.out.cell p3)
        have hC := fits_one (HFIT.out j hjk)
        have HNJ := Lib.hid (HN2'.out j hjk)
        have HAJ : Hid (Ec.apart (Ec.ballAt l j) ⟨ax, ay, ar⟩ = true → ∀ i, i < j + 1 → Ec.apart (Ec.ballAt l i) ⟨ax, ay, ar⟩ = true) := Lib.hid (fun h i hi => by
         rcases Nat.lt_or_ge i j with h1 | h1
         ·exact HAP.out i h1
         ·obtain rfl : i = j := by omega
          exact h)
        obtain ⟨b, hb⟩ : ∃ b, Ec.ballAt l j = b := ⟨_, rfl⟩
        rw [hb] at p1 p2 p3 hC HNJ HAJ
        obtain ⟨cx, cy, cr⟩ := b
        obtain ⟨x2, y2, r2, _⟩ := hC
        simp only at p1 p2 p3 x2 y2 r2
        rw [Ec.apart_swap] at HNJ
        have HAJ' : Hid (Ec.apart ⟨ax, ay, ar⟩ ⟨cx, cy, cr⟩ = true → ∀ i, i < j + 1 → Ec.apart (Ec.ballAt l i) ⟨ax, ay, ar⟩ = true) := Lib.hid (fun h => HAJ.out (by rw [Ec.apart_swap]; exact h))
        clear HAJ
        have z2 := lts (lt_of_cell p1)
        simp only at z2
        have HX := Lib.hid hX
        have HB3 := Lib.hid ((HB2.out.ext hX).alloc (.cells #[.int .i64 cx, .int .i64 cy, .int .i64 cr] 51))
        have HC0 := Lib.hid (Row.new wr 51 #[.int .i64 cx, .int .i64 cy, .int .i64 cr])
        have HX1 := Lib.hid (hX.alloc (.cells #[.int .i64 cx, .int .i64 cy, .int .i64 cr] 51))
        clear hb hX
        obtain ⟨Dq, hDq⟩ : ∃ Dq, (ax - cx) * (ax - cx) + (ay - cy) * (ay - cy) = Dq := ⟨_, rfl⟩
        obtain ⟨Sq, hSq⟩ : ∃ Sq, (ar + cr) * (ar + cr) = Sq := ⟨_, rfl⟩
        have HDq : Hid (∀ (b : Nat) (w : World), Row w b 3 #[.int .i64 (ax - cx), .int .i64 (ay - cy)] → Calls Tryz.prog 93 #[.slice (some ⟨b, 0, none⟩) 2 2] w fun e w' => e = .returned (.int .i64 Dq) ∧ w = w') := Lib.hid fun b w hr => by rw [← hDq]; exact e_squares2 b (ax - cx) (ay - cy) w hr (by omega) (by omega) (by omega) (by omega)
        have HSq : Hid (∀ (b : Nat) (w : World), Row w b 3 #[.int .i64 (ar + cr)] → Calls Tryz.prog 93 #[.slice (some ⟨b, 0, none⟩) 1 1] w fun e w' => e = .returned (.int .i64 Sq) ∧ w = w') := Lib.hid fun b w hr => by rw [← hSq]; exact e_squares1 b (ar + cr) w hr (by omega) (by omega)
        have HAD : Hid (Ec.apart ⟨ax, ay, ar⟩ ⟨cx, cy, cr⟩ = decide (Sq < Dq)) := Lib.hid (by rw [← hDq, ← hSq]; rfl)
        clear hDq hSq
        go_wp2_with fail
        clear p1 p2 p3
        obtain ⟨W2, hW2⟩ : ∃ W2, wr.alloc (.cells #[.int .i64 cx, .int .i64 cy, .int .i64 cr] 51) = W2 := ⟨_, rfl⟩
        obtain ⟨pc, hpc⟩ : ∃ pc, wr.heap.size = pc := ⟨_, rfl⟩
        have HC : Hid (Row W2 pc 51 #[.int .i64 cx, .int .i64 cy, .int .i64 cr]) := Lib.hid (by rw [← hW2, ← hpc]; exact HC0.out)
        rw [hW2] at HX1 HB3 ⊢
        rw [hpc] at z2 ⊢
        clear hW2 hpc HC0
        refine wp_region_free_tail 20 20 (apaΦ10 ax ay ar cx cy cr Dq Sq pb pc W2) (by kernel_rfl) (by simp) (by kernel_rfl) (by kernel_rfl) (by kernel_rfl) (by kernel_rfl) apaΦ10_mono ?hob ?hQ (fun h => absurd h (by omega))
        case hob =>
         intro i o hin ho a wa hE hF
         match i, hin with
         | 0, _ =>
          cases ho
          have h0 : a.tmps[3]?.getD undef = .pointer (some ⟨pb, 0, none⟩) := evalD (hF.old 3 (by decide))
          refine Ran.value rfl (v := .pointer (some ⟨pb, 0, none⟩)) (w1 := wa) ?_ ⟨rfl, Ext.refl _⟩
          go_simp
         | 1, _ =>
          cases ho
          have h0 : a.tmps[61]?.getD undef = .pointer (some ⟨pb, 0, none⟩) := evalD ((hF.from_ 0 61 rfl (by decide)))
          have q := (Row.ext (HB3.out) hE).cell
          refine Ran.value rfl (v := .int .i64 ax) (w1 := wa) ?_ ⟨rfl, Ext.refl _⟩
          go_simp
         | 2, _ =>
          cases ho
          have h0 : a.tmps[5]?.getD undef = .pointer (some ⟨pc, 0, none⟩) := evalD (hF.old 5 (by decide))
          refine Ran.value rfl (v := .pointer (some ⟨pc, 0, none⟩)) (w1 := wa) ?_ ⟨rfl, Ext.refl _⟩
          go_simp
         | 3, _ =>
          cases ho
          have h0 : a.tmps[63]?.getD undef = .pointer (some ⟨pc, 0, none⟩) := evalD ((hF.from_ 2 63 rfl (by decide)))
          have q := (Row.ext (HC.out) hE).cell
          refine Ran.value rfl (v := .int .i64 cx) (w1 := wa) ?_ ⟨rfl, Ext.refl _⟩
          go_simp
         | 4, _ =>
          cases ho
          have h0 : a.tmps[62]?.getD undef = .int .i64 ax := evalD ((hF.from_ 1 62 rfl (by decide)))
          have h1 : a.tmps[64]?.getD undef = .int .i64 cx := evalD ((hF.from_ 3 64 rfl (by decide)))
          refine Ran.value rfl (v := .int .i64 (ax - cx)) (w1 := wa) ?_ ⟨rfl, Ext.refl _⟩
          go_simp
          exact IntWalk.i64_in _ ⟨by omega, by omega⟩
         | 5, _ =>
          cases ho
          have h0 : a.tmps[3]?.getD undef = .pointer (some ⟨pb, 0, none⟩) := evalD (hF.old 3 (by decide))
          refine Ran.value rfl (v := .pointer (some ⟨pb, 1, none⟩)) (w1 := wa) ?_ ⟨rfl, Ext.refl _⟩
          go_simp
         | 6, _ =>
          cases ho
          have h0 : a.tmps[66]?.getD undef = .pointer (some ⟨pb, 1, none⟩) := evalD ((hF.from_ 5 66 rfl (by decide)))
          have q := (Row.ext (HB3.out) hE).cell
          refine Ran.value rfl (v := .int .i64 ay) (w1 := wa) ?_ ⟨rfl, Ext.refl _⟩
          go_simp
         | 7, _ =>
          cases ho
          have h0 : a.tmps[5]?.getD undef = .pointer (some ⟨pc, 0, none⟩) := evalD (hF.old 5 (by decide))
          refine Ran.value rfl (v := .pointer (some ⟨pc, 1, none⟩)) (w1 := wa) ?_ ⟨rfl, Ext.refl _⟩
          go_simp
         | 8, _ =>
          cases ho
          have h0 : a.tmps[68]?.getD undef = .pointer (some ⟨pc, 1, none⟩) := evalD ((hF.from_ 7 68 rfl (by decide)))
          have q := (Row.ext (HC.out) hE).cell
          refine Ran.value rfl (v := .int .i64 cy) (w1 := wa) ?_ ⟨rfl, Ext.refl _⟩
          go_simp
         | 9, _ =>
          cases ho
          have h0 : a.tmps[67]?.getD undef = .int .i64 ay := evalD ((hF.from_ 6 67 rfl (by decide)))
          have h1 : a.tmps[69]?.getD undef = .int .i64 cy := evalD ((hF.from_ 8 69 rfl (by decide)))
          refine Ran.value rfl (v := .int .i64 (ay - cy)) (w1 := wa) ?_ ⟨rfl, Ext.refl _⟩
          go_simp
          exact IntWalk.i64_in _ ⟨by omega, by omega⟩
         | 10, _ =>
          cases ho
          have h0 : a.tmps[65]?.getD undef = .int .i64 (ax - cx) := evalD ((hF.from_ 4 65 rfl (by decide)))
          have h1 : a.tmps[70]?.getD undef = .int .i64 (ay - cy) := evalD ((hF.from_ 9 70 rfl (by decide)))
          refine Ran.value rfl (v := .slice (some ⟨wa.heap.size, 0, none⟩) 2 2) (w1 := wa.alloc (.cells #[.int .i64 (ax - cx), .int .i64 (ay - cy)] 3)) ?_ ⟨⟨wa.heap.size, rfl, hE.size, Row.new _ _ _⟩, (Ext.refl _).alloc _⟩
          go_simp
         | 11, _ =>
          cases ho
          obtain ⟨b_h0, h0, hb_h0, hr_h0⟩ : MkAt W2 (a.eval (.tmp 71)) wa 3 2 #[.int .i64 (ax - cx), .int .i64 (ay - cy)] := (hF.from_ 10 71 rfl (by decide))
          replace h0 := evalD h0
          refine Ran.enter rfl (f := 93) (args := #[.slice (some ⟨b_h0, 0, none⟩) 2 2]) (w1 := wa) ?_ ?_
          ·go_simp
          ·refine (HDq.out b_h0 _ hr_h0).mono ?_
           rintro r w1 ⟨rfl, hX⟩
           exact ⟨_, rfl, rfl, hX ▸ Ext.refl _⟩
         | 12, _ =>
          cases ho
          have h0 : a.tmps[3]?.getD undef = .pointer (some ⟨pb, 0, none⟩) := evalD (hF.old 3 (by decide))
          refine Ran.value rfl (v := .pointer (some ⟨pb, 2, none⟩)) (w1 := wa) ?_ ⟨rfl, Ext.refl _⟩
          go_simp
         | 13, _ =>
          cases ho
          have h0 : a.tmps[73]?.getD undef = .pointer (some ⟨pb, 2, none⟩) := evalD ((hF.from_ 12 73 rfl (by decide)))
          have q := (Row.ext (HB3.out) hE).cell
          refine Ran.value rfl (v := .int .i64 ar) (w1 := wa) ?_ ⟨rfl, Ext.refl _⟩
          go_simp
         | 14, _ =>
          cases ho
          have h0 : a.tmps[5]?.getD undef = .pointer (some ⟨pc, 0, none⟩) := evalD (hF.old 5 (by decide))
          refine Ran.value rfl (v := .pointer (some ⟨pc, 2, none⟩)) (w1 := wa) ?_ ⟨rfl, Ext.refl _⟩
          go_simp
         | 15, _ =>
          cases ho
          have h0 : a.tmps[75]?.getD undef = .pointer (some ⟨pc, 2, none⟩) := evalD ((hF.from_ 14 75 rfl (by decide)))
          have q := (Row.ext (HC.out) hE).cell
          refine Ran.value rfl (v := .int .i64 cr) (w1 := wa) ?_ ⟨rfl, Ext.refl _⟩
          go_simp
         | 16, _ =>
          cases ho
          have h0 : a.tmps[74]?.getD undef = .int .i64 ar := evalD ((hF.from_ 13 74 rfl (by decide)))
          have h1 : a.tmps[76]?.getD undef = .int .i64 cr := evalD ((hF.from_ 15 76 rfl (by decide)))
          refine Ran.value rfl (v := .int .i64 (ar + cr)) (w1 := wa) ?_ ⟨rfl, Ext.refl _⟩
          go_simp
          exact IntWalk.i64_in _ ⟨by omega, by omega⟩
         | 17, _ =>
          cases ho
          have h0 : a.tmps[77]?.getD undef = .int .i64 (ar + cr) := evalD ((hF.from_ 16 77 rfl (by decide)))
          refine Ran.value rfl (v := .slice (some ⟨wa.heap.size, 0, none⟩) 1 1) (w1 := wa.alloc (.cells #[.int .i64 (ar + cr)] 3)) ?_ ⟨⟨wa.heap.size, rfl, hE.size, Row.new _ _ _⟩, (Ext.refl _).alloc _⟩
          go_simp
         | 18, _ =>
          cases ho
          obtain ⟨b_h0, h0, hb_h0, hr_h0⟩ : MkAt W2 (a.eval (.tmp 78)) wa 3 1 #[.int .i64 (ar + cr)] := (hF.from_ 17 78 rfl (by decide))
          replace h0 := evalD h0
          refine Ran.enter rfl (f := 93) (args := #[.slice (some ⟨b_h0, 0, none⟩) 1 1]) (w1 := wa) ?_ ?_
          ·go_simp
          ·refine (HSq.out b_h0 _ hr_h0).mono ?_
           rintro r w1 ⟨rfl, hX⟩
           exact ⟨_, rfl, rfl, hX ▸ Ext.refl _⟩
         | 19, _ =>
          cases ho
          have h0 : a.tmps[72]?.getD undef = .int .i64 Dq := evalD ((hF.from_ 11 72 rfl (by decide)))
          have h1 : a.tmps[79]?.getD undef = .int .i64 Sq := evalD ((hF.from_ 18 79 rfl (by decide)))
          refine Ran.value rfl (v := .bool (decide (Dq ≤ Sq))) (w1 := wa) ?_ ⟨rfl, Ext.refl _⟩
          go_simp
         | k + 20, hin => omega
        case hQ =>
         intro vs w2 hE hΦ
         have f0 : vs 0 = .pointer (some ⟨pb, 0, none⟩) := hΦ 0 (by omega)
         have f1 : vs 1 = .int .i64 ax := hΦ 1 (by omega)
         have f2 : vs 2 = .pointer (some ⟨pc, 0, none⟩) := hΦ 2 (by omega)
         have f3 : vs 3 = .int .i64 cx := hΦ 3 (by omega)
         have f4 : vs 4 = .int .i64 (ax - cx) := hΦ 4 (by omega)
         have f5 : vs 5 = .pointer (some ⟨pb, 1, none⟩) := hΦ 5 (by omega)
         have f6 : vs 6 = .int .i64 ay := hΦ 6 (by omega)
         have f7 : vs 7 = .pointer (some ⟨pc, 1, none⟩) := hΦ 7 (by omega)
         have f8 : vs 8 = .int .i64 cy := hΦ 8 (by omega)
         have f9 : vs 9 = .int .i64 (ay - cy) := hΦ 9 (by omega)
         obtain ⟨b10, f10, hb10, hr10⟩ : MkAt W2 (vs 10) w2 3 2 #[.int .i64 (ax - cx), .int .i64 (ay - cy)] := hΦ 10 (by omega)
         have f11 : vs 11 = .int .i64 Dq := hΦ 11 (by omega)
         have f12 : vs 12 = .pointer (some ⟨pb, 2, none⟩) := hΦ 12 (by omega)
         have f13 : vs 13 = .int .i64 ar := hΦ 13 (by omega)
         have f14 : vs 14 = .pointer (some ⟨pc, 2, none⟩) := hΦ 14 (by omega)
         have f15 : vs 15 = .int .i64 cr := hΦ 15 (by omega)
         have f16 : vs 16 = .int .i64 (ar + cr) := hΦ 16 (by omega)
         obtain ⟨b17, f17, hb17, hr17⟩ : MkAt W2 (vs 17) w2 3 1 #[.int .i64 (ar + cr)] := hΦ 17 (by omega)
         have f18 : vs 18 = .int .i64 Sq := hΦ 18 (by omega)
         have f19 : vs 19 = .bool (decide (Dq ≤ Sq)) := hΦ 19 (by omega)
         have hrg : List.range 20 = [0, 1, 2, 3, 4, 5, 6, 7, 8, 9, 10, 11, 12, 13, 14, 15, 16, 17, 18, 19] := rfl
         unfold putAll putS
         simp only [List.length_cons, List.length_nil, List.take_succ_cons, List.take_zero, List.drop_succ_cons, List.drop_zero, Nat.reduceAdd, hrg, List.foldl_cons, List.foldl_nil, dstOf, List.getElem?_cons_succ, List.getElem?_cons_zero, Option.bind_some]
         clear hrg
         rw [f0, f1, f2, f3, f4, f5, f6, f7, f8, f9, f10, f11, f12, f13, f14, f15, f16, f17, f18, f19]
         simp only [Act.put, List.setIfInBounds_toArray, List.set_cons_succ, List.set_cons_zero]
         have HX2 := Lib.hid (HX1.out.trans hE)
         clear hΦ f0 f1 f2 f3 f4 f5 f6 f7 f8 f9 f10 f11 f12 f13 f14 f15 f16 f17 f18 f19 hr10 hr17 hE
         by_cases hds : Dq ≤ Sq
         ·have HNO := Lib.hid (HNB.out (HNJ.out (by rw [HAD.out]; exact decide_eq_false (by omega))))
          rw [decide_eq_true hds]
          go_wp2_with fail
          exact ⟨rfl, .inr ⟨HNO.out, _, rfl⟩, HE2.out.trans HX2.out⟩
         ·have HNX := Lib.hid (HAJ'.out (by rw [HAD.out]; exact decide_eq_true (by omega)))
          rw [decide_eq_false hds]
          go_wp2_with fail
          go_roundw
          case rel => exact ⟨j + 1, by omega, by go_num, HNX.out, HX2.out⟩
          case measure => simp [intOf]; omega
       ·obtain rfl : j = k := by omega
        have HFJ := Lib.hid (HFK.out ⟨HON.out, HAP.out⟩)
        have HX := Lib.hid hX
        clear hX
        go_wp2_with fail
        go_roundw
        case rel =>
         refine ⟨j + 1, by omega, by go_num, fun i hi => ?_, HE2.out.trans HX.out⟩
         rcases Nat.lt_or_ge i j with h1 | h1
         ·exact HFIT.out i h1
         ·obtain rfl : i = j := by omega
          exact HFJ.out
        case measure => simp [intOf]; omega
   ·obtain rfl : k = l.length := by omega
    have HOK : Hid (Ec.ballsOk l = true) := Lib.hid (by unfold Ec.ballsOk; rw [HCI.out, Bool.and_true]; exact (Ec.fitN_iff _ _).2 HFIT.out)
    go_wp2_with fail
    go_end0
    exact ⟨.inl ⟨HOK.out, rfl⟩, hE⟩
end Go.Proofs.YtfkcbgehcbhjnaaGreatDoor
namespace Go.Proofs.YtfkcbgehcbhjnaaGreatDoor
open Sp (rd)
set_option linter.unusedSimpArgs false
set_option linter.unusedVariables false
namespace Ec
def offN (l : List Pair) (num den turns : Int) : Int := (turnsN l * den - num * turnsD l) * turns * 21600
def within (l : List Pair) (num den limit turns : Int) : Bool := decide (max (offN l num den turns) (-offN l num den turns) ≤ limit * (turnsD l * den))
def prevF (feasts set : List Int) (k : Nat) : Int := if k = 0 then 0 else feastOf feasts set (k - 1)
def keepsGo (l : List Pair) (num den limit : Int) (feasts set : List Int) (until_ : Int) (k : Nat) : Nat → Bool
 | 0 => within l num den limit (until_ - prevF feasts set k)
 | n + 1 => if feastOf feasts set k < until_ then within l num den limit (feastOf feasts set k - prevF feasts set k) && keepsGo l num den limit feasts set until_ (k + 1) n else within l num den limit (until_ - prevF feasts set k)
def keeps (l : List Pair) (num den limit : Int) (feasts set : List Int) (until_ : Int) : Bool := keepsGo l num den limit feasts set until_ 0 set.length
theorem set_at {feasts set : List Int} (h : setOk feasts set = true) {k : Nat} (hk : k < set.length) : 0 ≤ rd set k ∧ (rd set k).toNat < feasts.length := by
 have := (rising_at h k hk).1
 omega
def sunOff (e : Engine) (set : List Int) (day : Int) : Int := near (sunAt e set day - Sp.mean (Sp.body e.sky 0) day % 21600)
def moonOff (e : Engine) (set : List Int) (day : Int) : Int := near (moonAt e set day - Sp.mean (Sp.body e.sky 1) day % 21600)
def nodeOff (e : Engine) (set : List Int) (day : Int) : Int := near (nodeAt e set day - Sp.node e.sky day)
end Ec
end Go.Proofs.YtfkcbgehcbhjnaaGreatDoor
namespace Go.Proofs.YtfkcbgehcbhjnaaGreatDoor
open Sp (rd)
set_option linter.unusedSimpArgs false
set_option linter.unusedVariables false
namespace Ec
def cmpL : List Int → List Int → Int
 | [], [] => 0
 | [], _ :: _ => -1
 | _ :: _, [] => 1
 | a :: l, b :: m => if a < b then -1 else if b < a then 1 else cmpL l m
def setCmp (a b : List Int) : Int := if a.length < b.length then -1 else if b.length < a.length then 1 else cmpL a b
theorem cmpL_swap (a b : List Int) : cmpL b a = -cmpL a b := by
 induction a generalizing b with
 | nil => cases b <;> simp [cmpL]
 | cons x l ih =>
  cases b with
  | nil => simp [cmpL]
  | cons y m =>
   simp only [cmpL]
   by_cases h1 : x < y
   ·rw [if_pos h1, if_neg (by omega), if_pos h1]; rfl
   ·by_cases h2 : y < x
    ·rw [if_pos h2, if_neg h1, if_pos h2]
    ·rw [if_neg h1, if_neg h2, if_neg h2, if_neg h1]; exact ih m
theorem cmpL_eq {a b : List Int} (h : cmpL a b = 0) : a = b := by
 induction a generalizing b with
 | nil => cases b with
  | nil => rfl
  | cons y m => simp [cmpL] at h
 | cons x l ih =>
  cases b with
  | nil => simp [cmpL] at h
  | cons y m =>
   unfold cmpL at h
   split at h
   ·omega
   ·split at h
    ·omega
    ·have : x = y := by omega
     rw [this, ih h]
theorem cmpL_trans {a b c : List Int} (h : cmpL a b ≤ 0) (k : cmpL b c ≤ 0) : cmpL a c ≤ 0 := by
 induction a generalizing b c with
 | nil => cases c <;> simp [cmpL]
 | cons x l ih =>
  cases b with
  | nil => simp [cmpL] at h
  | cons y m =>
   cases c with
   | nil => simp [cmpL] at k
   | cons z n =>
    unfold cmpL at h k ⊢
    by_cases h1 : x < z
    ·rw [if_pos h1]; omega
    ·split at h
     ·split at k
      ·omega
      ·split at k
       ·omega
       ·omega
     ·split at h
      ·omega
      ·split at k
       ·omega
       ·split at k
        ·omega
        ·rw [if_neg h1, if_neg (by omega)]
         exact ih h k
theorem setCmp_swap (a b : List Int) : setCmp b a = -setCmp a b := by
 unfold setCmp
 by_cases h1 : a.length < b.length
 ·rw [if_pos h1, if_neg (by omega), if_pos h1]; rfl
 ·by_cases h2 : b.length < a.length
  ·rw [if_pos h2, if_neg h1, if_pos h2]
  ·rw [if_neg h1, if_neg h2, if_neg h2, if_neg h1]; exact cmpL_swap a b
theorem setCmp_eq {a b : List Int} (h : setCmp a b = 0) : a = b := by
 unfold setCmp at h
 split at h
 ·omega
 ·split at h
  ·omega
  ·exact cmpL_eq h
theorem setCmp_trans {a b c : List Int} (h : setCmp a b ≤ 0) (k : setCmp b c ≤ 0) : setCmp a c ≤ 0 := by
 unfold setCmp at h k ⊢
 by_cases h1 : a.length < c.length
 ·rw [if_pos h1]; omega
 ·split at h
  ·split at k
   ·omega
   ·split at k
    ·omega
    ·omega
  ·split at h
   ·omega
   ·split at k
    ·omega
    ·split at k
     ·omega
     ·rw [if_neg h1, if_neg (by omega)]
      exact cmpL_trans h k
def bestL (out : List Int) : List (List Int) → List Int
 | [] => out
 | x :: l => bestL (if setCmp x out < 0 then x else out) l
theorem bestL_is (out : List Int) (l : List (List Int)) : (bestL out l = out ∨ bestL out l ∈ l) ∧ setCmp (bestL out l) out ≤ 0 ∧ ∀ x ∈ l, setCmp (bestL out l) x ≤ 0 := by
 induction l generalizing out with
 | nil => exact ⟨.inl rfl, by unfold bestL; have := setCmp_swap out out; omega, fun x hx => by cases hx⟩
 | cons x l ih =>
  unfold bestL
  obtain ⟨h1, h2, h3⟩ := ih (if setCmp x out < 0 then x else out)
  have hx : setCmp (if setCmp x out < 0 then x else out) x ≤ 0 ∧ setCmp (if setCmp x out < 0 then x else out) out ≤ 0 := by
   have s1 := setCmp_swap x x
   have s2 := setCmp_swap out out
   have s3 := setCmp_swap x out
   split <;> exact ⟨by omega, by omega⟩
  refine ⟨?_, setCmp_trans h2 hx.2, fun y hy => ?_⟩
  ·rcases h1 with h1 | h1
   ·rw [h1]
    split
    ·exact .inr (by simp)
    ·exact .inl rfl
   ·exact .inr (List.mem_cons_of_mem _ h1)
  ·rcases List.mem_cons.1 hy with rfl | hy
   ·exact setCmp_trans h2 hx.1
   ·exact h3 y hy
def subs (n : Nat) (k : Nat) : List (List Int) := if k < n then (subs n (k + 1)).map (fun l => (k : Int) :: l) ++ subs n (k + 1) else [[]]
termination_by n - k
def Incr (n : Int) : Int → List Int → Prop
 | _, [] => True
 | k, x :: l => k ≤ x ∧ x < n ∧ Incr n (x + 1) l
theorem Incr.mono {n k k' : Int} {l : List Int} (h : k' ≤ k) (hi : Incr n k l) : Incr n k' l := by
 cases l with
 | nil => trivial
 | cons x l => exact ⟨by have := hi.1; omega, hi.2⟩
theorem subs_mem (n k : Nat) (l : List Int) : l ∈ subs n k ↔ Incr n k l := by
  induction hm : n - k generalizing k l with
  | zero =>
    unfold subs
    rw [if_neg (by omega)]
    cases l with
    | nil => simp [Incr]
    | cons x l => simp only [List.mem_singleton, Incr]; constructor
                  · intro h; cases h
                  · rintro ⟨h1, h2, _⟩; omega
  | succ m ih =>
    unfold subs
    rw [if_pos (by omega), List.mem_append, List.mem_map]
    have hi := fun l => ih (k + 1) l (by omega)
    constructor
    · rintro (⟨l', hl, rfl⟩ | hl)
      · exact ⟨Int.le_refl _, by omega, (hi l').1 hl⟩
      · exact Incr.mono (by omega) ((hi l).1 hl)
    · intro h
      cases l with
      | nil => exact .inr ((hi []).2 trivial)
      | cons x l =>
        obtain ⟨h1, h2, h3⟩ := h
        rcases Int.lt_or_le k x with h4 | h4
        · exact .inr ((hi (x :: l)).2 ⟨by omega, h2, h3⟩)
        · obtain rfl : x = (k : Int) := by omega
          exact .inl ⟨l, (hi l).2 h3, rfl⟩
def listsN (below : Int) : Nat → Int → List (List Int)
 | 0, _ => [[]]
 | m + 1, k => ((List.range (below - k).toNat).map fun i => (listsN below m (k + (i : Nat) + 1)).map fun l => (k + (i : Nat)) :: l).flatten
theorem listsN_mem (n : Int) (m : Nat) (k : Int) (l : List Int) : l ∈ listsN n m k ↔ l.length = m ∧ Incr n k l := by
 induction m generalizing k l with
 | zero =>
  simp only [listsN, List.mem_singleton]
  constructor
  ·rintro rfl; exact ⟨rfl, trivial⟩
  ·rintro ⟨h, _⟩; exact List.eq_nil_of_length_eq_zero h
 | succ m ih =>
  simp only [listsN, List.mem_flatten, List.mem_map, List.mem_range]
  constructor
  ·rintro ⟨_, ⟨i, hi, rfl⟩, hl⟩
   obtain ⟨l', hl', rfl⟩ := List.mem_map.1 hl
   obtain ⟨a, b⟩ := (ih _ _).1 hl'
   exact ⟨by simp [a], by omega, by omega, b⟩
  ·rintro ⟨h, hi⟩
   cases l with
   | nil => simp at h
   | cons x l =>
    obtain ⟨h1, h2, h3⟩ := hi
    refine ⟨_, ⟨(x - k).toNat, by omega, rfl⟩, List.mem_map.2 ⟨l, (ih _ _).2 ⟨by simpa using h, ?_⟩, ?_⟩⟩
    ·have : k + ((x - k).toNat : Nat) + 1 = x + 1 := by omega
     rw [this]; exact h3
    ·have : k + ((x - k).toNat : Nat) = x := by omega
     rw [this]
theorem listsN_sorted (n : Int) (m : Nat) (k : Int) : List.Pairwise (fun a b => cmpL a b < 0) (listsN n m k) := by
 induction m generalizing k with
 | zero => simp [listsN]
 | succ m ih =>
  simp only [listsN]
  rw [List.pairwise_flatten]
  refine ⟨fun L hL => ?_, ?_⟩
  ·obtain ⟨i, _, rfl⟩ := List.mem_map.1 hL
   rw [List.pairwise_map]
   exact (ih _).imp fun {a b} h => by
    show cmpL _ _ < 0
    rw [cmpL, if_neg (by omega), if_neg (by omega)]
    exact h
  ·rw [List.pairwise_map]
   refine List.pairwise_lt_range.imp fun {i j} hij a ha b hb => ?_
   obtain ⟨a', _, rfl⟩ := List.mem_map.1 ha
   obtain ⟨b', _, rfl⟩ := List.mem_map.1 hb
   show cmpL _ _ < 0
   rw [cmpL, if_pos (by omega)]
   omega
end Ec
end Go.Proofs.YtfkcbgehcbhjnaaGreatDoor
namespace Go.Proofs.YtfkcbgehcbhjnaaGreatDoor
open Sp (rd)
set_option linter.unusedSimpArgs false
set_option linter.unusedVariables false
namespace Ec
theorem Incr.len {n : Int} : ∀ {l : List Int} {k : Int}, Incr n k l → l.length ≤ (n - k).toNat
 | [], _, _ => Nat.zero_le _
 | x :: l, k, ⟨h1, h2, h3⟩ => by
  have := Incr.len h3
  simp only [List.length_cons]
  omega
def allN (n : Nat) : List (List Int) := ((List.range (n + 1)).map fun m => listsN n m 0).flatten
theorem allN_mem (n : Nat) (l : List Int) : l ∈ allN n ↔ Incr n 0 l := by
 unfold allN
 simp only [List.mem_flatten, List.mem_map, List.mem_range]
 constructor
 ·rintro ⟨_, ⟨m, _, rfl⟩, h⟩; exact ((listsN_mem ..).1 h).2
 ·intro h
  have := h.len
  exact ⟨_, ⟨l.length, by omega, rfl⟩, (listsN_mem ..).2 ⟨rfl, h⟩⟩
theorem allN_sorted (n : Nat) : List.Pairwise (fun a b => setCmp a b < 0) (allN n) := by
 unfold allN
 rw [List.pairwise_flatten]
 refine ⟨fun L hL => ?_, ?_⟩
 ·obtain ⟨m, _, rfl⟩ := List.mem_map.1 hL
  refine (List.Pairwise.and_mem.1 (listsN_sorted n m 0)).imp fun {a b} h => ?_
  obtain ⟨ha, hb, h⟩ := h
  have h1 := ((listsN_mem ..).1 ha).1
  have h2 := ((listsN_mem ..).1 hb).1
  show setCmp a b < 0
  unfold setCmp
  rw [if_neg (by omega), if_neg (by omega)]
  exact h
 ·rw [List.pairwise_map]
  refine List.pairwise_lt_range.imp fun {i j} hij a ha b hb => ?_
  have h1 := ((listsN_mem ..).1 ha).1
  have h2 := ((listsN_mem ..).1 hb).1
  show setCmp a b < 0
  unfold setCmp
  rw [if_pos (by omega)]
  omega
def docSet (good : List Int → Bool) (n : Nat) : Option (List Int) := (allN n).find? good
def progSet (good : List Int → Bool) (n : Nat) : Option (List Int) :=
 match (subs n 0).filter good with
 | [] => none
 | x :: l => some (bestL x l)
theorem find_least {good : List Int → Bool} : ∀ {L : List (List Int)} {y : List Int}, List.Pairwise (fun a b => setCmp a b < 0) L → L.find? good = some y →
  good y = true ∧ y ∈ L ∧ ∀ z ∈ L, good z = true → setCmp y z ≤ 0
 | [], _, _, h => by cases h
 | x :: L, y, hs, h => by
  obtain ⟨h1, h2⟩ := List.pairwise_cons.1 hs
  rw [List.find?_cons] at h
  split at h
  ·rename_i hg
   obtain rfl : x = y := by simpa using h
   refine ⟨hg, by simp, fun z hz _ => ?_⟩
   rcases List.mem_cons.1 hz with rfl | hz
   ·have := setCmp_swap z z; omega
   ·have := h1 z hz; omega
  ·rename_i hg
   obtain ⟨a, b, c⟩ := find_least h2 h
   refine ⟨a, List.mem_cons_of_mem _ b, fun z hz hgz => ?_⟩
   rcases List.mem_cons.1 hz with rfl | hz
   ·rw [hgz] at hg; cases hg
   ·exact c z hz hgz
theorem prog_doc (good : List Int → Bool) (n : Nat) : progSet good n = docSet good n := by
 have hm : ∀ l, l ∈ (subs n 0).filter good ↔ l ∈ allN n ∧ good l = true := fun l => by
  rw [List.mem_filter, subs_mem, allN_mem]; rfl
 unfold progSet docSet
 cases hG : (subs n 0).filter good with
 | nil =>
  dsimp only
  rw [eq_comm, List.find?_eq_none]
  intro x hx hg
  have := (hm x).2 ⟨hx, hg⟩
  rw [hG] at this
  cases this
 | cons x l =>
  dsimp only
  rw [hG] at hm
  obtain ⟨b1, b2, b3⟩ := bestL_is x l
  have hb : bestL x l ∈ x :: l := by
   rcases b1 with b1 | b1
   ·rw [b1]; simp
   ·exact List.mem_cons_of_mem _ b1
  cases hf : (allN n).find? good with
  | none =>
   rw [List.find?_eq_none] at hf
   have := (hm _).1 hb
   exact absurd this.2 (hf _ this.1)
  | some y =>
   obtain ⟨c1, c2, c3⟩ := find_least (allN_sorted n) hf
   have hb' := (hm _).1 hb
   have h1 := c3 _ hb'.1 hb'.2
   have hy := (hm y).2 ⟨c2, c1⟩
   have h2 : setCmp (bestL x l) y ≤ 0 := by
    rcases List.mem_cons.1 hy with rfl | hy
    ·exact b2
    ·exact b3 y hy
   have h3 := setCmp_swap (bestL x l) y
   rw [setCmp_eq (show setCmp (bestL x l) y = 0 by omega)]
end Ec
end Go.Proofs.YtfkcbgehcbhjnaaGreatDoor
namespace Go.Proofs.YtfkcbgehcbhjnaaGreatDoor
open Go.RowKit
open Sp (rd)
set_option maxRecDepth 100000
set_option maxHeartbeats 1000000
def cmpI (a b : Int) : Int := if a < b then -1 else if b < a then 1 else 0
theorem c_isNaN_any (x : Int) (w : World) : Calls Tryz.prog 110 #[.int .i64 x] w fun e w' => e = .returned (.bool false) ∧ w = w' := by
 go_enter Tryz.func110, Tryz.ntmps110
 go_wp2_with fail
 go_ret
 exact ⟨by simp, rfl⟩
theorem c_Compare_any (a b : Int) (w : World) : Calls Tryz.prog 84 #[.int .i64 a, .int .i64 b] w fun e w' => e = .returned (.int .i64 (cmpI a b)) ∧ w = w' := by
 rcases (show a < b ∨ a = b ∨ b < a by omega) with h | rfl | h
 ·have hc : cmpI a b = -1 := by unfold cmpI; rw [if_pos h]
  rw [hc]
  clear hc
  go_enter Tryz.func84, Tryz.ntmps84
  go_wp2_with fail
  refine (c_isNaN_any _ _).mono ?_
  rintro e w1 ⟨rfl, rfl⟩
  go_wp2_with fail
  refine (c_isNaN_any _ _).mono ?_
  rintro e w1 ⟨rfl, rfl⟩
  go_wp2_with fail
  go_ret
  exact ⟨rfl, rfl⟩
 ·have hc : cmpI a a = 0 := by unfold cmpI; simp
  rw [hc]
  clear hc
  go_enter Tryz.func84, Tryz.ntmps84
  go_wp2_with fail
  refine (c_isNaN_any _ _).mono ?_
  rintro e w1 ⟨rfl, rfl⟩
  go_wp2_with fail
  refine (c_isNaN_any _ _).mono ?_
  rintro e w1 ⟨rfl, rfl⟩
  go_wp2_with fail
  go_ret
  exact ⟨rfl, rfl⟩
 ·have hc : cmpI a b = 1 := by unfold cmpI; rw [if_neg (by omega), if_pos h]
  rw [hc]
  clear hc
  go_enter Tryz.func84, Tryz.ntmps84
  go_wp2_with fail
  refine (c_isNaN_any _ _).mono ?_
  rintro e w1 ⟨rfl, rfl⟩
  go_wp2_with fail
  refine (c_isNaN_any _ _).mono ?_
  rintro e w1 ⟨rfl, rfl⟩
  go_wp2_with fail
  go_ret
  exact ⟨rfl, rfl⟩
theorem rd_at {l : List Int} {k : Nat} (h : k < l.length) : rd l k = l[k] := by simp [rd, List.getElem?_eq_getElem h]
theorem cmpL_at (l m : List Int) (k : Nat) (h1 : k < l.length) (h2 : k < m.length) :
  Ec.cmpL (l.drop k) (m.drop k) = if cmpI (rd l k) (rd m k) = 0 then Ec.cmpL (l.drop (k + 1)) (m.drop (k + 1)) else cmpI (rd l k) (rd m k) := by
 rw [List.drop_eq_getElem_cons h1, List.drop_eq_getElem_cons h2, rd_at h1, rd_at h2]
 unfold cmpI
 rw [Ec.cmpL]
 by_cases a : l[k] < m[k]
 ·simp [a]
 ·by_cases b : m[k] < l[k]
  ·simp [a, b]
  ·simp [a, b]
theorem cmpL_end1 (l m : List Int) (h : l.length ≤ m.length) : Ec.cmpL (l.drop l.length) (m.drop l.length) = if l.length < m.length then -1 else 0 := by
 rw [List.drop_length]
 by_cases h1 : l.length < m.length
 ·rw [if_pos h1, List.drop_eq_getElem_cons h1]; rfl
 ·rw [if_neg h1, List.drop_eq_nil_of_le (by omega)]; rfl
theorem cmpL_end2 (l m : List Int) (h : m.length < l.length) : Ec.cmpL (l.drop m.length) (m.drop m.length) = 1 := by
 rw [List.drop_length, List.drop_eq_getElem_cons h]; rfl
theorem sl_Compare_any (A B : Option Addr) (c d : Nat) (l m : List Int) (w : World) (hA : Ints w A l) (hB : Ints w B m) (h1 : l.length ≤ 100000) (h2 : m.length ≤ 100000) :
  Calls Tryz.prog 85 #[.slice A l.length c, .slice B m.length d] w fun e w' => e = .returned (.int .i64 (Ec.cmpL l m)) ∧ w = w' := by
 have HA := Lib.hid hA
 have HB := Lib.hid hB
 clear hA hB
 go_enter Tryz.func85, Tryz.ntmps85
 go_wp2_with fail
 go_loopw [11] (fun i wr => ∃ k : Nat, k ≤ l.length ∧ i = .int .i64 k ∧ k ≤ m.length ∧ Hid (Ec.cmpL l m = Ec.cmpL (l.drop k) (m.drop k)) ∧ w = wr) (fun i _ => l.length - (intOf i).toNat)
 case atStart => exact ⟨0, Nat.zero_le _, rfl, Nat.zero_le _, Lib.hid rfl, rfl⟩
 case round =>
  obtain ⟨k, hk, rfl, hkm, HQ, rfl⟩ := hrel
  by_cases hlt : k < l.length
  ·obtain ⟨b, o, rfl, hc⟩ := HA.out (by omega)
   have q := hc k hlt
   clear hc
   by_cases hlm : k < m.length
   ·obtain ⟨b', o', rfl, hc'⟩ := HB.out (by omega)
    have q' := hc' k hlm
    have HS := Lib.hid (cmpL_at l m k hlt hlm)
    clear hc'
    obtain ⟨x, hx⟩ : ∃ x, rd l k = x := ⟨_, rfl⟩
    obtain ⟨y, hy⟩ : ∃ y, rd m k = y := ⟨_, rfl⟩
    rw [hx] at q HS
    rw [hy] at q' HS
    clear hx hy
    go_wp2_with fail
    refine (c_Compare_any x y _).mono ?_
    rintro e w1 ⟨rfl, rfl⟩
    obtain ⟨z, hz⟩ : ∃ z, cmpI x y = z := ⟨_, rfl⟩
    rw [hz] at HS ⊢
    clear hz
    by_cases hz0 : z = 0
    ·subst hz0
     go_wp2_with fail
     go_roundw
     case rel => exact ⟨k + 1, by omega, by go_num, by omega, Lib.hid (by rw [HQ.out, HS.out]; simp), by simp⟩
     case measure => simp [intOf]; omega
    ·have e1 : (z == 0) = false := by simpa using hz0
     have e2 : (z != 0) = true := by simpa using hz0
     go_wp2_with fail
     go_ret
     exact ⟨by rw [HQ.out, HS.out, if_neg hz0] <;> rfl, rfl⟩
   ·obtain rfl : k = m.length := by omega
    have HS := Lib.hid (cmpL_end2 l m hlt)
    go_wp2_with fail
    go_ret
    exact ⟨by rw [HQ.out, HS.out] <;> rfl, rfl⟩
  ·obtain rfl : k = l.length := by omega
   have HS := Lib.hid (cmpL_end1 l m hkm)
   by_cases hlm : l.length < m.length
   ·go_wp2_with fail
    go_ret
    exact ⟨by rw [HQ.out, HS.out, if_pos (by omega)] <;> rfl, rfl⟩
   ·go_wp2_with fail
    go_ret
    exact ⟨by rw [HQ.out, HS.out, if_neg (by omega)] <;> rfl, rfl⟩
theorem c_Or_any (g : Nat) (a b : Int) (w : World) (hr : Row w g 3 #[.int .i64 a, .int .i64 b]) :
  Calls Tryz.prog 83 #[.slice (some ⟨g, 0, none⟩) 2 2] w fun e w' => e = .returned (.int .i64 (if a = 0 then b else a)) ∧ w = w' := by
 have q := hr.cell
 clear hr
 go_enter Tryz.func83, Tryz.ntmps83
 go_wp2_with fail
 go_loopw [8] (fun i wr => (i = .int .i64 0 ∨ (i = .int .i64 1 ∧ a = 0) ∨ (i = .int .i64 2 ∧ a = 0 ∧ b = 0)) ∧ w = wr) (fun i _ => 2 - (intOf i).toNat)
 case atStart => exact ⟨.inl rfl, rfl⟩
 case round =>
  obtain ⟨rfl | ⟨rfl, rfl⟩ | ⟨rfl, rfl, rfl⟩, rfl⟩ := hrel
  ·by_cases h0 : a = 0
   ·subst h0
    go_wp2_with fail
    go_roundw
    case rel => simp
    case measure => simp [intOf]
   ·have e1 : (a == 0) = false := by simpa using h0
    have e2 : (a != 0) = true := by simpa using h0
    have HH := Lib.hid h0
    clear h0
    go_wp2_with fail
    go_ret
    exact ⟨by first | rfl | (rw [if_neg HH.out] <;> rfl), rfl⟩
  ·by_cases h0 : b = 0
   ·subst h0
    go_wp2_with fail
    go_roundw
    case rel => simp
    case measure => simp [intOf]
   ·have e1 : (b == 0) = false := by simpa using h0
    have e2 : (b != 0) = true := by simpa using h0
    go_wp2_with fail
    go_ret
    exact ⟨by simp, rfl⟩
  ·go_wp2_with fail
   go_ret
   exact ⟨by simp, rfl⟩
theorem setCmp_or (l m : List Int) : Ec.setCmp l m = if cmpI l.length m.length = 0 then Ec.cmpL l m else cmpI l.length m.length := by
 unfold Ec.setCmp cmpI
 rcases Nat.lt_trichotomy l.length m.length with h | h | h
 ·rw [if_pos h, if_pos (show (l.length : Int) < (m.length : Int) by omega)]; rfl
 ·rw [if_neg (by omega), if_neg (by omega), if_neg (show ¬ (l.length : Int) < (m.length : Int) by omega), if_neg (show ¬ (m.length : Int) < (l.length : Int) by omega)]; rfl
 ·rw [if_neg (by omega), if_pos h, if_neg (show ¬ (l.length : Int) < (m.length : Int) by omega), if_pos (show (m.length : Int) < (l.length : Int) by omega)]; rfl
theorem better_any (A B : Option Addr) (c d : Nat) (l m : List Int) (w : World) (hA : Ints w A l) (hB : Ints w B m) (h1 : l.length ≤ 100000) (h2 : m.length ≤ 100000) :
  Calls Tryz.prog 82 #[.slice A l.length c, .slice B m.length d] w fun e w' => e = .returned (.bool (decide (Ec.setCmp l m < 0))) ∧ Ext w w' := by
 have HA := Lib.hid hA
 have HB := Lib.hid hB
 have HS := Lib.hid (setCmp_or l m)
 clear hA hB
 go_enter Tryz.func82, Tryz.ntmps82
 go_wp2_with fail
 refine (c_Compare_any _ _ _).mono ?_
 rintro e w1 ⟨rfl, rfl⟩
 obtain ⟨x, hx⟩ : ∃ x, cmpI (l.length : Int) (m.length : Int) = x := ⟨_, rfl⟩
 rw [hx] at HS ⊢
 clear hx
 go_wp2_with fail
 refine (sl_Compare_any A B c d l m _ HA.out HB.out h1 h2).mono ?_
 rintro e w1 ⟨rfl, rfl⟩
 obtain ⟨y, hy⟩ : ∃ y, Ec.cmpL l m = y := ⟨_, rfl⟩
 rw [hy] at HS ⊢
 clear hy
 go_wp2_with fail
 refine (c_Or_any _ x y _ (Row.new _ _ _)).mono ?_
 rintro e w1 ⟨rfl, rfl⟩
 have HS2 : Hid ((if x = 0 then y else x) = Ec.setCmp l m) := Lib.hid HS.out.symm
 obtain ⟨z, hz⟩ : ∃ z, (if x = 0 then y else x) = z := ⟨_, rfl⟩
 rw [hz] at HS2 ⊢
 clear hz
 go_wp2_with fail
 go_ret
 exact ⟨by rw [← HS2.out] <;> rfl, (Ext.refl _).alloc _⟩
def ListsAt (w : World) (A : Option Addr) (ls : List (List Int)) : Prop := 0 < ls.length → ∃ b o, A = some ⟨b, o, none⟩ ∧ ∀ k, (hk : k < ls.length) → ∃ B d, w.cell? ⟨b, o + k, none⟩ = some (.slice B (ls[k]).length d) ∧ Ints w B ls[k]
theorem ListsAt.ext {w w' : World} {A : Option Addr} {ls : List (List Int)} (h : ListsAt w A ls) (he : Ext w w') : ListsAt w' A ls := fun h0 =>
 let ⟨b, o, e, hk⟩ := h h0
 ⟨b, o, e, fun k hk' => let ⟨B, d, h1, h2⟩ := hk k hk'; ⟨B, d, he.cell h1, h2.ext he⟩⟩
def bestO : List (List Int) → List Int
 | [] => []
 | x :: l => Ec.bestL x l
theorem bestL_snoc (out : List Int) (l : List (List Int)) (x : List Int) : Ec.bestL out (l ++ [x]) = if Ec.setCmp x (Ec.bestL out l) < 0 then x else Ec.bestL out l := by
 induction l generalizing out with
 | nil => rfl
 | cons y l ih => simp only [List.cons_append, Ec.bestL]; exact ih _
theorem bestO_succ (ls : List (List Int)) (k : Nat) (h : k < ls.length) (h0 : 0 < k) : bestO (ls.take (k + 1)) = if Ec.setCmp ls[k] (bestO (ls.take k)) < 0 then ls[k] else bestO (ls.take k) := by
 cases ls with
 | nil => cases h
 | cons x l =>
  obtain ⟨k, rfl⟩ : ∃ j, k = j + 1 := ⟨k - 1, by omega⟩
  have h' : k < l.length := by simpa using h
  simp only [List.take_succ_cons, bestO, List.getElem_cons_succ]
  rw [List.take_succ_eq_append_getElem h', bestL_snoc]
  rfl
theorem bestO_mem (ls : List (List Int)) : ∀ n, (∀ x ∈ ls, x.length ≤ n) → (bestO ls).length ≤ n := by
 intro n h
 cases ls with
 | nil => simp [bestO]
 | cons x l =>
  rcases (Ec.bestL_is x l).1 with e | e
  ·simp only [bestO, e]; exact h x (by simp)
  ·exact h _ (List.mem_cons_of_mem _ e)
def BestRel (w : World) (ls : List (List Int)) (v i : Value) (wr : World) : Prop :=
 ∃ k : Nat, k ≤ ls.length ∧ i = .int .i64 k ∧ Ext w wr ∧ ∃ B d, v = .slice B (bestO (ls.take k)).length d ∧ Ints wr B (bestO (ls.take k))
theorem best_sets (A : Option Addr) (c : Nat) (ls : List (List Int)) (w : World) (hA : ListsAt w A ls) (h1 : ls.length ≤ 100000) (h2 : ∀ x ∈ ls, x.length ≤ 100000) :
  Calls Tryz.prog 81 #[.slice A ls.length c, .func (.func 82) #[] #[]] w fun e w' => ∃ B d, e = .returned (.tuple #[.slice B (bestO ls).length d, .bool (decide (0 < ls.length))]) ∧ Ints w' B (bestO ls) ∧ Ext w w' := by
 have HA := Lib.hid hA
 have HH := Lib.hid h2
 clear hA h2
 go_enter Tryz.func81, Tryz.ntmps81
 go_wp2_with fail
 go_loopw [6, 11] (fun v i wr => BestRel w ls v i wr) (fun _ i _ => ls.length - (intOf i).toNat)
 case atStart => exact ⟨0, Nat.zero_le _, rfl, Ext.refl _, none, 0, rfl, fun h => by simp [bestO] at h⟩
 case round =>
  obtain ⟨k, hk, rfl, hE, B, d, rfl, hI⟩ := hrel
  by_cases hlt : k < ls.length
  ·obtain ⟨b, o, rfl, hc⟩ := (HA.out.ext hE) (by omega)
   obtain ⟨B2, d2, q, hI2⟩ := hc k hlt
   have hb1 := HH.out ls[k] (List.getElem_mem hlt)
   have hb2 := bestO_mem (ls.take k) 100000 (fun x hx => HH.out x (List.mem_of_mem_take hx))
   have HE := Lib.hid hE
   have HI := Lib.hid hI
   have HI2 := Lib.hid hI2
   rcases Nat.eq_zero_or_pos k with rfl | hp
   ·have hb0 : bestO (ls.take (0 + 1)) = ls[0] := by
     cases ls with
     | nil => cases hlt
     | cons x l => rfl
    have HB0 := Lib.hid hb0
    simp only [Nat.add_zero] at q
    clear hc hI hI2 hE hb0
    go_wp2_with fail
    go_roundw
    case rel => exact ⟨0 + 1, by omega, rfl, HE.out, B2, d2, by rw [HB0.out], by rw [HB0.out]; exact HI2.out⟩
    case measure => simp [intOf]; omega
   ·have hk0 : ((k : Int) == 0) = false := by simp; omega
    have HS := Lib.hid (bestO_succ ls k hlt hp)
    obtain ⟨out, hout⟩ : ∃ out, bestO (ls.take k) = out := ⟨_, rfl⟩
    rw [hout] at HS HI hb2 ⊢
    obtain ⟨x, hx⟩ : ∃ x, ls[k] = x := ⟨_, rfl⟩
    rw [hx] at q HS HI2 hb1
    clear hc hI hI2 hE hout hx
    go_wp2_with fail
    refine (better_any B2 B d2 d x out _ HI2.out HI.out hb1 hb2).mono ?_
    rintro e w3 ⟨rfl, hE3⟩
    have HE3 := Lib.hid (HE.out.trans hE3)
    have HI3 := Lib.hid (HI.out.ext hE3)
    have HI4 := Lib.hid (HI2.out.ext hE3)
    clear hE3 q
    by_cases hs : Ec.setCmp x out < 0
    ·have hd : decide (Ec.setCmp x out < 0) = true := by simpa using hs
     rw [hd]
     have HSS := Lib.hid (HS.out.trans (if_pos hs))
     clear hs hd
     go_wp2_with fail
     go_roundw
     case rel => exact ⟨k + 1, by omega, by go_num, HE3.out, B2, d2, by rw [HSS.out], by rw [HSS.out]; exact HI4.out⟩
     case measure => simp [intOf]; omega
    ·have hd : decide (Ec.setCmp x out < 0) = false := by simpa using hs
     rw [hd]
     have HSS := Lib.hid (HS.out.trans (if_neg hs))
     clear hs hd
     go_wp2_with fail
     go_roundw
     case rel => exact ⟨k + 1, by omega, by go_num, HE3.out, B, d, by rw [HSS.out], by rw [HSS.out]; exact HI3.out⟩
     case measure => simp [intOf]; omega
  ·obtain rfl : k = ls.length := by omega
   rw [List.take_length] at hI ⊢
   have HE := Lib.hid hE
   have HI := Lib.hid hI
   clear hE hI
   go_wp2_with fail
   go_ret2
   exact ⟨B, d, by simp, HI.out, HE.out⟩
end Go.Proofs.YtfkcbgehcbhjnaaGreatDoor
