/- Volume 6 of the texts that the laws of this seat use: EcApart V14 EcText EcRefA EcKept EcMore EcSets EcSets2 EcCmp: walks of the program's functions, and plain laws. -/
import Derived.Carry
import Derived.BigQuiet
import Derived.Lib.ItoaLen
import Derived.Test.YtcbodpnmndbgnaaGreatDoorF01
import Derived.Test.YtcbodpnmndbgnaaGreatDoorF02
import Derived.Test.YtcbodpnmndbgnaaGreatDoorF04
import Derived.Test.YtcbodpnmndbgnaaGreatDoorF05
namespace Go.Proofs.YtcbodpnmndbgnaaGreatDoor
open Go.RowKit
open Sp (rd)
set_option maxRecDepth 100000
set_option maxHeartbeats 2000000
set_option linter.unusedVariables false
/-- Balls in memory. -/
def BallsAt (w : World) (A : Option Addr) (l : List Ec.Ball) : Prop := 0 < l.length → ∃ b o, A = some ⟨b, o, none⟩ ∧ ∀ k, k < l.length → w.cell? ⟨b, o + k * 3, none⟩ = some (.int .i64 (Ec.ballAt l k).x) ∧ w.cell? ⟨b, o + k * 3 + 1, none⟩ = some (.int .i64 (Ec.ballAt l k).y) ∧ w.cell? ⟨b, o + k * 3 + 2, none⟩ = some (.int .i64 (Ec.ballAt l k).r)
theorem BallsAt.ext {w w' : World} {A : Option Addr} {l : List Ec.Ball} (h : BallsAt w A l) (he : Ext w w') : BallsAt w' A l := fun h0 =>
 let ⟨b, o, e, hk⟩ := h h0
 ⟨b, o, e, fun k hk' => ⟨he.cell (hk k hk').1, he.cell (hk k hk').2.1, he.cell (hk k hk').2.2⟩⟩
structure BallIn (b : Ec.Ball) : Prop where
 x : -100 ≤ b.x ∧ b.x ≤ 100
 y : -100 ≤ b.y ∧ b.y ≤ 100
 r : 1 ≤ b.r ∧ b.r ≤ 20
 p : b.r * b.r < b.x * b.x + b.y * b.y
theorem ballIn_of {b : Ec.Ball} (h : Ec.oneOk b = true) : BallIn b := by
 simp only [Ec.oneOk, Bool.and_eq_true, decide_eq_true_eq] at h
 have h2 := h.2
 unfold Ec.power at h2
 exact ⟨h.1.1.1, h.1.1.2, h.1.2, by omega⟩
theorem ballsIn_of {l : List Ec.Ball} (h : Ec.ballsOk l = true) : (1 ≤ l.length ∧ l.length ≤ 5) ∧ (∀ k, k < l.length → BallIn (Ec.ballAt l k)) ∧ ∀ k j, k < l.length → j < k → Ec.apart (Ec.ballAt l j) (Ec.ballAt l k) = true := by
 unfold Ec.ballsOk at h
 rw [Bool.and_eq_true] at h
 have h1 := (Ec.fitN_iff _ _).1 h.1
 have h2 := inR_iff.1 h.2
 exact ⟨⟨by omega, by omega⟩, fun k hk => ballIn_of ((Ec.fits_iff _ _).1 (h1 k hk)).1, fun k j hk hj => ((Ec.fits_iff _ _).1 (h1 k hk)).2 j hj⟩
def aprΦ5 (ax ay ar Na Ra : Int) (pb : Nat) (w0 : World) (i : Nat) (v : Value) (w : World) : Prop :=
 match i with
 | 0 => v = .pointer (some ⟨pb, 0, none⟩)
 | 1 => v = .int .i64 ax
 | 2 => v = .bool true
 | 3 => v = .bool false
 | 4 => v = .bool false
 | 5 => v = .pointer (some ⟨pb, 1, none⟩)
 | 6 => v = .int .i64 ay
 | 7 => v = .bool true
 | 8 => v = .bool false
 | 9 => v = .bool false
 | 10 => v = .bool false
 | 11 => v = .pointer (some ⟨pb, 2, none⟩)
 | 12 => v = .int .i64 ar
 | 13 => v = .bool true
 | 14 => v = .bool false
 | 15 => v = .bool false
 | 16 => v = .bool false
 | 17 => v = .pointer (some ⟨pb, 0, none⟩)
 | 18 => v = .int .i64 ax
 | 19 => v = .pointer (some ⟨pb, 1, none⟩)
 | 20 => v = .int .i64 ay
 | 21 => MkAt w0 v w 3 2 #[.int .i64 ax, .int .i64 ay]
 | 22 => v = .int .i64 Na
 | 23 => v = .pointer (some ⟨pb, 2, none⟩)
 | 24 => v = .int .i64 ar
 | 25 => MkAt w0 v w 3 1 #[.int .i64 ar]
 | 26 => v = .int .i64 Ra
 | 27 => v = .bool false
 | _ => v = .bool false
theorem aprΦ5_mono {ax ay ar Na Ra : Int} {pb : Nat} {w0 : World} (i : Nat) (v : Value) (w w' : World) (h : aprΦ5 ax ay ar Na Ra pb w0 i v w) (he : Ext w w') : aprΦ5 ax ay ar Na Ra pb w0 i v w' := by
 unfold aprΦ5 at h ⊢
 split at h <;> first
  | exact h
  | exact MkAt.ext h he
  | exact fun hg => MkAt.ext (h hg) he
def aprΦ10 (ax ay ar cx cy cr Dq Sq : Int) (pb pc : Nat) (w0 : World) (i : Nat) (v : Value) (w : World) : Prop :=
 match i with
 | 0 => v = .pointer (some ⟨pb, 0, none⟩)
 | 1 => v = .int .i64 ax
 | 2 => v = .pointer (some ⟨pc, 0, none⟩)
 | 3 => v = .int .i64 cx
 | 4 => v = .int .i64 (ax - cx)
 | 5 => v = .pointer (some ⟨pb, 1, none⟩)
 | 6 => v = .int .i64 ay
 | 7 => v = .pointer (some ⟨pc, 1, none⟩)
 | 8 => v = .int .i64 cy
 | 9 => v = .int .i64 (ay - cy)
 | 10 => MkAt w0 v w 3 2 #[.int .i64 (ax - cx), .int .i64 (ay - cy)]
 | 11 => v = .int .i64 Dq
 | 12 => v = .pointer (some ⟨pb, 2, none⟩)
 | 13 => v = .int .i64 ar
 | 14 => v = .pointer (some ⟨pc, 2, none⟩)
 | 15 => v = .int .i64 cr
 | 16 => v = .int .i64 (ar + cr)
 | 17 => MkAt w0 v w 3 1 #[.int .i64 (ar + cr)]
 | 18 => v = .int .i64 Sq
 | _ => v = .bool false
theorem aprΦ10_mono {ax ay ar cx cy cr Dq Sq : Int} {pb pc : Nat} {w0 : World} (i : Nat) (v : Value) (w w' : World) (h : aprΦ10 ax ay ar cx cy cr Dq Sq pb pc w0 i v w) (he : Ext w w') : aprΦ10 ax ay ar cx cy cr Dq Sq pb pc w0 i v w' := by
 unfold aprΦ10 at h ⊢
 split at h <;> first
  | exact h
  | exact MkAt.ext h he
  | exact fun hg => MkAt.ext (h hg) he
theorem e_apart_ok (l : List Ec.Ball) (A : Option Addr) (c : Nat) (w : World) (hm : BallsAt w A l) (hc : l.length ≤ c) (h : Ec.ballsOk l = true) :
  Calls Tryz.prog 156 #[.slice A l.length c] w fun e w' => e = .returned (.tuple #[]) ∧ Ext w w' := by
 obtain ⟨⟨l1, l5⟩, hin, hap⟩ := ballsIn_of h
 have HIN := Lib.hid hin
 have HAP := Lib.hid hap
 have hci : Sp.inR (l.length : Int) 1 5 = true := inR_iff.2 ⟨by omega, by omega⟩
 obtain ⟨bb, o, rfl, hcell⟩ := hm (by omega)
 have HM := Lib.hid hcell
 clear hm hin hap hcell h
 go_enter Tryz.func156, Tryz.ntmps156
 go_wp2_with fail
 refine (e_in_any _ _ _ _).mono ?_
 rintro e w1 ⟨rfl, rfl⟩
 rw [hci]
 clear hci
 go_wp2_with fail
 go_loopw [16] (fun i wr => ∃ k : Nat, k ≤ l.length ∧ i = .int .i64 k ∧ Ext w wr) (fun i _ => l.length - (intOf i).toNat)
 case atStart => exact ⟨0, Nat.zero_le _, rfl, Ext.refl _⟩
 case round =>
  obtain ⟨k, hk, rfl, hE⟩ := hrel
  by_cases hlt : k < l.length
  ·obtain ⟨q1, q2, q3⟩ := HM.out k hlt
   replace q1 := hE.cell q1
   replace q2 := hE.cell q2
   replace q3 := hE.cell q3
   have hB := HIN.out k hlt
   have HAPk := Lib.hid (fun j (hj : j < k) => HAP.out k j hlt hj)
   obtain ⟨b, hb⟩ : ∃ b, Ec.ballAt l k = b := ⟨_, rfl⟩
   rw [hb] at q1 q2 q3 hB HAPk
   obtain ⟨ax, ay, ar⟩ := b
   obtain ⟨x1, y1, r1, hp⟩ := hB
   simp only at q1 q2 q3 x1 y1 r1 hp
   have HE := Lib.hid hE
   have z1 := lts (lt_of_cell q1)
   simp only at z1
   clear hb hE
   have HB0 := Lib.hid (Row.new wr 145 #[.int .i64 ax, .int .i64 ay, .int .i64 ar])
   have HE1 := Lib.hid (HE.out.alloc (.cells #[.int .i64 ax, .int .i64 ay, .int .i64 ar] 145))
   obtain ⟨Na, hNa⟩ : ∃ Na, ax * ax + ay * ay = Na := ⟨_, rfl⟩
   obtain ⟨Ra, hRa⟩ : ∃ Ra, ar * ar = Ra := ⟨_, rfl⟩
   have HNa : Hid (∀ (b : Nat) (w : World), Row w b 3 #[.int .i64 ax, .int .i64 ay] → Calls Tryz.prog 182 #[.slice (some ⟨b, 0, none⟩) 2 2] w fun e w' => e = .returned (.int .i64 Na) ∧ w = w') := Lib.hid fun b w hr => by rw [← hNa]; exact e_squares2 b ax ay w hr (by omega) (by omega) (by omega) (by omega)
   have HRa : Hid (∀ (b : Nat) (w : World), Row w b 3 #[.int .i64 ar] → Calls Tryz.prog 182 #[.slice (some ⟨b, 0, none⟩) 1 1] w fun e w' => e = .returned (.int .i64 Ra) ∧ w = w') := Lib.hid fun b w hr => by rw [← hRa]; exact e_squares1 b ar w hr (by omega) (by omega)
   rw [hNa, hRa] at hp
   clear hNa hRa
   have HI1 : Hid (∀ w : World, Calls Tryz.prog 106 #[.int .i64 ax, .int .i64 (-100), .int .i64 100] w fun e w' => e = .returned (.bool true) ∧ w = w') := Lib.hid fun w => by have := e_in_any ax (-100) 100 w; rwa [inR_iff.2 x1] at this
   have HI2 : Hid (∀ w : World, Calls Tryz.prog 106 #[.int .i64 ay, .int .i64 (-100), .int .i64 100] w fun e w' => e = .returned (.bool true) ∧ w = w') := Lib.hid fun w => by have := e_in_any ay (-100) 100 w; rwa [inR_iff.2 y1] at this
   have HI3 : Hid (∀ w : World, Calls Tryz.prog 106 #[.int .i64 ar, .int .i64 1, .int .i64 20] w fun e w' => e = .returned (.bool true) ∧ w = w') := Lib.hid fun w => by have := e_in_any ar 1 20 w; rwa [inR_iff.2 r1] at this
   go_wp2_with fail
   clear q1 q2 q3
   obtain ⟨W, hW⟩ : ∃ W, wr.alloc (.cells #[.int .i64 ax, .int .i64 ay, .int .i64 ar] 145) = W := ⟨_, rfl⟩
   obtain ⟨pb, hpb⟩ : ∃ pb, wr.heap.size = pb := ⟨_, rfl⟩
   have HB : Hid (Row W pb 145 #[.int .i64 ax, .int .i64 ay, .int .i64 ar]) := Lib.hid (by rw [← hW, ← hpb]; exact HB0.out)
   rw [hW] at HE1 ⊢
   rw [hpb] at z1 ⊢
   clear hW hpb HB0
   refine wp_region_free_tail 29 29 (aprΦ5 ax ay ar Na Ra pb W) (by kernel_rfl) (by simp) (by kernel_rfl) (by kernel_rfl) (by kernel_rfl) (by kernel_rfl) aprΦ5_mono ?hob ?hQ (fun h => absurd h (by omega))
   case hob =>
    intro i o hin ho a wa hE hF
    match i, hin with
    | 0, _ =>
     obtain rfl := Option.some.inj ho
     have h0 : a.tmps[3]?.getD undef = .pointer (some ⟨pb, 0, none⟩) := evalD (hF.old 3 (by decide))
     refine Ran.value rfl (v := .pointer (some ⟨pb, 0, none⟩)) (w1 := wa) ?_ ⟨rfl, Ext.refl _⟩
     go_simp
    | 1, _ =>
     obtain rfl := Option.some.inj ho
     have h0 : a.tmps[21]?.getD undef = .pointer (some ⟨pb, 0, none⟩) := evalD ((hF.from_ 0 21 rfl (by decide)))
     have q := (Row.ext (HB.out) hE).cell
     refine Ran.value rfl (v := .int .i64 ax) (w1 := wa) ?_ ⟨rfl, Ext.refl _⟩
     go_simp
    | 2, _ =>
     obtain rfl := Option.some.inj ho
     have h0 : a.tmps[22]?.getD undef = .int .i64 ax := evalD ((hF.from_ 1 22 rfl (by decide)))
     refine Ran.enter rfl (f := 106) (args := #[.int .i64 ax, .int .i64 (-100), .int .i64 100]) (w1 := wa) ?_ ?_
     ·go_simp
     ·refine (HI1.out _).mono ?_
      rintro r w1 ⟨rfl, hX⟩
      exact ⟨_, rfl, rfl, hX ▸ Ext.refl _⟩
    | 3, _ =>
     obtain rfl := Option.some.inj ho
     have h0 : a.tmps[23]?.getD undef = .bool true := evalD ((hF.from_ 2 23 rfl (by decide)))
     refine Ran.value rfl (v := .bool false) (w1 := wa) ?_ ⟨rfl, Ext.refl _⟩
     go_simp
    | 4, _ =>
     obtain rfl := Option.some.inj ho
     have h0 : a.tmps[24]?.getD undef = .bool false := evalD ((hF.from_ 3 24 rfl (by decide)))
     refine Ran.value rfl (v := .bool false) (w1 := wa) ?_ ⟨rfl, Ext.refl _⟩
     go_simp
    | 5, _ =>
     obtain rfl := Option.some.inj ho
     have hgv : a.eval (.tmp 25) = .bool false := hF.from_ 4 25 rfl (by decide)
     refine Ran.if_ rfl rfl rfl hgv (fun _ => ?_) (fun h => absurd rfl h)
     have h0 : a.tmps[3]?.getD undef = .pointer (some ⟨pb, 0, none⟩) := evalD (hF.old 3 (by decide))
     refine Ran.value rfl (v := .pointer (some ⟨pb, 1, none⟩)) (w1 := wa) ?_ ⟨rfl, Ext.refl _⟩
     go_simp
    | 6, _ =>
     obtain rfl := Option.some.inj ho
     have hgv : a.eval (.tmp 25) = .bool false := hF.from_ 4 25 rfl (by decide)
     refine Ran.if_ rfl rfl rfl hgv (fun _ => ?_) (fun h => absurd rfl h)
     have h0 : a.tmps[26]?.getD undef = .pointer (some ⟨pb, 1, none⟩) := evalD ((hF.from_ 5 26 rfl (by decide)))
     have q := (Row.ext (HB.out) hE).cell
     refine Ran.value rfl (v := .int .i64 ay) (w1 := wa) ?_ ⟨rfl, Ext.refl _⟩
     go_simp
    | 7, _ =>
     obtain rfl := Option.some.inj ho
     have hgv : a.eval (.tmp 25) = .bool false := hF.from_ 4 25 rfl (by decide)
     refine Ran.if_ rfl rfl rfl hgv (fun _ => ?_) (fun h => absurd rfl h)
     have h0 : a.tmps[27]?.getD undef = .int .i64 ay := evalD ((hF.from_ 6 27 rfl (by decide)))
     refine Ran.enter rfl (f := 106) (args := #[.int .i64 ay, .int .i64 (-100), .int .i64 100]) (w1 := wa) ?_ ?_
     ·go_simp
     ·refine (HI2.out _).mono ?_
      rintro r w1 ⟨rfl, hX⟩
      exact ⟨_, rfl, rfl, hX ▸ Ext.refl _⟩
    | 8, _ =>
     obtain rfl := Option.some.inj ho
     have hgv : a.eval (.tmp 25) = .bool false := hF.from_ 4 25 rfl (by decide)
     refine Ran.if_ rfl rfl rfl hgv (fun _ => ?_) (fun h => absurd rfl h)
     have h0 : a.tmps[28]?.getD undef = .bool true := evalD ((hF.from_ 7 28 rfl (by decide)))
     refine Ran.value rfl (v := .bool false) (w1 := wa) ?_ ⟨rfl, Ext.refl _⟩
     go_simp
    | 9, _ =>
     obtain rfl := Option.some.inj ho
     have h0 : a.tmps[25]?.getD undef = .bool false := evalD ((hF.from_ 4 25 rfl (by decide)))
     have h1 : a.tmps[29]?.getD undef = .bool false := evalD ((hF.from_ 8 29 rfl (by decide)))
     refine Ran.value rfl (v := .bool false) (w1 := wa) ?_ ⟨rfl, Ext.refl _⟩
     go_simp
    | 10, _ =>
     obtain rfl := Option.some.inj ho
     have h0 : a.tmps[30]?.getD undef = .bool false := evalD ((hF.from_ 9 30 rfl (by decide)))
     refine Ran.value rfl (v := .bool false) (w1 := wa) ?_ ⟨rfl, Ext.refl _⟩
     go_simp
    | 11, _ =>
     obtain rfl := Option.some.inj ho
     have hgv : a.eval (.tmp 31) = .bool false := hF.from_ 10 31 rfl (by decide)
     refine Ran.if_ rfl rfl rfl hgv (fun _ => ?_) (fun h => absurd rfl h)
     have h0 : a.tmps[3]?.getD undef = .pointer (some ⟨pb, 0, none⟩) := evalD (hF.old 3 (by decide))
     refine Ran.value rfl (v := .pointer (some ⟨pb, 2, none⟩)) (w1 := wa) ?_ ⟨rfl, Ext.refl _⟩
     go_simp
    | 12, _ =>
     obtain rfl := Option.some.inj ho
     have hgv : a.eval (.tmp 31) = .bool false := hF.from_ 10 31 rfl (by decide)
     refine Ran.if_ rfl rfl rfl hgv (fun _ => ?_) (fun h => absurd rfl h)
     have h0 : a.tmps[32]?.getD undef = .pointer (some ⟨pb, 2, none⟩) := evalD ((hF.from_ 11 32 rfl (by decide)))
     have q := (Row.ext (HB.out) hE).cell
     refine Ran.value rfl (v := .int .i64 ar) (w1 := wa) ?_ ⟨rfl, Ext.refl _⟩
     go_simp
    | 13, _ =>
     obtain rfl := Option.some.inj ho
     have hgv : a.eval (.tmp 31) = .bool false := hF.from_ 10 31 rfl (by decide)
     refine Ran.if_ rfl rfl rfl hgv (fun _ => ?_) (fun h => absurd rfl h)
     have h0 : a.tmps[33]?.getD undef = .int .i64 ar := evalD ((hF.from_ 12 33 rfl (by decide)))
     refine Ran.enter rfl (f := 106) (args := #[.int .i64 ar, .int .i64 1, .int .i64 20]) (w1 := wa) ?_ ?_
     ·go_simp
     ·refine (HI3.out _).mono ?_
      rintro r w1 ⟨rfl, hX⟩
      exact ⟨_, rfl, rfl, hX ▸ Ext.refl _⟩
    | 14, _ =>
     obtain rfl := Option.some.inj ho
     have hgv : a.eval (.tmp 31) = .bool false := hF.from_ 10 31 rfl (by decide)
     refine Ran.if_ rfl rfl rfl hgv (fun _ => ?_) (fun h => absurd rfl h)
     have h0 : a.tmps[34]?.getD undef = .bool true := evalD ((hF.from_ 13 34 rfl (by decide)))
     refine Ran.value rfl (v := .bool false) (w1 := wa) ?_ ⟨rfl, Ext.refl _⟩
     go_simp
    | 15, _ =>
     obtain rfl := Option.some.inj ho
     have h0 : a.tmps[31]?.getD undef = .bool false := evalD ((hF.from_ 10 31 rfl (by decide)))
     have h1 : a.tmps[35]?.getD undef = .bool false := evalD ((hF.from_ 14 35 rfl (by decide)))
     refine Ran.value rfl (v := .bool false) (w1 := wa) ?_ ⟨rfl, Ext.refl _⟩
     go_simp
    | 16, _ =>
     obtain rfl := Option.some.inj ho
     have h0 : a.tmps[36]?.getD undef = .bool false := evalD ((hF.from_ 15 36 rfl (by decide)))
     refine Ran.value rfl (v := .bool false) (w1 := wa) ?_ ⟨rfl, Ext.refl _⟩
     go_simp
    | 17, _ =>
     obtain rfl := Option.some.inj ho
     have hgv : a.eval (.tmp 37) = .bool false := hF.from_ 16 37 rfl (by decide)
     refine Ran.if_ rfl rfl rfl hgv (fun _ => ?_) (fun h => absurd rfl h)
     have h0 : a.tmps[3]?.getD undef = .pointer (some ⟨pb, 0, none⟩) := evalD (hF.old 3 (by decide))
     refine Ran.value rfl (v := .pointer (some ⟨pb, 0, none⟩)) (w1 := wa) ?_ ⟨rfl, Ext.refl _⟩
     go_simp
    | 18, _ =>
     obtain rfl := Option.some.inj ho
     have hgv : a.eval (.tmp 37) = .bool false := hF.from_ 16 37 rfl (by decide)
     refine Ran.if_ rfl rfl rfl hgv (fun _ => ?_) (fun h => absurd rfl h)
     have h0 : a.tmps[38]?.getD undef = .pointer (some ⟨pb, 0, none⟩) := evalD ((hF.from_ 17 38 rfl (by decide)))
     have q := (Row.ext (HB.out) hE).cell
     refine Ran.value rfl (v := .int .i64 ax) (w1 := wa) ?_ ⟨rfl, Ext.refl _⟩
     go_simp
    | 19, _ =>
     obtain rfl := Option.some.inj ho
     have hgv : a.eval (.tmp 37) = .bool false := hF.from_ 16 37 rfl (by decide)
     refine Ran.if_ rfl rfl rfl hgv (fun _ => ?_) (fun h => absurd rfl h)
     have h0 : a.tmps[3]?.getD undef = .pointer (some ⟨pb, 0, none⟩) := evalD (hF.old 3 (by decide))
     refine Ran.value rfl (v := .pointer (some ⟨pb, 1, none⟩)) (w1 := wa) ?_ ⟨rfl, Ext.refl _⟩
     go_simp
    | 20, _ =>
     obtain rfl := Option.some.inj ho
     have hgv : a.eval (.tmp 37) = .bool false := hF.from_ 16 37 rfl (by decide)
     refine Ran.if_ rfl rfl rfl hgv (fun _ => ?_) (fun h => absurd rfl h)
     have h0 : a.tmps[40]?.getD undef = .pointer (some ⟨pb, 1, none⟩) := evalD ((hF.from_ 19 40 rfl (by decide)))
     have q := (Row.ext (HB.out) hE).cell
     refine Ran.value rfl (v := .int .i64 ay) (w1 := wa) ?_ ⟨rfl, Ext.refl _⟩
     go_simp
    | 21, _ =>
     obtain rfl := Option.some.inj ho
     have hgv : a.eval (.tmp 37) = .bool false := hF.from_ 16 37 rfl (by decide)
     refine Ran.if_ rfl rfl rfl hgv (fun _ => ?_) (fun h => absurd rfl h)
     have h0 : a.tmps[39]?.getD undef = .int .i64 ax := evalD ((hF.from_ 18 39 rfl (by decide)))
     have h1 : a.tmps[41]?.getD undef = .int .i64 ay := evalD ((hF.from_ 20 41 rfl (by decide)))
     refine Ran.value rfl (v := .slice (some ⟨wa.heap.size, 0, none⟩) 2 2) (w1 := wa.alloc (.cells #[.int .i64 ax, .int .i64 ay] 3)) ?_ ⟨⟨wa.heap.size, rfl, hE.size, Row.new _ _ _⟩, (Ext.refl _).alloc _⟩
     go_simp
    | 22, _ =>
     obtain rfl := Option.some.inj ho
     have hgv : a.eval (.tmp 37) = .bool false := hF.from_ 16 37 rfl (by decide)
     refine Ran.if_ rfl rfl rfl hgv (fun _ => ?_) (fun h => absurd rfl h)
     obtain ⟨b_h0, h0, hb_h0, hr_h0⟩ : MkAt W (a.eval (.tmp 42)) wa 3 2 #[.int .i64 ax, .int .i64 ay] := (hF.from_ 21 42 rfl (by decide))
     replace h0 := evalD h0
     refine Ran.enter rfl (f := 182) (args := #[.slice (some ⟨b_h0, 0, none⟩) 2 2]) (w1 := wa) ?_ ?_
     ·go_simp
     ·refine (HNa.out b_h0 _ hr_h0).mono ?_
      rintro r w1 ⟨rfl, hX⟩
      exact ⟨_, rfl, rfl, hX ▸ Ext.refl _⟩
    | 23, _ =>
     obtain rfl := Option.some.inj ho
     have hgv : a.eval (.tmp 37) = .bool false := hF.from_ 16 37 rfl (by decide)
     refine Ran.if_ rfl rfl rfl hgv (fun _ => ?_) (fun h => absurd rfl h)
     have h0 : a.tmps[3]?.getD undef = .pointer (some ⟨pb, 0, none⟩) := evalD (hF.old 3 (by decide))
     refine Ran.value rfl (v := .pointer (some ⟨pb, 2, none⟩)) (w1 := wa) ?_ ⟨rfl, Ext.refl _⟩
     go_simp
    | 24, _ =>
     obtain rfl := Option.some.inj ho
     have hgv : a.eval (.tmp 37) = .bool false := hF.from_ 16 37 rfl (by decide)
     refine Ran.if_ rfl rfl rfl hgv (fun _ => ?_) (fun h => absurd rfl h)
     have h0 : a.tmps[44]?.getD undef = .pointer (some ⟨pb, 2, none⟩) := evalD ((hF.from_ 23 44 rfl (by decide)))
     have q := (Row.ext (HB.out) hE).cell
     refine Ran.value rfl (v := .int .i64 ar) (w1 := wa) ?_ ⟨rfl, Ext.refl _⟩
     go_simp
    | 25, _ =>
     obtain rfl := Option.some.inj ho
     have hgv : a.eval (.tmp 37) = .bool false := hF.from_ 16 37 rfl (by decide)
     refine Ran.if_ rfl rfl rfl hgv (fun _ => ?_) (fun h => absurd rfl h)
     have h0 : a.tmps[45]?.getD undef = .int .i64 ar := evalD ((hF.from_ 24 45 rfl (by decide)))
     refine Ran.value rfl (v := .slice (some ⟨wa.heap.size, 0, none⟩) 1 1) (w1 := wa.alloc (.cells #[.int .i64 ar] 3)) ?_ ⟨⟨wa.heap.size, rfl, hE.size, Row.new _ _ _⟩, (Ext.refl _).alloc _⟩
     go_simp
    | 26, _ =>
     obtain rfl := Option.some.inj ho
     have hgv : a.eval (.tmp 37) = .bool false := hF.from_ 16 37 rfl (by decide)
     refine Ran.if_ rfl rfl rfl hgv (fun _ => ?_) (fun h => absurd rfl h)
     obtain ⟨b_h0, h0, hb_h0, hr_h0⟩ : MkAt W (a.eval (.tmp 46)) wa 3 1 #[.int .i64 ar] := (hF.from_ 25 46 rfl (by decide))
     replace h0 := evalD h0
     refine Ran.enter rfl (f := 182) (args := #[.slice (some ⟨b_h0, 0, none⟩) 1 1]) (w1 := wa) ?_ ?_
     ·go_simp
     ·refine (HRa.out b_h0 _ hr_h0).mono ?_
      rintro r w1 ⟨rfl, hX⟩
      exact ⟨_, rfl, rfl, hX ▸ Ext.refl _⟩
    | 27, _ =>
     obtain rfl := Option.some.inj ho
     have hgv : a.eval (.tmp 37) = .bool false := hF.from_ 16 37 rfl (by decide)
     refine Ran.if_ rfl rfl rfl hgv (fun _ => ?_) (fun h => absurd rfl h)
     have h0 : a.tmps[43]?.getD undef = .int .i64 Na := evalD ((hF.from_ 22 43 rfl (by decide)))
     have h1 : a.tmps[47]?.getD undef = .int .i64 Ra := evalD ((hF.from_ 26 47 rfl (by decide)))
     refine Ran.value rfl (v := .bool false) (w1 := wa) ?_ ⟨rfl, Ext.refl _⟩
     have hna : ¬ Na ≤ Ra := by omega
     go_simp
    | 28, _ =>
     obtain rfl := Option.some.inj ho
     have h0 : a.tmps[37]?.getD undef = .bool false := evalD ((hF.from_ 16 37 rfl (by decide)))
     have h1 : a.tmps[48]?.getD undef = .bool false := evalD ((hF.from_ 27 48 rfl (by decide)))
     refine Ran.value rfl (v := .bool false) (w1 := wa) ?_ ⟨rfl, Ext.refl _⟩
     go_simp
    | k + 29, hin => omega
   case hQ =>
    intro vs w2 hE hΦ
    have f0 : vs 0 = .pointer (some ⟨pb, 0, none⟩) := hΦ 0 (by omega)
    have f1 : vs 1 = .int .i64 ax := hΦ 1 (by omega)
    have f2 : vs 2 = .bool true := hΦ 2 (by omega)
    have f3 : vs 3 = .bool false := hΦ 3 (by omega)
    have f4 : vs 4 = .bool false := hΦ 4 (by omega)
    have f5 : vs 5 = .pointer (some ⟨pb, 1, none⟩) := hΦ 5 (by omega)
    have f6 : vs 6 = .int .i64 ay := hΦ 6 (by omega)
    have f7 : vs 7 = .bool true := hΦ 7 (by omega)
    have f8 : vs 8 = .bool false := hΦ 8 (by omega)
    have f9 : vs 9 = .bool false := hΦ 9 (by omega)
    have f10 : vs 10 = .bool false := hΦ 10 (by omega)
    have f11 : vs 11 = .pointer (some ⟨pb, 2, none⟩) := hΦ 11 (by omega)
    have f12 : vs 12 = .int .i64 ar := hΦ 12 (by omega)
    have f13 : vs 13 = .bool true := hΦ 13 (by omega)
    have f14 : vs 14 = .bool false := hΦ 14 (by omega)
    have f15 : vs 15 = .bool false := hΦ 15 (by omega)
    have f16 : vs 16 = .bool false := hΦ 16 (by omega)
    have f17 : vs 17 = .pointer (some ⟨pb, 0, none⟩) := hΦ 17 (by omega)
    have f18 : vs 18 = .int .i64 ax := hΦ 18 (by omega)
    have f19 : vs 19 = .pointer (some ⟨pb, 1, none⟩) := hΦ 19 (by omega)
    have f20 : vs 20 = .int .i64 ay := hΦ 20 (by omega)
    obtain ⟨b21, f21, hb21, hr21⟩ : MkAt W (vs 21) w2 3 2 #[.int .i64 ax, .int .i64 ay] := hΦ 21 (by omega)
    have f22 : vs 22 = .int .i64 Na := hΦ 22 (by omega)
    have f23 : vs 23 = .pointer (some ⟨pb, 2, none⟩) := hΦ 23 (by omega)
    have f24 : vs 24 = .int .i64 ar := hΦ 24 (by omega)
    obtain ⟨b25, f25, hb25, hr25⟩ : MkAt W (vs 25) w2 3 1 #[.int .i64 ar] := hΦ 25 (by omega)
    have f26 : vs 26 = .int .i64 Ra := hΦ 26 (by omega)
    have f27 : vs 27 = .bool false := hΦ 27 (by omega)
    have f28 : vs 28 = .bool false := hΦ 28 (by omega)
    have hrg : List.range 29 = [0, 1, 2, 3, 4, 5, 6, 7, 8, 9, 10, 11, 12, 13, 14, 15, 16, 17, 18, 19, 20, 21, 22, 23, 24, 25, 26, 27, 28] := rfl
    unfold putAll putS
    simp only [List.length_cons, List.length_nil, List.take_succ_cons, List.take_zero, List.drop_succ_cons, List.drop_zero, Nat.reduceAdd, hrg, List.foldl_cons, List.foldl_nil, dstOf, List.getElem?_cons_succ, List.getElem?_cons_zero, Option.bind_some]
    clear hrg
    rw [f0, f1, f2, f3, f4, f5, f6, f7, f8, f9, f10, f11, f12, f13, f14, f15, f16, f17, f18, f19, f20, f21, f22, f23, f24, f25, f26, f27, f28]
    simp only [Act.put, List.setIfInBounds_toArray, List.set_cons_succ, List.set_cons_zero]
    have HE2 := Lib.hid (HE1.out.trans hE)
    have HB2 := Lib.hid (HB.out.ext hE)
    clear hΦ f0 f1 f2 f3 f4 f5 f6 f7 f8 f9 f10 f11 f12 f13 f14 f15 f16 f17 f18 f19 f20 f21 f22 f23 f24 f25 f26 f27 f28 hr21 hr25 hE
    have s1 : (k : Int) ≤ (c : Int) := by omega
    have s2 : (0 : Int) ≤ (k : Int) := by omega
    go_wp2_with fail
    obtain ⟨wo, rfl⟩ : ∃ wo : World, wo = wr := ⟨_, rfl⟩
    go_loopw [57] (fun i wx => ∃ j : Nat, j ≤ k ∧ i = .int .i64 j ∧ Ext w2 wx) (fun i _ => k - (intOf i).toNat)
    case atStart => exact ⟨0, Nat.zero_le _, rfl, Ext.refl _⟩
    case round =>
     obtain ⟨j, hj, rfl, hX⟩ := hrel
     by_cases hjk : j < k
     ·obtain ⟨p1, p2, p3⟩ := HM.out j (by omega)
      replace p1 := hX.cell (HE2.out.cell p1)
      replace p2 := hX.cell (HE2.out.cell p2)
      replace p3 := hX.cell (HE2.out.cell p3)
      have hC := HIN.out j (by omega)
      have hA := HAPk.out j hjk
      obtain ⟨b, hb⟩ : ∃ b, Ec.ballAt l j = b := ⟨_, rfl⟩
      rw [hb] at p1 p2 p3 hC hA
      obtain ⟨cx, cy, cr⟩ := b
      obtain ⟨x2, y2, r2, _⟩ := hC
      simp only at p1 p2 p3 x2 y2 r2
      rw [Ec.apart_swap] at hA
      simp only [Ec.apart, decide_eq_true_eq] at hA
      have z2 := lts (lt_of_cell p1)
      simp only at z2
      have HX := Lib.hid hX
      have HB3 := Lib.hid ((HB2.out.ext hX).alloc (.cells #[.int .i64 cx, .int .i64 cy, .int .i64 cr] 145))
      have HC0 := Lib.hid (Row.new wr 145 #[.int .i64 cx, .int .i64 cy, .int .i64 cr])
      have HX1 := Lib.hid (hX.alloc (.cells #[.int .i64 cx, .int .i64 cy, .int .i64 cr] 145))
      clear hb hX
      obtain ⟨Dq, hDq⟩ : ∃ Dq, (ax - cx) * (ax - cx) + (ay - cy) * (ay - cy) = Dq := ⟨_, rfl⟩
      obtain ⟨Sq, hSq⟩ : ∃ Sq, (ar + cr) * (ar + cr) = Sq := ⟨_, rfl⟩
      have HDq : Hid (∀ (b : Nat) (w : World), Row w b 3 #[.int .i64 (ax - cx), .int .i64 (ay - cy)] → Calls Tryz.prog 182 #[.slice (some ⟨b, 0, none⟩) 2 2] w fun e w' => e = .returned (.int .i64 Dq) ∧ w = w') := Lib.hid fun b w hr => by rw [← hDq]; exact e_squares2 b (ax - cx) (ay - cy) w hr (by omega) (by omega) (by omega) (by omega)
      have HSq : Hid (∀ (b : Nat) (w : World), Row w b 3 #[.int .i64 (ar + cr)] → Calls Tryz.prog 182 #[.slice (some ⟨b, 0, none⟩) 1 1] w fun e w' => e = .returned (.int .i64 Sq) ∧ w = w') := Lib.hid fun b w hr => by rw [← hSq]; exact e_squares1 b (ar + cr) w hr (by omega) (by omega)
      rw [hDq, hSq] at hA
      clear hDq hSq
      go_wp2_with fail
      clear p1 p2 p3
      obtain ⟨W2, hW2⟩ : ∃ W2, wr.alloc (.cells #[.int .i64 cx, .int .i64 cy, .int .i64 cr] 145) = W2 := ⟨_, rfl⟩
      obtain ⟨pc, hpc⟩ : ∃ pc, wr.heap.size = pc := ⟨_, rfl⟩
      have HC : Hid (Row W2 pc 145 #[.int .i64 cx, .int .i64 cy, .int .i64 cr]) := Lib.hid (by rw [← hW2, ← hpc]; exact HC0.out)
      rw [hW2] at HX1 HB3 ⊢
      rw [hpc] at z2 ⊢
      clear hW2 hpc HC0
      refine wp_region_free_tail 20 20 (aprΦ10 ax ay ar cx cy cr Dq Sq pb pc W2) (by kernel_rfl) (by simp) (by kernel_rfl) (by kernel_rfl) (by kernel_rfl) (by kernel_rfl) aprΦ10_mono ?hob ?hQ (fun h => absurd h (by omega))
      case hob =>
       intro i o hin ho a wa hE hF
       match i, hin with
       | 0, _ =>
        obtain rfl := Option.some.inj ho
        have h0 : a.tmps[3]?.getD undef = .pointer (some ⟨pb, 0, none⟩) := evalD (hF.old 3 (by decide))
        refine Ran.value rfl (v := .pointer (some ⟨pb, 0, none⟩)) (w1 := wa) ?_ ⟨rfl, Ext.refl _⟩
        go_simp
       | 1, _ =>
        obtain rfl := Option.some.inj ho
        have h0 : a.tmps[61]?.getD undef = .pointer (some ⟨pb, 0, none⟩) := evalD ((hF.from_ 0 61 rfl (by decide)))
        have q := (Row.ext (HB3.out) hE).cell
        refine Ran.value rfl (v := .int .i64 ax) (w1 := wa) ?_ ⟨rfl, Ext.refl _⟩
        go_simp
       | 2, _ =>
        obtain rfl := Option.some.inj ho
        have h0 : a.tmps[5]?.getD undef = .pointer (some ⟨pc, 0, none⟩) := evalD (hF.old 5 (by decide))
        refine Ran.value rfl (v := .pointer (some ⟨pc, 0, none⟩)) (w1 := wa) ?_ ⟨rfl, Ext.refl _⟩
        go_simp
       | 3, _ =>
        obtain rfl := Option.some.inj ho
        have h0 : a.tmps[63]?.getD undef = .pointer (some ⟨pc, 0, none⟩) := evalD ((hF.from_ 2 63 rfl (by decide)))
        have q := (Row.ext (HC.out) hE).cell
        refine Ran.value rfl (v := .int .i64 cx) (w1 := wa) ?_ ⟨rfl, Ext.refl _⟩
        go_simp
       | 4, _ =>
        obtain rfl := Option.some.inj ho
        have h0 : a.tmps[62]?.getD undef = .int .i64 ax := evalD ((hF.from_ 1 62 rfl (by decide)))
        have h1 : a.tmps[64]?.getD undef = .int .i64 cx := evalD ((hF.from_ 3 64 rfl (by decide)))
        refine Ran.value rfl (v := .int .i64 (ax - cx)) (w1 := wa) ?_ ⟨rfl, Ext.refl _⟩
        go_simp
        exact IntWalk.i64_in _ ⟨by omega, by omega⟩
       | 5, _ =>
        obtain rfl := Option.some.inj ho
        have h0 : a.tmps[3]?.getD undef = .pointer (some ⟨pb, 0, none⟩) := evalD (hF.old 3 (by decide))
        refine Ran.value rfl (v := .pointer (some ⟨pb, 1, none⟩)) (w1 := wa) ?_ ⟨rfl, Ext.refl _⟩
        go_simp
       | 6, _ =>
        obtain rfl := Option.some.inj ho
        have h0 : a.tmps[66]?.getD undef = .pointer (some ⟨pb, 1, none⟩) := evalD ((hF.from_ 5 66 rfl (by decide)))
        have q := (Row.ext (HB3.out) hE).cell
        refine Ran.value rfl (v := .int .i64 ay) (w1 := wa) ?_ ⟨rfl, Ext.refl _⟩
        go_simp
       | 7, _ =>
        obtain rfl := Option.some.inj ho
        have h0 : a.tmps[5]?.getD undef = .pointer (some ⟨pc, 0, none⟩) := evalD (hF.old 5 (by decide))
        refine Ran.value rfl (v := .pointer (some ⟨pc, 1, none⟩)) (w1 := wa) ?_ ⟨rfl, Ext.refl _⟩
        go_simp
       | 8, _ =>
        obtain rfl := Option.some.inj ho
        have h0 : a.tmps[68]?.getD undef = .pointer (some ⟨pc, 1, none⟩) := evalD ((hF.from_ 7 68 rfl (by decide)))
        have q := (Row.ext (HC.out) hE).cell
        refine Ran.value rfl (v := .int .i64 cy) (w1 := wa) ?_ ⟨rfl, Ext.refl _⟩
        go_simp
       | 9, _ =>
        obtain rfl := Option.some.inj ho
        have h0 : a.tmps[67]?.getD undef = .int .i64 ay := evalD ((hF.from_ 6 67 rfl (by decide)))
        have h1 : a.tmps[69]?.getD undef = .int .i64 cy := evalD ((hF.from_ 8 69 rfl (by decide)))
        refine Ran.value rfl (v := .int .i64 (ay - cy)) (w1 := wa) ?_ ⟨rfl, Ext.refl _⟩
        go_simp
        exact IntWalk.i64_in _ ⟨by omega, by omega⟩
       | 10, _ =>
        obtain rfl := Option.some.inj ho
        have h0 : a.tmps[65]?.getD undef = .int .i64 (ax - cx) := evalD ((hF.from_ 4 65 rfl (by decide)))
        have h1 : a.tmps[70]?.getD undef = .int .i64 (ay - cy) := evalD ((hF.from_ 9 70 rfl (by decide)))
        refine Ran.value rfl (v := .slice (some ⟨wa.heap.size, 0, none⟩) 2 2) (w1 := wa.alloc (.cells #[.int .i64 (ax - cx), .int .i64 (ay - cy)] 3)) ?_ ⟨⟨wa.heap.size, rfl, hE.size, Row.new _ _ _⟩, (Ext.refl _).alloc _⟩
        go_simp
       | 11, _ =>
        obtain rfl := Option.some.inj ho
        obtain ⟨b_h0, h0, hb_h0, hr_h0⟩ : MkAt W2 (a.eval (.tmp 71)) wa 3 2 #[.int .i64 (ax - cx), .int .i64 (ay - cy)] := (hF.from_ 10 71 rfl (by decide))
        replace h0 := evalD h0
        refine Ran.enter rfl (f := 182) (args := #[.slice (some ⟨b_h0, 0, none⟩) 2 2]) (w1 := wa) ?_ ?_
        ·go_simp
        ·refine (HDq.out b_h0 _ hr_h0).mono ?_
         rintro r w1 ⟨rfl, hX⟩
         exact ⟨_, rfl, rfl, hX ▸ Ext.refl _⟩
       | 12, _ =>
        obtain rfl := Option.some.inj ho
        have h0 : a.tmps[3]?.getD undef = .pointer (some ⟨pb, 0, none⟩) := evalD (hF.old 3 (by decide))
        refine Ran.value rfl (v := .pointer (some ⟨pb, 2, none⟩)) (w1 := wa) ?_ ⟨rfl, Ext.refl _⟩
        go_simp
       | 13, _ =>
        obtain rfl := Option.some.inj ho
        have h0 : a.tmps[73]?.getD undef = .pointer (some ⟨pb, 2, none⟩) := evalD ((hF.from_ 12 73 rfl (by decide)))
        have q := (Row.ext (HB3.out) hE).cell
        refine Ran.value rfl (v := .int .i64 ar) (w1 := wa) ?_ ⟨rfl, Ext.refl _⟩
        go_simp
       | 14, _ =>
        obtain rfl := Option.some.inj ho
        have h0 : a.tmps[5]?.getD undef = .pointer (some ⟨pc, 0, none⟩) := evalD (hF.old 5 (by decide))
        refine Ran.value rfl (v := .pointer (some ⟨pc, 2, none⟩)) (w1 := wa) ?_ ⟨rfl, Ext.refl _⟩
        go_simp
       | 15, _ =>
        obtain rfl := Option.some.inj ho
        have h0 : a.tmps[75]?.getD undef = .pointer (some ⟨pc, 2, none⟩) := evalD ((hF.from_ 14 75 rfl (by decide)))
        have q := (Row.ext (HC.out) hE).cell
        refine Ran.value rfl (v := .int .i64 cr) (w1 := wa) ?_ ⟨rfl, Ext.refl _⟩
        go_simp
       | 16, _ =>
        obtain rfl := Option.some.inj ho
        have h0 : a.tmps[74]?.getD undef = .int .i64 ar := evalD ((hF.from_ 13 74 rfl (by decide)))
        have h1 : a.tmps[76]?.getD undef = .int .i64 cr := evalD ((hF.from_ 15 76 rfl (by decide)))
        refine Ran.value rfl (v := .int .i64 (ar + cr)) (w1 := wa) ?_ ⟨rfl, Ext.refl _⟩
        go_simp
        exact IntWalk.i64_in _ ⟨by omega, by omega⟩
       | 17, _ =>
        obtain rfl := Option.some.inj ho
        have h0 : a.tmps[77]?.getD undef = .int .i64 (ar + cr) := evalD ((hF.from_ 16 77 rfl (by decide)))
        refine Ran.value rfl (v := .slice (some ⟨wa.heap.size, 0, none⟩) 1 1) (w1 := wa.alloc (.cells #[.int .i64 (ar + cr)] 3)) ?_ ⟨⟨wa.heap.size, rfl, hE.size, Row.new _ _ _⟩, (Ext.refl _).alloc _⟩
        go_simp
       | 18, _ =>
        obtain rfl := Option.some.inj ho
        obtain ⟨b_h0, h0, hb_h0, hr_h0⟩ : MkAt W2 (a.eval (.tmp 78)) wa 3 1 #[.int .i64 (ar + cr)] := (hF.from_ 17 78 rfl (by decide))
        replace h0 := evalD h0
        refine Ran.enter rfl (f := 182) (args := #[.slice (some ⟨b_h0, 0, none⟩) 1 1]) (w1 := wa) ?_ ?_
        ·go_simp
        ·refine (HSq.out b_h0 _ hr_h0).mono ?_
         rintro r w1 ⟨rfl, hX⟩
         exact ⟨_, rfl, rfl, hX ▸ Ext.refl _⟩
       | 19, _ =>
        obtain rfl := Option.some.inj ho
        have h0 : a.tmps[72]?.getD undef = .int .i64 Dq := evalD ((hF.from_ 11 72 rfl (by decide)))
        have h1 : a.tmps[79]?.getD undef = .int .i64 Sq := evalD ((hF.from_ 18 79 rfl (by decide)))
        refine Ran.value rfl (v := .bool false) (w1 := wa) ?_ ⟨rfl, Ext.refl _⟩
        have hds : ¬ Dq ≤ Sq := by omega
        go_simp
       | k + 20, hin => omega
      case hQ =>
       intro vs w2 hE hΦ
       have f0 : vs 0 = .pointer (some ⟨pb, 0, none⟩) := hΦ 0 (by omega)
       have f1 : vs 1 = .int .i64 ax := hΦ 1 (by omega)
       have f2 : vs 2 = .pointer (some ⟨pc, 0, none⟩) := hΦ 2 (by omega)
       have f3 : vs 3 = .int .i64 cx := hΦ 3 (by omega)
       have f4 : vs 4 = .int .i64 (ax - cx) := hΦ 4 (by omega)
       have f5 : vs 5 = .pointer (some ⟨pb, 1, none⟩) := hΦ 5 (by omega)
       have f6 : vs 6 = .int .i64 ay := hΦ 6 (by omega)
       have f7 : vs 7 = .pointer (some ⟨pc, 1, none⟩) := hΦ 7 (by omega)
       have f8 : vs 8 = .int .i64 cy := hΦ 8 (by omega)
       have f9 : vs 9 = .int .i64 (ay - cy) := hΦ 9 (by omega)
       obtain ⟨b10, f10, hb10, hr10⟩ : MkAt W2 (vs 10) w2 3 2 #[.int .i64 (ax - cx), .int .i64 (ay - cy)] := hΦ 10 (by omega)
       have f11 : vs 11 = .int .i64 Dq := hΦ 11 (by omega)
       have f12 : vs 12 = .pointer (some ⟨pb, 2, none⟩) := hΦ 12 (by omega)
       have f13 : vs 13 = .int .i64 ar := hΦ 13 (by omega)
       have f14 : vs 14 = .pointer (some ⟨pc, 2, none⟩) := hΦ 14 (by omega)
       have f15 : vs 15 = .int .i64 cr := hΦ 15 (by omega)
       have f16 : vs 16 = .int .i64 (ar + cr) := hΦ 16 (by omega)
       obtain ⟨b17, f17, hb17, hr17⟩ : MkAt W2 (vs 17) w2 3 1 #[.int .i64 (ar + cr)] := hΦ 17 (by omega)
       have f18 : vs 18 = .int .i64 Sq := hΦ 18 (by omega)
       have f19 : vs 19 = .bool false := hΦ 19 (by omega)
       have hrg : List.range 20 = [0, 1, 2, 3, 4, 5, 6, 7, 8, 9, 10, 11, 12, 13, 14, 15, 16, 17, 18, 19] := rfl
       unfold putAll putS
       simp only [List.length_cons, List.length_nil, List.take_succ_cons, List.take_zero, List.drop_succ_cons, List.drop_zero, Nat.reduceAdd, hrg, List.foldl_cons, List.foldl_nil, dstOf, List.getElem?_cons_succ, List.getElem?_cons_zero, Option.bind_some]
       clear hrg
       rw [f0, f1, f2, f3, f4, f5, f6, f7, f8, f9, f10, f11, f12, f13, f14, f15, f16, f17, f18, f19]
       simp only [Act.put, List.setIfInBounds_toArray, List.set_cons_succ, List.set_cons_zero]
       have HX2 := Lib.hid (HX1.out.trans hE)
       clear hΦ f0 f1 f2 f3 f4 f5 f6 f7 f8 f9 f10 f11 f12 f13 f14 f15 f16 f17 f18 f19 hr10 hr17 hE
       go_wp2_with fail
       go_roundw
       case rel => exact ⟨j + 1, by omega, by go_num, HX2.out⟩
       case measure => simp [intOf]; omega
     ·obtain rfl : j = k := by omega
      have HX := Lib.hid hX
      clear hX
      go_wp2_with fail
      go_roundw
      case rel => exact ⟨j + 1, by omega, by go_num, HE2.out.trans HX.out⟩
      case measure => simp [intOf]; omega
  ·go_wp2_with fail
   go_end0
   exact ⟨rfl, hE⟩
end Go.Proofs.YtcbodpnmndbgnaaGreatDoor
namespace Go.Proofs.YtcbodpnmndbgnaaGreatDoor
theorem mapM_some {α β : Type} {f : α → Option β} {l : List α} {r : List β} : l.mapM f = some r ↔ l.map f = r.map some := by
  induction l generalizing r with
  | nil => cases r <;> simp
  | cons a l ih =>
    rw [List.mapM_cons]
    cases h : f a with
    | none => cases r <;> simp [h]
    | some b =>
      cases h2 : l.mapM f with
      | none =>
        simp only [Option.bind_eq_bind, Option.bind_some, Option.bind_none, List.map_cons, h]
        constructor
        · intro e; cases e
        · intro e
          cases r with
          | nil => cases e
          | cons c r =>
            simp only [List.map_cons, List.cons.injEq] at e
            rw [ih.2 e.2] at h2
            cases h2
      | some t =>
        have ht := ih.1 h2
        cases r with
        | nil => simp [h]
        | cons c r => simp [h, ht, List.map_inj_right (f := (some : β → Option β)) (fun _ _ e => Option.some.inj e)]
theorem isDig_digit (u : Nat) (h : u < 10) : isDig (UInt8.ofNat (48 + u)) = true := by
  have : (UInt8.ofNat (48 + u)).toNat = 48 + u := by simp [UInt8.toNat_ofNat']; omega
  unfold isDig
  rw [this]
  simp
  omega
theorem digN_app (l : Bs) (c : UInt8) (k : Nat) (hk : k ≤ l.length) : digN (l ++ [c]) k = digN l k := by
  induction k with
  | zero => rfl
  | succ k ih =>
    rw [digN, digN, ih (by omega)]
    congr 3
    rw [List.getD_eq_getElem?_getD, List.getD_eq_getElem?_getD, List.getElem?_append_left (by omega)]
theorem digV_snoc (l : Bs) (c : UInt8) : digV (l ++ [c]) = 10 * digV l + (c.toNat - 48) := by
  unfold digV
  rw [List.length_append, List.length_singleton, digN, digN_app l c _ (Nat.le_refl _)]
  congr 3
  rw [List.getD_eq_getElem?_getD, List.getElem?_append_right (Nat.le_refl _)]
  simp
theorem dec_all (u : Nat) : (Lib.decDigits u).all isDig = true ∧ digV (Lib.decDigits u) = u ∧ Lib.decDigits u ≠ [] := by
  induction u using Nat.strongRecOn with
  | _ u ih =>
    rw [Lib.decDigits]
    by_cases h : u < 10
    · rw [dif_pos h]
      have : (UInt8.ofNat (48 + u)).toNat = 48 + u := by simp [UInt8.toNat_ofNat']; omega
      refine ⟨by rw [List.all_cons, isDig_digit u h]; rfl, ?_, by simp⟩
      show 10 * 0 + ((UInt8.ofNat (48 + u)).toNat - 48) = u
      rw [this]
      omega
    · rw [dif_neg h]
      obtain ⟨a, b, _⟩ := ih (u / 10) (by omega)
      have : (UInt8.ofNat (48 + u % 10)).toNat = 48 + u % 10 := by simp [UInt8.toNat_ofNat']; omega
      refine ⟨by rw [List.all_append, a, List.all_cons, isDig_digit (u % 10) (by omega)]; rfl, ?_, by simp⟩
      rw [digV_snoc, b, this]
      omega
theorem nDigits_le (k u : Nat) (h : u < 10 ^ (k + 1)) : Lib.nDigits u ≤ k + 1 := by
  induction k generalizing u with
  | zero => rw [Lib.nDigits_small (by simpa using h)]; omega
  | succ k ih =>
    by_cases h1 : u < 10
    · rw [Lib.nDigits_small h1]; omega
    · rw [Lib.nDigits_big h1]
      have := ih (u / 10) (by rw [Nat.pow_succ] at h; omega)
      omega
theorem dec_len5 (u : Nat) (h : u ≤ 99999) : (Lib.decDigits u).length ≤ 5 := by
  rw [Lib.decDigits_length]
  exact nDigits_le 4 u (by omega)
theorem dec_no (u : Nat) (c : UInt8) (hc : isDig c = false) : c ∉ Lib.decDigits u := by
  intro hm
  have := (dec_all u).1
  rw [List.all_eq_true] at this
  have := this c hm
  rw [hc] at this; cases this
theorem itoa_no (n : Int) (c : UInt8) (hc : isDig c = false) (h : c ≠ 45) : c ∉ Lib.itoa n := by
  unfold Lib.itoa
  split
  · rw [List.mem_cons, not_or]; exact ⟨h, dec_no _ c hc⟩
  · exact dec_no _ c hc
theorem digN_lt (l : Bs) (h : l.all isDig = true) (k : Nat) (hk : k ≤ l.length) : digN l k < 10 ^ k := by
  induction k with
  | zero => simp [digN]
  | succ k ih =>
    have := ih (by omega)
    rw [List.all_eq_true] at h
    have hm := h (l[k]'(by omega)) (List.getElem_mem _)
    have e : l.getD k 0 = l[k]'(by omega) := by rw [List.getD_eq_getElem?_getD, List.getElem?_eq_getElem (by omega)]; rfl
    rw [digN, e, Nat.pow_succ]
    simp only [isDig, Bool.and_eq_true, decide_eq_true_eq] at hm
    omega
theorem lineL_tail (name : Bs) (l : List Int) : lineL name l = name ++ Lib.joinTail [32] (l.map Lib.itoa) := by
  unfold lineL Lib.joinTail
  rw [List.map_map]
  rfl
theorem sp1_line (name : Bs) (l : List Int) (h : (32 : UInt8) ∉ name) : sp1 32 (lineL name l) = name :: l.map Lib.itoa := by
  rw [lineL_tail]
  exact sp1_tail 32 _ (fun x hx => by
    obtain ⟨n, _, rfl⟩ := List.mem_map.1 hx
    exact itoa_no n 32 (by decide) (by decide)) name h
theorem line_no (name : Bs) (l : List Int) (c : UInt8) (hc : isDig c = false) (h1 : c ≠ 45) (h2 : c ≠ 32) (hn : c ∉ name) : c ∉ lineL name l := by
  unfold lineL
  rw [List.mem_append, not_or]
  refine ⟨hn, fun hm => ?_⟩
  obtain ⟨x, hx, hc'⟩ := List.mem_flatten.1 hm
  obtain ⟨n, _, rfl⟩ := List.mem_map.1 hx
  rcases List.mem_cons.1 hc' with e | e
  · exact h2 e
  · exact itoa_no n c hc h1 e
theorem endL_no (c : Nat) : (10 : UInt8) ∉ endL c := by
  unfold endL
  simp only [List.mem_append, not_or]
  exact ⟨⟨⟨by decide, itoa_no _ 10 (by decide) (by decide)⟩, itoa_no _ 10 (by decide) (by decide)⟩, itoa_no _ 10 (by decide) (by decide)⟩
theorem joinTail_app (sep : Bs) (a b : List Bs) : Lib.joinTail sep (a ++ b) = Lib.joinTail sep a ++ Lib.joinTail sep b := by
  simp [Lib.joinTail]
theorem mapM_mem {α β : Type} {f : α → Option β} {l : List α} {r : List β} (h : l.mapM f = some r) (b : β) (hb : b ∈ r) : ∃ a ∈ l, f a = some b := by
  rw [mapM_some] at h
  have : some b ∈ l.map f := by rw [h]; exact List.mem_map.2 ⟨b, hb, rfl⟩
  obtain ⟨a, ha, e⟩ := List.mem_map.1 this
  exact ⟨a, ha, e⟩
end Go.Proofs.YtcbodpnmndbgnaaGreatDoor
namespace Go.Proofs.YtcbodpnmndbgnaaGreatDoor
open Sp (rd)
set_option linter.unusedSimpArgs false
set_option linter.unusedVariables false
namespace Ec
def wEcl : Bs := [101, 99, 108, 105, 112, 115, 101, 115]
def wNew : Bs := [110, 101, 119]
def wFull : Bs := [102, 117, 108, 108]
def eWord (full : Bool) : Bs := if full then wFull else wNew
def eLine (e : Sp.Ecl) : Bs := lineL (eWord e.full) [e.day, e.far]
/-- The lines of a table, without the last one. -/
def tabE (l : List Sp.Ecl) : List Bs := lineL wEcl [(l.length : Int)] :: l.map eLine
def checkE (L : List Bs) : Nat := checkN L L.length % 139
def textE (l : List Sp.Ecl) : Bs := Lib.join (tabE l) [10] ++ [10] ++ endL (checkE (tabE l)) ++ [10]
/-- The number that a word says. -/
def numFineE (w : Bs) : Bool := w.all isDig && decide (w.length ≤ 5) && !w.isEmpty && (Lib.itoa (digV w : Int) == w)
def numE (w : Bs) : Option Int := if numFineE w = true then some (digV w : Int) else none
def eclP (r : Bs) : Option Sp.Ecl :=
  match sp1 32 r with
  | [w, d, f] => if w = wFull ∨ w = wNew then (numE d).bind fun day => (numE f).bind fun far => some ⟨day, decide (w = wFull), far⟩ else none
  | _ => none
/-- The rows between the first one and the last two. -/
def midE (s : Bs) : List Bs := ((sp1 10 s).drop 1).take ((sp1 10 s).length - 3)
/-- The program's way, and the document's. -/
def parseE (s : Bs) : Option (List Sp.Ecl) := if (sp1 10 s).length < 3 then none else ((midE s).mapM eclP).bind fun l => if textE l = s then some l else none
structure EclNum (l : List Sp.Ecl) : Prop where
  day : ∀ e ∈ l, 0 ≤ e.day ∧ e.day ≤ 99999
  far : ∀ e ∈ l, 0 ≤ e.far ∧ e.far ≤ 99999
theorem numE_itoa (n : Int) (h0 : 0 ≤ n) (h1 : n ≤ 99999) : numE (Lib.itoa n) = some n := by
  obtain ⟨u, rfl⟩ := Int.eq_ofNat_of_zero_le h0
  obtain ⟨a, b, c⟩ := dec_all u
  have hl := dec_len5 u (by omega)
  have e : Lib.itoa (u : Int) = Lib.decDigits u := Lib.itoa_nonneg u
  unfold numE numFineE
  rw [e, a, b]
  have hne : (Lib.decDigits u).isEmpty = false := by simpa using c
  rw [hne, e]
  simp [hl]
theorem numE_some {w : Bs} {n : Int} (h : numE w = some n) : w = Lib.itoa n ∧ 0 ≤ n ∧ n ≤ 99999 := by
  unfold numE at h
  split at h
  · rename_i hf
    simp only [numFineE, Bool.and_eq_true, decide_eq_true_eq, beq_iff_eq] at hf
    obtain rfl := Option.some.inj h
    have hlt := digN_lt w hf.1.1.1 w.length (Nat.le_refl _)
    have : 10 ^ w.length ≤ 10 ^ 5 := Nat.pow_le_pow_right (by omega) hf.1.1.2
    refine ⟨hf.2.symm, by omega, ?_⟩
    unfold digV
    omega
  · cases h
theorem eWord_no (b : Bool) : (32 : UInt8) ∉ eWord b ∧ (10 : UInt8) ∉ eWord b := by cases b <;> decide
theorem eWord_full (b : Bool) : decide (eWord b = wFull) = b := by cases b <;> decide
theorem eWord_is (b : Bool) : eWord b = wFull ∨ eWord b = wNew := by cases b <;> decide
theorem sp1_eLine (e : Sp.Ecl) : sp1 32 (eLine e) = [eWord e.full, Lib.itoa e.day, Lib.itoa e.far] := sp1_line _ _ (eWord_no e.full).1
theorem eclP_line {e : Sp.Ecl} (h1 : 0 ≤ e.day ∧ e.day ≤ 99999) (h2 : 0 ≤ e.far ∧ e.far ≤ 99999) : eclP (eLine e) = some e := by
  unfold eclP
  rw [sp1_eLine]
  simp only []
  rw [if_pos (eWord_is e.full), numE_itoa _ h1.1 h1.2, numE_itoa _ h2.1 h2.2]
  simp only [Option.bind_some, eWord_full]
theorem eclP_num {r : Bs} {e : Sp.Ecl} (h : eclP r = some e) : (0 ≤ e.day ∧ e.day ≤ 99999) ∧ (0 ≤ e.far ∧ e.far ≤ 99999) := by
  unfold eclP at h
  split at h
  · split at h
    · rename_i w d f _ _
      cases hd : numE d with
      | none => rw [hd] at h; cases h
      | some n =>
        cases hf : numE f with
        | none => rw [hd, hf] at h; cases h
        | some m =>
          rw [hd, hf] at h
          obtain rfl := Option.some.inj h
          exact ⟨(numE_some hd).2, (numE_some hf).2⟩
    · cases h
  · cases h
theorem tabE_no (l : List Sp.Ecl) : ∀ x ∈ tabE l, (10 : UInt8) ∉ x := by
  intro x hx
  unfold tabE at hx
  rcases List.mem_cons.1 hx with rfl | hx
  · exact line_no _ _ 10 (by decide) (by decide) (by decide) (by decide)
  · obtain ⟨e, _, rfl⟩ := List.mem_map.1 hx
    exact line_no _ _ 10 (by decide) (by decide) (by decide) (eWord_no e.full).2
theorem textE_join (l : List Sp.Ecl) : textE l = Lib.join (tabE l ++ [endL (checkE (tabE l)), []]) [10] := by
  unfold textE
  have e : ∃ x r, tabE l = x :: r := ⟨_, _, rfl⟩
  obtain ⟨x, r, e⟩ := e
  rw [e, List.cons_append, Lib.join_cons, Lib.join_cons, joinTail_app]
  simp [Lib.joinTail]
theorem sp1_textE (l : List Sp.Ecl) : sp1 10 (textE l) = tabE l ++ [endL (checkE (tabE l)), []] := by
  rw [textE_join]
  refine sp1_join 10 _ (by simp) fun x hx => ?_
  rcases List.mem_append.1 hx with hx | hx
  · exact tabE_no l x hx
  · simp only [List.mem_cons, List.not_mem_nil, or_false] at hx
    rcases hx with rfl | rfl
    · exact endL_no _
    · simp
theorem tabE_length (l : List Sp.Ecl) : (tabE l).length = l.length + 1 := by simp [tabE]
theorem midE_text (l : List Sp.Ecl) : midE (textE l) = l.map eLine := by
  unfold midE
  rw [sp1_textE]
  have e : (tabE l ++ [endL (checkE (tabE l)), []]).drop 1 = l.map eLine ++ [endL (checkE (tabE l)), []] := by simp [tabE]
  rw [e]
  exact List.take_left' (by simp [tabE])
theorem mapM_lines {f : Bs → Option Sp.Ecl} {l : List Sp.Ecl} (h : ∀ e ∈ l, f (eLine e) = some e) : (l.map eLine).mapM f = some l := by
  rw [mapM_some, List.map_map]
  exact List.map_congr_left fun e he => h e he
theorem parse_textE (l : List Sp.Ecl) (h : EclNum l) : parseE (textE l) = some l := by
  unfold parseE
  rw [midE_text, sp1_textE, if_neg (by simp [tabE]), mapM_lines fun e he => eclP_line (h.day e he) (h.far e he)]
  simp
theorem parse_someE {s : Bs} {l : List Sp.Ecl} (h : parseE s = some l) : textE l = s ∧ EclNum l := by
  unfold parseE at h
  split at h
  · cases h
  · cases hm : (midE s).mapM eclP with
    | none => rw [hm] at h; cases h
    | some r =>
      rw [hm] at h
      simp only [Option.bind_some] at h
      split at h
      · rename_i ht
        obtain rfl := Option.some.inj h
        exact ⟨ht, fun e he => by obtain ⟨a, _, ha⟩ := mapM_mem hm e he; exact (eclP_num ha).1, fun e he => by obtain ⟨a, _, ha⟩ := mapM_mem hm e he; exact (eclP_num ha).2⟩
      · cases h
theorem parse_iffE (s : Bs) (l : List Sp.Ecl) : parseE s = some l ↔ textE l = s ∧ EclNum l :=
  ⟨parse_someE, fun ⟨e, h⟩ => by rw [← e]; exact parse_textE l h⟩
def before (a b : Sp.Ecl) : Bool := decide (a.day < b.day) || (decide (a.day = b.day) && (!a.full && b.full))
end Ec
end Go.Proofs.YtcbodpnmndbgnaaGreatDoor
namespace Go.Proofs.YtcbodpnmndbgnaaGreatDoor
open Go.RowKit
open Sp (rd)
theorem r_in_any (x lo hi : Int) (w : World) : Calls Tryz.prog 101 #[.int .i64 x, .int .i64 lo, .int .i64 hi] w fun e w' => e = .returned (.bool (Sp.inR x lo hi)) ∧ w = w' := by
  go_enter Tryz.func101, Tryz.ntmps101
  go_wp2
  all_goals
    go_ret
    exact ⟨ret_bool (by simp [Sp.inR, *] <;> omega), rfl⟩
theorem r_Spot_any (n : Int) (w : World) : Calls Tryz.prog 79 #[.int .i64 n] w fun e w' => e = .returned (.bool (Sp.spot n)) ∧ w = w' := by
  go_enter Tryz.func79, Tryz.ntmps79
  go_wp2_with (go_at_call 101; refine (r_in_any _ _ _ _).mono ?_; rintro e w' ⟨rfl, rfl⟩)
  go_ret
  exact ⟨rfl, rfl⟩
theorem r_Limit_any (n : Int) (w : World) : Calls Tryz.prog 45 #[.int .i64 n] w fun e w' => e = .returned (.bool (Sp.isLimit n)) ∧ w = w' := by
  go_enter Tryz.func45, Tryz.ntmps45
  go_wp2_with (go_at_call 101; refine (r_in_any _ _ _ _).mono ?_; rintro e w' ⟨rfl, rfl⟩)
  go_ret
  exact ⟨rfl, rfl⟩
theorem r_period_any (num den : Int) (w : World) : Calls Tryz.prog 112 #[.agg #[.int .i64 num, .int .i64 den]] w fun e w' => e = .returned (.bool (Sp.period num den)) ∧ Ext w w' := by
  by_cases hn : 1 ≤ num ∧ num ≤ 10000
  · obtain ⟨n1, n2⟩ := hn
    have hn' : Sp.inR num 1 10000 = true := inR_iff.2 ⟨n1, n2⟩
    by_cases hd : 1 ≤ den ∧ den ≤ 10000
    · obtain ⟨d1, d2⟩ := hd
      have hd' : Sp.inR den 1 10000 = true := inR_iff.2 ⟨d1, d2⟩
      go_enter Tryz.func112, Tryz.ntmps112
      go_wp2_with (go_at_call 101; refine (r_in_any _ _ _ _).mono ?_; rintro e w' ⟨rfl, rfl⟩)
      all_goals
        go_ret
        exact ⟨ret_bool (by simp_all [Sp.period]), (Ext.refl _).alloc _⟩
    · have hd' : Sp.inR den 1 10000 = false := inR_no.2 hd
      clear hd
      go_enter Tryz.func112, Tryz.ntmps112
      go_wp2_with (go_at_call 101; refine (r_in_any _ _ _ _).mono ?_; rintro e w' ⟨rfl, rfl⟩)
      all_goals
        go_ret
        exact ⟨ret_bool (by simp_all [Sp.period]), (Ext.refl _).alloc _⟩
  · have hn' : Sp.inR num 1 10000 = false := inR_no.2 hn
    clear hn
    go_enter Tryz.func112, Tryz.ntmps112
    go_wp2_with (go_at_call 101; refine (r_in_any _ _ _ _).mono ?_; rintro e w' ⟨rfl, rfl⟩)
    all_goals
      go_ret
      exact ⟨ret_bool (by simp_all [Sp.period]), (Ext.refl _).alloc _⟩
/-- The quotient is rounded down. -/
theorem r_down_any (a b : Int) (w : World) (hb : 1 ≤ b) (h1 : -4000000000000000000 ≤ a) (h2 : a ≤ 4000000000000000000) (h3 : b ≤ 4000000000000000000) :
    Calls Tryz.prog 134 #[.int .i64 a, .int .i64 b] w fun e w' => e = .returned (.int .i64 (a / b)) ∧ w = w' := by
  have hm := emod_bounds a b hb
  have hd := Int.mul_ediv_add_emod a b
  by_cases h0 : 0 ≤ a
  · have hq : a.tdiv b = a / b := Int.tdiv_eq_ediv_of_nonneg h0
    have q0 : 0 ≤ a / b := Int.ediv_nonneg h0 (by omega)
    have q1 : a / b ≤ a := Int.ediv_le_self b h0
    rw [Int.mul_comm] at hd
    go_enter Tryz.func134, Tryz.ntmps134
    go_wp2
    go_ret
    exact ⟨rfl, rfl⟩
  · have hm2 := tmod_bounds a b hb (by omega)
    have hq := tdiv_bounds a b hb (by omega)
    have h5 := Int.mul_tdiv_add_tmod a b
    rw [Int.mul_comm] at h5
    by_cases hr : a.tmod b < 0
    · have F := Lib.hid (tdiv_neg a b hb (by omega) hr)
      go_enter Tryz.func134, Tryz.ntmps134
      go_wp2
      go_ret
      exact ⟨ret_int F.out.1, rfl⟩
    · have F := Lib.hid (tdiv_zero a b hb (by omega) (by omega))
      go_enter Tryz.func134, Tryz.ntmps134
      go_wp2
      go_ret
      exact ⟨ret_int F.out.1, rfl⟩
theorem r_Less_any (a : Int) (w : World) (h1 : -4000000000000000000 ≤ a) (h2 : a ≤ 4000000000000000000) : Calls Tryz.prog 80 #[.int .i64 a] w fun e w' => e = .returned (.int .i64 (a % 21600)) ∧ w = w' := by
  go_enter Tryz.func80, Tryz.ntmps80
  go_wp2_with (go_at_call 134; refine (r_down_any _ _ _ (by omega) (by omega) (by omega) (by omega)).mono ?_; rintro e w' ⟨rfl, rfl⟩)
  go_ret
  exact ⟨ret_int (by omega), rfl⟩
theorem r_passed_any (a b : Int) (w : World) (h1 : -4000000000000000000 ≤ a) (h2 : a ≤ 4000000000000000000) (h3 : -4000000000000000000 ≤ b) (h4 : b ≤ 4000000000000000000) : Calls Tryz.prog 210 #[.int .i64 a, .int .i64 b] w fun e w' => e = .returned (.bool (Sp.passes a b)) ∧ w = w' := by
  go_enter Tryz.func210, Tryz.ntmps210
  go_wp2_with (go_at_call 134; refine (r_down_any _ _ _ (by omega) (by omega) (by omega) (by omega)).mono ?_; rintro e w' ⟨rfl, rfl⟩)
  go_ret
  exact ⟨ret_bool (by simp [Sp.passes]), rfl⟩
end Go.Proofs.YtcbodpnmndbgnaaGreatDoor
namespace Go.Proofs.YtcbodpnmndbgnaaGreatDoor
open Go.RowKit
open Sp (rd)
theorem r_mean_any (B : Sp.Body) (A : Option Addr) (n c : Nat) (day : Int) (w : World) (h1 : 0 ≤ day) (h2 : day ≤ 20000) (hk : BodyOk B) :
    Calls Tryz.prog 142 #[.agg #[.int .i64 B.num, .int .i64 B.den, .int .i64 B.start, .slice A n c], .int .i64 day] w fun e w' => e = .returned (.int .i64 (Sp.mean B day)) ∧ Ext w w' := by
  have hg := gone_bounds h1 h2 hk.num1 hk.den1 hk.four
  obtain ⟨k1, k2, k3, k4, k5, k6, k7, _, _, _⟩ := hk
  have k0 : 0 ≤ day * 21600 * B.den := Int.mul_nonneg (by omega) (by omega)
  have k9 : day * 21600 * B.den ≤ 432000000 * 10000 := Int.mul_le_mul (by omega) (by omega) (by omega) (by omega)
  have hq : (day * 21600 * B.den).tdiv B.num = Sp.gone B.num B.den day := Int.tdiv_eq_ediv_of_nonneg k0
  go_enter Tryz.func142, Tryz.ntmps142
  go_wp2_with fail
  go_quiet (fail)
  go_wp2_with fail
  go_ret
  exact ⟨rfl, ((Ext.refl _).alloc _).drewN _⟩
theorem r_Mean_any (B : Sp.Body) (A : Option Addr) (n c : Nat) (day : Int) (w : World) (h1 : 0 ≤ day) (h2 : day ≤ 20000) (hk : BodyOk B) :
    Calls Tryz.prog 104 #[.agg #[.int .i64 B.num, .int .i64 B.den, .int .i64 B.start, .slice A n c], .int .i64 day] w fun e w' => e = .returned (.int .i64 (Sp.mean B day % 21600)) ∧ Ext w w' := by
  have hm := mean_bounds hk h1 h2
  go_enter Tryz.func104, Tryz.ntmps104
  go_wp2_with fail
  refine (r_mean_any B A n c day _ h1 h2 hk).mono ?_
  rintro e w1 ⟨rfl, hE⟩
  go_wp2_with fail
  refine (r_Less_any _ _ (by omega) (by omega)).mono ?_
  rintro e w2 ⟨rfl, rfl⟩
  go_wp2_with fail
  go_ret
  exact ⟨rfl, ((Ext.refl _).alloc _).trans hE⟩
set_option maxRecDepth 100000 in
theorem r_way_any (B : Sp.Body) (A : Option Addr) (c : Nat) (day : Int) (w : World) (h1 : 0 ≤ day) (h2 : day ≤ 20000) (hk : BodyOk B) (hI : Ints w A B.road) :
    Calls Tryz.prog 212 #[.agg #[.int .i64 B.num, .int .i64 B.den, .int .i64 B.start, .slice A B.road.length c], .int .i64 day] w fun e w' => e = .returned (.int .i64 (Sp.way B day)) ∧ Ext w w' := by
  have HK := Lib.hid hk
  have hm := mean_bounds hk h1 h2
  obtain ⟨_, _, _, _, _, _, _, l1, l2, hro⟩ := hk
  obtain ⟨rb, ro, rfl, hcell⟩ := hI (by omega)
  obtain ⟨st, rs, nx, e1, hrs, hst, hnx, e2, e3, e4, e5⟩ := step_of (m := Sp.mean B day) l1
  have c1 := hcell st hst
  have c2 := hcell nx hnx
  have b1 := rd_bounds hro st
  have b2 := rd_bounds hro nx
  have kk := mul_bounds (a := rd B.road nx - rd B.road st) (b := rs) (A := 1200) (B := 21600) (by omega) (by omega) (by omega) (by omega)
  have fin : Sp.way B day = Sp.mean B day + rd B.road st + (rd B.road nx - rd B.road st) * (rs : Int) / 21600 := by
    unfold Sp.way Sp.errOf
    dsimp only
    rw [e4, e5, ← e3]
    omega
  rw [fin]
  have E1 := Lib.hid e1
  have hm2 := emod_bounds (Sp.mean B day) 21600 (by omega)
  have hl : 0 ≤ Sp.mean B day % 21600 * (B.road.length : Int) ∧ Sp.mean B day % 21600 * (B.road.length : Int) ≤ 172800 := by
    have := E1.out
    omega
  have f1 : (Sp.mean B day % 21600 * (B.road.length : Int)).tdiv 21600 = (st : Int) := by rw [e1, Int.tdiv_eq_ediv_of_nonneg (by omega)]; omega
  have f2 : (Sp.mean B day % 21600 * (B.road.length : Int)).tmod 21600 = (rs : Int) := by rw [e1, Int.tmod_eq_emod_of_nonneg (by omega)]; omega
  have f3 : ((st : Int) + 1).tmod (B.road.length : Int) = (nx : Int) := by rw [Int.tmod_eq_emod_of_nonneg (by omega)]; exact e2
  clear e1 e3 e4 e5 fin hcell
  generalize rd B.road st = p at *
  generalize rd B.road nx = q at *
  have hb' := lts (lt_of_cell c1)
  simp only at hb'
  go_enter Tryz.func212, Tryz.ntmps212
  go_wp2_with fail
  refine wp_region_later (by kernel_rfl) (by kernel_rfl) (fun W hW => ?_)
  have hR : Row W w.heap.size 46 #[.int .i64 B.num, .int .i64 B.den, .int .i64 B.start, .slice (some ⟨rb, ro, none⟩) B.road.length c] := by rw [hW]; exact blocks1 _ _
  have q1 := Later.block (w := W) hR
  have hE0 : Ext w W := by rw [hW]; exact (Ext.refl _).alloc _
  clear hW hb'
  repeat (go_big_quiet_step ((go_at_call 104; exact Later.call (r_Mean_any B _ _ _ _ _ (by omega) (by omega) HK.out))))
  refine wpQuiet_nil ?_
  rintro ⟨W1, hE⟩
  have hE1 := hE0.trans hE
  replace hR := hR.ext hE
  go_wp2_with fail
  clear hE hE0 q1
  refine wp_region_later (by kernel_rfl) (by kernel_rfl) (fun W hW => ?_)
  subst hW
  have q1 := Later.block (w := W) hR
  have x1 := fun X : Later W => (hE1.trans X.ext).cell c1
  have x2 := fun X : Later W => (hE1.trans X.ext).cell c2
  repeat (go_big_quiet_step (fail))
  refine wpQuiet_nil ?_
  rintro ⟨W2, hE⟩
  replace hE1 := hE1.trans hE
  replace hR := hR.ext hE
  go_wp2_with fail
  clear hE q1 x1 x2
  refine wp_region_later (by kernel_rfl) (by kernel_rfl) (fun W hW => ?_)
  subst hW
  have q1 := Later.block (w := W) hR
  have x1 := fun X : Later W => (hE1.trans X.ext).cell c1
  have x2 := fun X : Later W => (hE1.trans X.ext).cell c2
  clear c1 c2
  repeat (go_big_quiet_step ((first | (go_at_call 142; exact Later.call (r_mean_any B _ _ _ _ _ (by omega) (by omega) HK.out)) | (go_at_call 134; exact Later.call ((r_down_any _ _ _ (by omega) (by omega) (by omega) (by omega)).mono fun _ _ h => ⟨h.1, Ext.rfl_of h.2⟩)))))
  refine wpQuiet_nil ?_
  rintro ⟨W3, hE⟩
  replace hE1 := hE1.trans hE
  go_wp2_with fail
  go_ret
  exact ⟨rfl, hE1⟩
theorem way_lim {B : Sp.Body} (hk : BodyOk B) {day : Int} (h1 : 0 ≤ day) (h2 : day ≤ 20000) : -2000 ≤ Sp.way B day ∧ Sp.way B day ≤ 109000000 := by
  have := way_bounds hk h1 h2
  omega
theorem r_Place_any (B : Sp.Body) (A : Option Addr) (c : Nat) (day : Int) (w : World) (h1 : 0 ≤ day) (h2 : day ≤ 20000) (hk : BodyOk B) (hI : Ints w A B.road) :
    Calls Tryz.prog 189 #[.agg #[.int .i64 B.num, .int .i64 B.den, .int .i64 B.start, .slice A B.road.length c], .int .i64 day] w fun e w' => e = .returned (.int .i64 (Sp.place B day)) ∧ Ext w w' := by
  have hm := way_lim hk h1 h2
  have HI := Lib.hid hI
  clear hI
  go_enter Tryz.func189, Tryz.ntmps189
  go_wp2_with fail
  refine (r_way_any B A c day _ h1 h2 hk (by exact HI.out.ext ((Ext.refl _).alloc _))).mono ?_
  rintro e w1 ⟨rfl, hE⟩
  go_wp2_with fail
  refine (r_Less_any _ _ (by omega) (by omega)).mono ?_
  rintro e w2 ⟨rfl, rfl⟩
  go_wp2_with fail
  go_ret
  exact ⟨rfl, ((Ext.refl _).alloc _).trans hE⟩
theorem r_Node_any (s : Sp.Sky) (day : Int) (w : World) (hs : SkyOk s) (h2 : 0 ≤ day) (h3 : day ≤ 20000) :
    Calls Tryz.prog 105 #[.agg #[.int .i64 s.nnum, .int .i64 s.nden, .int .i64 s.nstart], .int .i64 day] w fun e w' => e = .returned (.int .i64 (Sp.node s day)) ∧ Ext w w' := by
  have hg := node_bounds hs h2 h3
  obtain ⟨_, _, k1, k2, k3, k4, k5, k6, k7, _⟩ := hs
  have k0 : 0 ≤ day * 21600 * s.nden := Int.mul_nonneg (by omega) (by omega)
  have k9 : day * 21600 * s.nden ≤ 432000000 * 10000 := Int.mul_le_mul (by omega) (by omega) (by omega) (by omega)
  have hq : (day * 21600 * s.nden).tdiv s.nnum = Sp.gone s.nnum s.nden day := Int.tdiv_eq_ediv_of_nonneg k0
  go_enter Tryz.func105, Tryz.ntmps105
  go_wp2_with fail
  refine wp_region_later (by kernel_rfl) (by kernel_rfl) (fun W hW => ?_)
  have q1 := Later.block (w := W) (by rw [hW]; exact blocks1 _ _)
  have hE0 : Ext w W := by rw [hW]; exact (Ext.refl _).alloc _
  clear hW
  repeat (go_big_quiet_step ((go_at_call 80; exact Later.call ((r_Less_any _ _ (by omega) (by omega)).mono fun _ _ h => ⟨h.1, Ext.rfl_of h.2⟩))))
  refine wpQuiet_nil ?_
  rintro ⟨W3, hE⟩
  go_wp2_with fail
  go_ret
  exact ⟨rfl, hE0.trans hE⟩
end Go.Proofs.YtcbodpnmndbgnaaGreatDoor
namespace Go.Proofs.YtcbodpnmndbgnaaGreatDoor
open Go.RowKit
open Sp (rd)
set_option maxRecDepth 100000 in
theorem r_ahead_nat (s : Sp.Sky) (A : Option Addr) (c i j : Nat) (x y z day : Int) (w : World) (hs : SkyOk s) (hm : Bodies w A s.bodies) (hi : i < s.bodies.length) (hj : j < s.bodies.length) (h2 : 0 ≤ day) (h3 : day ≤ 20000) :
    Calls Tryz.prog 211 #[.agg #[.slice A s.bodies.length c, .int .i64 x, .int .i64 y, .int .i64 z], .int .i64 (i : Int), .int .i64 (j : Int), .int .i64 day] w fun e w' => e = .returned (.int .i64 (Sp.ahead s (i : Int) (j : Int) day)) ∧ Ext w w' := by
  have hn := hs.n4
  obtain ⟨b, o, rfl, hB⟩ := hm (by omega)
  have B1 := hB i hi
  have B2 := hB j hj
  have K1 := Lib.hid (hs.all i hi)
  have K2 := Lib.hid (hs.all j hj)
  have l1 := way_lim K1.out h2 h3
  have l2 := way_lim K2.out h2 h3
  show Calls Tryz.prog 211 #[.agg #[.slice (some ⟨b, o, none⟩) s.bodies.length c, .int .i64 x, .int .i64 y, .int .i64 z], .int .i64 (i : Int), .int .i64 (j : Int), .int .i64 day] w fun e w' => e = .returned (.int .i64 (Sp.way (bd s.bodies i) day - Sp.way (bd s.bodies j) day)) ∧ Ext w w'
  clear hB hm hs
  generalize bd s.bodies i = P at *
  generalize bd s.bodies j = Q at *
  obtain ⟨A1, r1, hr1, I1⟩ := B1.road
  obtain ⟨A2, r2, hr2, I2⟩ := B2.road
  have HI1 := Lib.hid I1
  have HI2 := Lib.hid I2
  have n1 := B1.num
  have d1 := B1.den
  have s1 := B1.start
  have n2 := B2.num
  have d2 := B2.den
  have s2 := B2.start
  clear I1 I2 B1 B2
  have hi' : (0 : Int) ≤ (i : Int) ∧ (i : Int) < (s.bodies.length : Int) := by omega
  have hj' : (0 : Int) ≤ (j : Int) ∧ (j : Int) < (s.bodies.length : Int) := by omega
  go_enter Tryz.func211, Tryz.ntmps211
  go_wp2_with fail
  refine wp_region_later (by kernel_rfl) (by kernel_rfl) (fun W hW => ?_)
  have q1 := Later.block (w := W) (by rw [hW]; exact blocks1 _ _)
  have hE0 : Ext w W := by rw [hW]; exact (Ext.refl _).alloc _
  clear hW
  have a1 := fun X : Later W => (hE0.trans X.ext).cell n1
  have a2 := fun X : Later W => (hE0.trans X.ext).cell d1
  have a3 := fun X : Later W => (hE0.trans X.ext).cell s1
  have a4 := fun X : Later W => (hE0.trans X.ext).cell hr1
  have b1 := fun X : Later W => (hE0.trans X.ext).cell n2
  have b2 := fun X : Later W => (hE0.trans X.ext).cell d2
  have b3 := fun X : Later W => (hE0.trans X.ext).cell s2
  have b4 := fun X : Later W => (hE0.trans X.ext).cell hr2
  have J1 := Lib.hid (fun X : Later W => HI1.out.ext (hE0.trans X.ext))
  have J2 := Lib.hid (fun X : Later W => HI2.out.ext (hE0.trans X.ext))
  clear n1 d1 s1 hr1 n2 d2 s2 hr2
  repeat (go_big_quiet_step (fail))
  go_big_quiet_step ((go_at_call 212; exact Later.call (r_way_any P _ _ _ _ (by omega) (by omega) K1.out (by exact J1.out _))))
  repeat (go_big_quiet_step (fail))
  go_big_quiet_step ((go_at_call 212; exact Later.call (r_way_any Q _ _ _ _ (by omega) (by omega) K2.out (by exact J2.out _))))
  repeat (go_big_quiet_step (fail))
  refine wpQuiet_nil ?_
  rintro ⟨W3, hE⟩
  go_wp2_with fail
  go_ret
  exact ⟨rfl, hE0.trans hE⟩
theorem r_ahead_any (s : Sp.Sky) (A : Option Addr) (c : Nat) (x y z day i j : Int) (w : World) (hs : SkyOk s) (hm : Bodies w A s.bodies) (h0 : 0 ≤ i) (h1 : i < s.bodies.length) (h4 : 0 ≤ j) (h5 : j < s.bodies.length) (h2 : 0 ≤ day) (h3 : day ≤ 20000) :
    Calls Tryz.prog 211 #[.agg #[.slice A s.bodies.length c, .int .i64 x, .int .i64 y, .int .i64 z], .int .i64 i, .int .i64 j, .int .i64 day] w fun e w' => e = .returned (.int .i64 (Sp.ahead s i j day)) ∧ Ext w w' := by
  obtain ⟨a, rfl⟩ := Int.eq_ofNat_of_zero_le h0
  obtain ⟨b, rfl⟩ := Int.eq_ofNat_of_zero_le h4
  exact r_ahead_nat s A c a b x y z day w hs hm (by omega) (by omega) h2 h3
theorem ahead_lim {s : Sp.Sky} (hs : SkyOk s) {i j day : Int} (h0 : 0 ≤ i) (h1 : i < s.bodies.length) (h4 : 0 ≤ j) (h5 : j < s.bodies.length) (h2 : 0 ≤ day) (h3 : day ≤ 20000) :
    -200000000 ≤ Sp.ahead s i j day ∧ Sp.ahead s i j day ≤ 200000000 := by
  have a := way_sky_bounds hs h0 h1 h2 h3
  have b := way_sky_bounds hs h4 h5 h2 h3
  unfold Sp.ahead
  omega
theorem r_Moon_any (s : Sp.Sky) (A : Option Addr) (c : Nat) (x y z day : Int) (full : Bool) (w : World) (hs : SkyOk s) (hm : Bodies w A s.bodies) (h2 : 1 ≤ day) (h3 : day ≤ 20000) :
    Calls Tryz.prog 188 #[.agg #[.slice A s.bodies.length c, .int .i64 x, .int .i64 y, .int .i64 z], .int .i64 day, .bool full] w fun e w' => e = .returned (.bool (Sp.moonB s day full)) ∧ Ext w w' := by
  have n2 := hs.n2
  have l1 := ahead_lim hs (i := 1) (j := 0) (day := day) (by omega) (by omega) (by omega) (by omega) (by omega) h3
  have l2 := ahead_lim hs (i := 1) (j := 0) (day := day - 1) (by omega) (by omega) (by omega) (by omega) (by omega) (by omega)
  have HM := Lib.hid hm
  have HS := Lib.hid hs
  clear hm hs
  cases full
  all_goals
    go_enter Tryz.func188, Tryz.ntmps188
    go_wp2_with fail
    refine wp_region_later (by kernel_rfl) (by kernel_rfl) (fun W hW => ?_)
    have q1 := Later.block (w := W) (by rw [hW]; exact blocks1 _ _)
    have hE0 : Ext w W := by rw [hW]; exact (Ext.refl _).alloc _
    clear hW
    have HB := Lib.hid (fun X : Later W => HM.out.ext (hE0.trans X.ext))
    repeat (go_big_quiet_step (fail))
    go_big_quiet_step ((go_at_call 211; exact Later.call (r_ahead_any s A c _ _ _ _ _ _ _ HS.out (by exact HB.out _) (by omega) (by omega) (by omega) (by omega) (by omega) (by omega))))
    repeat (go_big_quiet_step (fail))
    go_big_quiet_step ((go_at_call 211; exact Later.call (r_ahead_any s A c _ _ _ _ _ _ _ HS.out (by exact HB.out _) (by omega) (by omega) (by omega) (by omega) (by omega) (by omega))))
    repeat (go_big_quiet_step (fail))
    go_big_quiet_step ((go_at_call 210; exact Later.call ((r_passed_any _ _ _ (by omega) (by omega) (by omega) (by omega)).mono fun _ _ h => ⟨h.1, Ext.rfl_of h.2⟩)))
    repeat (go_big_quiet_step (fail))
    refine wpQuiet_nil ?_
    rintro ⟨W3, hE⟩
    go_wp2_with fail
    go_ret
    exact ⟨ret_bool (by simp [Sp.moonB, Sp.halfOf]), hE0.trans hE⟩
theorem r_Far_any (s : Sp.Sky) (A : Option Addr) (c : Nat) (day : Int) (w : World) (hs : SkyOk s) (hm : Bodies w A s.bodies) (h2 : 0 ≤ day) (h3 : day ≤ 20000) :
    Calls Tryz.prog 167 #[.agg #[.slice A s.bodies.length c, .int .i64 s.nnum, .int .i64 s.nden, .int .i64 s.nstart], .int .i64 day] w fun e w' => e = .returned (.int .i64 (Sp.far s day)) ∧ Ext w w' := by
  have n2 := hs.n2
  have hnode : 0 ≤ Sp.node s day ∧ Sp.node s day < 21600 := emod_bounds (s.nstart - Sp.gone s.nnum s.nden day) 21600 (by omega)
  have HS := Lib.hid hs
  obtain ⟨b, o, rfl, hB⟩ := hm (by omega)
  have B1 := hB 1 (by omega)
  have K1 := Lib.hid (hs.all 1 (by omega))
  have l1 := way_lim K1.out h2 h3
  have hpl : 0 ≤ Sp.place (bd s.bodies 1) day ∧ Sp.place (bd s.bodies 1) day < 21600 := emod_bounds (Sp.way (bd s.bodies 1) day) 21600 (by omega)
  have hfar : Sp.far s day = min ((Sp.place (bd s.bodies 1) day - Sp.node s day) % 21600 % 10800) (10800 - (Sp.place (bd s.bodies 1) day - Sp.node s day) % 21600 % 10800) := by
    have e1 : (Sp.place (bd s.bodies 1) day - Sp.node s day) % 21600 % 10800 = (Sp.way (Sp.body s 1) day - Sp.node s day) % 10800 := by
      show (Sp.way (bd s.bodies 1) day % 21600 - Sp.node s day) % 21600 % 10800 = (Sp.way (bd s.bodies 1) day - Sp.node s day) % 10800
      omega
    rw [e1]
    rfl
  rw [hfar]
  have hr := emod_bounds ((Sp.place (bd s.bodies 1) day - Sp.node s day) % 21600) 10800 (by omega)
  have hr2 := emod_bounds (Sp.place (bd s.bodies 1) day - Sp.node s day) 21600 (by omega)
  have ht : ((Sp.place (bd s.bodies 1) day - Sp.node s day) % 21600).tmod 10800 = (Sp.place (bd s.bodies 1) day - Sp.node s day) % 21600 % 10800 := Int.tmod_eq_emod_of_nonneg hr2.1
  clear hB hm hs hfar
  generalize bd s.bodies 1 = P at *
  obtain ⟨A1, r1, hr1, I1⟩ := B1.road
  have HI1 := Lib.hid I1
  have n1 := B1.num
  have d1 := B1.den
  have s1 := B1.start
  clear I1 B1
  go_enter Tryz.func167, Tryz.ntmps167
  go_wp2_with fail
  refine wp_region_later (by kernel_rfl) (by kernel_rfl) (fun W hW => ?_)
  have q1 := Later.block (w := W) (by rw [hW]; exact blocks1 _ _)
  have hE0 : Ext w W := by rw [hW]; exact (Ext.refl _).alloc _
  clear hW
  have a1 := fun X : Later W => (hE0.trans X.ext).cell n1
  have a2 := fun X : Later W => (hE0.trans X.ext).cell d1
  have a3 := fun X : Later W => (hE0.trans X.ext).cell s1
  have a4 := fun X : Later W => (hE0.trans X.ext).cell hr1
  have J1 := Lib.hid (fun X : Later W => HI1.out.ext (hE0.trans X.ext))
  clear n1 d1 s1 hr1
  repeat (go_big_quiet_step (fail))
  go_big_quiet_step ((go_at_call 189; exact Later.call (r_Place_any P _ _ _ _ (by omega) (by omega) K1.out (by exact J1.out _))))
  repeat (go_big_quiet_step (fail))
  go_big_quiet_step ((go_at_call 105; exact Later.call (r_Node_any s _ _ HS.out (by omega) (by omega))))
  repeat (go_big_quiet_step (fail))
  go_big_quiet_step ((go_at_call 80; exact Later.call ((r_Less_any _ _ (by omega) (by omega)).mono fun _ _ h => ⟨h.1, Ext.rfl_of h.2⟩)))
  repeat (go_big_quiet_step (fail))
  refine wpQuiet_nil ?_
  rintro ⟨W3, hE⟩
  go_wp2_with fail
  all_goals
    go_ret
    exact ⟨ret_int (by omega), hE0.trans hE⟩
end Go.Proofs.YtcbodpnmndbgnaaGreatDoor
namespace Go.Proofs.YtcbodpnmndbgnaaGreatDoor
open Go.RowKit
open Sp (rd)
/-- Behind k days. -/
def RMoonsRel (w : World) (s : Sp.Sky) (lo : Int) (N : Nat) (v d : Value) (wr : World) : Prop :=
  ∃ k : Nat, k ≤ N ∧ d = .int .i64 (lo + (k : Int)) ∧ wr.ownsRow w.heap.size 134 2 v (Sp.moonsN s lo k).length (moonCells (Sp.moonsN s lo k)) ∧ Ext w wr
set_option maxRecDepth 100000 in
set_option maxHeartbeats 1000000 in
theorem r_Moons_any (s : Sp.Sky) (A : Option Addr) (c : Nat) (x y z lo hi : Int) (w : World) (hs : SkyOk s) (hm : Bodies w A s.bodies) (h1 : 1 ≤ lo) (h2 : lo ≤ hi) (h3 : hi ≤ 20000) :
    Calls Tryz.prog 166 #[.agg #[.slice A s.bodies.length c, .int .i64 x, .int .i64 y, .int .i64 z], .int .i64 lo, .int .i64 hi] w fun e w' => ∃ v, e = .returned v ∧ MoonsVal w' v (Sp.moonsL s lo hi) ∧ Ext w w' := by
  have HM := Lib.hid hm
  have HS := Lib.hid hs
  clear hm hs
  obtain ⟨i0, hi0, hi1, hi2, hi3⟩ := info_parts info_moon
  obtain ⟨N, hN⟩ : ∃ N : Nat, hi + 1 - lo = (N : Int) := ⟨(hi + 1 - lo).toNat, by omega⟩
  have hML : Sp.moonsL s lo hi = Sp.moonsN s lo N := by unfold Sp.moonsL; rw [hN]; rfl
  rw [hML]
  clear hML
  go_enter Tryz.func166, Tryz.ntmps166
  go_wp2_with fail
  have hr0 := Row.new w 28 #[.slice A s.bodies.length c, .int .i64 x, .int .i64 y, .int .i64 z]
  have hE0 : Ext w (w.alloc (.cells #[.slice A s.bodies.length c, .int .i64 x, .int .i64 y, .int .i64 z] 28)) := (Ext.refl w).alloc _
  generalize w.alloc (.cells #[.slice A s.bodies.length c, .int .i64 x, .int .i64 y, .int .i64 z] 28) = w1 at *
  go_loopw [7, 8] (fun v d wr => RMoonsRel w1 s lo N v d wr) (fun _ d _ => (hi + 1 - intOf d).toNat)
  case atStart => exact ⟨0, Nat.zero_le _, by go_num, World.ownsRow_nil _ _ _ _, Ext.refl _⟩
  case round =>
    obtain ⟨k, hk, rfl, hown, hE⟩ := hrel
    have b0 := (hr0.ext hE).cell
    have HE := Lib.hid hE
    have hz := hE.size
    have hle := moonsN_le s lo k
    by_cases hlt : k < N
    · have HO := Lib.hid hown
      obtain ⟨L, hL⟩ : ∃ L, Sp.moonsN s lo k = L := ⟨_, rfl⟩
      have HN : Hid (Sp.moonsN s lo (k + 1) = L ++ Sp.dayMoons s (lo + k)) := Lib.hid (by rw [← hL]; rfl)
      rw [hL] at HO hle
      clear hown hE hL
      go_wp2_with fail
      refine (r_Moon_any s A c x y z (lo + (k : Int)) false _ HS.out (HM.out.ext (hE0.trans HE.out)) (by omega) (by omega)).mono ?_
      rintro e w2 ⟨rfl, hE2⟩
      have hown2 := ownsRow_of_block HO.out (fun g hg => hE2.block g (HO.out.lt g hg).2)
      have b2 := (hr0.ext (HE.out.trans hE2)).cell
      have HE2 := Lib.hid (HE.out.trans hE2)
      have hz2 := hE2.size
      clear hE2 b0
      cases hb1 : Sp.moonB s (lo + (k : Int)) false <;> have HB1 := Lib.hid hb1 <;> clear hb1
      · go_wp2_with fail
        refine (r_Moon_any s A c x y z (lo + (k : Int)) true _ HS.out (HM.out.ext (hE0.trans HE2.out)) (by omega) (by omega)).mono ?_
        rintro e w4 ⟨rfl, hE4⟩
        have hown4 := ownsRow_of_block hown2 (fun g hg => hE4.block g ((hown2).lt g hg).2)
        have HE4 := Lib.hid (HE2.out.trans hE4)
        have HO4 := Lib.hid hown4
        have hz4 := hE4.size
        clear hE4
        cases hb2 : Sp.moonB s (lo + (k : Int)) true <;> have HB2 := Lib.hid hb2 <;> clear hb2
        · go_wp2_with fail
          refine ⟨⟨k + 1, by omega, by go_num, ?_, HE4.out⟩, by simp [intOf]; omega⟩
          rw [HN.out]
          simpa [Sp.dayMoons, HB1.out, HB2.out, moonCells_append, moonCells] using HO4.out
        · go_wp2_with (at_builtin; refine wpList_append_own_at _ rfl _ _ 131 rfl w1.heap.size 134 i0 _ 2 16 Tryz.underlying131 hi0 hi1 hi2 hi3 rfl (by decide) _ L.length (moonCells L) rfl (hown4.alloc (.cells #[.int .i64 (lo + (k : Int)), .bool true] 134)) ⟨w4.heap.size, 0, none⟩ 1 1 [.int .i64 (lo + (k : Int)), .bool true] rfl rfl (World.news_of_block (cs := #[.int .i64 (lo + (k : Int)), .bool true]) (t := 134) (fr := (0, 0)) (heap_alloc_new _ _)) (by simp [Value.oneCell']) (by simp only [maxLen]; omega) (by omega) (by simp; omega) ?_; intro v' w5 hown5 hgrow _ _; have HO5 := Lib.hid hown5; have HG5 := Lib.hid hgrow; clear hown5 hgrow)
          refine ⟨⟨k + 1, by omega, by go_num, ?_, (HE4.out.alloc _).grown HG5.out (fun q hq => (hown4.lt q hq).1)⟩, by simp [intOf]; omega⟩
          rw [HN.out]
          simpa [Sp.dayMoons, HB1.out, HB2.out, moonCells_append, moonCells] using HO5.out
      · go_wp2_with (at_builtin; refine wpList_append_own_at _ rfl _ _ 131 rfl w1.heap.size 134 i0 _ 2 16 Tryz.underlying131 hi0 hi1 hi2 hi3 rfl (by decide) _ L.length (moonCells L) rfl (hown2.alloc (.cells #[.int .i64 (lo + (k : Int)), .bool false] 134)) ⟨w2.heap.size, 0, none⟩ 1 1 [.int .i64 (lo + (k : Int)), .bool false] rfl rfl (World.news_of_block (cs := #[.int .i64 (lo + (k : Int)), .bool false]) (t := 134) (fr := (0, 0)) (heap_alloc_new _ _)) (by simp [Value.oneCell']) (by simp only [maxLen]; omega) (by omega) (by simp; omega) ?_; intro v' w3 hown3 hgrow _ _; have HO3 := Lib.hid hown3; have HE3 := Lib.hid ((HE2.out.alloc (.cells #[.int .i64 (lo + (k : Int)), .bool false] 134)).grown hgrow (fun q hq => (hown2.lt q hq).1)); have hz3 := HE3.out.size; have b3 := (hr0.ext HE3.out).cell; clear b2 hown3 hgrow)
        refine (r_Moon_any s A c x y z (lo + (k : Int)) true _ HS.out (HM.out.ext (hE0.trans HE3.out)) (by omega) (by omega)).mono ?_
        rintro e w4 ⟨rfl, hE4⟩
        have hown4 := ownsRow_of_block HO3.out (fun g hg => hE4.block g ((HO3.out).lt g hg).2)
        have HE4 := Lib.hid (HE3.out.trans hE4)
        have HO4 := Lib.hid hown4
        have hz4 := hE4.size
        clear hE4
        cases hb2 : Sp.moonB s (lo + (k : Int)) true <;> have HB2 := Lib.hid hb2 <;> clear hb2
        · go_wp2_with fail
          refine ⟨⟨k + 1, by omega, by go_num, ?_, HE4.out⟩, by simp [intOf]; omega⟩
          rw [HN.out]
          simpa [Sp.dayMoons, HB1.out, HB2.out, moonCells_append, moonCells] using HO4.out
        · go_wp2_with (at_builtin; refine wpList_append_own_at _ rfl _ _ 131 rfl w1.heap.size 134 i0 _ 2 16 Tryz.underlying131 hi0 hi1 hi2 hi3 rfl (by decide) _ (L.length + 1) (moonCells L ++ [Value.int .i64 (lo + (k : Int)), Value.bool false]) rfl (hown4.alloc (.cells #[.int .i64 (lo + (k : Int)), .bool true] 134)) ⟨w4.heap.size, 0, none⟩ 1 1 [.int .i64 (lo + (k : Int)), .bool true] rfl rfl (World.news_of_block (cs := #[.int .i64 (lo + (k : Int)), .bool true]) (t := 134) (fr := (0, 0)) (heap_alloc_new _ _)) (by simp [Value.oneCell']) (by simp only [maxLen]; omega) (by omega) (by simp; omega) ?_; intro v' w5 hown5 hgrow _ _; have HO5 := Lib.hid hown5; have HG5 := Lib.hid hgrow; clear hown5 hgrow)
          refine ⟨⟨k + 1, by omega, by go_num, ?_, (HE4.out.alloc _).grown HG5.out (fun q hq => (hown4.lt q hq).1)⟩, by simp [intOf]; omega⟩
          rw [HN.out]
          simpa [Sp.dayMoons, HB1.out, HB2.out, moonCells_append, moonCells] using HO5.out
    · obtain rfl : k = N := by omega
      have HO := Lib.hid hown
      clear hown hE b0
      go_wp2_with fail
      go_ret
      exact ⟨_, rfl, MoonsVal.of_own HO.out, hE0.trans HE.out⟩
end Go.Proofs.YtcbodpnmndbgnaaGreatDoor
namespace Go.Proofs.YtcbodpnmndbgnaaGreatDoor
open Sp (rd)
set_option linter.unusedSimpArgs false
set_option linter.unusedVariables false
namespace Ec
/-- By how many minutes a hand is off after some turns, times a denominator. -/
def offN (l : List Pair) (num den turns : Int) : Int := (turnsN l * den - num * turnsD l) * turns * 21600
def within (l : List Pair) (num den limit turns : Int) : Bool := decide (max (offN l num den turns) (-offN l num den turns) ≤ limit * (turnsD l * den))
def prevF (feasts set : List Int) (k : Nat) : Int := if k = 0 then 0 else feastOf feasts set (k - 1)
/-- Is a hand kept, from a setting on? -/
def keepsGo (l : List Pair) (num den limit : Int) (feasts set : List Int) (until_ : Int) (k : Nat) : Nat → Bool
  | 0 => within l num den limit (until_ - prevF feasts set k)
  | n + 1 => if feastOf feasts set k < until_ then within l num den limit (feastOf feasts set k - prevF feasts set k) && keepsGo l num den limit feasts set until_ (k + 1) n else within l num den limit (until_ - prevF feasts set k)
def keeps (l : List Pair) (num den limit : Int) (feasts set : List Int) (until_ : Int) : Bool := keepsGo l num den limit feasts set until_ 0 set.length
theorem rising_lt {l : List Int} {lo hi : Int} {n : Nat} (h : risingN l lo hi n = true) {i j : Nat} (hij : i < j) (hj : j < n) : rd l i < rd l j := by
  induction j with
  | zero => omega
  | succ j ih =>
    have h1 := (rising_at h (j + 1) hj).2 (by omega)
    simp only [Nat.add_sub_cancel] at h1
    rcases Nat.lt_or_ge i j with h2 | h2
    · have := ih h2 (by omega); omega
    · obtain rfl : i = j := by omega
      exact h1
theorem set_at {feasts set : List Int} (h : setOk feasts set = true) {k : Nat} (hk : k < set.length) : 0 ≤ rd set k ∧ (rd set k).toNat < feasts.length := by
  have := (rising_at h k hk).1
  omega
theorem feastOf_lt {feasts set : List Int} (hf : feastsOk feasts = true) (hs : setOk feasts set = true) {i j : Nat} (hij : i < j) (hj : j < set.length) : feastOf feasts set i < feastOf feasts set j := by
  simp only [feastsOk, Bool.and_eq_true] at hf
  have a := set_at hs (show i < set.length by omega)
  have b := set_at hs hj
  have c := rising_lt hs hij hj
  exact rising_lt hf.1 (show (rd set i).toNat < (rd set j).toNat by omega) b.2
theorem lastN_stop {feasts set : List Int} {turn : Int} {j n : Nat} (hjn : j ≤ n) (h : ∀ i, j ≤ i → i < n → turn < feastOf feasts set i) : lastN feasts set turn n = lastN feasts set turn j := by
  induction n with
  | zero => obtain rfl : j = 0 := by omega
            rfl
  | succ n ih =>
    rcases Nat.lt_or_ge n j with h1 | h1
    · obtain rfl : j = n + 1 := by omega
      rfl
    · rw [lastN, if_neg (by have := h n h1 (by omega); omega)]
      exact ih h1 (fun i a b => h i a (by omega))
theorem last_prev {feasts set : List Int} {turn : Int} {k : Nat} (h : ∀ i, i < k → feastOf feasts set i ≤ turn) : lastN feasts set turn k = prevF feasts set k := by
  cases k with
  | zero => rfl
  | succ k => rw [lastN, if_pos (h k (by omega))]; rfl
/-- By how much hands are off. -/
def sunOff (e : Engine) (set : List Int) (day : Int) : Int := near (sunAt e set day - Sp.mean (Sp.body e.sky 0) day % 21600)
def moonOff (e : Engine) (set : List Int) (day : Int) : Int := near (moonAt e set day - Sp.mean (Sp.body e.sky 1) day % 21600)
def nodeOff (e : Engine) (set : List Int) (day : Int) : Int := near (nodeAt e set day - Sp.node e.sky day)
end Ec
end Go.Proofs.YtcbodpnmndbgnaaGreatDoor
namespace Go.Proofs.YtcbodpnmndbgnaaGreatDoor
open Sp (rd)
set_option linter.unusedSimpArgs false
set_option linter.unusedVariables false
namespace Ec
/-- The least number of days, among k from n on. -/
def withinN (e : Engine) (set : List Int) (lo hi : Int) (n : Int) : Nat → Option Int
  | 0 => none
  | k + 1 => if (missedL e set lo hi n).length = 0 then some n else withinN e set lo hi (n + 1) k
def withinO (e : Engine) (set : List Int) (lo hi : Int) : Option Int := withinN e set lo hi 0 31
def noEcl : Sp.Ecl := ⟨0, false, 0⟩
/-- The last day of a span up to which none is missed; the day before the span, if there is none. -/
def untilI (e : Engine) (set : List Int) (lo hi late : Int) : Int :=
  if (missedL e set lo hi late).length = 0 then hi else ((missedL e set lo hi late).headD noEcl).day - 1
/-- Eclipses are listed by days. -/
def Later (a b : Sp.Ecl) : Prop := a.day ≤ b.day
theorem missed_is (e : Engine) (set : List Int) (lo hi late : Int) (x : Sp.Ecl) : x ∈ missedL e set lo hi late ↔ (lo ≤ x.day ∧ x.day ≤ hi) ∧ (Sp.moonB e.sky x.day x.full = true ∧ x.far = Sp.far e.sky x.day ∧ Sp.far e.sky x.day ≤ (if x.full then e.fl else e.nw)) ∧ toldB e set x late = false := by
  rw [missed_mem]
  unfold realL
  rw [ecls_mem]
  constructor
  · rintro ⟨⟨a, b, c⟩, d⟩; exact ⟨⟨a, b⟩, c, d⟩
  · rintro ⟨⟨a, b⟩, c, d⟩; exact ⟨⟨a, b, c⟩, d⟩
/-- The least that Wide must be for a moon, among the first days of a window. -/
def leastN (e : Engine) (set : List Int) (full : Bool) (lo : Int) : Nat → Int
  | 0 => 10800
  | k + 1 => if hasB e set (lo + k) full then min (leastN e set full lo k) (max 0 (farAt e set (lo + k) - limitOf e full)) else leastN e set full lo k
def leastOf (e : Engine) (set : List Int) (late : Int) (x : Sp.Ecl) : Int := leastN e set x.full (max 1 (x.day - late)) (x.day + late + 1 - max 1 (x.day - late)).toNat
/-- The greatest of these, among the first eclipses. -/
def wideN (e : Engine) (set : List Int) (late : Int) : List Sp.Ecl → Int
  | [] => 0
  | x :: l => max (leastOf e set late x) (wideN e set late l)
def widens (e : Engine) (set : List Int) (lo hi late : Int) : Int := wideN e set late (realL e lo hi)
end Ec
end Go.Proofs.YtcbodpnmndbgnaaGreatDoor
namespace Go.Proofs.YtcbodpnmndbgnaaGreatDoor
open Sp (rd)
set_option linter.unusedSimpArgs false
set_option linter.unusedVariables false
namespace Ec
/-- As slices.Compare. -/
def cmpL : List Int → List Int → Int
  | [], [] => 0
  | [], _ :: _ => -1
  | _ :: _, [] => 1
  | a :: l, b :: m => if a < b then -1 else if b < a then 1 else cmpL l m
def setCmp (a b : List Int) : Int := if a.length < b.length then -1 else if b.length < a.length then 1 else cmpL a b
theorem cmpL_swap (a b : List Int) : cmpL b a = -cmpL a b := by
  induction a generalizing b with
  | nil => cases b <;> simp [cmpL]
  | cons x l ih =>
    cases b with
    | nil => simp [cmpL]
    | cons y m =>
      simp only [cmpL]
      by_cases h1 : x < y
      · rw [if_pos h1, if_neg (by omega), if_pos h1]; rfl
      · by_cases h2 : y < x
        · rw [if_pos h2, if_neg h1, if_pos h2]
        · rw [if_neg h1, if_neg h2, if_neg h2, if_neg h1]; exact ih m
theorem cmpL_eq {a b : List Int} (h : cmpL a b = 0) : a = b := by
  induction a generalizing b with
  | nil => cases b with
    | nil => rfl
    | cons y m => simp [cmpL] at h
  | cons x l ih =>
    cases b with
    | nil => simp [cmpL] at h
    | cons y m =>
      unfold cmpL at h
      split at h
      · omega
      · split at h
        · omega
        · have : x = y := by omega
          rw [this, ih h]
theorem cmpL_trans {a b c : List Int} (h : cmpL a b ≤ 0) (k : cmpL b c ≤ 0) : cmpL a c ≤ 0 := by
  induction a generalizing b c with
  | nil => cases c <;> simp [cmpL]
  | cons x l ih =>
    cases b with
    | nil => simp [cmpL] at h
    | cons y m =>
      cases c with
      | nil => simp [cmpL] at k
      | cons z n =>
        unfold cmpL at h k ⊢
        by_cases h1 : x < z
        · rw [if_pos h1]; omega
        · split at h
          · split at k
            · omega
            · split at k
              · omega
              · omega
          · split at h
            · omega
            · split at k
              · omega
              · split at k
                · omega
                · rw [if_neg h1, if_neg (by omega)]
                  exact ih h k
theorem setCmp_swap (a b : List Int) : setCmp b a = -setCmp a b := by
  unfold setCmp
  by_cases h1 : a.length < b.length
  · rw [if_pos h1, if_neg (by omega), if_pos h1]; rfl
  · by_cases h2 : b.length < a.length
    · rw [if_pos h2, if_neg h1, if_pos h2]
    · rw [if_neg h1, if_neg h2, if_neg h2, if_neg h1]; exact cmpL_swap a b
theorem setCmp_eq {a b : List Int} (h : setCmp a b = 0) : a = b := by
  unfold setCmp at h
  split at h
  · omega
  · split at h
    · omega
    · exact cmpL_eq h
theorem setCmp_trans {a b c : List Int} (h : setCmp a b ≤ 0) (k : setCmp b c ≤ 0) : setCmp a c ≤ 0 := by
  unfold setCmp at h k ⊢
  by_cases h1 : a.length < c.length
  · rw [if_pos h1]; omega
  · split at h
    · split at k
      · omega
      · split at k
        · omega
        · omega
    · split at h
      · omega
      · split at k
        · omega
        · split at k
          · omega
          · rw [if_neg h1, if_neg (by omega)]
            exact cmpL_trans h k
/-- The first of some lists than which none is better. -/
def bestL (out : List Int) : List (List Int) → List Int
  | [] => out
  | x :: l => bestL (if setCmp x out < 0 then x else out) l
theorem bestL_is (out : List Int) (l : List (List Int)) : (bestL out l = out ∨ bestL out l ∈ l) ∧ setCmp (bestL out l) out ≤ 0 ∧ ∀ x ∈ l, setCmp (bestL out l) x ≤ 0 := by
  induction l generalizing out with
  | nil => exact ⟨.inl rfl, by unfold bestL; have := setCmp_swap out out; omega, fun x hx => by cases hx⟩
  | cons x l ih =>
    unfold bestL
    obtain ⟨h1, h2, h3⟩ := ih (if setCmp x out < 0 then x else out)
    have hx : setCmp (if setCmp x out < 0 then x else out) x ≤ 0 ∧ setCmp (if setCmp x out < 0 then x else out) out ≤ 0 := by
      have s1 := setCmp_swap x x
      have s2 := setCmp_swap out out
      have s3 := setCmp_swap x out
      split <;> exact ⟨by omega, by omega⟩
    refine ⟨?_, setCmp_trans h2 hx.2, fun y hy => ?_⟩
    · rcases h1 with h1 | h1
      · rw [h1]
        split
        · exact .inr (by simp)
        · exact .inl rfl
      · exact .inr (List.mem_cons_of_mem _ h1)
    · rcases List.mem_cons.1 hy with rfl | hy
      · exact setCmp_trans h2 hx.1
      · exact h3 y hy
/-- All increasing lists of numbers from k on, below n, as the program comes to them. -/
def subs (n : Nat) (k : Nat) : List (List Int) := if k < n then (subs n (k + 1)).map (fun l => (k : Int) :: l) ++ subs n (k + 1) else [[]]
termination_by n - k
/-- Numbers from k on, below n, that increase. -/
def Incr (n : Int) : Int → List Int → Prop
  | _, [] => True
  | k, x :: l => k ≤ x ∧ x < n ∧ Incr n (x + 1) l
theorem Incr.mono {n k k' : Int} {l : List Int} (h : k' ≤ k) (hi : Incr n k l) : Incr n k' l := by
  cases l with
  | nil => trivial
  | cons x l => exact ⟨by have := hi.1; omega, hi.2⟩
theorem subs_mem (n k : Nat) (l : List Int) : l ∈ subs n k ↔ Incr n k l := by
  induction hm : n - k generalizing k l with
  | zero =>
    unfold subs
    rw [if_neg (by omega)]
    cases l with
    | nil => simp [Incr]
    | cons x l => simp only [List.mem_singleton, Incr]; constructor
                  · intro h; cases h
                  · rintro ⟨h1, h2, _⟩; omega
  | succ m ih =>
    unfold subs
    rw [if_pos (by omega), List.mem_append, List.mem_map]
    have hi := fun l => ih (k + 1) l (by omega)
    constructor
    · rintro (⟨l', hl, rfl⟩ | hl)
      · exact ⟨Int.le_refl _, by omega, (hi l').1 hl⟩
      · exact Incr.mono (by omega) ((hi l).1 hl)
    · intro h
      cases l with
      | nil => exact .inr ((hi []).2 trivial)
      | cons x l =>
        obtain ⟨h1, h2, h3⟩ := h
        rcases Int.lt_or_le k x with h4 | h4
        · exact .inr ((hi (x :: l)).2 ⟨by omega, h2, h3⟩)
        · obtain rfl : x = (k : Int) := by omega
          exact .inl ⟨l, (hi l).2 h3, rfl⟩
/-- The document's lists of some length: n numbers are tried from the first on. -/
def listsN (below : Int) : Nat → Int → List (List Int)
  | 0, _ => [[]]
  | m + 1, k => ((List.range (below - k).toNat).map fun i => (listsN below m (k + (i : Nat) + 1)).map fun l => (k + (i : Nat)) :: l).flatten
theorem listsN_mem (n : Int) (m : Nat) (k : Int) (l : List Int) : l ∈ listsN n m k ↔ l.length = m ∧ Incr n k l := by
  induction m generalizing k l with
  | zero =>
    simp only [listsN, List.mem_singleton]
    constructor
    · rintro rfl; exact ⟨rfl, trivial⟩
    · rintro ⟨h, _⟩; exact List.eq_nil_of_length_eq_zero h
  | succ m ih =>
    simp only [listsN, List.mem_flatten, List.mem_map, List.mem_range]
    constructor
    · rintro ⟨_, ⟨i, hi, rfl⟩, hl⟩
      obtain ⟨l', hl', rfl⟩ := List.mem_map.1 hl
      obtain ⟨a, b⟩ := (ih _ _).1 hl'
      exact ⟨by simp [a], by omega, by omega, b⟩
    · rintro ⟨h, hi⟩
      cases l with
      | nil => simp at h
      | cons x l =>
        obtain ⟨h1, h2, h3⟩ := hi
        refine ⟨_, ⟨(x - k).toNat, by omega, rfl⟩, List.mem_map.2 ⟨l, (ih _ _).2 ⟨by simpa using h, ?_⟩, ?_⟩⟩
        · have : k + ((x - k).toNat : Nat) + 1 = x + 1 := by omega
          rw [this]; exact h3
        · have : k + ((x - k).toNat : Nat) = x := by omega
          rw [this]
/-- In order. -/
theorem listsN_sorted (n : Int) (m : Nat) (k : Int) : List.Pairwise (fun a b => cmpL a b < 0) (listsN n m k) := by
  induction m generalizing k with
  | zero => simp [listsN]
  | succ m ih =>
    simp only [listsN]
    rw [List.pairwise_flatten]
    refine ⟨fun L hL => ?_, ?_⟩
    · obtain ⟨i, _, rfl⟩ := List.mem_map.1 hL
      rw [List.pairwise_map]
      exact (ih _).imp fun {a b} h => by
        show cmpL _ _ < 0
        rw [cmpL, if_neg (by omega), if_neg (by omega)]
        exact h
    · rw [List.pairwise_map]
      refine List.pairwise_lt_range.imp fun {i j} hij a ha b hb => ?_
      obtain ⟨a', _, rfl⟩ := List.mem_map.1 ha
      obtain ⟨b', _, rfl⟩ := List.mem_map.1 hb
      show cmpL _ _ < 0
      rw [cmpL, if_pos (by omega)]
      omega
end Ec
end Go.Proofs.YtcbodpnmndbgnaaGreatDoor
namespace Go.Proofs.YtcbodpnmndbgnaaGreatDoor
open Sp (rd)
set_option linter.unusedSimpArgs false
set_option linter.unusedVariables false
namespace Ec
theorem Incr.len {n : Int} : ∀ {l : List Int} {k : Int}, Incr n k l → l.length ≤ (n - k).toNat
  | [], _, _ => Nat.zero_le _
  | x :: l, k, ⟨h1, h2, h3⟩ => by
    have := Incr.len h3
    simp only [List.length_cons]
    omega
/-- All lists in the document's order: the shorter ones first. -/
def allN (n : Nat) : List (List Int) := ((List.range (n + 1)).map fun m => listsN n m 0).flatten
theorem allN_mem (n : Nat) (l : List Int) : l ∈ allN n ↔ Incr n 0 l := by
  unfold allN
  simp only [List.mem_flatten, List.mem_map, List.mem_range]
  constructor
  · rintro ⟨_, ⟨m, _, rfl⟩, h⟩; exact ((listsN_mem ..).1 h).2
  · intro h
    have := h.len
    exact ⟨_, ⟨l.length, by omega, rfl⟩, (listsN_mem ..).2 ⟨rfl, h⟩⟩
theorem allN_sorted (n : Nat) : List.Pairwise (fun a b => setCmp a b < 0) (allN n) := by
  unfold allN
  rw [List.pairwise_flatten]
  refine ⟨fun L hL => ?_, ?_⟩
  · obtain ⟨m, _, rfl⟩ := List.mem_map.1 hL
    refine (List.Pairwise.and_mem.1 (listsN_sorted n m 0)).imp fun {a b} h => ?_
    obtain ⟨ha, hb, h⟩ := h
    have h1 := ((listsN_mem ..).1 ha).1
    have h2 := ((listsN_mem ..).1 hb).1
    show setCmp a b < 0
    unfold setCmp
    rw [if_neg (by omega), if_neg (by omega)]
    exact h
  · rw [List.pairwise_map]
    refine List.pairwise_lt_range.imp fun {i j} hij a ha b hb => ?_
    have h1 := ((listsN_mem ..).1 ha).1
    have h2 := ((listsN_mem ..).1 hb).1
    show setCmp a b < 0
    unfold setCmp
    rw [if_pos (by omega)]
    omega
/-- The document's. -/
def docSet (good : List Int → Bool) (n : Nat) : Option (List Int) := (allN n).find? good
/-- The program's: the best of all that are good. -/
def progSet (good : List Int → Bool) (n : Nat) : Option (List Int) :=
  match (subs n 0).filter good with
  | [] => none
  | x :: l => some (bestL x l)
theorem find_least {good : List Int → Bool} : ∀ {L : List (List Int)} {y : List Int}, List.Pairwise (fun a b => setCmp a b < 0) L → L.find? good = some y →
    good y = true ∧ y ∈ L ∧ ∀ z ∈ L, good z = true → setCmp y z ≤ 0
  | [], _, _, h => by cases h
  | x :: L, y, hs, h => by
    obtain ⟨h1, h2⟩ := List.pairwise_cons.1 hs
    rw [List.find?_cons] at h
    split at h
    · rename_i hg
      obtain rfl : x = y := by simpa using h
      refine ⟨hg, by simp, fun z hz _ => ?_⟩
      rcases List.mem_cons.1 hz with rfl | hz
      · have := setCmp_swap z z; omega
      · have := h1 z hz; omega
    · rename_i hg
      obtain ⟨a, b, c⟩ := find_least h2 h
      refine ⟨a, List.mem_cons_of_mem _ b, fun z hz hgz => ?_⟩
      rcases List.mem_cons.1 hz with rfl | hz
      · rw [hgz] at hg; cases hg
      · exact c z hz hgz
theorem prog_doc (good : List Int → Bool) (n : Nat) : progSet good n = docSet good n := by
  have hm : ∀ l, l ∈ (subs n 0).filter good ↔ l ∈ allN n ∧ good l = true := fun l => by
    rw [List.mem_filter, subs_mem, allN_mem]; rfl
  unfold progSet docSet
  cases hG : (subs n 0).filter good with
  | nil =>
    dsimp only
    rw [eq_comm, List.find?_eq_none]
    intro x hx hg
    have := (hm x).2 ⟨hx, hg⟩
    rw [hG] at this
    cases this
  | cons x l =>
    dsimp only
    rw [hG] at hm
    obtain ⟨b1, b2, b3⟩ := bestL_is x l
    have hb : bestL x l ∈ x :: l := by
      rcases b1 with b1 | b1
      · rw [b1]; simp
      · exact List.mem_cons_of_mem _ b1
    cases hf : (allN n).find? good with
    | none =>
      rw [List.find?_eq_none] at hf
      have := (hm _).1 hb
      exact absurd this.2 (hf _ this.1)
    | some y =>
      obtain ⟨c1, c2, c3⟩ := find_least (allN_sorted n) hf
      have hb' := (hm _).1 hb
      have h1 := c3 _ hb'.1 hb'.2
      have hy := (hm y).2 ⟨c2, c1⟩
      have h2 : setCmp (bestL x l) y ≤ 0 := by
        rcases List.mem_cons.1 hy with rfl | hy
        · exact b2
        · exact b3 y hy
      have h3 := setCmp_swap (bestL x l) y
      rw [setCmp_eq (show setCmp (bestL x l) y = 0 by omega)]
end Ec
end Go.Proofs.YtcbodpnmndbgnaaGreatDoor
namespace Go.Proofs.YtcbodpnmndbgnaaGreatDoor
open Go.RowKit
open Sp (rd)
set_option maxRecDepth 100000
set_option maxHeartbeats 1000000
def cmpI (a b : Int) : Int := if a < b then -1 else if b < a then 1 else 0
theorem c_isNaN_any (x : Int) (w : World) : Calls Tryz.prog 138 #[.int .i64 x] w fun e w' => e = .returned (.bool false) ∧ w = w' := by
  go_enter Tryz.func138, Tryz.ntmps138
  go_wp2_with fail
  go_ret
  exact ⟨by simp, rfl⟩
theorem c_Compare_any (a b : Int) (w : World) : Calls Tryz.prog 97 #[.int .i64 a, .int .i64 b] w fun e w' => e = .returned (.int .i64 (cmpI a b)) ∧ w = w' := by
  rcases (show a < b ∨ a = b ∨ b < a by omega) with h | rfl | h
  · have hc : cmpI a b = -1 := by unfold cmpI; rw [if_pos h]
    rw [hc]
    clear hc
    go_enter Tryz.func97, Tryz.ntmps97
    go_wp2_with fail
    refine (c_isNaN_any _ _).mono ?_
    rintro e w1 ⟨rfl, rfl⟩
    go_wp2_with fail
    refine (c_isNaN_any _ _).mono ?_
    rintro e w1 ⟨rfl, rfl⟩
    go_wp2_with fail
    go_ret
    exact ⟨rfl, rfl⟩
  · have hc : cmpI a a = 0 := by unfold cmpI; simp
    rw [hc]
    clear hc
    go_enter Tryz.func97, Tryz.ntmps97
    go_wp2_with fail
    refine (c_isNaN_any _ _).mono ?_
    rintro e w1 ⟨rfl, rfl⟩
    go_wp2_with fail
    refine (c_isNaN_any _ _).mono ?_
    rintro e w1 ⟨rfl, rfl⟩
    go_wp2_with fail
    go_ret
    exact ⟨rfl, rfl⟩
  · have hc : cmpI a b = 1 := by unfold cmpI; rw [if_neg (by omega), if_pos h]
    rw [hc]
    clear hc
    go_enter Tryz.func97, Tryz.ntmps97
    go_wp2_with fail
    refine (c_isNaN_any _ _).mono ?_
    rintro e w1 ⟨rfl, rfl⟩
    go_wp2_with fail
    refine (c_isNaN_any _ _).mono ?_
    rintro e w1 ⟨rfl, rfl⟩
    go_wp2_with fail
    go_ret
    exact ⟨rfl, rfl⟩
theorem rd_at {l : List Int} {k : Nat} (h : k < l.length) : rd l k = l[k] := by simp [rd, List.getElem?_eq_getElem h]
theorem cmpL_at (l m : List Int) (k : Nat) (h1 : k < l.length) (h2 : k < m.length) :
    Ec.cmpL (l.drop k) (m.drop k) = if cmpI (rd l k) (rd m k) = 0 then Ec.cmpL (l.drop (k + 1)) (m.drop (k + 1)) else cmpI (rd l k) (rd m k) := by
  rw [List.drop_eq_getElem_cons h1, List.drop_eq_getElem_cons h2, rd_at h1, rd_at h2]
  unfold cmpI
  rw [Ec.cmpL]
  by_cases a : l[k] < m[k]
  · simp [a]
  · by_cases b : m[k] < l[k]
    · simp [a, b]
    · simp [a, b]
theorem cmpL_end1 (l m : List Int) (h : l.length ≤ m.length) : Ec.cmpL (l.drop l.length) (m.drop l.length) = if l.length < m.length then -1 else 0 := by
  rw [List.drop_length]
  by_cases h1 : l.length < m.length
  · rw [if_pos h1, List.drop_eq_getElem_cons h1]; rfl
  · rw [if_neg h1, List.drop_eq_nil_of_le (by omega)]; rfl
theorem cmpL_end2 (l m : List Int) (h : m.length < l.length) : Ec.cmpL (l.drop m.length) (m.drop m.length) = 1 := by
  rw [List.drop_length, List.drop_eq_getElem_cons h]; rfl
theorem sl_Compare_any (A B : Option Addr) (c d : Nat) (l m : List Int) (w : World) (hA : Ints w A l) (hB : Ints w B m) (h1 : l.length ≤ 100000) (h2 : m.length ≤ 100000) :
    Calls Tryz.prog 98 #[.slice A l.length c, .slice B m.length d] w fun e w' => e = .returned (.int .i64 (Ec.cmpL l m)) ∧ w = w' := by
  have HA := Lib.hid hA
  have HB := Lib.hid hB
  clear hA hB
  go_enter Tryz.func98, Tryz.ntmps98
  go_wp2_with fail
  go_loopw [11] (fun i wr => ∃ k : Nat, k ≤ l.length ∧ i = .int .i64 k ∧ k ≤ m.length ∧ Hid (Ec.cmpL l m = Ec.cmpL (l.drop k) (m.drop k)) ∧ w = wr) (fun i _ => l.length - (intOf i).toNat)
  case atStart => exact ⟨0, Nat.zero_le _, rfl, Nat.zero_le _, Lib.hid rfl, rfl⟩
  case round =>
    obtain ⟨k, hk, rfl, hkm, HQ, rfl⟩ := hrel
    by_cases hlt : k < l.length
    · obtain ⟨b, o, rfl, hc⟩ := HA.out (by omega)
      have q := hc k hlt
      clear hc
      by_cases hlm : k < m.length
      · obtain ⟨b', o', rfl, hc'⟩ := HB.out (by omega)
        have q' := hc' k hlm
        have HS := Lib.hid (cmpL_at l m k hlt hlm)
        clear hc'
        obtain ⟨x, hx⟩ : ∃ x, rd l k = x := ⟨_, rfl⟩
        obtain ⟨y, hy⟩ : ∃ y, rd m k = y := ⟨_, rfl⟩
        rw [hx] at q HS
        rw [hy] at q' HS
        clear hx hy
        go_wp2_with fail
        refine (c_Compare_any x y _).mono ?_
        rintro e w1 ⟨rfl, rfl⟩
        obtain ⟨z, hz⟩ : ∃ z, cmpI x y = z := ⟨_, rfl⟩
        rw [hz] at HS ⊢
        clear hz
        by_cases hz0 : z = 0
        · subst hz0
          go_wp2_with fail
          go_roundw
          case rel => exact ⟨k + 1, by omega, by go_num, by omega, Lib.hid (by rw [HQ.out, HS.out]; simp), by simp⟩
          case measure => simp [intOf]; omega
        · have e1 : (z == 0) = false := by simpa using hz0
          have e2 : (z != 0) = true := by simpa using hz0
          go_wp2_with fail
          go_ret
          exact ⟨by rw [HQ.out, HS.out, if_neg hz0] <;> rfl, rfl⟩
      · obtain rfl : k = m.length := by omega
        have HS := Lib.hid (cmpL_end2 l m hlt)
        go_wp2_with fail
        go_ret
        exact ⟨by rw [HQ.out, HS.out] <;> rfl, rfl⟩
    · obtain rfl : k = l.length := by omega
      have HS := Lib.hid (cmpL_end1 l m hkm)
      by_cases hlm : l.length < m.length
      · go_wp2_with fail
        go_ret
        exact ⟨by rw [HQ.out, HS.out, if_pos (by omega)] <;> rfl, rfl⟩
      · go_wp2_with fail
        go_ret
        exact ⟨by rw [HQ.out, HS.out, if_neg (by omega)] <;> rfl, rfl⟩
theorem c_Or_any (g : Nat) (a b : Int) (w : World) (hr : Row w g 3 #[.int .i64 a, .int .i64 b]) :
    Calls Tryz.prog 96 #[.slice (some ⟨g, 0, none⟩) 2 2] w fun e w' => e = .returned (.int .i64 (if a = 0 then b else a)) ∧ w = w' := by
  have q := hr.cell
  clear hr
  go_enter Tryz.func96, Tryz.ntmps96
  go_wp2_with fail
  go_loopw [8] (fun i wr => (i = .int .i64 0 ∨ (i = .int .i64 1 ∧ a = 0) ∨ (i = .int .i64 2 ∧ a = 0 ∧ b = 0)) ∧ w = wr) (fun i _ => 2 - (intOf i).toNat)
  case atStart => exact ⟨.inl rfl, rfl⟩
  case round =>
    obtain ⟨rfl | ⟨rfl, rfl⟩ | ⟨rfl, rfl, rfl⟩, rfl⟩ := hrel
    · by_cases h0 : a = 0
      · subst h0
        go_wp2_with fail
        go_roundw
        case rel => simp
        case measure => simp [intOf]
      · have e1 : (a == 0) = false := by simpa using h0
        have e2 : (a != 0) = true := by simpa using h0
        have HH := Lib.hid h0
        clear h0
        go_wp2_with fail
        go_ret
        exact ⟨by first | rfl | (rw [if_neg HH.out] <;> rfl), rfl⟩
    · by_cases h0 : b = 0
      · subst h0
        go_wp2_with fail
        go_roundw
        case rel => simp
        case measure => simp [intOf]
      · have e1 : (b == 0) = false := by simpa using h0
        have e2 : (b != 0) = true := by simpa using h0
        go_wp2_with fail
        go_ret
        exact ⟨by simp, rfl⟩
    · go_wp2_with fail
      go_ret
      exact ⟨by simp, rfl⟩
theorem setCmp_or (l m : List Int) : Ec.setCmp l m = if cmpI l.length m.length = 0 then Ec.cmpL l m else cmpI l.length m.length := by
  unfold Ec.setCmp cmpI
  rcases Nat.lt_trichotomy l.length m.length with h | h | h
  · rw [if_pos h, if_pos (show (l.length : Int) < (m.length : Int) by omega)]; rfl
  · rw [if_neg (by omega), if_neg (by omega), if_neg (show ¬ (l.length : Int) < (m.length : Int) by omega), if_neg (show ¬ (m.length : Int) < (l.length : Int) by omega)]; rfl
  · rw [if_neg (by omega), if_pos h, if_neg (show ¬ (l.length : Int) < (m.length : Int) by omega), if_pos (show (m.length : Int) < (l.length : Int) by omega)]; rfl
theorem better_any (A B : Option Addr) (c d : Nat) (l m : List Int) (w : World) (hA : Ints w A l) (hB : Ints w B m) (h1 : l.length ≤ 100000) (h2 : m.length ≤ 100000) :
    Calls Tryz.prog 95 #[.slice A l.length c, .slice B m.length d] w fun e w' => e = .returned (.bool (decide (Ec.setCmp l m < 0))) ∧ Ext w w' := by
  have HA := Lib.hid hA
  have HB := Lib.hid hB
  have HS := Lib.hid (setCmp_or l m)
  clear hA hB
  go_enter Tryz.func95, Tryz.ntmps95
  go_wp2_with fail
  refine (c_Compare_any _ _ _).mono ?_
  rintro e w1 ⟨rfl, rfl⟩
  obtain ⟨x, hx⟩ : ∃ x, cmpI (l.length : Int) (m.length : Int) = x := ⟨_, rfl⟩
  rw [hx] at HS ⊢
  clear hx
  go_wp2_with fail
  refine (sl_Compare_any A B c d l m _ HA.out HB.out h1 h2).mono ?_
  rintro e w1 ⟨rfl, rfl⟩
  obtain ⟨y, hy⟩ : ∃ y, Ec.cmpL l m = y := ⟨_, rfl⟩
  rw [hy] at HS ⊢
  clear hy
  go_wp2_with fail
  refine (c_Or_any _ x y _ (Row.new _ _ _)).mono ?_
  rintro e w1 ⟨rfl, rfl⟩
  have HS2 : Hid ((if x = 0 then y else x) = Ec.setCmp l m) := Lib.hid HS.out.symm
  obtain ⟨z, hz⟩ : ∃ z, (if x = 0 then y else x) = z := ⟨_, rfl⟩
  rw [hz] at HS2 ⊢
  clear hz
  go_wp2_with fail
  go_ret
  exact ⟨by rw [← HS2.out] <;> rfl, (Ext.refl _).alloc _⟩
/-- A slice value that holds lists of integers. -/
def ListsAt (w : World) (A : Option Addr) (ls : List (List Int)) : Prop := 0 < ls.length → ∃ b o, A = some ⟨b, o, none⟩ ∧ ∀ k, (hk : k < ls.length) → ∃ B d, w.cell? ⟨b, o + k, none⟩ = some (.slice B (ls[k]).length d) ∧ Ints w B ls[k]
theorem ListsAt.ext {w w' : World} {A : Option Addr} {ls : List (List Int)} (h : ListsAt w A ls) (he : Ext w w') : ListsAt w' A ls := fun h0 =>
  let ⟨b, o, e, hk⟩ := h h0
  ⟨b, o, e, fun k hk' => let ⟨B, d, h1, h2⟩ := hk k hk'; ⟨B, d, he.cell h1, h2.ext he⟩⟩
def bestO : List (List Int) → List Int
  | [] => []
  | x :: l => Ec.bestL x l
theorem bestL_snoc (out : List Int) (l : List (List Int)) (x : List Int) : Ec.bestL out (l ++ [x]) = if Ec.setCmp x (Ec.bestL out l) < 0 then x else Ec.bestL out l := by
  induction l generalizing out with
  | nil => rfl
  | cons y l ih => simp only [List.cons_append, Ec.bestL]; exact ih _
theorem bestO_succ (ls : List (List Int)) (k : Nat) (h : k < ls.length) (h0 : 0 < k) : bestO (ls.take (k + 1)) = if Ec.setCmp ls[k] (bestO (ls.take k)) < 0 then ls[k] else bestO (ls.take k) := by
  cases ls with
  | nil => cases h
  | cons x l =>
    obtain ⟨k, rfl⟩ : ∃ j, k = j + 1 := ⟨k - 1, by omega⟩
    have h' : k < l.length := by simpa using h
    simp only [List.take_succ_cons, bestO, List.getElem_cons_succ]
    rw [List.take_succ_eq_append_getElem h', bestL_snoc]
    rfl
theorem bestO_mem (ls : List (List Int)) : ∀ n, (∀ x ∈ ls, x.length ≤ n) → (bestO ls).length ≤ n := by
  intro n h
  cases ls with
  | nil => simp [bestO]
  | cons x l =>
    rcases (Ec.bestL_is x l).1 with e | e
    · simp only [bestO, e]; exact h x (by simp)
    · exact h _ (List.mem_cons_of_mem _ e)
def BestRel (w : World) (ls : List (List Int)) (v i : Value) (wr : World) : Prop :=
  ∃ k : Nat, k ≤ ls.length ∧ i = .int .i64 k ∧ Ext w wr ∧ ∃ B d, v = .slice B (bestO (ls.take k)).length d ∧ Ints wr B (bestO (ls.take k))
theorem best_sets (A : Option Addr) (c : Nat) (ls : List (List Int)) (w : World) (hA : ListsAt w A ls) (h1 : ls.length ≤ 100000) (h2 : ∀ x ∈ ls, x.length ≤ 100000) :
    Calls Tryz.prog 94 #[.slice A ls.length c, .func (.func 95) #[] #[]] w fun e w' => ∃ B d, e = .returned (.tuple #[.slice B (bestO ls).length d, .bool (decide (0 < ls.length))]) ∧ Ints w' B (bestO ls) ∧ Ext w w' := by
  have HA := Lib.hid hA
  have HH := Lib.hid h2
  clear hA h2
  go_enter Tryz.func94, Tryz.ntmps94
  go_wp2_with fail
  go_loopw [6, 11] (fun v i wr => BestRel w ls v i wr) (fun _ i _ => ls.length - (intOf i).toNat)
  case atStart => exact ⟨0, Nat.zero_le _, rfl, Ext.refl _, none, 0, rfl, fun h => by simp [bestO] at h⟩
  case round =>
    obtain ⟨k, hk, rfl, hE, B, d, rfl, hI⟩ := hrel
    by_cases hlt : k < ls.length
    · obtain ⟨b, o, rfl, hc⟩ := (HA.out.ext hE) (by omega)
      obtain ⟨B2, d2, q, hI2⟩ := hc k hlt
      have hb1 := HH.out ls[k] (List.getElem_mem hlt)
      have hb2 := bestO_mem (ls.take k) 100000 (fun x hx => HH.out x (List.mem_of_mem_take hx))
      have HE := Lib.hid hE
      have HI := Lib.hid hI
      have HI2 := Lib.hid hI2
      rcases Nat.eq_zero_or_pos k with rfl | hp
      · have hb0 : bestO (ls.take (0 + 1)) = ls[0] := by
          cases ls with
          | nil => cases hlt
          | cons x l => rfl
        have HB0 := Lib.hid hb0
        simp only [Nat.add_zero] at q
        clear hc hI hI2 hE hb0
        go_wp2_with fail
        go_roundw
        case rel => exact ⟨0 + 1, by omega, rfl, HE.out, B2, d2, by rw [HB0.out], by rw [HB0.out]; exact HI2.out⟩
        case measure => simp [intOf]; omega
      · have hk0 : ((k : Int) == 0) = false := by simp; omega
        have HS := Lib.hid (bestO_succ ls k hlt hp)
        obtain ⟨out, hout⟩ : ∃ out, bestO (ls.take k) = out := ⟨_, rfl⟩
        rw [hout] at HS HI hb2 ⊢
        obtain ⟨x, hx⟩ : ∃ x, ls[k] = x := ⟨_, rfl⟩
        rw [hx] at q HS HI2 hb1
        clear hc hI hI2 hE hout hx
        go_wp2_with fail
        refine (better_any B2 B d2 d x out _ HI2.out HI.out hb1 hb2).mono ?_
        rintro e w3 ⟨rfl, hE3⟩
        have HE3 := Lib.hid (HE.out.trans hE3)
        have HI3 := Lib.hid (HI.out.ext hE3)
        have HI4 := Lib.hid (HI2.out.ext hE3)
        clear hE3 q
        by_cases hs : Ec.setCmp x out < 0
        · have hd : decide (Ec.setCmp x out < 0) = true := by simpa using hs
          rw [hd]
          have HSS := Lib.hid (HS.out.trans (if_pos hs))
          clear hs hd
          go_wp2_with fail
          go_roundw
          case rel => exact ⟨k + 1, by omega, by go_num, HE3.out, B2, d2, by rw [HSS.out], by rw [HSS.out]; exact HI4.out⟩
          case measure => simp [intOf]; omega
        · have hd : decide (Ec.setCmp x out < 0) = false := by simpa using hs
          rw [hd]
          have HSS := Lib.hid (HS.out.trans (if_neg hs))
          clear hs hd
          go_wp2_with fail
          go_roundw
          case rel => exact ⟨k + 1, by omega, by go_num, HE3.out, B, d, by rw [HSS.out], by rw [HSS.out]; exact HI3.out⟩
          case measure => simp [intOf]; omega
    · obtain rfl : k = ls.length := by omega
      rw [List.take_length] at hI ⊢
      have HE := Lib.hid hE
      have HI := Lib.hid hI
      clear hE hI
      go_wp2_with fail
      go_ret2
      exact ⟨B, d, by simp, HI.out, HE.out⟩
end Go.Proofs.YtcbodpnmndbgnaaGreatDoor
