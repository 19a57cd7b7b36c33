/- Volume 10 of the texts that the laws of this seat use: EcErr2: walks of the program's functions, and plain laws. -/
import Derived.Carry
import Derived.Test.YtcbodpnmndbgnaaGreatDoorF04
import Derived.Test.YtcbodpnmndbgnaaGreatDoorF05
import Derived.Test.YtcbodpnmndbgnaaGreatDoorF07
namespace Go.Proofs.YtcbodpnmndbgnaaGreatDoor
open Go.RowKit
open Sp (rd)
set_option maxRecDepth 100000
set_option maxHeartbeats 1000000
def emptyΦf (p : EP) (e : Ec.Engine) (set : List Int) (lo : Int) (hi : Int) (w0 : World) (i : Nat) (v : Value) (w : World) : Prop :=
 match i with
 | 0 => v = .agg #[.slice p.Ab e.sky.bodies.length p.cb, .int .i64 e.sky.nnum, .int .i64 e.sky.nden, .int .i64 e.sky.nstart, .slice p.As e.sun.length p.cs, .slice p.Am e.moon.length p.cm, .slice p.An e.node.length p.cn, .slice p.Af e.feasts.length p.cf, .int .i64 e.nw, .int .i64 e.fl, .int .i64 e.wide]
 | 1 => v = .slice p.At set.length p.ct
 | 2 => v = .int .i64 lo
 | 3 => v = .int .i64 hi
 | 4 => v = .bool false
 | 5 => v = .bool false
 | 6 => v = undef
 | 7 => v = undef
 | 8 => v = .bool false
 | 9 => v = .tuple #[.agg #[.slice none 0 0, .int .i64 0, .int .i64 0, .int .i64 0, .slice none 0 0, .slice none 0 0, .slice none 0 0, .slice none 0 0, .int .i64 0, .int .i64 0, .int .i64 0, .slice none 0 0, .map none], .int .i64 2]
 | 10 => v = .tuple #[.agg #[.slice none 0 0, .int .i64 0, .int .i64 0, .int .i64 0, .slice none 0 0, .slice none 0 0, .slice none 0 0, .slice none 0 0, .int .i64 0, .int .i64 0, .int .i64 0, .slice none 0 0, .map none], .int .i64 2]
 | 11 => v = .agg #[.slice none 0 0, .int .i64 0, .int .i64 0, .int .i64 0, .slice none 0 0, .slice none 0 0, .slice none 0 0, .slice none 0 0, .int .i64 0, .int .i64 0, .int .i64 0, .slice none 0 0, .map none]
 | 12 => v = .int .i64 2
 | _ => AskNew w0 v w
theorem emptyΦf_mono {p : EP} {e : Ec.Engine} {set : List Int} {lo : Int} {hi : Int} {w0 : World} (i : Nat) (v : Value) (w w' : World) (h : emptyΦf p e set lo hi w0 i v w) (he : Ext w w') : emptyΦf p e set lo hi w0 i v w' := by
 unfold emptyΦf at h ⊢
 split at h <;> first
  | exact h
  | exact AskTup.ext h he
  | exact AskAgg.ext h he
  | exact AskNew.ext h he
def emptyΦt (p : EP) (e : Ec.Engine) (set : List Int) (lo : Int) (hi : Int) (late : Int) (fb : Bool) (w0 : World) (i : Nat) (v : Value) (w : World) : Prop :=
 match i with
 | 0 => v = .agg #[.slice p.Ab e.sky.bodies.length p.cb, .int .i64 e.sky.nnum, .int .i64 e.sky.nden, .int .i64 e.sky.nstart, .slice p.As e.sun.length p.cs, .slice p.Am e.moon.length p.cm, .slice p.An e.node.length p.cn, .slice p.Af e.feasts.length p.cf, .int .i64 e.nw, .int .i64 e.fl, .int .i64 e.wide]
 | 1 => v = .slice p.At set.length p.ct
 | 2 => v = .int .i64 lo
 | 3 => v = .int .i64 hi
 | 4 => v = .bool true
 | 5 => v = .bool true
 | 6 => v = .int .i64 late
 | 7 => v = .bool fb
 | 8 => v = .bool fb
 | 9 => v = .tuple #[.agg #[.slice none 0 0, .int .i64 0, .int .i64 0, .int .i64 0, .slice none 0 0, .slice none 0 0, .slice none 0 0, .slice none 0 0, .int .i64 0, .int .i64 0, .int .i64 0, .slice none 0 0, .map none], .int .i64 2]
 | 10 => v = .tuple #[.agg #[.slice none 0 0, .int .i64 0, .int .i64 0, .int .i64 0, .slice none 0 0, .slice none 0 0, .slice none 0 0, .slice none 0 0, .int .i64 0, .int .i64 0, .int .i64 0, .slice none 0 0, .map none], .int .i64 2]
 | 11 => v = .agg #[.slice none 0 0, .int .i64 0, .int .i64 0, .int .i64 0, .slice none 0 0, .slice none 0 0, .slice none 0 0, .slice none 0 0, .int .i64 0, .int .i64 0, .int .i64 0, .slice none 0 0, .map none]
 | 12 => v = .int .i64 2
 | _ => AskNew w0 v w
theorem emptyΦt_mono {p : EP} {e : Ec.Engine} {set : List Int} {lo : Int} {hi : Int} {late : Int} {fb : Bool} {w0 : World} (i : Nat) (v : Value) (w w' : World) (h : emptyΦt p e set lo hi late fb w0 i v w) (he : Ext w w') : emptyΦt p e set lo hi late fb w0 i v w' := by
 unfold emptyΦt at h ⊢
 split at h <;> first
  | exact h
  | exact AskTup.ext h he
  | exact AskAgg.ext h he
  | exact AskNew.ext h he
theorem e_Empty_err (p : EP) (e : Ec.Engine) (set : List Int) (lo hi late : Int) (w : World) (hm : EngSet w p e set) (hl : EngShort e) (hs : set.length ≤ 100000) (h : (Ec.engineOk e && (Ec.setOk e.feasts set && (Ec.isSpan lo hi && Ec.isLate late))) = false) :
  Calls Tryz.prog 51 #[.agg #[.slice p.Ab e.sky.bodies.length p.cb, .int .i64 e.sky.nnum, .int .i64 e.sky.nden, .int .i64 e.sky.nstart, .slice p.As e.sun.length p.cs, .slice p.Am e.moon.length p.cm, .slice p.An e.node.length p.cn, .slice p.Af e.feasts.length p.cf, .int .i64 e.nw, .int .i64 e.fl, .int .i64 e.wide], .slice p.At set.length p.ct, .int .i64 lo, .int .i64 hi, .int .i64 late] w fun r w' => r = .returned (.tuple #[.slice none 0 0, .int .i64 2]) ∧ Ext w w' := by
 have HM := Lib.hid hm
 have HL := Lib.hid hl
 have HR0 : Hid (Row ((w.alloc (.cells #[.slice p.Ab e.sky.bodies.length p.cb, .int .i64 e.sky.nnum, .int .i64 e.sky.nden, .int .i64 e.sky.nstart, .slice p.As e.sun.length p.cs, .slice p.Am e.moon.length p.cm, .slice p.An e.node.length p.cn, .slice p.Af e.feasts.length p.cf, .int .i64 e.nw, .int .i64 e.fl, .int .i64 e.wide] 32)).alloc (.cells #[.int .i64 late] 3)) w.heap.size 32 #[.slice p.Ab e.sky.bodies.length p.cb, .int .i64 e.sky.nnum, .int .i64 e.sky.nden, .int .i64 e.sky.nstart, .slice p.As e.sun.length p.cs, .slice p.Am e.moon.length p.cm, .slice p.An e.node.length p.cn, .slice p.Af e.feasts.length p.cf, .int .i64 e.nw, .int .i64 e.fl, .int .i64 e.wide]) := Lib.hid ((Row.new w _ _).alloc _)
 have HR1 : Hid (Row ((w.alloc (.cells #[.slice p.Ab e.sky.bodies.length p.cb, .int .i64 e.sky.nnum, .int .i64 e.sky.nden, .int .i64 e.sky.nstart, .slice p.As e.sun.length p.cs, .slice p.Am e.moon.length p.cm, .slice p.An e.node.length p.cn, .slice p.Af e.feasts.length p.cf, .int .i64 e.nw, .int .i64 e.fl, .int .i64 e.wide] 32)).alloc (.cells #[.int .i64 late] 3)) (w.heap.size + 1) 3 #[.int .i64 late]) := Lib.hid (by
  have := Row.new (w.alloc (.cells #[.slice p.Ab e.sky.bodies.length p.cb, .int .i64 e.sky.nnum, .int .i64 e.sky.nden, .int .i64 e.sky.nstart, .slice p.As e.sun.length p.cs, .slice p.Am e.moon.length p.cm, .slice p.An e.node.length p.cn, .slice p.Af e.feasts.length p.cf, .int .i64 e.nw, .int .i64 e.fl, .int .i64 e.wide] 32)) 3 #[.int .i64 late]
  simpa using this)
 have HE0 := Lib.hid (((Ext.refl w).alloc (.cells #[.slice p.Ab e.sky.bodies.length p.cb, .int .i64 e.sky.nnum, .int .i64 e.sky.nden, .int .i64 e.sky.nstart, .slice p.As e.sun.length p.cs, .slice p.Am e.moon.length p.cm, .slice p.An e.node.length p.cn, .slice p.Af e.feasts.length p.cf, .int .i64 e.nw, .int .i64 e.fl, .int .i64 e.wide] 32)).alloc (.cells #[.int .i64 late] 3))
 clear hm hl
 obtain ⟨fb, c3⟩ : ∃ fb, Ec.isLate late = fb := ⟨_, rfl⟩
 rw [c3] at h
 cases c2 : Ec.isSpan lo hi
 ·replace h : (Ec.engineOk e && (Ec.setOk e.feasts set && false)) = false := by simp
  go_enter Tryz.func51, Tryz.ntmps51
  go_wp2_with fail
  go_step3
  go_wp2_with fail
  obtain ⟨W, hW⟩ : ∃ W, (w.alloc (.cells #[.slice p.Ab e.sky.bodies.length p.cb, .int .i64 e.sky.nnum, .int .i64 e.sky.nden, .int .i64 e.sky.nstart, .slice p.As e.sun.length p.cs, .slice p.Am e.moon.length p.cm, .slice p.An e.node.length p.cn, .slice p.Af e.feasts.length p.cf, .int .i64 e.nw, .int .i64 e.fl, .int .i64 e.wide] 32)).alloc (.cells #[.int .i64 late] 3) = W := ⟨_, rfl⟩
  rw [hW] at HR0 HR1 HE0 ⊢
  clear hW
  refine Code.wp_mono (Q := fun e' a' w' => e' = .normal ∧ ∃ b, W.heap.size ≤ b ∧ Ext W w' ∧ a' = (⟨#[.agg #[.slice p.Ab e.sky.bodies.length p.cb, .int .i64 e.sky.nnum, .int .i64 e.sky.nden, .int .i64 e.sky.nstart, .slice p.As e.sun.length p.cs, .slice p.Am e.moon.length p.cm, .slice p.An e.node.length p.cn, .slice p.Af e.feasts.length p.cf, .int .i64 e.nw, .int .i64 e.fl, .int .i64 e.wide], .slice p.At set.length p.ct, .int .i64 lo, .int .i64 hi, .int .i64 late, .pointer (some ⟨w.heap.size, 0, none⟩), undef, undef, undef, .pointer (some ⟨w.heap.size + 1, 0, none⟩), .slice none 0 0, .int .i64 0, .pointer (some ⟨b, 0, none⟩), .int .i64 2, undef, undef, undef, undef, undef, .tuple #[.agg #[.slice none 0 0, .int .i64 0, .int .i64 0, .int .i64 0, .slice none 0 0, .slice none 0 0, .slice none 0 0, .slice none 0 0, .int .i64 0, .int .i64 0, .int .i64 0, .slice none 0 0, .map none], .int .i64 2], .agg #[.slice p.Ab e.sky.bodies.length p.cb, .int .i64 e.sky.nnum, .int .i64 e.sky.nden, .int .i64 e.sky.nstart, .slice p.As e.sun.length p.cs, .slice p.Am e.moon.length p.cm, .slice p.An e.node.length p.cn, .slice p.Af e.feasts.length p.cf, .int .i64 e.nw, .int .i64 e.fl, .int .i64 e.wide], .slice p.At set.length p.ct, .int .i64 lo, .int .i64 hi, .bool false, .bool false, undef, undef, .bool false, .tuple #[.agg #[.slice none 0 0, .int .i64 0, .int .i64 0, .int .i64 0, .slice none 0 0, .slice none 0 0, .slice none 0 0, .slice none 0 0, .int .i64 0, .int .i64 0, .int .i64 0, .slice none 0 0, .map none], .int .i64 2], .agg #[.slice none 0 0, .int .i64 0, .int .i64 0, .int .i64 0, .slice none 0 0, .slice none 0 0, .slice none 0 0, .slice none 0 0, .int .i64 0, .int .i64 0, .int .i64 0, .slice none 0 0, .map none], .int .i64 2, undef, undef, undef, undef, undef, undef, undef, undef, undef, undef, undef, undef, undef, undef, undef, undef, undef, undef, undef, undef, undef, undef, undef, undef, undef, undef, undef, undef, undef, undef, undef, undef, undef, undef, undef, undef, undef, undef, undef, undef, undef, undef, undef, undef, undef, undef], []⟩ : Act)) ?hq (wp_region_free_tail 14 12 (emptyΦf p e set lo hi W) (by kernel_rfl) (by simp) (by kernel_rfl) (by kernel_rfl) (by kernel_rfl) (by kernel_rfl) emptyΦf_mono ?hob ?hQ ?hZ)
  case hob =>
   intro i o hin ho a wa hE hF
   match i, hin with
   | 0, _ =>
    obtain rfl := Option.some.inj ho
    have h0 : a.tmps[5]?.getD undef = .pointer (some ⟨w.heap.size, 0, none⟩) := evalD (hF.old 5 (by decide))
    have q := (HR0.out.ext hE).cell
    refine Ran.value rfl (v := .agg #[.slice p.Ab e.sky.bodies.length p.cb, .int .i64 e.sky.nnum, .int .i64 e.sky.nden, .int .i64 e.sky.nstart, .slice p.As e.sun.length p.cs, .slice p.Am e.moon.length p.cm, .slice p.An e.node.length p.cn, .slice p.Af e.feasts.length p.cf, .int .i64 e.nw, .int .i64 e.fl, .int .i64 e.wide]) (w1 := wa) ?_ ⟨rfl, Ext.refl _⟩
    go_simp
   | 1, _ =>
    obtain rfl := Option.some.inj ho
    have h0 : a.tmps[1]?.getD undef = .slice p.At set.length p.ct := evalD (hF.old 1 (by decide))
    refine Ran.value rfl (v := .slice p.At set.length p.ct) (w1 := wa) ?_ ⟨rfl, Ext.refl _⟩
    go_simp
   | 2, _ =>
    obtain rfl := Option.some.inj ho
    have h0 : a.tmps[2]?.getD undef = .int .i64 lo := evalD (hF.old 2 (by decide))
    refine Ran.value rfl (v := .int .i64 lo) (w1 := wa) ?_ ⟨rfl, Ext.refl _⟩
    go_simp
   | 3, _ =>
    obtain rfl := Option.some.inj ho
    have h0 : a.tmps[3]?.getD undef = .int .i64 hi := evalD (hF.old 3 (by decide))
    refine Ran.value rfl (v := .int .i64 hi) (w1 := wa) ?_ ⟨rfl, Ext.refl _⟩
    go_simp
   | 4, _ =>
    obtain rfl := Option.some.inj ho
    have h0 : a.tmps[22]?.getD undef = .int .i64 lo := evalD (hF.from_ 2 22 rfl (by decide))
    have h1 : a.tmps[23]?.getD undef = .int .i64 hi := evalD (hF.from_ 3 23 rfl (by decide))
    refine Ran.enter rfl (f := 76) (args := #[.int .i64 lo, .int .i64 hi]) (w1 := wa) ?_ ?_
    ·go_simp
    ·refine (e_isSpan_any lo hi _).mono ?_
     rintro r w1 ⟨rfl, rfl⟩
     exact ⟨_, rfl, by rw [c2]; rfl, Ext.refl _⟩
   | 5, _ =>
    obtain rfl := Option.some.inj ho
    have h0 : a.tmps[24]?.getD undef = .bool false := evalD (hF.from_ 4 24 rfl (by decide))
    refine Ran.value rfl (v := .bool false) (w1 := wa) ?_ ⟨rfl, Ext.refl _⟩
    go_simp
   | 6, _ =>
    obtain rfl := Option.some.inj ho
    have hg : a.eval (.tmp 25) = .bool false := hF.from_ 5 25 rfl (by decide)
    exact Ran.if_ rfl rfl rfl hg (fun h => by cases h) (fun _ => ⟨rfl, Ext.refl _⟩)
   | 7, _ =>
    obtain rfl := Option.some.inj ho
    have hg : a.eval (.tmp 25) = .bool false := hF.from_ 5 25 rfl (by decide)
    exact Ran.if_ rfl rfl rfl hg (fun h => by cases h) (fun _ => ⟨rfl, Ext.refl _⟩)
   | 8, _ =>
    obtain rfl := Option.some.inj ho
    have h0 : a.tmps[25]?.getD undef = .bool false := evalD (hF.from_ 5 25 rfl (by decide))
    have h1 : a.tmps[27]?.getD undef = undef := evalD (hF.from_ 7 27 rfl (by decide))
    refine Ran.value rfl (v := .bool false) (w1 := wa) ?_ ⟨rfl, Ext.refl _⟩
    go_simp
   | 9, _ =>
    obtain rfl := Option.some.inj ho
    have h0 : a.tmps[20]?.getD undef = .agg #[.slice p.Ab e.sky.bodies.length p.cb, .int .i64 e.sky.nnum, .int .i64 e.sky.nden, .int .i64 e.sky.nstart, .slice p.As e.sun.length p.cs, .slice p.Am e.moon.length p.cm, .slice p.An e.node.length p.cn, .slice p.Af e.feasts.length p.cf, .int .i64 e.nw, .int .i64 e.fl, .int .i64 e.wide] := evalD (hF.from_ 0 20 rfl (by decide))
    have h1 : a.tmps[21]?.getD undef = .slice p.At set.length p.ct := evalD (hF.from_ 1 21 rfl (by decide))
    have h2 : a.tmps[28]?.getD undef = .bool false := evalD (hF.from_ 8 28 rfl (by decide))
    refine Ran.enter rfl (f := 69) (args := #[.agg #[.slice p.Ab e.sky.bodies.length p.cb, .int .i64 e.sky.nnum, .int .i64 e.sky.nden, .int .i64 e.sky.nstart, .slice p.As e.sun.length p.cs, .slice p.Am e.moon.length p.cm, .slice p.An e.node.length p.cn, .slice p.Af e.feasts.length p.cf, .int .i64 e.nw, .int .i64 e.fl, .int .i64 e.wide], .slice p.At set.length p.ct, .bool false]) (w1 := wa) ?_ ?_
    ·go_simp
    ·refine (e_asked_err p e set false wa (HM.out.ext (HE0.out.trans hE)) HL.out hs h).mono ?_
     rintro r w1 ⟨rfl, hX⟩
     exact ⟨_, rfl, rfl, hX⟩
   | 10, _ =>
    obtain rfl := Option.some.inj ho
    have h0 : a.tmps[29]?.getD undef = .tuple #[.agg #[.slice none 0 0, .int .i64 0, .int .i64 0, .int .i64 0, .slice none 0 0, .slice none 0 0, .slice none 0 0, .slice none 0 0, .int .i64 0, .int .i64 0, .int .i64 0, .slice none 0 0, .map none], .int .i64 2] := evalD (hF.from_ 9 29 rfl (by decide))
    refine Ran.value rfl (w1 := wa) (v := .tuple #[.agg #[.slice none 0 0, .int .i64 0, .int .i64 0, .int .i64 0, .slice none 0 0, .slice none 0 0, .slice none 0 0, .slice none 0 0, .int .i64 0, .int .i64 0, .int .i64 0, .slice none 0 0, .map none], .int .i64 2]) ?_ ⟨rfl, Ext.refl _⟩
    go_simp
   | 11, _ =>
    obtain rfl := Option.some.inj ho
    have h0 : a.tmps[19]?.getD undef = .tuple #[.agg #[.slice none 0 0, .int .i64 0, .int .i64 0, .int .i64 0, .slice none 0 0, .slice none 0 0, .slice none 0 0, .slice none 0 0, .int .i64 0, .int .i64 0, .int .i64 0, .slice none 0 0, .map none], .int .i64 2] := evalD (hF.from_ 10 19 rfl (by decide))
    refine Ran.value rfl (w1 := wa) (v := .agg #[.slice none 0 0, .int .i64 0, .int .i64 0, .int .i64 0, .slice none 0 0, .slice none 0 0, .slice none 0 0, .slice none 0 0, .int .i64 0, .int .i64 0, .int .i64 0, .slice none 0 0, .map none]) ?_ ⟨rfl, Ext.refl _⟩
    go_simp
   | 12, _ =>
    obtain rfl := Option.some.inj ho
    have h0 : a.tmps[19]?.getD undef = .tuple #[.agg #[.slice none 0 0, .int .i64 0, .int .i64 0, .int .i64 0, .slice none 0 0, .slice none 0 0, .slice none 0 0, .slice none 0 0, .int .i64 0, .int .i64 0, .int .i64 0, .slice none 0 0, .map none], .int .i64 2] := evalD (hF.from_ 10 19 rfl (by decide))
    refine Ran.value rfl (w1 := wa) (v := .int .i64 2) ?_ ⟨rfl, Ext.refl _⟩
    go_simp
   | 13, _ =>
    obtain rfl := Option.some.inj ho
    refine Ran.value rfl (w1 := wa.alloc (.cells zeroEng 100)) (v := .pointer (some ⟨wa.heap.size, 0, none⟩)) (by kernel_rfl) ⟨⟨wa.heap.size, rfl, hE.size, Row.new _ _ _⟩, (Ext.refl _).alloc _⟩
   | k + 14, hin => omega
  case hQ =>
   intro vs w2 hE hΦ
   have f0 : vs 0 = .agg #[.slice p.Ab e.sky.bodies.length p.cb, .int .i64 e.sky.nnum, .int .i64 e.sky.nden, .int .i64 e.sky.nstart, .slice p.As e.sun.length p.cs, .slice p.Am e.moon.length p.cm, .slice p.An e.node.length p.cn, .slice p.Af e.feasts.length p.cf, .int .i64 e.nw, .int .i64 e.fl, .int .i64 e.wide] := hΦ 0 (by omega)
   have f1 : vs 1 = .slice p.At set.length p.ct := hΦ 1 (by omega)
   have f2 : vs 2 = .int .i64 lo := hΦ 2 (by omega)
   have f3 : vs 3 = .int .i64 hi := hΦ 3 (by omega)
   have f4 : vs 4 = .bool false := hΦ 4 (by omega)
   have f5 : vs 5 = .bool false := hΦ 5 (by omega)
   have f6 : vs 6 = undef := hΦ 6 (by omega)
   have f7 : vs 7 = undef := hΦ 7 (by omega)
   have f8 : vs 8 = .bool false := hΦ 8 (by omega)
   have f9 : vs 9 = .tuple #[.agg #[.slice none 0 0, .int .i64 0, .int .i64 0, .int .i64 0, .slice none 0 0, .slice none 0 0, .slice none 0 0, .slice none 0 0, .int .i64 0, .int .i64 0, .int .i64 0, .slice none 0 0, .map none], .int .i64 2] := hΦ 9 (by omega)
   have f10 : vs 10 = .tuple #[.agg #[.slice none 0 0, .int .i64 0, .int .i64 0, .int .i64 0, .slice none 0 0, .slice none 0 0, .slice none 0 0, .slice none 0 0, .int .i64 0, .int .i64 0, .int .i64 0, .slice none 0 0, .map none], .int .i64 2] := hΦ 10 (by omega)
   have f11 : vs 11 = .agg #[.slice none 0 0, .int .i64 0, .int .i64 0, .int .i64 0, .slice none 0 0, .slice none 0 0, .slice none 0 0, .slice none 0 0, .int .i64 0, .int .i64 0, .int .i64 0, .slice none 0 0, .map none] := hΦ 11 (by omega)
   have f12 : vs 12 = .int .i64 2 := hΦ 12 (by omega)
   obtain ⟨b, f13, hb, hr⟩ : AskNew W (vs 13) w2 := hΦ 13 (by omega)
   have hrg : List.range 14 = [0, 1, 2, 3, 4, 5, 6, 7, 8, 9, 10, 11, 12, 13] := rfl
   unfold putAll putS
   simp only [List.length_cons, List.length_nil, List.take_succ_cons, List.take_zero, List.drop_succ_cons, List.drop_zero, Nat.reduceAdd, hrg, List.foldl_cons, List.foldl_nil, dstOf, List.getElem?_cons_succ, List.getElem?_cons_zero, Option.bind_some]
   clear hrg
   rw [f0, f1, f2, f3, f4, f5, f6, f7, f8, f9, f10, f11, f12, f13]
   have c := hr.cell
   simp only [zeroEng] at c
   have fz := hr.free
   go_wp2
   clear c fz
   obtain ⟨W3, hW3⟩ : ∃ W3, setsAt w2 b 0 [.slice none 0 0, .int .i64 0, .int .i64 0, .int .i64 0, .slice none 0 0, .slice none 0 0, .slice none 0 0, .slice none 0 0, .int .i64 0, .int .i64 0, .int .i64 0, .slice none 0 0, .map none] = W3 := ⟨_, rfl⟩
   have hE3 : Ext W W3 := by rw [← hW3]; exact Ext.sets hb _ _ _ hE
   simp only [setsAt, Nat.reduceAdd] at hW3
   try rw [hW3]
   first | exact hE3 | exact ⟨hb, hE3⟩ | exact ⟨b, hb, hE3, by simp⟩
  case hZ =>
   intro _ vs w2 hE hΦ on oz hon hoz
   obtain rfl := Option.some.inj hon
   obtain rfl := Option.some.inj hoz
   have f0 : vs 0 = .agg #[.slice p.Ab e.sky.bodies.length p.cb, .int .i64 e.sky.nnum, .int .i64 e.sky.nden, .int .i64 e.sky.nstart, .slice p.As e.sun.length p.cs, .slice p.Am e.moon.length p.cm, .slice p.An e.node.length p.cn, .slice p.Af e.feasts.length p.cf, .int .i64 e.nw, .int .i64 e.fl, .int .i64 e.wide] := hΦ 0 (by omega) (by omega)
   have f1 : vs 1 = .slice p.At set.length p.ct := hΦ 1 (by omega) (by omega)
   have f2 : vs 2 = .int .i64 lo := hΦ 2 (by omega) (by omega)
   have f3 : vs 3 = .int .i64 hi := hΦ 3 (by omega) (by omega)
   have f4 : vs 4 = .bool false := hΦ 4 (by omega) (by omega)
   have f5 : vs 5 = .bool false := hΦ 5 (by omega) (by omega)
   have f6 : vs 6 = undef := hΦ 6 (by omega) (by omega)
   have f7 : vs 7 = undef := hΦ 7 (by omega) (by omega)
   have f8 : vs 8 = .bool false := hΦ 8 (by omega) (by omega)
   have f9 : vs 9 = .tuple #[.agg #[.slice none 0 0, .int .i64 0, .int .i64 0, .int .i64 0, .slice none 0 0, .slice none 0 0, .slice none 0 0, .slice none 0 0, .int .i64 0, .int .i64 0, .int .i64 0, .slice none 0 0, .map none], .int .i64 2] := hΦ 9 (by omega) (by omega)
   have f10 : vs 10 = .tuple #[.agg #[.slice none 0 0, .int .i64 0, .int .i64 0, .int .i64 0, .slice none 0 0, .slice none 0 0, .slice none 0 0, .slice none 0 0, .int .i64 0, .int .i64 0, .int .i64 0, .slice none 0 0, .map none], .int .i64 2] := hΦ 10 (by omega) (by omega)
   have f11 : vs 11 = .agg #[.slice none 0 0, .int .i64 0, .int .i64 0, .int .i64 0, .slice none 0 0, .slice none 0 0, .slice none 0 0, .slice none 0 0, .int .i64 0, .int .i64 0, .int .i64 0, .slice none 0 0, .map none] := hΦ 11 (by omega) (by omega)
   obtain ⟨b, f13, hb, hr⟩ : AskNew W (vs 13) w2 := hΦ 13 (by omega) (by omega)
   have hrg : (List.range 14).filter (· ≠ 12) = [0, 1, 2, 3, 4, 5, 6, 7, 8, 9, 10, 11, 13] := by decide
   rw [hrg]
   unfold putS
   simp only [List.take_succ_cons, List.take_zero, List.drop_succ_cons, List.drop_zero, Nat.reduceAdd, List.foldl_cons, List.foldl_nil, dstOf, List.getElem?_cons_succ, List.getElem?_cons_zero, Option.bind_some]
   clear hrg
   rw [f0, f1, f2, f3, f4, f5, f6, f7, f8, f9, f10, f11, f13]
   have c := hr.cell
   simp only [zeroEng] at c
   have fz := hr.free
   go_wp2
   clear c fz
   obtain ⟨W3, hW3⟩ : ∃ W3, setsAt w2 b 0 [.slice none 0 0, .int .i64 0, .int .i64 0, .int .i64 0, .slice none 0 0, .slice none 0 0, .slice none 0 0, .slice none 0 0, .int .i64 0, .int .i64 0, .int .i64 0, .slice none 0 0, .map none] = W3 := ⟨_, rfl⟩
   have hE3 : Ext W W3 := by rw [← hW3]; exact Ext.sets hb _ _ _ hE
   simp only [setsAt, Nat.reduceAdd] at hW3
   try rw [hW3]
   first | exact hE3 | exact ⟨hb, hE3⟩ | exact ⟨b, hb, hE3, by simp⟩
  case hq =>
   rintro e' a' w3 ⟨rfl, b, hb, hE3, rfl⟩
   have hE4 : Ext w w3 := HE0.out.trans hE3
   go_wp2_with fail
   dsimp only [Exit.noGoto]
   go_ret2
   exact ⟨rfl, hE4⟩
 ·replace h : (Ec.engineOk e && (Ec.setOk e.feasts set && fb)) = false := by rw [c2, Bool.true_and] at h; exact h
  go_enter Tryz.func51, Tryz.ntmps51
  go_wp2_with fail
  go_step3
  go_wp2_with fail
  obtain ⟨W, hW⟩ : ∃ W, (w.alloc (.cells #[.slice p.Ab e.sky.bodies.length p.cb, .int .i64 e.sky.nnum, .int .i64 e.sky.nden, .int .i64 e.sky.nstart, .slice p.As e.sun.length p.cs, .slice p.Am e.moon.length p.cm, .slice p.An e.node.length p.cn, .slice p.Af e.feasts.length p.cf, .int .i64 e.nw, .int .i64 e.fl, .int .i64 e.wide] 32)).alloc (.cells #[.int .i64 late] 3) = W := ⟨_, rfl⟩
  rw [hW] at HR0 HR1 HE0 ⊢
  clear hW
  refine Code.wp_mono (Q := fun e' a' w' => e' = .normal ∧ ∃ b, W.heap.size ≤ b ∧ Ext W w' ∧ a' = (⟨#[.agg #[.slice p.Ab e.sky.bodies.length p.cb, .int .i64 e.sky.nnum, .int .i64 e.sky.nden, .int .i64 e.sky.nstart, .slice p.As e.sun.length p.cs, .slice p.Am e.moon.length p.cm, .slice p.An e.node.length p.cn, .slice p.Af e.feasts.length p.cf, .int .i64 e.nw, .int .i64 e.fl, .int .i64 e.wide], .slice p.At set.length p.ct, .int .i64 lo, .int .i64 hi, .int .i64 late, .pointer (some ⟨w.heap.size, 0, none⟩), undef, undef, undef, .pointer (some ⟨w.heap.size + 1, 0, none⟩), .slice none 0 0, .int .i64 0, .pointer (some ⟨b, 0, none⟩), .int .i64 2, undef, undef, undef, undef, undef, .tuple #[.agg #[.slice none 0 0, .int .i64 0, .int .i64 0, .int .i64 0, .slice none 0 0, .slice none 0 0, .slice none 0 0, .slice none 0 0, .int .i64 0, .int .i64 0, .int .i64 0, .slice none 0 0, .map none], .int .i64 2], .agg #[.slice p.Ab e.sky.bodies.length p.cb, .int .i64 e.sky.nnum, .int .i64 e.sky.nden, .int .i64 e.sky.nstart, .slice p.As e.sun.length p.cs, .slice p.Am e.moon.length p.cm, .slice p.An e.node.length p.cn, .slice p.Af e.feasts.length p.cf, .int .i64 e.nw, .int .i64 e.fl, .int .i64 e.wide], .slice p.At set.length p.ct, .int .i64 lo, .int .i64 hi, .bool true, .bool true, .int .i64 late, .bool fb, .bool fb, .tuple #[.agg #[.slice none 0 0, .int .i64 0, .int .i64 0, .int .i64 0, .slice none 0 0, .slice none 0 0, .slice none 0 0, .slice none 0 0, .int .i64 0, .int .i64 0, .int .i64 0, .slice none 0 0, .map none], .int .i64 2], .agg #[.slice none 0 0, .int .i64 0, .int .i64 0, .int .i64 0, .slice none 0 0, .slice none 0 0, .slice none 0 0, .slice none 0 0, .int .i64 0, .int .i64 0, .int .i64 0, .slice none 0 0, .map none], .int .i64 2, undef, undef, undef, undef, undef, undef, undef, undef, undef, undef, undef, undef, undef, undef, undef, undef, undef, undef, undef, undef, undef, undef, undef, undef, undef, undef, undef, undef, undef, undef, undef, undef, undef, undef, undef, undef, undef, undef, undef, undef, undef, undef, undef, undef, undef, undef], []⟩ : Act)) ?hq (wp_region_free_tail 14 12 (emptyΦt p e set lo hi late fb W) (by kernel_rfl) (by simp) (by kernel_rfl) (by kernel_rfl) (by kernel_rfl) (by kernel_rfl) emptyΦt_mono ?hob ?hQ ?hZ)
  case hob =>
   intro i o hin ho a wa hE hF
   match i, hin with
   | 0, _ =>
    obtain rfl := Option.some.inj ho
    have h0 : a.tmps[5]?.getD undef = .pointer (some ⟨w.heap.size, 0, none⟩) := evalD (hF.old 5 (by decide))
    have q := (HR0.out.ext hE).cell
    refine Ran.value rfl (v := .agg #[.slice p.Ab e.sky.bodies.length p.cb, .int .i64 e.sky.nnum, .int .i64 e.sky.nden, .int .i64 e.sky.nstart, .slice p.As e.sun.length p.cs, .slice p.Am e.moon.length p.cm, .slice p.An e.node.length p.cn, .slice p.Af e.feasts.length p.cf, .int .i64 e.nw, .int .i64 e.fl, .int .i64 e.wide]) (w1 := wa) ?_ ⟨rfl, Ext.refl _⟩
    go_simp
   | 1, _ =>
    obtain rfl := Option.some.inj ho
    have h0 : a.tmps[1]?.getD undef = .slice p.At set.length p.ct := evalD (hF.old 1 (by decide))
    refine Ran.value rfl (v := .slice p.At set.length p.ct) (w1 := wa) ?_ ⟨rfl, Ext.refl _⟩
    go_simp
   | 2, _ =>
    obtain rfl := Option.some.inj ho
    have h0 : a.tmps[2]?.getD undef = .int .i64 lo := evalD (hF.old 2 (by decide))
    refine Ran.value rfl (v := .int .i64 lo) (w1 := wa) ?_ ⟨rfl, Ext.refl _⟩
    go_simp
   | 3, _ =>
    obtain rfl := Option.some.inj ho
    have h0 : a.tmps[3]?.getD undef = .int .i64 hi := evalD (hF.old 3 (by decide))
    refine Ran.value rfl (v := .int .i64 hi) (w1 := wa) ?_ ⟨rfl, Ext.refl _⟩
    go_simp
   | 4, _ =>
    obtain rfl := Option.some.inj ho
    have h0 : a.tmps[22]?.getD undef = .int .i64 lo := evalD (hF.from_ 2 22 rfl (by decide))
    have h1 : a.tmps[23]?.getD undef = .int .i64 hi := evalD (hF.from_ 3 23 rfl (by decide))
    refine Ran.enter rfl (f := 76) (args := #[.int .i64 lo, .int .i64 hi]) (w1 := wa) ?_ ?_
    ·go_simp
    ·refine (e_isSpan_any lo hi _).mono ?_
     rintro r w1 ⟨rfl, rfl⟩
     exact ⟨_, rfl, by rw [c2]; rfl, Ext.refl _⟩
   | 5, _ =>
    obtain rfl := Option.some.inj ho
    have h0 : a.tmps[24]?.getD undef = .bool true := evalD (hF.from_ 4 24 rfl (by decide))
    refine Ran.value rfl (v := .bool true) (w1 := wa) ?_ ⟨rfl, Ext.refl _⟩
    go_simp
   | 6, _ =>
    obtain rfl := Option.some.inj ho
    have hg : a.eval (.tmp 25) = .bool true := hF.from_ 5 25 rfl (by decide)
    refine Ran.if_ rfl rfl rfl hg (fun _ => ?_) (fun h => absurd rfl h)
    have h0 : a.tmps[9]?.getD undef = .pointer (some ⟨w.heap.size + 1, 0, none⟩) := evalD (hF.old 9 (by decide))
    have q := (HR1.out.ext hE).cell
    refine Ran.value rfl (v := .int .i64 late) (w1 := wa) ?_ ⟨rfl, Ext.refl _⟩
    go_simp
   | 7, _ =>
    obtain rfl := Option.some.inj ho
    have hg : a.eval (.tmp 25) = .bool true := hF.from_ 5 25 rfl (by decide)
    refine Ran.if_ rfl rfl rfl hg (fun _ => ?_) (fun h => absurd rfl h)
    have h0 : a.tmps[26]?.getD undef = .int .i64 late := evalD (hF.from_ 6 26 rfl (by decide))
    refine Ran.enter rfl (f := 83) (args := #[.int .i64 late]) (w1 := wa) ?_ ?_
    ·go_simp
    ·refine (e_isLate_any late _).mono ?_
     rintro r w1 ⟨rfl, rfl⟩
     exact ⟨_, rfl, by rw [c3]; rfl, Ext.refl _⟩
   | 8, _ =>
    obtain rfl := Option.some.inj ho
    have h0 : a.tmps[25]?.getD undef = .bool true := evalD (hF.from_ 5 25 rfl (by decide))
    have h1 : a.tmps[27]?.getD undef = .bool fb := evalD (hF.from_ 7 27 rfl (by decide))
    refine Ran.value rfl (v := .bool fb) (w1 := wa) ?_ ⟨rfl, Ext.refl _⟩
    go_simp
   | 9, _ =>
    obtain rfl := Option.some.inj ho
    have h0 : a.tmps[20]?.getD undef = .agg #[.slice p.Ab e.sky.bodies.length p.cb, .int .i64 e.sky.nnum, .int .i64 e.sky.nden, .int .i64 e.sky.nstart, .slice p.As e.sun.length p.cs, .slice p.Am e.moon.length p.cm, .slice p.An e.node.length p.cn, .slice p.Af e.feasts.length p.cf, .int .i64 e.nw, .int .i64 e.fl, .int .i64 e.wide] := evalD (hF.from_ 0 20 rfl (by decide))
    have h1 : a.tmps[21]?.getD undef = .slice p.At set.length p.ct := evalD (hF.from_ 1 21 rfl (by decide))
    have h2 : a.tmps[28]?.getD undef = .bool fb := evalD (hF.from_ 8 28 rfl (by decide))
    refine Ran.enter rfl (f := 69) (args := #[.agg #[.slice p.Ab e.sky.bodies.length p.cb, .int .i64 e.sky.nnum, .int .i64 e.sky.nden, .int .i64 e.sky.nstart, .slice p.As e.sun.length p.cs, .slice p.Am e.moon.length p.cm, .slice p.An e.node.length p.cn, .slice p.Af e.feasts.length p.cf, .int .i64 e.nw, .int .i64 e.fl, .int .i64 e.wide], .slice p.At set.length p.ct, .bool fb]) (w1 := wa) ?_ ?_
    ·go_simp
    ·refine (e_asked_err p e set fb wa (HM.out.ext (HE0.out.trans hE)) HL.out hs h).mono ?_
     rintro r w1 ⟨rfl, hX⟩
     exact ⟨_, rfl, rfl, hX⟩
   | 10, _ =>
    obtain rfl := Option.some.inj ho
    have h0 : a.tmps[29]?.getD undef = .tuple #[.agg #[.slice none 0 0, .int .i64 0, .int .i64 0, .int .i64 0, .slice none 0 0, .slice none 0 0, .slice none 0 0, .slice none 0 0, .int .i64 0, .int .i64 0, .int .i64 0, .slice none 0 0, .map none], .int .i64 2] := evalD (hF.from_ 9 29 rfl (by decide))
    refine Ran.value rfl (w1 := wa) (v := .tuple #[.agg #[.slice none 0 0, .int .i64 0, .int .i64 0, .int .i64 0, .slice none 0 0, .slice none 0 0, .slice none 0 0, .slice none 0 0, .int .i64 0, .int .i64 0, .int .i64 0, .slice none 0 0, .map none], .int .i64 2]) ?_ ⟨rfl, Ext.refl _⟩
    go_simp
   | 11, _ =>
    obtain rfl := Option.some.inj ho
    have h0 : a.tmps[19]?.getD undef = .tuple #[.agg #[.slice none 0 0, .int .i64 0, .int .i64 0, .int .i64 0, .slice none 0 0, .slice none 0 0, .slice none 0 0, .slice none 0 0, .int .i64 0, .int .i64 0, .int .i64 0, .slice none 0 0, .map none], .int .i64 2] := evalD (hF.from_ 10 19 rfl (by decide))
    refine Ran.value rfl (w1 := wa) (v := .agg #[.slice none 0 0, .int .i64 0, .int .i64 0, .int .i64 0, .slice none 0 0, .slice none 0 0, .slice none 0 0, .slice none 0 0, .int .i64 0, .int .i64 0, .int .i64 0, .slice none 0 0, .map none]) ?_ ⟨rfl, Ext.refl _⟩
    go_simp
   | 12, _ =>
    obtain rfl := Option.some.inj ho
    have h0 : a.tmps[19]?.getD undef = .tuple #[.agg #[.slice none 0 0, .int .i64 0, .int .i64 0, .int .i64 0, .slice none 0 0, .slice none 0 0, .slice none 0 0, .slice none 0 0, .int .i64 0, .int .i64 0, .int .i64 0, .slice none 0 0, .map none], .int .i64 2] := evalD (hF.from_ 10 19 rfl (by decide))
    refine Ran.value rfl (w1 := wa) (v := .int .i64 2) ?_ ⟨rfl, Ext.refl _⟩
    go_simp
   | 13, _ =>
    obtain rfl := Option.some.inj ho
    refine Ran.value rfl (w1 := wa.alloc (.cells zeroEng 100)) (v := .pointer (some ⟨wa.heap.size, 0, none⟩)) (by kernel_rfl) ⟨⟨wa.heap.size, rfl, hE.size, Row.new _ _ _⟩, (Ext.refl _).alloc _⟩
   | k + 14, hin => omega
  case hQ =>
   intro vs w2 hE hΦ
   have f0 : vs 0 = .agg #[.slice p.Ab e.sky.bodies.length p.cb, .int .i64 e.sky.nnum, .int .i64 e.sky.nden, .int .i64 e.sky.nstart, .slice p.As e.sun.length p.cs, .slice p.Am e.moon.length p.cm, .slice p.An e.node.length p.cn, .slice p.Af e.feasts.length p.cf, .int .i64 e.nw, .int .i64 e.fl, .int .i64 e.wide] := hΦ 0 (by omega)
   have f1 : vs 1 = .slice p.At set.length p.ct := hΦ 1 (by omega)
   have f2 : vs 2 = .int .i64 lo := hΦ 2 (by omega)
   have f3 : vs 3 = .int .i64 hi := hΦ 3 (by omega)
   have f4 : vs 4 = .bool true := hΦ 4 (by omega)
   have f5 : vs 5 = .bool true := hΦ 5 (by omega)
   have f6 : vs 6 = .int .i64 late := hΦ 6 (by omega)
   have f7 : vs 7 = .bool fb := hΦ 7 (by omega)
   have f8 : vs 8 = .bool fb := hΦ 8 (by omega)
   have f9 : vs 9 = .tuple #[.agg #[.slice none 0 0, .int .i64 0, .int .i64 0, .int .i64 0, .slice none 0 0, .slice none 0 0, .slice none 0 0, .slice none 0 0, .int .i64 0, .int .i64 0, .int .i64 0, .slice none 0 0, .map none], .int .i64 2] := hΦ 9 (by omega)
   have f10 : vs 10 = .tuple #[.agg #[.slice none 0 0, .int .i64 0, .int .i64 0, .int .i64 0, .slice none 0 0, .slice none 0 0, .slice none 0 0, .slice none 0 0, .int .i64 0, .int .i64 0, .int .i64 0, .slice none 0 0, .map none], .int .i64 2] := hΦ 10 (by omega)
   have f11 : vs 11 = .agg #[.slice none 0 0, .int .i64 0, .int .i64 0, .int .i64 0, .slice none 0 0, .slice none 0 0, .slice none 0 0, .slice none 0 0, .int .i64 0, .int .i64 0, .int .i64 0, .slice none 0 0, .map none] := hΦ 11 (by omega)
   have f12 : vs 12 = .int .i64 2 := hΦ 12 (by omega)
   obtain ⟨b, f13, hb, hr⟩ : AskNew W (vs 13) w2 := hΦ 13 (by omega)
   have hrg : List.range 14 = [0, 1, 2, 3, 4, 5, 6, 7, 8, 9, 10, 11, 12, 13] := rfl
   unfold putAll putS
   simp only [List.length_cons, List.length_nil, List.take_succ_cons, List.take_zero, List.drop_succ_cons, List.drop_zero, Nat.reduceAdd, hrg, List.foldl_cons, List.foldl_nil, dstOf, List.getElem?_cons_succ, List.getElem?_cons_zero, Option.bind_some]
   clear hrg
   rw [f0, f1, f2, f3, f4, f5, f6, f7, f8, f9, f10, f11, f12, f13]
   have c := hr.cell
   simp only [zeroEng] at c
   have fz := hr.free
   go_wp2
   clear c fz
   obtain ⟨W3, hW3⟩ : ∃ W3, setsAt w2 b 0 [.slice none 0 0, .int .i64 0, .int .i64 0, .int .i64 0, .slice none 0 0, .slice none 0 0, .slice none 0 0, .slice none 0 0, .int .i64 0, .int .i64 0, .int .i64 0, .slice none 0 0, .map none] = W3 := ⟨_, rfl⟩
   have hE3 : Ext W W3 := by rw [← hW3]; exact Ext.sets hb _ _ _ hE
   simp only [setsAt, Nat.reduceAdd] at hW3
   try rw [hW3]
   first | exact hE3 | exact ⟨hb, hE3⟩ | exact ⟨b, hb, hE3, by simp⟩
  case hZ =>
   intro _ vs w2 hE hΦ on oz hon hoz
   obtain rfl := Option.some.inj hon
   obtain rfl := Option.some.inj hoz
   have f0 : vs 0 = .agg #[.slice p.Ab e.sky.bodies.length p.cb, .int .i64 e.sky.nnum, .int .i64 e.sky.nden, .int .i64 e.sky.nstart, .slice p.As e.sun.length p.cs, .slice p.Am e.moon.length p.cm, .slice p.An e.node.length p.cn, .slice p.Af e.feasts.length p.cf, .int .i64 e.nw, .int .i64 e.fl, .int .i64 e.wide] := hΦ 0 (by omega) (by omega)
   have f1 : vs 1 = .slice p.At set.length p.ct := hΦ 1 (by omega) (by omega)
   have f2 : vs 2 = .int .i64 lo := hΦ 2 (by omega) (by omega)
   have f3 : vs 3 = .int .i64 hi := hΦ 3 (by omega) (by omega)
   have f4 : vs 4 = .bool true := hΦ 4 (by omega) (by omega)
   have f5 : vs 5 = .bool true := hΦ 5 (by omega) (by omega)
   have f6 : vs 6 = .int .i64 late := hΦ 6 (by omega) (by omega)
   have f7 : vs 7 = .bool fb := hΦ 7 (by omega) (by omega)
   have f8 : vs 8 = .bool fb := hΦ 8 (by omega) (by omega)
   have f9 : vs 9 = .tuple #[.agg #[.slice none 0 0, .int .i64 0, .int .i64 0, .int .i64 0, .slice none 0 0, .slice none 0 0, .slice none 0 0, .slice none 0 0, .int .i64 0, .int .i64 0, .int .i64 0, .slice none 0 0, .map none], .int .i64 2] := hΦ 9 (by omega) (by omega)
   have f10 : vs 10 = .tuple #[.agg #[.slice none 0 0, .int .i64 0, .int .i64 0, .int .i64 0, .slice none 0 0, .slice none 0 0, .slice none 0 0, .slice none 0 0, .int .i64 0, .int .i64 0, .int .i64 0, .slice none 0 0, .map none], .int .i64 2] := hΦ 10 (by omega) (by omega)
   have f11 : vs 11 = .agg #[.slice none 0 0, .int .i64 0, .int .i64 0, .int .i64 0, .slice none 0 0, .slice none 0 0, .slice none 0 0, .slice none 0 0, .int .i64 0, .int .i64 0, .int .i64 0, .slice none 0 0, .map none] := hΦ 11 (by omega) (by omega)
   obtain ⟨b, f13, hb, hr⟩ : AskNew W (vs 13) w2 := hΦ 13 (by omega) (by omega)
   have hrg : (List.range 14).filter (· ≠ 12) = [0, 1, 2, 3, 4, 5, 6, 7, 8, 9, 10, 11, 13] := by decide
   rw [hrg]
   unfold putS
   simp only [List.take_succ_cons, List.take_zero, List.drop_succ_cons, List.drop_zero, Nat.reduceAdd, List.foldl_cons, List.foldl_nil, dstOf, List.getElem?_cons_succ, List.getElem?_cons_zero, Option.bind_some]
   clear hrg
   rw [f0, f1, f2, f3, f4, f5, f6, f7, f8, f9, f10, f11, f13]
   have c := hr.cell
   simp only [zeroEng] at c
   have fz := hr.free
   go_wp2
   clear c fz
   obtain ⟨W3, hW3⟩ : ∃ W3, setsAt w2 b 0 [.slice none 0 0, .int .i64 0, .int .i64 0, .int .i64 0, .slice none 0 0, .slice none 0 0, .slice none 0 0, .slice none 0 0, .int .i64 0, .int .i64 0, .int .i64 0, .slice none 0 0, .map none] = W3 := ⟨_, rfl⟩
   have hE3 : Ext W W3 := by rw [← hW3]; exact Ext.sets hb _ _ _ hE
   simp only [setsAt, Nat.reduceAdd] at hW3
   try rw [hW3]
   first | exact hE3 | exact ⟨hb, hE3⟩ | exact ⟨b, hb, hE3, by simp⟩
  case hq =>
   rintro e' a' w3 ⟨rfl, b, hb, hE3, rfl⟩
   have hE4 : Ext w w3 := HE0.out.trans hE3
   go_wp2_with fail
   dsimp only [Exit.noGoto]
   go_ret2
   exact ⟨rfl, hE4⟩
end Go.Proofs.YtcbodpnmndbgnaaGreatDoor
