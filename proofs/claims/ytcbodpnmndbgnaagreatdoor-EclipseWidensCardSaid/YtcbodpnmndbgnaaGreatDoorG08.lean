/- Volume 8 of the texts that the laws of this seat use: EcMissed2 EcWithin EcUntil EcErr3: walks of the program's functions, and plain laws. -/
import Derived.Carry
import Derived.Test.YtcbodpnmndbgnaaGreatDoorG02
import Derived.Test.YtcbodpnmndbgnaaGreatDoorG04
import Derived.Test.YtcbodpnmndbgnaaGreatDoorG06
import Derived.Test.YtcbodpnmndbgnaaGreatDoorG07
namespace Go.Proofs.YtcbodpnmndbgnaaGreatDoor
open Go.RowKit
open Sp (rd)
set_option maxRecDepth 100000
set_option maxHeartbeats 1000000
def missedΦ (p : EP) (e : Ec.Engine) (set : List Int) (lo : Int) (hi : Int) (late : Int) (w0 : World) (i : Nat) (v : Value) (w : World) : Prop :=
 match i with
 | 0 => v = .agg #[.slice p.Ab e.sky.bodies.length p.cb, .int .i64 e.sky.nnum, .int .i64 e.sky.nden, .int .i64 e.sky.nstart, .slice p.As e.sun.length p.cs, .slice p.Am e.moon.length p.cm, .slice p.An e.node.length p.cn, .slice p.Af e.feasts.length p.cf, .int .i64 e.nw, .int .i64 e.fl, .int .i64 e.wide]
 | 1 => v = .slice p.At set.length p.ct
 | 2 => v = .int .i64 lo
 | 3 => v = .int .i64 hi
 | 4 => v = .bool true
 | 5 => v = .bool true
 | 6 => v = .int .i64 late
 | 7 => v = .bool true
 | 8 => v = .bool true
 | 9 => AskTup p e set w0 v w
 | 10 => AskTup p e set w0 v w
 | 11 => AskAgg p e set w0 v w
 | 12 => v = .int .i64 0
 | _ => AskNew w0 v w
theorem missedΦ_mono {p : EP} {e : Ec.Engine} {set : List Int} {lo : Int} {hi : Int} {late : Int} {w0 : World} (i : Nat) (v : Value) (w w' : World) (h : missedΦ p e set lo hi late w0 i v w) (he : Ext w w') : missedΦ p e set lo hi late w0 i v w' := by
 unfold missedΦ at h ⊢
 split at h <;> first
  | exact h
  | exact AskTup.ext h he
  | exact AskAgg.ext h he
  | exact AskNew.ext h he
theorem e_Missed_ok (p : EP) (e : Ec.Engine) (set : List Int) (lo hi late : Int) (w : World) (hm : EngSet w p e set) (hl : EngShort e) (hs : set.length ≤ 100000) (c0 : Ec.engineOk e = true) (c1 : Ec.setOk e.feasts set = true) (c2 : Ec.isSpan lo hi = true) (c3 : Ec.isLate late = true) :
  Calls Tryz.prog 39 #[.agg #[.slice p.Ab e.sky.bodies.length p.cb, .int .i64 e.sky.nnum, .int .i64 e.sky.nden, .int .i64 e.sky.nstart, .slice p.As e.sun.length p.cs, .slice p.Am e.moon.length p.cm, .slice p.An e.node.length p.cn, .slice p.Af e.feasts.length p.cf, .int .i64 e.nw, .int .i64 e.fl, .int .i64 e.wide], .slice p.At set.length p.ct, .int .i64 lo, .int .i64 hi, .int .i64 late] w fun r w' => ∃ v, r = .returned (.tuple #[v, .int .i64 0]) ∧ EclVal w' v (Ec.missedL e set lo hi late) ∧ Ext w w' := by
 have HM := Lib.hid hm
 have HL := Lib.hid hl
 have HK : Hid (Fine e set) := Lib.hid ⟨c0, c1⟩
 have HR0 : Hid (Row (w.alloc (.cells #[.slice p.Ab e.sky.bodies.length p.cb, .int .i64 e.sky.nnum, .int .i64 e.sky.nden, .int .i64 e.sky.nstart, .slice p.As e.sun.length p.cs, .slice p.Am e.moon.length p.cm, .slice p.An e.node.length p.cn, .slice p.Af e.feasts.length p.cf, .int .i64 e.nw, .int .i64 e.fl, .int .i64 e.wide] 32)) w.heap.size 32 #[.slice p.Ab e.sky.bodies.length p.cb, .int .i64 e.sky.nnum, .int .i64 e.sky.nden, .int .i64 e.sky.nstart, .slice p.As e.sun.length p.cs, .slice p.Am e.moon.length p.cm, .slice p.An e.node.length p.cn, .slice p.Af e.feasts.length p.cf, .int .i64 e.nw, .int .i64 e.fl, .int .i64 e.wide]) := Lib.hid (Row.new w _ _)
 have HE0 := Lib.hid ((Ext.refl w).alloc (.cells #[.slice p.Ab e.sky.bodies.length p.cb, .int .i64 e.sky.nnum, .int .i64 e.sky.nden, .int .i64 e.sky.nstart, .slice p.As e.sun.length p.cs, .slice p.Am e.moon.length p.cm, .slice p.An e.node.length p.cn, .slice p.Af e.feasts.length p.cf, .int .i64 e.nw, .int .i64 e.fl, .int .i64 e.wide] 32))
 have hd : 1 ≤ lo ∧ lo ≤ hi ∧ hi ≤ 9000 ∧ hi - lo ≤ 400 := by
  simp only [Ec.isSpan, Sp.inR, Bool.and_eq_true, decide_eq_true_eq] at c2
  omega
 have hla : 0 ≤ late ∧ late ≤ 30 := by
  simp only [Ec.isLate, Sp.inR, Bool.and_eq_true, decide_eq_true_eq] at c3
  omega
 clear hm hl
 go_enter Tryz.func39, Tryz.ntmps39
 go_wp2_with fail
 obtain ⟨W, hW⟩ : ∃ W, w.alloc (.cells #[.slice p.Ab e.sky.bodies.length p.cb, .int .i64 e.sky.nnum, .int .i64 e.sky.nden, .int .i64 e.sky.nstart, .slice p.As e.sun.length p.cs, .slice p.Am e.moon.length p.cm, .slice p.An e.node.length p.cn, .slice p.Af e.feasts.length p.cf, .int .i64 e.nw, .int .i64 e.fl, .int .i64 e.wide] 32) = W := ⟨_, rfl⟩
 rw [hW] at HR0 HE0 ⊢
 clear hW
 refine Code.wp_mono (Q := fun e' a' w' => e' = .normal ∧ ∃ M4 M5 M b, W.heap.size ≤ b ∧ W.heap.size ≤ M ∧ Ext W w' ∧ Row w' b 100 #[.slice p.Ab e.sky.bodies.length p.cb, .int .i64 e.sky.nnum, .int .i64 e.sky.nden, .int .i64 e.sky.nstart, .slice p.As e.sun.length p.cs, .slice p.Am e.moon.length p.cm, .slice p.An e.node.length p.cn, .slice p.Af e.feasts.length p.cf, .int .i64 e.nw, .int .i64 e.fl, .int .i64 e.wide, .slice p.At set.length p.ct, .map (some M)] ∧ Seen e set M w' ∧ a' = (⟨#[.agg #[.slice p.Ab e.sky.bodies.length p.cb, .int .i64 e.sky.nnum, .int .i64 e.sky.nden, .int .i64 e.sky.nstart, .slice p.As e.sun.length p.cs, .slice p.Am e.moon.length p.cm, .slice p.An e.node.length p.cn, .slice p.Af e.feasts.length p.cf, .int .i64 e.nw, .int .i64 e.fl, .int .i64 e.wide], .slice p.At set.length p.ct, .int .i64 lo, .int .i64 hi, .int .i64 late, .pointer (some ⟨w.heap.size, 0, none⟩), undef, undef, undef, undef, .slice none 0 0, .int .i64 0, .pointer (some ⟨b, 0, none⟩), .int .i64 0, .tuple #[.agg #[.slice p.Ab e.sky.bodies.length p.cb, .int .i64 e.sky.nnum, .int .i64 e.sky.nden, .int .i64 e.sky.nstart, .slice p.As e.sun.length p.cs, .slice p.Am e.moon.length p.cm, .slice p.An e.node.length p.cn, .slice p.Af e.feasts.length p.cf, .int .i64 e.nw, .int .i64 e.fl, .int .i64 e.wide, .slice p.At set.length p.ct, .map (some M5)], .int .i64 0], .agg #[.slice p.Ab e.sky.bodies.length p.cb, .int .i64 e.sky.nnum, .int .i64 e.sky.nden, .int .i64 e.sky.nstart, .slice p.As e.sun.length p.cs, .slice p.Am e.moon.length p.cm, .slice p.An e.node.length p.cn, .slice p.Af e.feasts.length p.cf, .int .i64 e.nw, .int .i64 e.fl, .int .i64 e.wide], .slice p.At set.length p.ct, .int .i64 lo, .int .i64 hi, .bool true, .bool true, .int .i64 late, .bool true, .bool true, .tuple #[.agg #[.slice p.Ab e.sky.bodies.length p.cb, .int .i64 e.sky.nnum, .int .i64 e.sky.nden, .int .i64 e.sky.nstart, .slice p.As e.sun.length p.cs, .slice p.Am e.moon.length p.cm, .slice p.An e.node.length p.cn, .slice p.Af e.feasts.length p.cf, .int .i64 e.nw, .int .i64 e.fl, .int .i64 e.wide, .slice p.At set.length p.ct, .map (some M4)], .int .i64 0], .agg #[.slice p.Ab e.sky.bodies.length p.cb, .int .i64 e.sky.nnum, .int .i64 e.sky.nden, .int .i64 e.sky.nstart, .slice p.As e.sun.length p.cs, .slice p.Am e.moon.length p.cm, .slice p.An e.node.length p.cn, .slice p.Af e.feasts.length p.cf, .int .i64 e.nw, .int .i64 e.fl, .int .i64 e.wide, .slice p.At set.length p.ct, .map (some M)], .int .i64 0, undef, undef, undef, undef, undef, undef, undef, undef], []⟩ : Act)) ?hq (wp_region_free_tail 14 12 (missedΦ p e set lo hi late W) (by kernel_rfl) (by simp) (by kernel_rfl) (by kernel_rfl) (by kernel_rfl) (by kernel_rfl) missedΦ_mono ?hob ?hQ ?hZ)
 case hob =>
  intro i o hin ho a wa hE hF
  match i, hin with
  | 0, _ =>
   cases ho
   have h0 : a.tmps[5]?.getD undef = .pointer (some ⟨w.heap.size, 0, none⟩) := evalD (hF.old 5 (by decide))
   have q := (HR0.out.ext hE).cell
   refine Ran.value rfl (v := .agg #[.slice p.Ab e.sky.bodies.length p.cb, .int .i64 e.sky.nnum, .int .i64 e.sky.nden, .int .i64 e.sky.nstart, .slice p.As e.sun.length p.cs, .slice p.Am e.moon.length p.cm, .slice p.An e.node.length p.cn, .slice p.Af e.feasts.length p.cf, .int .i64 e.nw, .int .i64 e.fl, .int .i64 e.wide]) (w1 := wa) ?_ ⟨rfl, Ext.refl _⟩
   go_simp
  | 1, _ =>
   cases ho
   have h0 : a.tmps[1]?.getD undef = .slice p.At set.length p.ct := evalD (hF.old 1 (by decide))
   refine Ran.value rfl (v := .slice p.At set.length p.ct) (w1 := wa) ?_ ⟨rfl, Ext.refl _⟩
   go_simp
  | 2, _ =>
   cases ho
   have h0 : a.tmps[2]?.getD undef = .int .i64 lo := evalD (hF.old 2 (by decide))
   refine Ran.value rfl (v := .int .i64 lo) (w1 := wa) ?_ ⟨rfl, Ext.refl _⟩
   go_simp
  | 3, _ =>
   cases ho
   have h0 : a.tmps[3]?.getD undef = .int .i64 hi := evalD (hF.old 3 (by decide))
   refine Ran.value rfl (v := .int .i64 hi) (w1 := wa) ?_ ⟨rfl, Ext.refl _⟩
   go_simp
  | 4, _ =>
   cases ho
   have h0 : a.tmps[17]?.getD undef = .int .i64 lo := evalD (hF.from_ 2 17 rfl (by decide))
   have h1 : a.tmps[18]?.getD undef = .int .i64 hi := evalD (hF.from_ 3 18 rfl (by decide))
   refine Ran.enter rfl (f := 76) (args := #[.int .i64 lo, .int .i64 hi]) (w1 := wa) ?_ ?_
   ·go_simp
   ·refine (e_isSpan_any lo hi _).mono ?_
    rintro r w1 ⟨rfl, rfl⟩
    exact ⟨_, rfl, by rw [c2]; rfl, Ext.refl _⟩
  | 5, _ =>
   cases ho
   have h0 : a.tmps[19]?.getD undef = .bool true := evalD (hF.from_ 4 19 rfl (by decide))
   refine Ran.value rfl (v := .bool true) (w1 := wa) ?_ ⟨rfl, Ext.refl _⟩
   go_simp
  | 6, _ =>
   cases ho
   have hg : a.eval (.tmp 20) = .bool true := hF.from_ 5 20 rfl (by decide)
   refine Ran.if_ rfl rfl rfl hg (fun _ => ?_) (fun h => absurd rfl h)
   have h0 : a.tmps[4]?.getD undef = .int .i64 late := evalD (hF.old 4 (by decide))
   refine Ran.value rfl (v := .int .i64 late) (w1 := wa) ?_ ⟨rfl, Ext.refl _⟩
   go_simp
  | 7, _ =>
   cases ho
   have hg : a.eval (.tmp 20) = .bool true := hF.from_ 5 20 rfl (by decide)
   refine Ran.if_ rfl rfl rfl hg (fun _ => ?_) (fun h => absurd rfl h)
   have h0 : a.tmps[21]?.getD undef = .int .i64 late := evalD (hF.from_ 6 21 rfl (by decide))
   refine Ran.enter rfl (f := 83) (args := #[.int .i64 late]) (w1 := wa) ?_ ?_
   ·go_simp
   ·refine (e_isLate_any late _).mono ?_
    rintro r w1 ⟨rfl, rfl⟩
    exact ⟨_, rfl, by rw [c3]; rfl, Ext.refl _⟩
  | 8, _ =>
   cases ho
   have h0 : a.tmps[20]?.getD undef = .bool true := evalD (hF.from_ 5 20 rfl (by decide))
   have h1 : a.tmps[22]?.getD undef = .bool true := evalD (hF.from_ 7 22 rfl (by decide))
   refine Ran.value rfl (v := .bool true) (w1 := wa) ?_ ⟨rfl, Ext.refl _⟩
   go_simp
  | 9, _ =>
   cases ho
   have h0 : a.tmps[15]?.getD undef = .agg #[.slice p.Ab e.sky.bodies.length p.cb, .int .i64 e.sky.nnum, .int .i64 e.sky.nden, .int .i64 e.sky.nstart, .slice p.As e.sun.length p.cs, .slice p.Am e.moon.length p.cm, .slice p.An e.node.length p.cn, .slice p.Af e.feasts.length p.cf, .int .i64 e.nw, .int .i64 e.fl, .int .i64 e.wide] := evalD (hF.from_ 0 15 rfl (by decide))
   have h1 : a.tmps[16]?.getD undef = .slice p.At set.length p.ct := evalD (hF.from_ 1 16 rfl (by decide))
   have h2 : a.tmps[23]?.getD undef = .bool true := evalD (hF.from_ 8 23 rfl (by decide))
   refine Ran.enter rfl (f := 69) (args := #[.agg #[.slice p.Ab e.sky.bodies.length p.cb, .int .i64 e.sky.nnum, .int .i64 e.sky.nden, .int .i64 e.sky.nstart, .slice p.As e.sun.length p.cs, .slice p.Am e.moon.length p.cm, .slice p.An e.node.length p.cn, .slice p.Af e.feasts.length p.cf, .int .i64 e.nw, .int .i64 e.fl, .int .i64 e.wide], .slice p.At set.length p.ct, .bool true]) (w1 := wa) ?_ ?_
   ·go_simp
   ·refine (e_asked_ok p e set wa (HM.out.ext (HE0.out.trans hE)) HL.out hs c0 c1).mono ?_
    rintro r w1 ⟨M, rfl, hM, hC, hX⟩
    exact ⟨_, rfl, ⟨M, rfl, Nat.le_trans hE.size hM, hC⟩, hX⟩
  | 10, _ =>
   cases ho
   obtain ⟨M, h0, hM, hC⟩ : AskTup p e set W (a.eval (.tmp 24)) wa := hF.from_ 9 24 rfl (by decide)
   replace h0 := evalD h0
   refine Ran.value rfl (w1 := wa) (v := .tuple #[.agg #[.slice p.Ab e.sky.bodies.length p.cb, .int .i64 e.sky.nnum, .int .i64 e.sky.nden, .int .i64 e.sky.nstart, .slice p.As e.sun.length p.cs, .slice p.Am e.moon.length p.cm, .slice p.An e.node.length p.cn, .slice p.Af e.feasts.length p.cf, .int .i64 e.nw, .int .i64 e.fl, .int .i64 e.wide, .slice p.At set.length p.ct, .map (some M)], .int .i64 0]) ?_ ⟨⟨M, rfl, hM, hC⟩, Ext.refl _⟩
   go_simp
  | 11, _ =>
   cases ho
   obtain ⟨M, h0, hM, hC⟩ : AskTup p e set W (a.eval (.tmp 14)) wa := hF.from_ 10 14 rfl (by decide)
   replace h0 := evalD h0
   refine Ran.value rfl (w1 := wa) (v := .agg #[.slice p.Ab e.sky.bodies.length p.cb, .int .i64 e.sky.nnum, .int .i64 e.sky.nden, .int .i64 e.sky.nstart, .slice p.As e.sun.length p.cs, .slice p.Am e.moon.length p.cm, .slice p.An e.node.length p.cn, .slice p.Af e.feasts.length p.cf, .int .i64 e.nw, .int .i64 e.fl, .int .i64 e.wide, .slice p.At set.length p.ct, .map (some M)]) ?_ ⟨⟨M, rfl, hM, hC⟩, Ext.refl _⟩
   go_simp
  | 12, _ =>
   cases ho
   obtain ⟨M, h0, hM, hC⟩ : AskTup p e set W (a.eval (.tmp 14)) wa := hF.from_ 10 14 rfl (by decide)
   replace h0 := evalD h0
   refine Ran.value rfl (w1 := wa) (v := .int .i64 0) ?_ ⟨rfl, Ext.refl _⟩
   go_simp
  | 13, _ =>
   cases ho
   refine Ran.value rfl (w1 := wa.alloc (.cells zeroEng 100)) (v := .pointer (some ⟨wa.heap.size, 0, none⟩)) (by kernel_rfl) ⟨⟨wa.heap.size, rfl, hE.size, Row.new _ _ _⟩, (Ext.refl _).alloc _⟩
  | k + 14, hin => omega
 case hQ =>
  intro vs w2 hE hΦ
  have f0 : vs 0 = .agg #[.slice p.Ab e.sky.bodies.length p.cb, .int .i64 e.sky.nnum, .int .i64 e.sky.nden, .int .i64 e.sky.nstart, .slice p.As e.sun.length p.cs, .slice p.Am e.moon.length p.cm, .slice p.An e.node.length p.cn, .slice p.Af e.feasts.length p.cf, .int .i64 e.nw, .int .i64 e.fl, .int .i64 e.wide] := hΦ 0 (by omega)
  have f1 : vs 1 = .slice p.At set.length p.ct := hΦ 1 (by omega)
  have f2 : vs 2 = .int .i64 lo := hΦ 2 (by omega)
  have f3 : vs 3 = .int .i64 hi := hΦ 3 (by omega)
  have f4 : vs 4 = .bool true := hΦ 4 (by omega)
  have f5 : vs 5 = .bool true := hΦ 5 (by omega)
  have f6 : vs 6 = .int .i64 late := hΦ 6 (by omega)
  have f7 : vs 7 = .bool true := hΦ 7 (by omega)
  have f8 : vs 8 = .bool true := hΦ 8 (by omega)
  obtain ⟨M4, f9, _, _⟩ : AskTup p e set W (vs 9) w2 := hΦ 9 (by omega)
  obtain ⟨M5, f10, _, _⟩ : AskTup p e set W (vs 10) w2 := hΦ 10 (by omega)
  obtain ⟨M, f11, hM, hC⟩ : AskAgg p e set W (vs 11) w2 := hΦ 11 (by omega)
  have f12 : vs 12 = .int .i64 0 := hΦ 12 (by omega)
  obtain ⟨b, f13, hb, hr⟩ : AskNew W (vs 13) w2 := hΦ 13 (by omega)
  have hrg : List.range 14 = [0, 1, 2, 3, 4, 5, 6, 7, 8, 9, 10, 11, 12, 13] := rfl
  unfold putAll putS
  simp only [List.length_cons, List.length_nil, List.take_succ_cons, List.take_zero, List.drop_succ_cons, List.drop_zero, Nat.reduceAdd, hrg, List.foldl_cons, List.foldl_nil, dstOf, List.getElem?_cons_succ, List.getElem?_cons_zero, Option.bind_some]
  clear hrg
  rw [f0, f1, f2, f3, f4, f5, f6, f7, f8, f9, f10, f11, f12, f13]
  have c := hr.cell
  simp only [zeroEng] at c
  have fz := hr.free
  have hne : b ≠ M := fun h => (hC.not_row hr) h
  go_wp2
  clear c fz
  obtain ⟨W3, hW3⟩ : ∃ W3, setsAt w2 b 0 [.slice p.Ab e.sky.bodies.length p.cb, .int .i64 e.sky.nnum, .int .i64 e.sky.nden, .int .i64 e.sky.nstart, .slice p.As e.sun.length p.cs, .slice p.Am e.moon.length p.cm, .slice p.An e.node.length p.cn, .slice p.Af e.feasts.length p.cf, .int .i64 e.nw, .int .i64 e.fl, .int .i64 e.wide, .slice p.At set.length p.ct, .map (some M)] = W3 := ⟨_, rfl⟩
  have hR3 : Row W3 b 100 #[.slice p.Ab e.sky.bodies.length p.cb, .int .i64 e.sky.nnum, .int .i64 e.sky.nden, .int .i64 e.sky.nstart, .slice p.As e.sun.length p.cs, .slice p.Am e.moon.length p.cm, .slice p.An e.node.length p.cn, .slice p.Af e.feasts.length p.cf, .int .i64 e.nw, .int .i64 e.fl, .int .i64 e.wide, .slice p.At set.length p.ct, .map (some M)] := by rw [← hW3]; exact Row.sets (cs := [.slice none 0 0, .int .i64 0, .int .i64 0, .int .i64 0, .slice none 0 0, .slice none 0 0, .slice none 0 0, .slice none 0 0, .int .i64 0, .int .i64 0, .int .i64 0, .slice none 0 0, .map none]) hr _ rfl
  have hE3 : Ext W W3 := by rw [← hW3]; exact Ext.sets hb _ _ _ hE
  have hC3 : Seen e set M W3 := by rw [← hW3]; exact Cache.sets hne _ _ _ hC
  simp only [setsAt, Nat.reduceAdd] at hW3
  try rw [hW3]
  exact ⟨M4, M5, M, b, hb, hM, hE3, hR3, hC3, by simp⟩
 case hZ =>
  intro _ vs w2 hE hΦ on oz hon hoz
  obtain rfl := Option.some.inj hon
  obtain rfl := Option.some.inj hoz
  have f0 : vs 0 = .agg #[.slice p.Ab e.sky.bodies.length p.cb, .int .i64 e.sky.nnum, .int .i64 e.sky.nden, .int .i64 e.sky.nstart, .slice p.As e.sun.length p.cs, .slice p.Am e.moon.length p.cm, .slice p.An e.node.length p.cn, .slice p.Af e.feasts.length p.cf, .int .i64 e.nw, .int .i64 e.fl, .int .i64 e.wide] := hΦ 0 (by omega) (by omega)
  have f1 : vs 1 = .slice p.At set.length p.ct := hΦ 1 (by omega) (by omega)
  have f2 : vs 2 = .int .i64 lo := hΦ 2 (by omega) (by omega)
  have f3 : vs 3 = .int .i64 hi := hΦ 3 (by omega) (by omega)
  have f4 : vs 4 = .bool true := hΦ 4 (by omega) (by omega)
  have f5 : vs 5 = .bool true := hΦ 5 (by omega) (by omega)
  have f6 : vs 6 = .int .i64 late := hΦ 6 (by omega) (by omega)
  have f7 : vs 7 = .bool true := hΦ 7 (by omega) (by omega)
  have f8 : vs 8 = .bool true := hΦ 8 (by omega) (by omega)
  obtain ⟨M4, f9, _, _⟩ : AskTup p e set W (vs 9) w2 := hΦ 9 (by omega) (by omega)
  obtain ⟨M5, f10, _, _⟩ : AskTup p e set W (vs 10) w2 := hΦ 10 (by omega) (by omega)
  obtain ⟨M, f11, hM, hC⟩ : AskAgg p e set W (vs 11) w2 := hΦ 11 (by omega) (by omega)
  obtain ⟨b, f13, hb, hr⟩ : AskNew W (vs 13) w2 := hΦ 13 (by omega) (by omega)
  have hrg : (List.range 14).filter (· ≠ 12) = [0, 1, 2, 3, 4, 5, 6, 7, 8, 9, 10, 11, 13] := by decide
  rw [hrg]
  unfold putS
  simp only [List.take_succ_cons, List.take_zero, List.drop_succ_cons, List.drop_zero, Nat.reduceAdd, List.foldl_cons, List.foldl_nil, dstOf, List.getElem?_cons_succ, List.getElem?_cons_zero, Option.bind_some]
  clear hrg
  rw [f0, f1, f2, f3, f4, f5, f6, f7, f8, f9, f10, f11, f13]
  have c := hr.cell
  simp only [zeroEng] at c
  have fz := hr.free
  have hne : b ≠ M := fun h => (hC.not_row hr) h
  go_wp2
  clear c fz
  obtain ⟨W3, hW3⟩ : ∃ W3, setsAt w2 b 0 [.slice p.Ab e.sky.bodies.length p.cb, .int .i64 e.sky.nnum, .int .i64 e.sky.nden, .int .i64 e.sky.nstart, .slice p.As e.sun.length p.cs, .slice p.Am e.moon.length p.cm, .slice p.An e.node.length p.cn, .slice p.Af e.feasts.length p.cf, .int .i64 e.nw, .int .i64 e.fl, .int .i64 e.wide, .slice p.At set.length p.ct, .map (some M)] = W3 := ⟨_, rfl⟩
  have hR3 : Row W3 b 100 #[.slice p.Ab e.sky.bodies.length p.cb, .int .i64 e.sky.nnum, .int .i64 e.sky.nden, .int .i64 e.sky.nstart, .slice p.As e.sun.length p.cs, .slice p.Am e.moon.length p.cm, .slice p.An e.node.length p.cn, .slice p.Af e.feasts.length p.cf, .int .i64 e.nw, .int .i64 e.fl, .int .i64 e.wide, .slice p.At set.length p.ct, .map (some M)] := by rw [← hW3]; exact Row.sets (cs := [.slice none 0 0, .int .i64 0, .int .i64 0, .int .i64 0, .slice none 0 0, .slice none 0 0, .slice none 0 0, .slice none 0 0, .int .i64 0, .int .i64 0, .int .i64 0, .slice none 0 0, .map none]) hr _ rfl
  have hE3 : Ext W W3 := by rw [← hW3]; exact Ext.sets hb _ _ _ hE
  have hC3 : Seen e set M W3 := by rw [← hW3]; exact Cache.sets hne _ _ _ hC
  simp only [setsAt, Nat.reduceAdd] at hW3
  try rw [hW3]
  exact ⟨M4, M5, M, b, hb, hM, hE3, hR3, hC3, by simp⟩
 case hq =>
  rintro e' a' w3 ⟨rfl, M4, M5, M, b, hb, hM, hE3, hR3, hC3, rfl⟩
  have hMw := Nat.le_trans HE0.out.size hM
  have HE3 := Lib.hid (HE0.out.trans hE3)
  have HR3 := Lib.hid hR3
  have HC3 := Lib.hid hC3
  have c := hR3.cell
  clear hE3 hR3 hC3
  go_wp2_with fail
  refine (e_missed_any p e set M lo hi late w _ HK.out HM.out hMw HE3.out HC3.out HL.out.sky hd.1 hd.2.1 hd.2.2.1 hd.2.2.2 hla.1 hla.2).mono ?_
  rintro r w4 ⟨v, rfl, hv, hmv⟩
  have hE4 := HE3.out.trans' (hmv.below hMw HE3.out.size)
  clear hmv c
  go_wp2_with fail
  go_ret2
  exact ⟨v, rfl, hv, hE4⟩
def withinΦ (p : EP) (e : Ec.Engine) (set : List Int) (lo : Int) (hi : Int) (w0 : World) (i : Nat) (v : Value) (w : World) : Prop :=
 match i with
 | 0 => v = .agg #[.slice p.Ab e.sky.bodies.length p.cb, .int .i64 e.sky.nnum, .int .i64 e.sky.nden, .int .i64 e.sky.nstart, .slice p.As e.sun.length p.cs, .slice p.Am e.moon.length p.cm, .slice p.An e.node.length p.cn, .slice p.Af e.feasts.length p.cf, .int .i64 e.nw, .int .i64 e.fl, .int .i64 e.wide]
 | 1 => v = .slice p.At set.length p.ct
 | 2 => v = .int .i64 lo
 | 3 => v = .int .i64 hi
 | 4 => v = .bool true
 | 5 => AskTup p e set w0 v w
 | 6 => AskTup p e set w0 v w
 | 7 => AskAgg p e set w0 v w
 | 8 => v = .int .i64 0
 | _ => AskNew w0 v w
theorem withinΦ_mono {p : EP} {e : Ec.Engine} {set : List Int} {lo : Int} {hi : Int} {w0 : World} (i : Nat) (v : Value) (w w' : World) (h : withinΦ p e set lo hi w0 i v w) (he : Ext w w') : withinΦ p e set lo hi w0 i v w' := by
 unfold withinΦ at h ⊢
 split at h <;> first
  | exact h
  | exact AskTup.ext h he
  | exact AskAgg.ext h he
  | exact AskNew.ext h he
theorem withinN_at (e : Ec.Engine) (set : List Int) (lo hi : Int) : ∀ (n k : Nat) (i : Int), k < n → (∀ j : Nat, j < k → (Ec.missedL e set lo hi (i + j)).length ≠ 0) → (Ec.missedL e set lo hi (i + k)).length = 0 → Ec.withinN e set lo hi i n = some (i + k)
 | 0, _, _, h, _, _ => by omega
 | n + 1, 0, i, _, _, h => by
  simp only [Int.natCast_zero, Int.add_zero] at h ⊢
  simp [Ec.withinN, h]
 | n + 1, k + 1, i, hk, hj, h => by
  have h0 := hj 0 (by omega)
  simp only [Int.natCast_zero, Int.add_zero] at h0
  simp only [Ec.withinN, h0, if_false]
  have := withinN_at e set lo hi n k (i + 1) (by omega) (fun j hj' => by
   have := hj (j + 1) (by omega)
   rwa [show i + 1 + (j : Int) = i + ((j + 1 : Nat) : Int) by omega]) (by rwa [show i + 1 + (k : Int) = i + ((k + 1 : Nat) : Int) by omega])
  rw [this]
  congr 1
  omega
theorem withinN_no (e : Ec.Engine) (set : List Int) (lo hi : Int) : ∀ (n : Nat) (i : Int), (∀ j : Nat, j < n → (Ec.missedL e set lo hi (i + j)).length ≠ 0) → Ec.withinN e set lo hi i n = none
 | 0, _, _ => rfl
 | n + 1, i, hj => by
  have h0 := hj 0 (by omega)
  simp only [Int.natCast_zero, Int.add_zero] at h0
  simp only [Ec.withinN, h0, if_false]
  exact withinN_no e set lo hi n (i + 1) fun j hj' => by
   have := hj (j + 1) (by omega)
   rwa [show i + 1 + (j : Int) = i + ((j + 1 : Nat) : Int) by omega]
def withinV (o : Option Int) : Value := match o with
 | some n => .tuple #[.int .i64 n, .int .i64 0]
 | none => .tuple #[.int .i64 0, .int .i64 5]
def WinRel (w3 : World) (e : Ec.Engine) (set : List Int) (M : Nat) (lo hi : Int) (d : Value) (wr : World) : Prop :=
 ∃ k : Nat, k ≤ 31 ∧ d = .int .i64 k ∧ Hid (∀ j : Nat, j < k → (Ec.missedL e set lo hi j).length ≠ 0) ∧ Move e set M w3 wr
theorem e_Within_ok (p : EP) (e : Ec.Engine) (set : List Int) (lo hi : Int) (w : World) (hm : EngSet w p e set) (hl : EngShort e) (hs : set.length ≤ 100000) (c0 : Ec.engineOk e = true) (c1 : Ec.setOk e.feasts set = true) (c2 : Ec.isSpan lo hi = true) :
  Calls Tryz.prog 34 #[.agg #[.slice p.Ab e.sky.bodies.length p.cb, .int .i64 e.sky.nnum, .int .i64 e.sky.nden, .int .i64 e.sky.nstart, .slice p.As e.sun.length p.cs, .slice p.Am e.moon.length p.cm, .slice p.An e.node.length p.cn, .slice p.Af e.feasts.length p.cf, .int .i64 e.nw, .int .i64 e.fl, .int .i64 e.wide], .slice p.At set.length p.ct, .int .i64 lo, .int .i64 hi] w fun r w' => r = .returned (withinV (Ec.withinO e set lo hi)) ∧ Ext w w' := by
 have HM := Lib.hid hm
 have HL := Lib.hid hl
 have HK : Hid (Fine e set) := Lib.hid ⟨c0, c1⟩
 have HR0 : Hid (Row (w.alloc (.cells #[.slice p.Ab e.sky.bodies.length p.cb, .int .i64 e.sky.nnum, .int .i64 e.sky.nden, .int .i64 e.sky.nstart, .slice p.As e.sun.length p.cs, .slice p.Am e.moon.length p.cm, .slice p.An e.node.length p.cn, .slice p.Af e.feasts.length p.cf, .int .i64 e.nw, .int .i64 e.fl, .int .i64 e.wide] 32)) w.heap.size 32 #[.slice p.Ab e.sky.bodies.length p.cb, .int .i64 e.sky.nnum, .int .i64 e.sky.nden, .int .i64 e.sky.nstart, .slice p.As e.sun.length p.cs, .slice p.Am e.moon.length p.cm, .slice p.An e.node.length p.cn, .slice p.Af e.feasts.length p.cf, .int .i64 e.nw, .int .i64 e.fl, .int .i64 e.wide]) := Lib.hid (Row.new w _ _)
 have HE0 := Lib.hid ((Ext.refl w).alloc (.cells #[.slice p.Ab e.sky.bodies.length p.cb, .int .i64 e.sky.nnum, .int .i64 e.sky.nden, .int .i64 e.sky.nstart, .slice p.As e.sun.length p.cs, .slice p.Am e.moon.length p.cm, .slice p.An e.node.length p.cn, .slice p.Af e.feasts.length p.cf, .int .i64 e.nw, .int .i64 e.fl, .int .i64 e.wide] 32))
 have hd : 1 ≤ lo ∧ lo ≤ hi ∧ hi ≤ 9000 ∧ hi - lo ≤ 400 := by
  simp only [Ec.isSpan, Sp.inR, Bool.and_eq_true, decide_eq_true_eq] at c2
  omega
 clear hm hl
 go_enter Tryz.func34, Tryz.ntmps34
 go_wp2_with fail
 obtain ⟨W, hW⟩ : ∃ W, w.alloc (.cells #[.slice p.Ab e.sky.bodies.length p.cb, .int .i64 e.sky.nnum, .int .i64 e.sky.nden, .int .i64 e.sky.nstart, .slice p.As e.sun.length p.cs, .slice p.Am e.moon.length p.cm, .slice p.An e.node.length p.cn, .slice p.Af e.feasts.length p.cf, .int .i64 e.nw, .int .i64 e.fl, .int .i64 e.wide] 32) = W := ⟨_, rfl⟩
 rw [hW] at HR0 HE0 ⊢
 clear hW
 refine Code.wp_mono (Q := fun e' a' w' => e' = .normal ∧ ∃ M4 M5 M b, W.heap.size ≤ b ∧ W.heap.size ≤ M ∧ Ext W w' ∧ Row w' b 100 #[.slice p.Ab e.sky.bodies.length p.cb, .int .i64 e.sky.nnum, .int .i64 e.sky.nden, .int .i64 e.sky.nstart, .slice p.As e.sun.length p.cs, .slice p.Am e.moon.length p.cm, .slice p.An e.node.length p.cn, .slice p.Af e.feasts.length p.cf, .int .i64 e.nw, .int .i64 e.fl, .int .i64 e.wide, .slice p.At set.length p.ct, .map (some M)] ∧ Seen e set M w' ∧ a' = (⟨#[.agg #[.slice p.Ab e.sky.bodies.length p.cb, .int .i64 e.sky.nnum, .int .i64 e.sky.nden, .int .i64 e.sky.nstart, .slice p.As e.sun.length p.cs, .slice p.Am e.moon.length p.cm, .slice p.An e.node.length p.cn, .slice p.Af e.feasts.length p.cf, .int .i64 e.nw, .int .i64 e.fl, .int .i64 e.wide], .slice p.At set.length p.ct, .int .i64 lo, .int .i64 hi, .pointer (some ⟨w.heap.size, 0, none⟩), undef, undef, undef, .int .i64 0, .int .i64 0, .pointer (some ⟨b, 0, none⟩), .int .i64 0, undef, .tuple #[.agg #[.slice p.Ab e.sky.bodies.length p.cb, .int .i64 e.sky.nnum, .int .i64 e.sky.nden, .int .i64 e.sky.nstart, .slice p.As e.sun.length p.cs, .slice p.Am e.moon.length p.cm, .slice p.An e.node.length p.cn, .slice p.Af e.feasts.length p.cf, .int .i64 e.nw, .int .i64 e.fl, .int .i64 e.wide, .slice p.At set.length p.ct, .map (some M5)], .int .i64 0], .agg #[.slice p.Ab e.sky.bodies.length p.cb, .int .i64 e.sky.nnum, .int .i64 e.sky.nden, .int .i64 e.sky.nstart, .slice p.As e.sun.length p.cs, .slice p.Am e.moon.length p.cm, .slice p.An e.node.length p.cn, .slice p.Af e.feasts.length p.cf, .int .i64 e.nw, .int .i64 e.fl, .int .i64 e.wide], .slice p.At set.length p.ct, .int .i64 lo, .int .i64 hi, .bool true, .tuple #[.agg #[.slice p.Ab e.sky.bodies.length p.cb, .int .i64 e.sky.nnum, .int .i64 e.sky.nden, .int .i64 e.sky.nstart, .slice p.As e.sun.length p.cs, .slice p.Am e.moon.length p.cm, .slice p.An e.node.length p.cn, .slice p.Af e.feasts.length p.cf, .int .i64 e.nw, .int .i64 e.fl, .int .i64 e.wide, .slice p.At set.length p.ct, .map (some M4)], .int .i64 0], .agg #[.slice p.Ab e.sky.bodies.length p.cb, .int .i64 e.sky.nnum, .int .i64 e.sky.nden, .int .i64 e.sky.nstart, .slice p.As e.sun.length p.cs, .slice p.Am e.moon.length p.cm, .slice p.An e.node.length p.cn, .slice p.Af e.feasts.length p.cf, .int .i64 e.nw, .int .i64 e.fl, .int .i64 e.wide, .slice p.At set.length p.ct, .map (some M)], .int .i64 0, undef, undef, undef, undef, undef, undef, undef, undef, undef, undef, undef, undef, undef, undef, undef], []⟩ : Act)) ?hq (wp_region_free_tail 10 8 (withinΦ p e set lo hi W) (by kernel_rfl) (by simp) (by kernel_rfl) (by kernel_rfl) (by kernel_rfl) (by kernel_rfl) withinΦ_mono ?hob ?hQ ?hZ)
 case hob =>
  intro i o hin ho a wa hE hF
  match i, hin with
  | 0, _ =>
   cases ho
   have h0 : a.tmps[4]?.getD undef = .pointer (some ⟨w.heap.size, 0, none⟩) := evalD (hF.old 4 (by decide))
   have q := (HR0.out.ext hE).cell
   refine Ran.value rfl (v := .agg #[.slice p.Ab e.sky.bodies.length p.cb, .int .i64 e.sky.nnum, .int .i64 e.sky.nden, .int .i64 e.sky.nstart, .slice p.As e.sun.length p.cs, .slice p.Am e.moon.length p.cm, .slice p.An e.node.length p.cn, .slice p.Af e.feasts.length p.cf, .int .i64 e.nw, .int .i64 e.fl, .int .i64 e.wide]) (w1 := wa) ?_ ⟨rfl, Ext.refl _⟩
   go_simp
  | 1, _ =>
   cases ho
   have h0 : a.tmps[1]?.getD undef = .slice p.At set.length p.ct := evalD (hF.old 1 (by decide))
   refine Ran.value rfl (v := .slice p.At set.length p.ct) (w1 := wa) ?_ ⟨rfl, Ext.refl _⟩
   go_simp
  | 2, _ =>
   cases ho
   have h0 : a.tmps[2]?.getD undef = .int .i64 lo := evalD (hF.old 2 (by decide))
   refine Ran.value rfl (v := .int .i64 lo) (w1 := wa) ?_ ⟨rfl, Ext.refl _⟩
   go_simp
  | 3, _ =>
   cases ho
   have h0 : a.tmps[3]?.getD undef = .int .i64 hi := evalD (hF.old 3 (by decide))
   refine Ran.value rfl (v := .int .i64 hi) (w1 := wa) ?_ ⟨rfl, Ext.refl _⟩
   go_simp
  | 4, _ =>
   cases ho
   have h0 : a.tmps[16]?.getD undef = .int .i64 lo := evalD (hF.from_ 2 16 rfl (by decide))
   have h1 : a.tmps[17]?.getD undef = .int .i64 hi := evalD (hF.from_ 3 17 rfl (by decide))
   refine Ran.enter rfl (f := 76) (args := #[.int .i64 lo, .int .i64 hi]) (w1 := wa) ?_ ?_
   ·go_simp
   ·refine (e_isSpan_any lo hi _).mono ?_
    rintro r w1 ⟨rfl, rfl⟩
    exact ⟨_, rfl, by rw [c2]; rfl, Ext.refl _⟩
  | 5, _ =>
   cases ho
   have h0 : a.tmps[14]?.getD undef = .agg #[.slice p.Ab e.sky.bodies.length p.cb, .int .i64 e.sky.nnum, .int .i64 e.sky.nden, .int .i64 e.sky.nstart, .slice p.As e.sun.length p.cs, .slice p.Am e.moon.length p.cm, .slice p.An e.node.length p.cn, .slice p.Af e.feasts.length p.cf, .int .i64 e.nw, .int .i64 e.fl, .int .i64 e.wide] := evalD (hF.from_ 0 14 rfl (by decide))
   have h1 : a.tmps[15]?.getD undef = .slice p.At set.length p.ct := evalD (hF.from_ 1 15 rfl (by decide))
   have h2 : a.tmps[18]?.getD undef = .bool true := evalD (hF.from_ 4 18 rfl (by decide))
   refine Ran.enter rfl (f := 69) (args := #[.agg #[.slice p.Ab e.sky.bodies.length p.cb, .int .i64 e.sky.nnum, .int .i64 e.sky.nden, .int .i64 e.sky.nstart, .slice p.As e.sun.length p.cs, .slice p.Am e.moon.length p.cm, .slice p.An e.node.length p.cn, .slice p.Af e.feasts.length p.cf, .int .i64 e.nw, .int .i64 e.fl, .int .i64 e.wide], .slice p.At set.length p.ct, .bool true]) (w1 := wa) ?_ ?_
   ·go_simp
   ·refine (e_asked_ok p e set wa (HM.out.ext (HE0.out.trans hE)) HL.out hs c0 c1).mono ?_
    rintro r w1 ⟨M, rfl, hM, hC, hX⟩
    exact ⟨_, rfl, ⟨M, rfl, Nat.le_trans hE.size hM, hC⟩, hX⟩
  | 6, _ =>
   cases ho
   obtain ⟨M, h0, hM, hC⟩ : AskTup p e set W (a.eval (.tmp 19)) wa := hF.from_ 5 19 rfl (by decide)
   replace h0 := evalD h0
   refine Ran.value rfl (w1 := wa) (v := .tuple #[.agg #[.slice p.Ab e.sky.bodies.length p.cb, .int .i64 e.sky.nnum, .int .i64 e.sky.nden, .int .i64 e.sky.nstart, .slice p.As e.sun.length p.cs, .slice p.Am e.moon.length p.cm, .slice p.An e.node.length p.cn, .slice p.Af e.feasts.length p.cf, .int .i64 e.nw, .int .i64 e.fl, .int .i64 e.wide, .slice p.At set.length p.ct, .map (some M)], .int .i64 0]) ?_ ⟨⟨M, rfl, hM, hC⟩, Ext.refl _⟩
   go_simp
  | 7, _ =>
   cases ho
   obtain ⟨M, h0, hM, hC⟩ : AskTup p e set W (a.eval (.tmp 13)) wa := hF.from_ 6 13 rfl (by decide)
   replace h0 := evalD h0
   refine Ran.value rfl (w1 := wa) (v := .agg #[.slice p.Ab e.sky.bodies.length p.cb, .int .i64 e.sky.nnum, .int .i64 e.sky.nden, .int .i64 e.sky.nstart, .slice p.As e.sun.length p.cs, .slice p.Am e.moon.length p.cm, .slice p.An e.node.length p.cn, .slice p.Af e.feasts.length p.cf, .int .i64 e.nw, .int .i64 e.fl, .int .i64 e.wide, .slice p.At set.length p.ct, .map (some M)]) ?_ ⟨⟨M, rfl, hM, hC⟩, Ext.refl _⟩
   go_simp
  | 8, _ =>
   cases ho
   obtain ⟨M, h0, hM, hC⟩ : AskTup p e set W (a.eval (.tmp 13)) wa := hF.from_ 6 13 rfl (by decide)
   replace h0 := evalD h0
   refine Ran.value rfl (w1 := wa) (v := .int .i64 0) ?_ ⟨rfl, Ext.refl _⟩
   go_simp
  | 9, _ =>
   cases ho
   refine Ran.value rfl (w1 := wa.alloc (.cells zeroEng 100)) (v := .pointer (some ⟨wa.heap.size, 0, none⟩)) (by kernel_rfl) ⟨⟨wa.heap.size, rfl, hE.size, Row.new _ _ _⟩, (Ext.refl _).alloc _⟩
  | k + 10, hin => omega
 case hQ =>
  intro vs w2 hE hΦ
  have f0 : vs 0 = .agg #[.slice p.Ab e.sky.bodies.length p.cb, .int .i64 e.sky.nnum, .int .i64 e.sky.nden, .int .i64 e.sky.nstart, .slice p.As e.sun.length p.cs, .slice p.Am e.moon.length p.cm, .slice p.An e.node.length p.cn, .slice p.Af e.feasts.length p.cf, .int .i64 e.nw, .int .i64 e.fl, .int .i64 e.wide] := hΦ 0 (by omega)
  have f1 : vs 1 = .slice p.At set.length p.ct := hΦ 1 (by omega)
  have f2 : vs 2 = .int .i64 lo := hΦ 2 (by omega)
  have f3 : vs 3 = .int .i64 hi := hΦ 3 (by omega)
  have f4 : vs 4 = .bool true := hΦ 4 (by omega)
  obtain ⟨M4, f5, _, _⟩ : AskTup p e set W (vs 5) w2 := hΦ 5 (by omega)
  obtain ⟨M5, f6, _, _⟩ : AskTup p e set W (vs 6) w2 := hΦ 6 (by omega)
  obtain ⟨M, f7, hM, hC⟩ : AskAgg p e set W (vs 7) w2 := hΦ 7 (by omega)
  have f8 : vs 8 = .int .i64 0 := hΦ 8 (by omega)
  obtain ⟨b, f9, hb, hr⟩ : AskNew W (vs 9) w2 := hΦ 9 (by omega)
  have hrg : List.range 10 = [0, 1, 2, 3, 4, 5, 6, 7, 8, 9] := rfl
  unfold putAll putS
  simp only [List.length_cons, List.length_nil, List.take_succ_cons, List.take_zero, List.drop_succ_cons, List.drop_zero, Nat.reduceAdd, hrg, List.foldl_cons, List.foldl_nil, dstOf, List.getElem?_cons_succ, List.getElem?_cons_zero, Option.bind_some]
  clear hrg
  rw [f0, f1, f2, f3, f4, f5, f6, f7, f8, f9]
  have c := hr.cell
  simp only [zeroEng] at c
  have fz := hr.free
  have hne : b ≠ M := fun h => (hC.not_row hr) h
  go_wp2
  clear c fz
  obtain ⟨W3, hW3⟩ : ∃ W3, setsAt w2 b 0 [.slice p.Ab e.sky.bodies.length p.cb, .int .i64 e.sky.nnum, .int .i64 e.sky.nden, .int .i64 e.sky.nstart, .slice p.As e.sun.length p.cs, .slice p.Am e.moon.length p.cm, .slice p.An e.node.length p.cn, .slice p.Af e.feasts.length p.cf, .int .i64 e.nw, .int .i64 e.fl, .int .i64 e.wide, .slice p.At set.length p.ct, .map (some M)] = W3 := ⟨_, rfl⟩
  have hR3 : Row W3 b 100 #[.slice p.Ab e.sky.bodies.length p.cb, .int .i64 e.sky.nnum, .int .i64 e.sky.nden, .int .i64 e.sky.nstart, .slice p.As e.sun.length p.cs, .slice p.Am e.moon.length p.cm, .slice p.An e.node.length p.cn, .slice p.Af e.feasts.length p.cf, .int .i64 e.nw, .int .i64 e.fl, .int .i64 e.wide, .slice p.At set.length p.ct, .map (some M)] := by rw [← hW3]; exact Row.sets (cs := [.slice none 0 0, .int .i64 0, .int .i64 0, .int .i64 0, .slice none 0 0, .slice none 0 0, .slice none 0 0, .slice none 0 0, .int .i64 0, .int .i64 0, .int .i64 0, .slice none 0 0, .map none]) hr _ rfl
  have hE3 : Ext W W3 := by rw [← hW3]; exact Ext.sets hb _ _ _ hE
  have hC3 : Seen e set M W3 := by rw [← hW3]; exact Cache.sets hne _ _ _ hC
  simp only [setsAt, Nat.reduceAdd] at hW3
  try rw [hW3]
  exact ⟨M4, M5, M, b, hb, hM, hE3, hR3, hC3, by simp⟩
 case hZ =>
  intro _ vs w2 hE hΦ on oz hon hoz
  obtain rfl := Option.some.inj hon
  obtain rfl := Option.some.inj hoz
  have f0 : vs 0 = .agg #[.slice p.Ab e.sky.bodies.length p.cb, .int .i64 e.sky.nnum, .int .i64 e.sky.nden, .int .i64 e.sky.nstart, .slice p.As e.sun.length p.cs, .slice p.Am e.moon.length p.cm, .slice p.An e.node.length p.cn, .slice p.Af e.feasts.length p.cf, .int .i64 e.nw, .int .i64 e.fl, .int .i64 e.wide] := hΦ 0 (by omega) (by omega)
  have f1 : vs 1 = .slice p.At set.length p.ct := hΦ 1 (by omega) (by omega)
  have f2 : vs 2 = .int .i64 lo := hΦ 2 (by omega) (by omega)
  have f3 : vs 3 = .int .i64 hi := hΦ 3 (by omega) (by omega)
  have f4 : vs 4 = .bool true := hΦ 4 (by omega) (by omega)
  obtain ⟨M4, f5, _, _⟩ : AskTup p e set W (vs 5) w2 := hΦ 5 (by omega) (by omega)
  obtain ⟨M5, f6, _, _⟩ : AskTup p e set W (vs 6) w2 := hΦ 6 (by omega) (by omega)
  obtain ⟨M, f7, hM, hC⟩ : AskAgg p e set W (vs 7) w2 := hΦ 7 (by omega) (by omega)
  obtain ⟨b, f9, hb, hr⟩ : AskNew W (vs 9) w2 := hΦ 9 (by omega) (by omega)
  have hrg : (List.range 10).filter (· ≠ 8) = [0, 1, 2, 3, 4, 5, 6, 7, 9] := by decide
  rw [hrg]
  unfold putS
  simp only [List.take_succ_cons, List.take_zero, List.drop_succ_cons, List.drop_zero, Nat.reduceAdd, List.foldl_cons, List.foldl_nil, dstOf, List.getElem?_cons_succ, List.getElem?_cons_zero, Option.bind_some]
  clear hrg
  rw [f0, f1, f2, f3, f4, f5, f6, f7, f9]
  have c := hr.cell
  simp only [zeroEng] at c
  have fz := hr.free
  have hne : b ≠ M := fun h => (hC.not_row hr) h
  go_wp2
  clear c fz
  obtain ⟨W3, hW3⟩ : ∃ W3, setsAt w2 b 0 [.slice p.Ab e.sky.bodies.length p.cb, .int .i64 e.sky.nnum, .int .i64 e.sky.nden, .int .i64 e.sky.nstart, .slice p.As e.sun.length p.cs, .slice p.Am e.moon.length p.cm, .slice p.An e.node.length p.cn, .slice p.Af e.feasts.length p.cf, .int .i64 e.nw, .int .i64 e.fl, .int .i64 e.wide, .slice p.At set.length p.ct, .map (some M)] = W3 := ⟨_, rfl⟩
  have hR3 : Row W3 b 100 #[.slice p.Ab e.sky.bodies.length p.cb, .int .i64 e.sky.nnum, .int .i64 e.sky.nden, .int .i64 e.sky.nstart, .slice p.As e.sun.length p.cs, .slice p.Am e.moon.length p.cm, .slice p.An e.node.length p.cn, .slice p.Af e.feasts.length p.cf, .int .i64 e.nw, .int .i64 e.fl, .int .i64 e.wide, .slice p.At set.length p.ct, .map (some M)] := by rw [← hW3]; exact Row.sets (cs := [.slice none 0 0, .int .i64 0, .int .i64 0, .int .i64 0, .slice none 0 0, .slice none 0 0, .slice none 0 0, .slice none 0 0, .int .i64 0, .int .i64 0, .int .i64 0, .slice none 0 0, .map none]) hr _ rfl
  have hE3 : Ext W W3 := by rw [← hW3]; exact Ext.sets hb _ _ _ hE
  have hC3 : Seen e set M W3 := by rw [← hW3]; exact Cache.sets hne _ _ _ hC
  simp only [setsAt, Nat.reduceAdd] at hW3
  try rw [hW3]
  exact ⟨M4, M5, M, b, hb, hM, hE3, hR3, hC3, by simp⟩
 case hq =>
  rintro e' a' w3 ⟨rfl, M4, M5, M, b, hb, hM, hE3, hR3, hC3, rfl⟩
  have hMw := Nat.le_trans HE0.out.size hM
  have HE3 := Lib.hid (HE0.out.trans hE3)
  have HR3 := Lib.hid hR3
  have HC3 := Lib.hid hC3
  have c := hR3.cell
  clear hE3 hR3 hC3
  go_wp2_with fail
  clear c
  go_loopw [25] (fun d wr => WinRel w3 e set M lo hi d wr) (fun d _ => 31 - (intOf d).toNat)
  case atStart => exact ⟨0, by omega, rfl, Lib.hid fun j h => by omega, Step.refl HC3.out⟩
  case round =>
   obtain ⟨k, hk, rfl, HN, hmv⟩ := hrel
   have HMV := Lib.hid hmv
   have HEr := Lib.hid (HE3.out.trans' (hmv.below hMw HE3.out.size))
   have c := (hmv.row HC3.out HR3.out).cell
   clear hmv
   by_cases hlt : k < 31
   ·go_wp2_with fail
    refine (e_missed_any p e set M lo hi k w _ HK.out HM.out hMw HEr.out HMV.out.cache HL.out.sky hd.1 hd.2.1 hd.2.2.1 hd.2.2.2 (by omega) (by omega)).mono ?_
    rintro r w4 ⟨v, rfl, ⟨Av, cv, rfl, _⟩, hmv4⟩
    have HM4 := Lib.hid (HMV.out.trans hmv4)
    have HE4 := Lib.hid (HEr.out.trans' (hmv4.below hMw HEr.out.size))
    clear hmv4 c
    obtain ⟨n, hn⟩ : ∃ n, (Ec.missedL e set lo hi k).length = n := ⟨_, rfl⟩
    rw [hn]
    have HQ := Lib.hid hn
    clear hn
    rcases Nat.eq_zero_or_pos n with h0 | h0
    ·have hq : ((n : Int) == 0) = true := by simp [h0]
     go_wp2_with fail
     go_ret2
     refine ⟨?_, HE4.out⟩
     have := withinN_at e set lo hi 31 k 0 hlt (fun j hj => by rw [Int.zero_add]; exact HN.out j hj) (by rw [Int.zero_add, HQ.out, h0])
     rw [Ec.withinO, this, Int.zero_add]
     rfl
    ·have hq : ((n : Int) == 0) = false := by simp; omega
     go_wp2_with fail
     refine ⟨⟨k + 1, by omega, by go_num, Lib.hid fun j hj => ?_, HM4.out⟩, by simp [intOf]; omega⟩
     rcases Nat.lt_or_ge j k with h | h
     ·exact HN.out j h
     ·obtain rfl : j = k := by omega
      rw [HQ.out]; omega
   ·obtain rfl : k = 31 := by omega
    clear c
    go_wp2_with fail
    go_ret2
    refine ⟨?_, HEr.out⟩
    have := withinN_no e set lo hi 31 0 (fun j hj => by rw [Int.zero_add]; exact HN.out j hj)
    rw [Ec.withinO, this]
    rfl
def untilΦ (p : EP) (e : Ec.Engine) (set : List Int) (lo : Int) (hi : Int) (late : Int) (w0 : World) (i : Nat) (v : Value) (w : World) : Prop :=
 match i with
 | 0 => v = .agg #[.slice p.Ab e.sky.bodies.length p.cb, .int .i64 e.sky.nnum, .int .i64 e.sky.nden, .int .i64 e.sky.nstart, .slice p.As e.sun.length p.cs, .slice p.Am e.moon.length p.cm, .slice p.An e.node.length p.cn, .slice p.Af e.feasts.length p.cf, .int .i64 e.nw, .int .i64 e.fl, .int .i64 e.wide]
 | 1 => v = .slice p.At set.length p.ct
 | 2 => v = .int .i64 lo
 | 3 => v = .int .i64 hi
 | 4 => v = .bool true
 | 5 => v = .bool true
 | 6 => v = .int .i64 late
 | 7 => v = .bool true
 | 8 => v = .bool true
 | 9 => AskTup p e set w0 v w
 | 10 => AskTup p e set w0 v w
 | 11 => AskAgg p e set w0 v w
 | 12 => v = .int .i64 0
 | _ => AskNew w0 v w
theorem untilΦ_mono {p : EP} {e : Ec.Engine} {set : List Int} {lo : Int} {hi : Int} {late : Int} {w0 : World} (i : Nat) (v : Value) (w w' : World) (h : untilΦ p e set lo hi late w0 i v w) (he : Ext w w') : untilΦ p e set lo hi late w0 i v w' := by
 unfold untilΦ at h ⊢
 split at h <;> first
  | exact h
  | exact AskTup.ext h he
  | exact AskAgg.ext h he
  | exact AskNew.ext h he
def untilV (lo u : Int) : Value := if u < lo then .tuple #[.int .i64 0, .int .i64 5] else .tuple #[.int .i64 u, .int .i64 0]
theorem e_Until_ok (p : EP) (e : Ec.Engine) (set : List Int) (lo hi late : Int) (w : World) (hm : EngSet w p e set) (hl : EngShort e) (hs : set.length ≤ 100000) (c0 : Ec.engineOk e = true) (c1 : Ec.setOk e.feasts set = true) (c2 : Ec.isSpan lo hi = true) (c3 : Ec.isLate late = true) :
  Calls Tryz.prog 35 #[.agg #[.slice p.Ab e.sky.bodies.length p.cb, .int .i64 e.sky.nnum, .int .i64 e.sky.nden, .int .i64 e.sky.nstart, .slice p.As e.sun.length p.cs, .slice p.Am e.moon.length p.cm, .slice p.An e.node.length p.cn, .slice p.Af e.feasts.length p.cf, .int .i64 e.nw, .int .i64 e.fl, .int .i64 e.wide], .slice p.At set.length p.ct, .int .i64 lo, .int .i64 hi, .int .i64 late] w fun r w' => r = .returned (untilV lo (Ec.untilI e set lo hi late)) ∧ Ext w w' := by
 have HM := Lib.hid hm
 have HL := Lib.hid hl
 have HK : Hid (Fine e set) := Lib.hid ⟨c0, c1⟩
 have HR0 : Hid (Row (w.alloc (.cells #[.slice p.Ab e.sky.bodies.length p.cb, .int .i64 e.sky.nnum, .int .i64 e.sky.nden, .int .i64 e.sky.nstart, .slice p.As e.sun.length p.cs, .slice p.Am e.moon.length p.cm, .slice p.An e.node.length p.cn, .slice p.Af e.feasts.length p.cf, .int .i64 e.nw, .int .i64 e.fl, .int .i64 e.wide] 32)) w.heap.size 32 #[.slice p.Ab e.sky.bodies.length p.cb, .int .i64 e.sky.nnum, .int .i64 e.sky.nden, .int .i64 e.sky.nstart, .slice p.As e.sun.length p.cs, .slice p.Am e.moon.length p.cm, .slice p.An e.node.length p.cn, .slice p.Af e.feasts.length p.cf, .int .i64 e.nw, .int .i64 e.fl, .int .i64 e.wide]) := Lib.hid (Row.new w _ _)
 have HE0 := Lib.hid ((Ext.refl w).alloc (.cells #[.slice p.Ab e.sky.bodies.length p.cb, .int .i64 e.sky.nnum, .int .i64 e.sky.nden, .int .i64 e.sky.nstart, .slice p.As e.sun.length p.cs, .slice p.Am e.moon.length p.cm, .slice p.An e.node.length p.cn, .slice p.Af e.feasts.length p.cf, .int .i64 e.nw, .int .i64 e.fl, .int .i64 e.wide] 32))
 have hd : 1 ≤ lo ∧ lo ≤ hi ∧ hi ≤ 9000 ∧ hi - lo ≤ 400 := by
  simp only [Ec.isSpan, Sp.inR, Bool.and_eq_true, decide_eq_true_eq] at c2
  omega
 have hla : 0 ≤ late ∧ late ≤ 30 := by
  simp only [Ec.isLate, Sp.inR, Bool.and_eq_true, decide_eq_true_eq] at c3
  omega
 clear hm hl
 go_enter Tryz.func35, Tryz.ntmps35
 go_wp2_with fail
 obtain ⟨W, hW⟩ : ∃ W, w.alloc (.cells #[.slice p.Ab e.sky.bodies.length p.cb, .int .i64 e.sky.nnum, .int .i64 e.sky.nden, .int .i64 e.sky.nstart, .slice p.As e.sun.length p.cs, .slice p.Am e.moon.length p.cm, .slice p.An e.node.length p.cn, .slice p.Af e.feasts.length p.cf, .int .i64 e.nw, .int .i64 e.fl, .int .i64 e.wide] 32) = W := ⟨_, rfl⟩
 rw [hW] at HR0 HE0 ⊢
 clear hW
 refine Code.wp_mono (Q := fun e' a' w' => e' = .normal ∧ ∃ M4 M5 M b, W.heap.size ≤ b ∧ W.heap.size ≤ M ∧ Ext W w' ∧ Row w' b 100 #[.slice p.Ab e.sky.bodies.length p.cb, .int .i64 e.sky.nnum, .int .i64 e.sky.nden, .int .i64 e.sky.nstart, .slice p.As e.sun.length p.cs, .slice p.Am e.moon.length p.cm, .slice p.An e.node.length p.cn, .slice p.Af e.feasts.length p.cf, .int .i64 e.nw, .int .i64 e.fl, .int .i64 e.wide, .slice p.At set.length p.ct, .map (some M)] ∧ Seen e set M w' ∧ a' = (⟨#[.agg #[.slice p.Ab e.sky.bodies.length p.cb, .int .i64 e.sky.nnum, .int .i64 e.sky.nden, .int .i64 e.sky.nstart, .slice p.As e.sun.length p.cs, .slice p.Am e.moon.length p.cm, .slice p.An e.node.length p.cn, .slice p.Af e.feasts.length p.cf, .int .i64 e.nw, .int .i64 e.fl, .int .i64 e.wide], .slice p.At set.length p.ct, .int .i64 lo, .int .i64 hi, .int .i64 late, .pointer (some ⟨w.heap.size, 0, none⟩), undef, undef, undef, undef, .int .i64 0, .int .i64 0, .pointer (some ⟨b, 0, none⟩), .int .i64 0, undef, .tuple #[.agg #[.slice p.Ab e.sky.bodies.length p.cb, .int .i64 e.sky.nnum, .int .i64 e.sky.nden, .int .i64 e.sky.nstart, .slice p.As e.sun.length p.cs, .slice p.Am e.moon.length p.cm, .slice p.An e.node.length p.cn, .slice p.Af e.feasts.length p.cf, .int .i64 e.nw, .int .i64 e.fl, .int .i64 e.wide, .slice p.At set.length p.ct, .map (some M5)], .int .i64 0], .agg #[.slice p.Ab e.sky.bodies.length p.cb, .int .i64 e.sky.nnum, .int .i64 e.sky.nden, .int .i64 e.sky.nstart, .slice p.As e.sun.length p.cs, .slice p.Am e.moon.length p.cm, .slice p.An e.node.length p.cn, .slice p.Af e.feasts.length p.cf, .int .i64 e.nw, .int .i64 e.fl, .int .i64 e.wide], .slice p.At set.length p.ct, .int .i64 lo, .int .i64 hi, .bool true, .bool true, .int .i64 late, .bool true, .bool true, .tuple #[.agg #[.slice p.Ab e.sky.bodies.length p.cb, .int .i64 e.sky.nnum, .int .i64 e.sky.nden, .int .i64 e.sky.nstart, .slice p.As e.sun.length p.cs, .slice p.Am e.moon.length p.cm, .slice p.An e.node.length p.cn, .slice p.Af e.feasts.length p.cf, .int .i64 e.nw, .int .i64 e.fl, .int .i64 e.wide, .slice p.At set.length p.ct, .map (some M4)], .int .i64 0], .agg #[.slice p.Ab e.sky.bodies.length p.cb, .int .i64 e.sky.nnum, .int .i64 e.sky.nden, .int .i64 e.sky.nstart, .slice p.As e.sun.length p.cs, .slice p.Am e.moon.length p.cm, .slice p.An e.node.length p.cn, .slice p.Af e.feasts.length p.cf, .int .i64 e.nw, .int .i64 e.fl, .int .i64 e.wide, .slice p.At set.length p.ct, .map (some M)], .int .i64 0, undef, undef, undef, undef, undef, undef, undef, undef, undef, undef, undef, undef, undef, undef, undef, undef, undef, undef, undef, undef, undef, undef, undef], []⟩ : Act)) ?hq (wp_region_free_tail 14 12 (untilΦ p e set lo hi late W) (by kernel_rfl) (by simp) (by kernel_rfl) (by kernel_rfl) (by kernel_rfl) (by kernel_rfl) untilΦ_mono ?hob ?hQ ?hZ)
 case hob =>
  intro i o hin ho a wa hE hF
  match i, hin with
  | 0, _ =>
   cases ho
   have h0 : a.tmps[5]?.getD undef = .pointer (some ⟨w.heap.size, 0, none⟩) := evalD (hF.old 5 (by decide))
   have q := (HR0.out.ext hE).cell
   refine Ran.value rfl (v := .agg #[.slice p.Ab e.sky.bodies.length p.cb, .int .i64 e.sky.nnum, .int .i64 e.sky.nden, .int .i64 e.sky.nstart, .slice p.As e.sun.length p.cs, .slice p.Am e.moon.length p.cm, .slice p.An e.node.length p.cn, .slice p.Af e.feasts.length p.cf, .int .i64 e.nw, .int .i64 e.fl, .int .i64 e.wide]) (w1 := wa) ?_ ⟨rfl, Ext.refl _⟩
   go_simp
  | 1, _ =>
   cases ho
   have h0 : a.tmps[1]?.getD undef = .slice p.At set.length p.ct := evalD (hF.old 1 (by decide))
   refine Ran.value rfl (v := .slice p.At set.length p.ct) (w1 := wa) ?_ ⟨rfl, Ext.refl _⟩
   go_simp
  | 2, _ =>
   cases ho
   have h0 : a.tmps[2]?.getD undef = .int .i64 lo := evalD (hF.old 2 (by decide))
   refine Ran.value rfl (v := .int .i64 lo) (w1 := wa) ?_ ⟨rfl, Ext.refl _⟩
   go_simp
  | 3, _ =>
   cases ho
   have h0 : a.tmps[3]?.getD undef = .int .i64 hi := evalD (hF.old 3 (by decide))
   refine Ran.value rfl (v := .int .i64 hi) (w1 := wa) ?_ ⟨rfl, Ext.refl _⟩
   go_simp
  | 4, _ =>
   cases ho
   have h0 : a.tmps[18]?.getD undef = .int .i64 lo := evalD (hF.from_ 2 18 rfl (by decide))
   have h1 : a.tmps[19]?.getD undef = .int .i64 hi := evalD (hF.from_ 3 19 rfl (by decide))
   refine Ran.enter rfl (f := 76) (args := #[.int .i64 lo, .int .i64 hi]) (w1 := wa) ?_ ?_
   ·go_simp
   ·refine (e_isSpan_any lo hi _).mono ?_
    rintro r w1 ⟨rfl, rfl⟩
    exact ⟨_, rfl, by rw [c2]; rfl, Ext.refl _⟩
  | 5, _ =>
   cases ho
   have h0 : a.tmps[20]?.getD undef = .bool true := evalD (hF.from_ 4 20 rfl (by decide))
   refine Ran.value rfl (v := .bool true) (w1 := wa) ?_ ⟨rfl, Ext.refl _⟩
   go_simp
  | 6, _ =>
   cases ho
   have hg : a.eval (.tmp 21) = .bool true := hF.from_ 5 21 rfl (by decide)
   refine Ran.if_ rfl rfl rfl hg (fun _ => ?_) (fun h => absurd rfl h)
   have h0 : a.tmps[4]?.getD undef = .int .i64 late := evalD (hF.old 4 (by decide))
   refine Ran.value rfl (v := .int .i64 late) (w1 := wa) ?_ ⟨rfl, Ext.refl _⟩
   go_simp
  | 7, _ =>
   cases ho
   have hg : a.eval (.tmp 21) = .bool true := hF.from_ 5 21 rfl (by decide)
   refine Ran.if_ rfl rfl rfl hg (fun _ => ?_) (fun h => absurd rfl h)
   have h0 : a.tmps[22]?.getD undef = .int .i64 late := evalD (hF.from_ 6 22 rfl (by decide))
   refine Ran.enter rfl (f := 83) (args := #[.int .i64 late]) (w1 := wa) ?_ ?_
   ·go_simp
   ·refine (e_isLate_any late _).mono ?_
    rintro r w1 ⟨rfl, rfl⟩
    exact ⟨_, rfl, by rw [c3]; rfl, Ext.refl _⟩
  | 8, _ =>
   cases ho
   have h0 : a.tmps[21]?.getD undef = .bool true := evalD (hF.from_ 5 21 rfl (by decide))
   have h1 : a.tmps[23]?.getD undef = .bool true := evalD (hF.from_ 7 23 rfl (by decide))
   refine Ran.value rfl (v := .bool true) (w1 := wa) ?_ ⟨rfl, Ext.refl _⟩
   go_simp
  | 9, _ =>
   cases ho
   have h0 : a.tmps[16]?.getD undef = .agg #[.slice p.Ab e.sky.bodies.length p.cb, .int .i64 e.sky.nnum, .int .i64 e.sky.nden, .int .i64 e.sky.nstart, .slice p.As e.sun.length p.cs, .slice p.Am e.moon.length p.cm, .slice p.An e.node.length p.cn, .slice p.Af e.feasts.length p.cf, .int .i64 e.nw, .int .i64 e.fl, .int .i64 e.wide] := evalD (hF.from_ 0 16 rfl (by decide))
   have h1 : a.tmps[17]?.getD undef = .slice p.At set.length p.ct := evalD (hF.from_ 1 17 rfl (by decide))
   have h2 : a.tmps[24]?.getD undef = .bool true := evalD (hF.from_ 8 24 rfl (by decide))
   refine Ran.enter rfl (f := 69) (args := #[.agg #[.slice p.Ab e.sky.bodies.length p.cb, .int .i64 e.sky.nnum, .int .i64 e.sky.nden, .int .i64 e.sky.nstart, .slice p.As e.sun.length p.cs, .slice p.Am e.moon.length p.cm, .slice p.An e.node.length p.cn, .slice p.Af e.feasts.length p.cf, .int .i64 e.nw, .int .i64 e.fl, .int .i64 e.wide], .slice p.At set.length p.ct, .bool true]) (w1 := wa) ?_ ?_
   ·go_simp
   ·refine (e_asked_ok p e set wa (HM.out.ext (HE0.out.trans hE)) HL.out hs c0 c1).mono ?_
    rintro r w1 ⟨M, rfl, hM, hC, hX⟩
    exact ⟨_, rfl, ⟨M, rfl, Nat.le_trans hE.size hM, hC⟩, hX⟩
  | 10, _ =>
   cases ho
   obtain ⟨M, h0, hM, hC⟩ : AskTup p e set W (a.eval (.tmp 25)) wa := hF.from_ 9 25 rfl (by decide)
   replace h0 := evalD h0
   refine Ran.value rfl (w1 := wa) (v := .tuple #[.agg #[.slice p.Ab e.sky.bodies.length p.cb, .int .i64 e.sky.nnum, .int .i64 e.sky.nden, .int .i64 e.sky.nstart, .slice p.As e.sun.length p.cs, .slice p.Am e.moon.length p.cm, .slice p.An e.node.length p.cn, .slice p.Af e.feasts.length p.cf, .int .i64 e.nw, .int .i64 e.fl, .int .i64 e.wide, .slice p.At set.length p.ct, .map (some M)], .int .i64 0]) ?_ ⟨⟨M, rfl, hM, hC⟩, Ext.refl _⟩
   go_simp
  | 11, _ =>
   cases ho
   obtain ⟨M, h0, hM, hC⟩ : AskTup p e set W (a.eval (.tmp 15)) wa := hF.from_ 10 15 rfl (by decide)
   replace h0 := evalD h0
   refine Ran.value rfl (w1 := wa) (v := .agg #[.slice p.Ab e.sky.bodies.length p.cb, .int .i64 e.sky.nnum, .int .i64 e.sky.nden, .int .i64 e.sky.nstart, .slice p.As e.sun.length p.cs, .slice p.Am e.moon.length p.cm, .slice p.An e.node.length p.cn, .slice p.Af e.feasts.length p.cf, .int .i64 e.nw, .int .i64 e.fl, .int .i64 e.wide, .slice p.At set.length p.ct, .map (some M)]) ?_ ⟨⟨M, rfl, hM, hC⟩, Ext.refl _⟩
   go_simp
  | 12, _ =>
   cases ho
   obtain ⟨M, h0, hM, hC⟩ : AskTup p e set W (a.eval (.tmp 15)) wa := hF.from_ 10 15 rfl (by decide)
   replace h0 := evalD h0
   refine Ran.value rfl (w1 := wa) (v := .int .i64 0) ?_ ⟨rfl, Ext.refl _⟩
   go_simp
  | 13, _ =>
   cases ho
   refine Ran.value rfl (w1 := wa.alloc (.cells zeroEng 100)) (v := .pointer (some ⟨wa.heap.size, 0, none⟩)) (by kernel_rfl) ⟨⟨wa.heap.size, rfl, hE.size, Row.new _ _ _⟩, (Ext.refl _).alloc _⟩
  | k + 14, hin => omega
 case hQ =>
  intro vs w2 hE hΦ
  have f0 : vs 0 = .agg #[.slice p.Ab e.sky.bodies.length p.cb, .int .i64 e.sky.nnum, .int .i64 e.sky.nden, .int .i64 e.sky.nstart, .slice p.As e.sun.length p.cs, .slice p.Am e.moon.length p.cm, .slice p.An e.node.length p.cn, .slice p.Af e.feasts.length p.cf, .int .i64 e.nw, .int .i64 e.fl, .int .i64 e.wide] := hΦ 0 (by omega)
  have f1 : vs 1 = .slice p.At set.length p.ct := hΦ 1 (by omega)
  have f2 : vs 2 = .int .i64 lo := hΦ 2 (by omega)
  have f3 : vs 3 = .int .i64 hi := hΦ 3 (by omega)
  have f4 : vs 4 = .bool true := hΦ 4 (by omega)
  have f5 : vs 5 = .bool true := hΦ 5 (by omega)
  have f6 : vs 6 = .int .i64 late := hΦ 6 (by omega)
  have f7 : vs 7 = .bool true := hΦ 7 (by omega)
  have f8 : vs 8 = .bool true := hΦ 8 (by omega)
  obtain ⟨M4, f9, _, _⟩ : AskTup p e set W (vs 9) w2 := hΦ 9 (by omega)
  obtain ⟨M5, f10, _, _⟩ : AskTup p e set W (vs 10) w2 := hΦ 10 (by omega)
  obtain ⟨M, f11, hM, hC⟩ : AskAgg p e set W (vs 11) w2 := hΦ 11 (by omega)
  have f12 : vs 12 = .int .i64 0 := hΦ 12 (by omega)
  obtain ⟨b, f13, hb, hr⟩ : AskNew W (vs 13) w2 := hΦ 13 (by omega)
  have hrg : List.range 14 = [0, 1, 2, 3, 4, 5, 6, 7, 8, 9, 10, 11, 12, 13] := rfl
  unfold putAll putS
  simp only [List.length_cons, List.length_nil, List.take_succ_cons, List.take_zero, List.drop_succ_cons, List.drop_zero, Nat.reduceAdd, hrg, List.foldl_cons, List.foldl_nil, dstOf, List.getElem?_cons_succ, List.getElem?_cons_zero, Option.bind_some]
  clear hrg
  rw [f0, f1, f2, f3, f4, f5, f6, f7, f8, f9, f10, f11, f12, f13]
  have c := hr.cell
  simp only [zeroEng] at c
  have fz := hr.free
  have hne : b ≠ M := fun h => (hC.not_row hr) h
  go_wp2
  clear c fz
  obtain ⟨W3, hW3⟩ : ∃ W3, setsAt w2 b 0 [.slice p.Ab e.sky.bodies.length p.cb, .int .i64 e.sky.nnum, .int .i64 e.sky.nden, .int .i64 e.sky.nstart, .slice p.As e.sun.length p.cs, .slice p.Am e.moon.length p.cm, .slice p.An e.node.length p.cn, .slice p.Af e.feasts.length p.cf, .int .i64 e.nw, .int .i64 e.fl, .int .i64 e.wide, .slice p.At set.length p.ct, .map (some M)] = W3 := ⟨_, rfl⟩
  have hR3 : Row W3 b 100 #[.slice p.Ab e.sky.bodies.length p.cb, .int .i64 e.sky.nnum, .int .i64 e.sky.nden, .int .i64 e.sky.nstart, .slice p.As e.sun.length p.cs, .slice p.Am e.moon.length p.cm, .slice p.An e.node.length p.cn, .slice p.Af e.feasts.length p.cf, .int .i64 e.nw, .int .i64 e.fl, .int .i64 e.wide, .slice p.At set.length p.ct, .map (some M)] := by rw [← hW3]; exact Row.sets (cs := [.slice none 0 0, .int .i64 0, .int .i64 0, .int .i64 0, .slice none 0 0, .slice none 0 0, .slice none 0 0, .slice none 0 0, .int .i64 0, .int .i64 0, .int .i64 0, .slice none 0 0, .map none]) hr _ rfl
  have hE3 : Ext W W3 := by rw [← hW3]; exact Ext.sets hb _ _ _ hE
  have hC3 : Seen e set M W3 := by rw [← hW3]; exact Cache.sets hne _ _ _ hC
  simp only [setsAt, Nat.reduceAdd] at hW3
  try rw [hW3]
  exact ⟨M4, M5, M, b, hb, hM, hE3, hR3, hC3, by simp⟩
 case hZ =>
  intro _ vs w2 hE hΦ on oz hon hoz
  obtain rfl := Option.some.inj hon
  obtain rfl := Option.some.inj hoz
  have f0 : vs 0 = .agg #[.slice p.Ab e.sky.bodies.length p.cb, .int .i64 e.sky.nnum, .int .i64 e.sky.nden, .int .i64 e.sky.nstart, .slice p.As e.sun.length p.cs, .slice p.Am e.moon.length p.cm, .slice p.An e.node.length p.cn, .slice p.Af e.feasts.length p.cf, .int .i64 e.nw, .int .i64 e.fl, .int .i64 e.wide] := hΦ 0 (by omega) (by omega)
  have f1 : vs 1 = .slice p.At set.length p.ct := hΦ 1 (by omega) (by omega)
  have f2 : vs 2 = .int .i64 lo := hΦ 2 (by omega) (by omega)
  have f3 : vs 3 = .int .i64 hi := hΦ 3 (by omega) (by omega)
  have f4 : vs 4 = .bool true := hΦ 4 (by omega) (by omega)
  have f5 : vs 5 = .bool true := hΦ 5 (by omega) (by omega)
  have f6 : vs 6 = .int .i64 late := hΦ 6 (by omega) (by omega)
  have f7 : vs 7 = .bool true := hΦ 7 (by omega) (by omega)
  have f8 : vs 8 = .bool true := hΦ 8 (by omega) (by omega)
  obtain ⟨M4, f9, _, _⟩ : AskTup p e set W (vs 9) w2 := hΦ 9 (by omega) (by omega)
  obtain ⟨M5, f10, _, _⟩ : AskTup p e set W (vs 10) w2 := hΦ 10 (by omega) (by omega)
  obtain ⟨M, f11, hM, hC⟩ : AskAgg p e set W (vs 11) w2 := hΦ 11 (by omega) (by omega)
  obtain ⟨b, f13, hb, hr⟩ : AskNew W (vs 13) w2 := hΦ 13 (by omega) (by omega)
  have hrg : (List.range 14).filter (· ≠ 12) = [0, 1, 2, 3, 4, 5, 6, 7, 8, 9, 10, 11, 13] := by decide
  rw [hrg]
  unfold putS
  simp only [List.take_succ_cons, List.take_zero, List.drop_succ_cons, List.drop_zero, Nat.reduceAdd, List.foldl_cons, List.foldl_nil, dstOf, List.getElem?_cons_succ, List.getElem?_cons_zero, Option.bind_some]
  clear hrg
  rw [f0, f1, f2, f3, f4, f5, f6, f7, f8, f9, f10, f11, f13]
  have c := hr.cell
  simp only [zeroEng] at c
  have fz := hr.free
  have hne : b ≠ M := fun h => (hC.not_row hr) h
  go_wp2
  clear c fz
  obtain ⟨W3, hW3⟩ : ∃ W3, setsAt w2 b 0 [.slice p.Ab e.sky.bodies.length p.cb, .int .i64 e.sky.nnum, .int .i64 e.sky.nden, .int .i64 e.sky.nstart, .slice p.As e.sun.length p.cs, .slice p.Am e.moon.length p.cm, .slice p.An e.node.length p.cn, .slice p.Af e.feasts.length p.cf, .int .i64 e.nw, .int .i64 e.fl, .int .i64 e.wide, .slice p.At set.length p.ct, .map (some M)] = W3 := ⟨_, rfl⟩
  have hR3 : Row W3 b 100 #[.slice p.Ab e.sky.bodies.length p.cb, .int .i64 e.sky.nnum, .int .i64 e.sky.nden, .int .i64 e.sky.nstart, .slice p.As e.sun.length p.cs, .slice p.Am e.moon.length p.cm, .slice p.An e.node.length p.cn, .slice p.Af e.feasts.length p.cf, .int .i64 e.nw, .int .i64 e.fl, .int .i64 e.wide, .slice p.At set.length p.ct, .map (some M)] := by rw [← hW3]; exact Row.sets (cs := [.slice none 0 0, .int .i64 0, .int .i64 0, .int .i64 0, .slice none 0 0, .slice none 0 0, .slice none 0 0, .slice none 0 0, .int .i64 0, .int .i64 0, .int .i64 0, .slice none 0 0, .map none]) hr _ rfl
  have hE3 : Ext W W3 := by rw [← hW3]; exact Ext.sets hb _ _ _ hE
  have hC3 : Seen e set M W3 := by rw [← hW3]; exact Cache.sets hne _ _ _ hC
  simp only [setsAt, Nat.reduceAdd] at hW3
  try rw [hW3]
  exact ⟨M4, M5, M, b, hb, hM, hE3, hR3, hC3, by simp⟩
 case hq =>
  rintro e' a' w3 ⟨rfl, M4, M5, M, b, hb, hM, hE3, hR3, hC3, rfl⟩
  have hMw := Nat.le_trans HE0.out.size hM
  have HE3 := Lib.hid (HE0.out.trans hE3)
  have HR3 := Lib.hid hR3
  have HC3 := Lib.hid hC3
  have c := hR3.cell
  clear hE3 hR3 hC3
  go_wp2_with fail
  refine (e_missed_any p e set M lo hi late w _ HK.out HM.out hMw HE3.out HC3.out HL.out.sky hd.1 hd.2.1 hd.2.2.1 hd.2.2.2 hla.1 hla.2).mono ?_
  rintro r w4 ⟨v, rfl, hv, hmv⟩
  have HE4 := Lib.hid (HE3.out.trans' (hmv.below hMw HE3.out.size))
  clear hmv c
  have HQ : Hid (Ec.untilI e set lo hi late = if (Ec.missedL e set lo hi late).length = 0 then hi else ((Ec.missedL e set lo hi late).headD Ec.noEcl).day - 1) := Lib.hid rfl
  have HD : Hid (∀ x ∈ Ec.missedL e set lo hi late, lo ≤ x.day ∧ x.day ≤ hi) := Lib.hid fun x hx => ((Ec.missed_is _ _ _ _ _ _).1 hx).1
  obtain ⟨l, hL⟩ : ∃ l, Ec.missedL e set lo hi late = l := ⟨_, rfl⟩
  rw [hL] at hv HQ HD
  clear hL
  obtain ⟨A, cA, rfl, hcl⟩ := hv
  cases l with
  | nil =>
   have HQ2 : Hid (Ec.untilI e set lo hi late = hi) := Lib.hid (HQ.out.trans (by simp))
   clear hcl
   simp only [List.length_nil]
   go_wp2_with fail
   go_ret2
   have h9 : untilV lo (Ec.untilI e set lo hi late) = .tuple #[.int .i64 hi, .int .i64 0] := by rw [HQ2.out, untilV, if_neg (by omega)]
   exact ⟨by rw [h9] <;> rfl, HE4.out⟩
  | cons x l =>
   obtain ⟨b, o, rfl, hk⟩ := hcl (by simp)
   obtain ⟨q, _, _⟩ := hk 0 (by simp)
   simp only [Nat.zero_mul, Nat.add_zero, List.getElem_cons_zero] at q
   have hx := HD.out x (by simp)
   have HQ2 : Hid (Ec.untilI e set lo hi late = x.day - 1) := Lib.hid (HQ.out.trans (by simp))
   obtain ⟨n, hn⟩ : ∃ n, (x :: l).length = n := ⟨_, rfl⟩
   have hn0 : 0 < n := by rw [← hn]; simp
   have hq : ((n : Int) == 0) = false := by simp; omega
   rw [hn]
   clear hk hn HQ HD
   obtain ⟨d, hd0⟩ : ∃ d, x.day = d := ⟨_, rfl⟩
   rw [hd0] at q hx HQ2
   clear hd0
   cases hdl : (d == lo)
   ·have hne : ¬ d = lo := by simpa using hdl
    go_wp2_with fail
    go_ret2
    have h9 : untilV lo (Ec.untilI e set lo hi late) = .tuple #[.int .i64 (d - 1), .int .i64 0] := by rw [HQ2.out, untilV, if_neg (by omega)]
    exact ⟨by rw [h9] <;> rfl, HE4.out⟩
   ·have he : d = lo := by simpa using hdl
    have HHE := Lib.hid he
    clear he
    go_wp2_with fail
    go_ret2
    have he := HHE.out
    have h9 : untilV lo (Ec.untilI e set lo hi late) = .tuple #[.int .i64 0, .int .i64 5] := by rw [HQ2.out, untilV, if_pos (by omega)]
    exact ⟨by rw [h9] <;> rfl, HE4.out⟩
end Go.Proofs.YtcbodpnmndbgnaaGreatDoor
namespace Go.Proofs.YtcbodpnmndbgnaaGreatDoor
open Go.RowKit
open Sp (rd)
set_option maxRecDepth 100000
set_option maxHeartbeats 1000000
set_option linter.unusedVariables false
theorem fourBlocks (w : World) (o1 o2 o3 o4 : Obj) : ((((w.alloc o1).alloc o2).alloc o3).alloc o4).heap[w.heap.size]? = some o1 ∧ ((((w.alloc o1).alloc o2).alloc o3).alloc o4).heap[w.heap.size + 1]? = some o2 ∧ ((((w.alloc o1).alloc o2).alloc o3).alloc o4).heap[w.heap.size + 2]? = some o3 ∧ ((((w.alloc o1).alloc o2).alloc o3).alloc o4).heap[w.heap.size + 3]? = some o4 :=
 ⟨(Below.heap_alloc _ _ _ (by simp; omega)).trans (blocks3 w o1 o2 o3).1, (Below.heap_alloc _ _ _ (by simp)).trans (blocks3 w o1 o2 o3).2.1, (Below.heap_alloc _ _ _ (by simp)).trans (blocks3 w o1 o2 o3).2.2, by have := heap_alloc_new (((w.alloc o1).alloc o2).alloc o3) o4; simpa using this⟩
def settingsΦf (p : EP) (e : Ec.Engine) (set : List Int) (lo : Int) (hi : Int) (w0 : World) (i : Nat) (v : Value) (w : World) : Prop :=
 match i with
 | 0 => v = .agg #[.slice p.Ab e.sky.bodies.length p.cb, .int .i64 e.sky.nnum, .int .i64 e.sky.nden, .int .i64 e.sky.nstart, .slice p.As e.sun.length p.cs, .slice p.Am e.moon.length p.cm, .slice p.An e.node.length p.cn, .slice p.Af e.feasts.length p.cf, .int .i64 e.nw, .int .i64 e.fl, .int .i64 e.wide]
 | 1 => v = .int .i64 lo
 | 2 => v = .int .i64 hi
 | 3 => v = .bool false
 | 4 => v = .bool false
 | 5 => v = undef
 | 6 => v = undef
 | 7 => v = .bool false
 | 8 => v = .tuple #[.agg #[.slice none 0 0, .int .i64 0, .int .i64 0, .int .i64 0, .slice none 0 0, .slice none 0 0, .slice none 0 0, .slice none 0 0, .int .i64 0, .int .i64 0, .int .i64 0, .slice none 0 0, .map none], .int .i64 2]
 | 9 => v = .tuple #[.agg #[.slice none 0 0, .int .i64 0, .int .i64 0, .int .i64 0, .slice none 0 0, .slice none 0 0, .slice none 0 0, .slice none 0 0, .int .i64 0, .int .i64 0, .int .i64 0, .slice none 0 0, .map none], .int .i64 2]
 | 10 => v = .agg #[.slice none 0 0, .int .i64 0, .int .i64 0, .int .i64 0, .slice none 0 0, .slice none 0 0, .slice none 0 0, .slice none 0 0, .int .i64 0, .int .i64 0, .int .i64 0, .slice none 0 0, .map none]
 | 11 => v = .int .i64 2
 | _ => AskNew w0 v w
theorem settingsΦf_mono {p : EP} {e : Ec.Engine} {set : List Int} {lo : Int} {hi : Int} {w0 : World} (i : Nat) (v : Value) (w w' : World) (h : settingsΦf p e set lo hi w0 i v w) (he : Ext w w') : settingsΦf p e set lo hi w0 i v w' := by
 unfold settingsΦf at h ⊢
 split at h <;> first
  | exact h
  | exact AskTup.ext h he
  | exact AskAgg.ext h he
  | exact AskNew.ext h he
def settingsΦt (p : EP) (e : Ec.Engine) (set : List Int) (lo : Int) (hi : Int) (late : Int) (fb : Bool) (w0 : World) (i : Nat) (v : Value) (w : World) : Prop :=
 match i with
 | 0 => v = .agg #[.slice p.Ab e.sky.bodies.length p.cb, .int .i64 e.sky.nnum, .int .i64 e.sky.nden, .int .i64 e.sky.nstart, .slice p.As e.sun.length p.cs, .slice p.Am e.moon.length p.cm, .slice p.An e.node.length p.cn, .slice p.Af e.feasts.length p.cf, .int .i64 e.nw, .int .i64 e.fl, .int .i64 e.wide]
 | 1 => v = .int .i64 lo
 | 2 => v = .int .i64 hi
 | 3 => v = .bool true
 | 4 => v = .bool true
 | 5 => v = .int .i64 late
 | 6 => v = .bool fb
 | 7 => v = .bool fb
 | 8 => v = .tuple #[.agg #[.slice none 0 0, .int .i64 0, .int .i64 0, .int .i64 0, .slice none 0 0, .slice none 0 0, .slice none 0 0, .slice none 0 0, .int .i64 0, .int .i64 0, .int .i64 0, .slice none 0 0, .map none], .int .i64 2]
 | 9 => v = .tuple #[.agg #[.slice none 0 0, .int .i64 0, .int .i64 0, .int .i64 0, .slice none 0 0, .slice none 0 0, .slice none 0 0, .slice none 0 0, .int .i64 0, .int .i64 0, .int .i64 0, .slice none 0 0, .map none], .int .i64 2]
 | 10 => v = .agg #[.slice none 0 0, .int .i64 0, .int .i64 0, .int .i64 0, .slice none 0 0, .slice none 0 0, .slice none 0 0, .slice none 0 0, .int .i64 0, .int .i64 0, .int .i64 0, .slice none 0 0, .map none]
 | 11 => v = .int .i64 2
 | _ => AskNew w0 v w
theorem settingsΦt_mono {p : EP} {e : Ec.Engine} {set : List Int} {lo : Int} {hi : Int} {late : Int} {fb : Bool} {w0 : World} (i : Nat) (v : Value) (w w' : World) (h : settingsΦt p e set lo hi late fb w0 i v w) (he : Ext w w') : settingsΦt p e set lo hi late fb w0 i v w' := by
 unfold settingsΦt at h ⊢
 split at h <;> first
  | exact h
  | exact AskTup.ext h he
  | exact AskAgg.ext h he
  | exact AskNew.ext h he
theorem e_Settings_err (p : EP) (e : Ec.Engine) (set : List Int) (lo hi late : Int) (w : World) (hm : EngAt w p e) (hl : EngShort e) (h : (Ec.engineOk e && (Ec.setOk e.feasts [] && (Ec.isSpan lo hi && Ec.isLate late))) = false) :
  Calls Tryz.prog 41 #[.agg #[.slice p.Ab e.sky.bodies.length p.cb, .int .i64 e.sky.nnum, .int .i64 e.sky.nden, .int .i64 e.sky.nstart, .slice p.As e.sun.length p.cs, .slice p.Am e.moon.length p.cm, .slice p.An e.node.length p.cn, .slice p.Af e.feasts.length p.cf, .int .i64 e.nw, .int .i64 e.fl, .int .i64 e.wide], .int .i64 lo, .int .i64 hi, .int .i64 late] w fun r w' => r = .returned (.tuple #[.slice none 0 0, .int .i64 2]) ∧ Ext w w' := by
 have HM := Lib.hid hm
 have HL := Lib.hid hl
 have HR0 : Hid (Row ((((w.alloc (.cells #[.slice p.Ab e.sky.bodies.length p.cb, .int .i64 e.sky.nnum, .int .i64 e.sky.nden, .int .i64 e.sky.nstart, .slice p.As e.sun.length p.cs, .slice p.Am e.moon.length p.cm, .slice p.An e.node.length p.cn, .slice p.Af e.feasts.length p.cf, .int .i64 e.nw, .int .i64 e.fl, .int .i64 e.wide] 32)).alloc (.cells #[.int .i64 lo] 3)).alloc (.cells #[.int .i64 hi] 3)).alloc (.cells #[.int .i64 late] 3)) w.heap.size 32 #[.slice p.Ab e.sky.bodies.length p.cb, .int .i64 e.sky.nnum, .int .i64 e.sky.nden, .int .i64 e.sky.nstart, .slice p.As e.sun.length p.cs, .slice p.Am e.moon.length p.cm, .slice p.An e.node.length p.cn, .slice p.Af e.feasts.length p.cf, .int .i64 e.nw, .int .i64 e.fl, .int .i64 e.wide]) := Lib.hid (fourBlocks w _ _ _ _).1
 have HR1 : Hid (Row ((((w.alloc (.cells #[.slice p.Ab e.sky.bodies.length p.cb, .int .i64 e.sky.nnum, .int .i64 e.sky.nden, .int .i64 e.sky.nstart, .slice p.As e.sun.length p.cs, .slice p.Am e.moon.length p.cm, .slice p.An e.node.length p.cn, .slice p.Af e.feasts.length p.cf, .int .i64 e.nw, .int .i64 e.fl, .int .i64 e.wide] 32)).alloc (.cells #[.int .i64 lo] 3)).alloc (.cells #[.int .i64 hi] 3)).alloc (.cells #[.int .i64 late] 3)) (w.heap.size + 1) 3 #[.int .i64 lo]) := Lib.hid (fourBlocks w _ _ _ _).2.1
 have HR2 : Hid (Row ((((w.alloc (.cells #[.slice p.Ab e.sky.bodies.length p.cb, .int .i64 e.sky.nnum, .int .i64 e.sky.nden, .int .i64 e.sky.nstart, .slice p.As e.sun.length p.cs, .slice p.Am e.moon.length p.cm, .slice p.An e.node.length p.cn, .slice p.Af e.feasts.length p.cf, .int .i64 e.nw, .int .i64 e.fl, .int .i64 e.wide] 32)).alloc (.cells #[.int .i64 lo] 3)).alloc (.cells #[.int .i64 hi] 3)).alloc (.cells #[.int .i64 late] 3)) (w.heap.size + 2) 3 #[.int .i64 hi]) := Lib.hid (fourBlocks w _ _ _ _).2.2.1
 have HR3 : Hid (Row ((((w.alloc (.cells #[.slice p.Ab e.sky.bodies.length p.cb, .int .i64 e.sky.nnum, .int .i64 e.sky.nden, .int .i64 e.sky.nstart, .slice p.As e.sun.length p.cs, .slice p.Am e.moon.length p.cm, .slice p.An e.node.length p.cn, .slice p.Af e.feasts.length p.cf, .int .i64 e.nw, .int .i64 e.fl, .int .i64 e.wide] 32)).alloc (.cells #[.int .i64 lo] 3)).alloc (.cells #[.int .i64 hi] 3)).alloc (.cells #[.int .i64 late] 3)) (w.heap.size + 3) 3 #[.int .i64 late]) := Lib.hid (fourBlocks w _ _ _ _).2.2.2
 have HE0 : Hid (Ext w ((((w.alloc (.cells #[.slice p.Ab e.sky.bodies.length p.cb, .int .i64 e.sky.nnum, .int .i64 e.sky.nden, .int .i64 e.sky.nstart, .slice p.As e.sun.length p.cs, .slice p.Am e.moon.length p.cm, .slice p.An e.node.length p.cn, .slice p.Af e.feasts.length p.cf, .int .i64 e.nw, .int .i64 e.fl, .int .i64 e.wide] 32)).alloc (.cells #[.int .i64 lo] 3)).alloc (.cells #[.int .i64 hi] 3)).alloc (.cells #[.int .i64 late] 3))) := Lib.hid (((((Ext.refl w).alloc _).alloc _).alloc _).alloc _)
 clear hm hl
 obtain ⟨fb, c3⟩ : ∃ fb, Ec.isLate late = fb := ⟨_, rfl⟩
 rw [c3] at h
 cases c2 : Ec.isSpan lo hi
 ·replace h : (Ec.engineOk e && (Ec.setOk e.feasts [] && false)) = false := by simp
  go_enter Tryz.func41, Tryz.ntmps41
  go_wp2_with fail
  obtain ⟨W, hW⟩ : ∃ W, (((w.alloc (.cells #[.slice p.Ab e.sky.bodies.length p.cb, .int .i64 e.sky.nnum, .int .i64 e.sky.nden, .int .i64 e.sky.nstart, .slice p.As e.sun.length p.cs, .slice p.Am e.moon.length p.cm, .slice p.An e.node.length p.cn, .slice p.Af e.feasts.length p.cf, .int .i64 e.nw, .int .i64 e.fl, .int .i64 e.wide] 32)).alloc (.cells #[.int .i64 lo] 3)).alloc (.cells #[.int .i64 hi] 3)).alloc (.cells #[.int .i64 late] 3) = W := ⟨_, rfl⟩
  rw [hW] at HR0 HR1 HR2 HR3 HE0 ⊢
  clear hW
  refine Code.wp_mono (Q := fun e' a' w' => e' = .normal ∧ ∃ b, W.heap.size ≤ b ∧ Ext W w' ∧ a' = (⟨#[.agg #[.slice p.Ab e.sky.bodies.length p.cb, .int .i64 e.sky.nnum, .int .i64 e.sky.nden, .int .i64 e.sky.nstart, .slice p.As e.sun.length p.cs, .slice p.Am e.moon.length p.cm, .slice p.An e.node.length p.cn, .slice p.Af e.feasts.length p.cf, .int .i64 e.nw, .int .i64 e.fl, .int .i64 e.wide], .int .i64 lo, .int .i64 hi, .int .i64 late, .pointer (some ⟨w.heap.size, 0, none⟩), .pointer (some ⟨w.heap.size + 1, 0, none⟩), .pointer (some ⟨w.heap.size + 2, 0, none⟩), .pointer (some ⟨w.heap.size + 3, 0, none⟩), .slice none 0 0, .int .i64 0, .pointer (some ⟨b, 0, none⟩), .int .i64 2, undef, undef, undef, undef, .tuple #[.agg #[.slice none 0 0, .int .i64 0, .int .i64 0, .int .i64 0, .slice none 0 0, .slice none 0 0, .slice none 0 0, .slice none 0 0, .int .i64 0, .int .i64 0, .int .i64 0, .slice none 0 0, .map none], .int .i64 2], .agg #[.slice p.Ab e.sky.bodies.length p.cb, .int .i64 e.sky.nnum, .int .i64 e.sky.nden, .int .i64 e.sky.nstart, .slice p.As e.sun.length p.cs, .slice p.Am e.moon.length p.cm, .slice p.An e.node.length p.cn, .slice p.Af e.feasts.length p.cf, .int .i64 e.nw, .int .i64 e.fl, .int .i64 e.wide], .int .i64 lo, .int .i64 hi, .bool false, .bool false, undef, undef, .bool false, .tuple #[.agg #[.slice none 0 0, .int .i64 0, .int .i64 0, .int .i64 0, .slice none 0 0, .slice none 0 0, .slice none 0 0, .slice none 0 0, .int .i64 0, .int .i64 0, .int .i64 0, .slice none 0 0, .map none], .int .i64 2], .agg #[.slice none 0 0, .int .i64 0, .int .i64 0, .int .i64 0, .slice none 0 0, .slice none 0 0, .slice none 0 0, .slice none 0 0, .int .i64 0, .int .i64 0, .int .i64 0, .slice none 0 0, .map none], .int .i64 2, undef, undef, undef, undef, undef, undef, undef, undef, undef, undef, undef, undef, undef, undef], []⟩ : Act)) ?hq (wp_region_free_tail 13 11 (settingsΦf p e set lo hi W) (by kernel_rfl) (by simp) (by kernel_rfl) (by kernel_rfl) (by kernel_rfl) (by kernel_rfl) settingsΦf_mono ?hob ?hQ ?hZ)
  case hob =>
   intro i o hin ho a wa hE hF
   match i, hin with
   | 0, _ =>
    cases ho
    have h0 : a.tmps[4]?.getD undef = .pointer (some ⟨w.heap.size, 0, none⟩) := evalD (hF.old 4 (by decide))
    have q := (HR0.out.ext hE).cell
    refine Ran.value rfl (v := .agg #[.slice p.Ab e.sky.bodies.length p.cb, .int .i64 e.sky.nnum, .int .i64 e.sky.nden, .int .i64 e.sky.nstart, .slice p.As e.sun.length p.cs, .slice p.Am e.moon.length p.cm, .slice p.An e.node.length p.cn, .slice p.Af e.feasts.length p.cf, .int .i64 e.nw, .int .i64 e.fl, .int .i64 e.wide]) (w1 := wa) ?_ ⟨rfl, Ext.refl _⟩
    go_simp
   | 1, _ =>
    cases ho
    have h0 : a.tmps[5]?.getD undef = .pointer (some ⟨w.heap.size + 1, 0, none⟩) := evalD (hF.old 5 (by decide))
    have q := (HR1.out.ext hE).cell
    refine Ran.value rfl (v := .int .i64 lo) (w1 := wa) ?_ ⟨rfl, Ext.refl _⟩
    go_simp
   | 2, _ =>
    cases ho
    have h0 : a.tmps[6]?.getD undef = .pointer (some ⟨w.heap.size + 2, 0, none⟩) := evalD (hF.old 6 (by decide))
    have q := (HR2.out.ext hE).cell
    refine Ran.value rfl (v := .int .i64 hi) (w1 := wa) ?_ ⟨rfl, Ext.refl _⟩
    go_simp
   | 3, _ =>
    cases ho
    have h0 : a.tmps[18]?.getD undef = .int .i64 lo := evalD (hF.from_ 1 18 rfl (by decide))
    have h1 : a.tmps[19]?.getD undef = .int .i64 hi := evalD (hF.from_ 2 19 rfl (by decide))
    refine Ran.enter rfl (f := 76) (args := #[.int .i64 lo, .int .i64 hi]) (w1 := wa) ?_ ?_
    ·go_simp
    ·refine (e_isSpan_any lo hi _).mono ?_
     rintro r w1 ⟨rfl, rfl⟩
     exact ⟨_, rfl, by rw [c2]; rfl, Ext.refl _⟩
   | 4, _ =>
    cases ho
    have h0 : a.tmps[20]?.getD undef = .bool false := evalD (hF.from_ 3 20 rfl (by decide))
    refine Ran.value rfl (v := .bool false) (w1 := wa) ?_ ⟨rfl, Ext.refl _⟩
    go_simp
   | 5, _ =>
    cases ho
    have hg : a.eval (.tmp 21) = .bool false := hF.from_ 4 21 rfl (by decide)
    exact Ran.if_ rfl rfl rfl hg (fun h => by cases h) (fun _ => ⟨rfl, Ext.refl _⟩)
   | 6, _ =>
    cases ho
    have hg : a.eval (.tmp 21) = .bool false := hF.from_ 4 21 rfl (by decide)
    exact Ran.if_ rfl rfl rfl hg (fun h => by cases h) (fun _ => ⟨rfl, Ext.refl _⟩)
   | 7, _ =>
    cases ho
    have h0 : a.tmps[21]?.getD undef = .bool false := evalD (hF.from_ 4 21 rfl (by decide))
    have h1 : a.tmps[23]?.getD undef = undef := evalD (hF.from_ 6 23 rfl (by decide))
    refine Ran.value rfl (v := .bool false) (w1 := wa) ?_ ⟨rfl, Ext.refl _⟩
    go_simp
   | 8, _ =>
    cases ho
    have h0 : a.tmps[17]?.getD undef = .agg #[.slice p.Ab e.sky.bodies.length p.cb, .int .i64 e.sky.nnum, .int .i64 e.sky.nden, .int .i64 e.sky.nstart, .slice p.As e.sun.length p.cs, .slice p.Am e.moon.length p.cm, .slice p.An e.node.length p.cn, .slice p.Af e.feasts.length p.cf, .int .i64 e.nw, .int .i64 e.fl, .int .i64 e.wide] := evalD (hF.from_ 0 17 rfl (by decide))
    have h1 : a.tmps[24]?.getD undef = .bool false := evalD (hF.from_ 7 24 rfl (by decide))
    refine Ran.enter rfl (f := 69) (args := #[.agg #[.slice p.Ab e.sky.bodies.length p.cb, .int .i64 e.sky.nnum, .int .i64 e.sky.nden, .int .i64 e.sky.nstart, .slice p.As e.sun.length p.cs, .slice p.Am e.moon.length p.cm, .slice p.An e.node.length p.cn, .slice p.Af e.feasts.length p.cf, .int .i64 e.nw, .int .i64 e.fl, .int .i64 e.wide], .slice none 0 0, .bool false]) (w1 := wa) ?_ ?_
    ·go_simp
    ·refine (e_asked_err ⟨p.Ab, p.cb, p.As, p.cs, p.Am, p.cm, p.An, p.cn, p.Af, p.cf, none, 0⟩ e [] false wa ⟨⟨(HM.out.ext (HE0.out.trans hE)).bodies, (HM.out.ext (HE0.out.trans hE)).sun, (HM.out.ext (HE0.out.trans hE)).moon, (HM.out.ext (HE0.out.trans hE)).node, (HM.out.ext (HE0.out.trans hE)).feasts⟩, fun h0 => absurd h0 (by simp)⟩ HL.out (by simp) h).mono ?_
     rintro r w1 ⟨rfl, hX⟩
     exact ⟨_, rfl, rfl, hX⟩
   | 9, _ =>
    cases ho
    have h0 : a.tmps[25]?.getD undef = .tuple #[.agg #[.slice none 0 0, .int .i64 0, .int .i64 0, .int .i64 0, .slice none 0 0, .slice none 0 0, .slice none 0 0, .slice none 0 0, .int .i64 0, .int .i64 0, .int .i64 0, .slice none 0 0, .map none], .int .i64 2] := evalD (hF.from_ 8 25 rfl (by decide))
    refine Ran.value rfl (w1 := wa) (v := .tuple #[.agg #[.slice none 0 0, .int .i64 0, .int .i64 0, .int .i64 0, .slice none 0 0, .slice none 0 0, .slice none 0 0, .slice none 0 0, .int .i64 0, .int .i64 0, .int .i64 0, .slice none 0 0, .map none], .int .i64 2]) ?_ ⟨rfl, Ext.refl _⟩
    go_simp
   | 10, _ =>
    cases ho
    have h0 : a.tmps[16]?.getD undef = .tuple #[.agg #[.slice none 0 0, .int .i64 0, .int .i64 0, .int .i64 0, .slice none 0 0, .slice none 0 0, .slice none 0 0, .slice none 0 0, .int .i64 0, .int .i64 0, .int .i64 0, .slice none 0 0, .map none], .int .i64 2] := evalD (hF.from_ 9 16 rfl (by decide))
    refine Ran.value rfl (w1 := wa) (v := .agg #[.slice none 0 0, .int .i64 0, .int .i64 0, .int .i64 0, .slice none 0 0, .slice none 0 0, .slice none 0 0, .slice none 0 0, .int .i64 0, .int .i64 0, .int .i64 0, .slice none 0 0, .map none]) ?_ ⟨rfl, Ext.refl _⟩
    go_simp
   | 11, _ =>
    cases ho
    have h0 : a.tmps[16]?.getD undef = .tuple #[.agg #[.slice none 0 0, .int .i64 0, .int .i64 0, .int .i64 0, .slice none 0 0, .slice none 0 0, .slice none 0 0, .slice none 0 0, .int .i64 0, .int .i64 0, .int .i64 0, .slice none 0 0, .map none], .int .i64 2] := evalD (hF.from_ 9 16 rfl (by decide))
    refine Ran.value rfl (w1 := wa) (v := .int .i64 2) ?_ ⟨rfl, Ext.refl _⟩
    go_simp
   | 12, _ =>
    cases ho
    refine Ran.value rfl (w1 := wa.alloc (.cells zeroEng 100)) (v := .pointer (some ⟨wa.heap.size, 0, none⟩)) (by kernel_rfl) ⟨⟨wa.heap.size, rfl, hE.size, Row.new _ _ _⟩, (Ext.refl _).alloc _⟩
   | k + 13, hin => omega
  case hQ =>
   intro vs w2 hE hΦ
   have f0 : vs 0 = .agg #[.slice p.Ab e.sky.bodies.length p.cb, .int .i64 e.sky.nnum, .int .i64 e.sky.nden, .int .i64 e.sky.nstart, .slice p.As e.sun.length p.cs, .slice p.Am e.moon.length p.cm, .slice p.An e.node.length p.cn, .slice p.Af e.feasts.length p.cf, .int .i64 e.nw, .int .i64 e.fl, .int .i64 e.wide] := hΦ 0 (by omega)
   have f1 : vs 1 = .int .i64 lo := hΦ 1 (by omega)
   have f2 : vs 2 = .int .i64 hi := hΦ 2 (by omega)
   have f3 : vs 3 = .bool false := hΦ 3 (by omega)
   have f4 : vs 4 = .bool false := hΦ 4 (by omega)
   have f5 : vs 5 = undef := hΦ 5 (by omega)
   have f6 : vs 6 = undef := hΦ 6 (by omega)
   have f7 : vs 7 = .bool false := hΦ 7 (by omega)
   have f8 : vs 8 = .tuple #[.agg #[.slice none 0 0, .int .i64 0, .int .i64 0, .int .i64 0, .slice none 0 0, .slice none 0 0, .slice none 0 0, .slice none 0 0, .int .i64 0, .int .i64 0, .int .i64 0, .slice none 0 0, .map none], .int .i64 2] := hΦ 8 (by omega)
   have f9 : vs 9 = .tuple #[.agg #[.slice none 0 0, .int .i64 0, .int .i64 0, .int .i64 0, .slice none 0 0, .slice none 0 0, .slice none 0 0, .slice none 0 0, .int .i64 0, .int .i64 0, .int .i64 0, .slice none 0 0, .map none], .int .i64 2] := hΦ 9 (by omega)
   have f10 : vs 10 = .agg #[.slice none 0 0, .int .i64 0, .int .i64 0, .int .i64 0, .slice none 0 0, .slice none 0 0, .slice none 0 0, .slice none 0 0, .int .i64 0, .int .i64 0, .int .i64 0, .slice none 0 0, .map none] := hΦ 10 (by omega)
   have f11 : vs 11 = .int .i64 2 := hΦ 11 (by omega)
   obtain ⟨b, f12, hb, hr⟩ : AskNew W (vs 12) w2 := hΦ 12 (by omega)
   have hrg : List.range 13 = [0, 1, 2, 3, 4, 5, 6, 7, 8, 9, 10, 11, 12] := rfl
   unfold putAll putS
   simp only [List.length_cons, List.length_nil, List.take_succ_cons, List.take_zero, List.drop_succ_cons, List.drop_zero, Nat.reduceAdd, hrg, List.foldl_cons, List.foldl_nil, dstOf, List.getElem?_cons_succ, List.getElem?_cons_zero, Option.bind_some]
   clear hrg
   rw [f0, f1, f2, f3, f4, f5, f6, f7, f8, f9, f10, f11, f12]
   have c := hr.cell
   simp only [zeroEng] at c
   have fz := hr.free
   go_wp2
   clear c fz
   obtain ⟨W3, hW3⟩ : ∃ W3, setsAt w2 b 0 [.slice none 0 0, .int .i64 0, .int .i64 0, .int .i64 0, .slice none 0 0, .slice none 0 0, .slice none 0 0, .slice none 0 0, .int .i64 0, .int .i64 0, .int .i64 0, .slice none 0 0, .map none] = W3 := ⟨_, rfl⟩
   have hE3 : Ext W W3 := by rw [← hW3]; exact Ext.sets hb _ _ _ hE
   simp only [setsAt, Nat.reduceAdd] at hW3
   try rw [hW3]
   first | exact hE3 | exact ⟨hb, hE3⟩ | exact ⟨b, hb, hE3, by simp⟩
  case hZ =>
   intro _ vs w2 hE hΦ on oz hon hoz
   obtain rfl := Option.some.inj hon
   obtain rfl := Option.some.inj hoz
   have f0 : vs 0 = .agg #[.slice p.Ab e.sky.bodies.length p.cb, .int .i64 e.sky.nnum, .int .i64 e.sky.nden, .int .i64 e.sky.nstart, .slice p.As e.sun.length p.cs, .slice p.Am e.moon.length p.cm, .slice p.An e.node.length p.cn, .slice p.Af e.feasts.length p.cf, .int .i64 e.nw, .int .i64 e.fl, .int .i64 e.wide] := hΦ 0 (by omega) (by omega)
   have f1 : vs 1 = .int .i64 lo := hΦ 1 (by omega) (by omega)
   have f2 : vs 2 = .int .i64 hi := hΦ 2 (by omega) (by omega)
   have f3 : vs 3 = .bool false := hΦ 3 (by omega) (by omega)
   have f4 : vs 4 = .bool false := hΦ 4 (by omega) (by omega)
   have f5 : vs 5 = undef := hΦ 5 (by omega) (by omega)
   have f6 : vs 6 = undef := hΦ 6 (by omega) (by omega)
   have f7 : vs 7 = .bool false := hΦ 7 (by omega) (by omega)
   have f8 : vs 8 = .tuple #[.agg #[.slice none 0 0, .int .i64 0, .int .i64 0, .int .i64 0, .slice none 0 0, .slice none 0 0, .slice none 0 0, .slice none 0 0, .int .i64 0, .int .i64 0, .int .i64 0, .slice none 0 0, .map none], .int .i64 2] := hΦ 8 (by omega) (by omega)
   have f9 : vs 9 = .tuple #[.agg #[.slice none 0 0, .int .i64 0, .int .i64 0, .int .i64 0, .slice none 0 0, .slice none 0 0, .slice none 0 0, .slice none 0 0, .int .i64 0, .int .i64 0, .int .i64 0, .slice none 0 0, .map none], .int .i64 2] := hΦ 9 (by omega) (by omega)
   have f10 : vs 10 = .agg #[.slice none 0 0, .int .i64 0, .int .i64 0, .int .i64 0, .slice none 0 0, .slice none 0 0, .slice none 0 0, .slice none 0 0, .int .i64 0, .int .i64 0, .int .i64 0, .slice none 0 0, .map none] := hΦ 10 (by omega) (by omega)
   obtain ⟨b, f12, hb, hr⟩ : AskNew W (vs 12) w2 := hΦ 12 (by omega) (by omega)
   have hrg : (List.range 13).filter (· ≠ 11) = [0, 1, 2, 3, 4, 5, 6, 7, 8, 9, 10, 12] := by decide
   rw [hrg]
   unfold putS
   simp only [List.take_succ_cons, List.take_zero, List.drop_succ_cons, List.drop_zero, Nat.reduceAdd, List.foldl_cons, List.foldl_nil, dstOf, List.getElem?_cons_succ, List.getElem?_cons_zero, Option.bind_some]
   clear hrg
   rw [f0, f1, f2, f3, f4, f5, f6, f7, f8, f9, f10, f12]
   have c := hr.cell
   simp only [zeroEng] at c
   have fz := hr.free
   go_wp2
   clear c fz
   obtain ⟨W3, hW3⟩ : ∃ W3, setsAt w2 b 0 [.slice none 0 0, .int .i64 0, .int .i64 0, .int .i64 0, .slice none 0 0, .slice none 0 0, .slice none 0 0, .slice none 0 0, .int .i64 0, .int .i64 0, .int .i64 0, .slice none 0 0, .map none] = W3 := ⟨_, rfl⟩
   have hE3 : Ext W W3 := by rw [← hW3]; exact Ext.sets hb _ _ _ hE
   simp only [setsAt, Nat.reduceAdd] at hW3
   try rw [hW3]
   first | exact hE3 | exact ⟨hb, hE3⟩ | exact ⟨b, hb, hE3, by simp⟩
  case hq =>
   rintro e' a' w3 ⟨rfl, b, hb, hE3, rfl⟩
   have hE4 : Ext w w3 := HE0.out.trans hE3
   go_wp2_with fail
   go_ret2
   exact ⟨rfl, hE4⟩
 ·replace h : (Ec.engineOk e && (Ec.setOk e.feasts [] && fb)) = false := by rw [c2, Bool.true_and] at h; exact h
  go_enter Tryz.func41, Tryz.ntmps41
  go_wp2_with fail
  obtain ⟨W, hW⟩ : ∃ W, (((w.alloc (.cells #[.slice p.Ab e.sky.bodies.length p.cb, .int .i64 e.sky.nnum, .int .i64 e.sky.nden, .int .i64 e.sky.nstart, .slice p.As e.sun.length p.cs, .slice p.Am e.moon.length p.cm, .slice p.An e.node.length p.cn, .slice p.Af e.feasts.length p.cf, .int .i64 e.nw, .int .i64 e.fl, .int .i64 e.wide] 32)).alloc (.cells #[.int .i64 lo] 3)).alloc (.cells #[.int .i64 hi] 3)).alloc (.cells #[.int .i64 late] 3) = W := ⟨_, rfl⟩
  rw [hW] at HR0 HR1 HR2 HR3 HE0 ⊢
  clear hW
  refine Code.wp_mono (Q := fun e' a' w' => e' = .normal ∧ ∃ b, W.heap.size ≤ b ∧ Ext W w' ∧ a' = (⟨#[.agg #[.slice p.Ab e.sky.bodies.length p.cb, .int .i64 e.sky.nnum, .int .i64 e.sky.nden, .int .i64 e.sky.nstart, .slice p.As e.sun.length p.cs, .slice p.Am e.moon.length p.cm, .slice p.An e.node.length p.cn, .slice p.Af e.feasts.length p.cf, .int .i64 e.nw, .int .i64 e.fl, .int .i64 e.wide], .int .i64 lo, .int .i64 hi, .int .i64 late, .pointer (some ⟨w.heap.size, 0, none⟩), .pointer (some ⟨w.heap.size + 1, 0, none⟩), .pointer (some ⟨w.heap.size + 2, 0, none⟩), .pointer (some ⟨w.heap.size + 3, 0, none⟩), .slice none 0 0, .int .i64 0, .pointer (some ⟨b, 0, none⟩), .int .i64 2, undef, undef, undef, undef, .tuple #[.agg #[.slice none 0 0, .int .i64 0, .int .i64 0, .int .i64 0, .slice none 0 0, .slice none 0 0, .slice none 0 0, .slice none 0 0, .int .i64 0, .int .i64 0, .int .i64 0, .slice none 0 0, .map none], .int .i64 2], .agg #[.slice p.Ab e.sky.bodies.length p.cb, .int .i64 e.sky.nnum, .int .i64 e.sky.nden, .int .i64 e.sky.nstart, .slice p.As e.sun.length p.cs, .slice p.Am e.moon.length p.cm, .slice p.An e.node.length p.cn, .slice p.Af e.feasts.length p.cf, .int .i64 e.nw, .int .i64 e.fl, .int .i64 e.wide], .int .i64 lo, .int .i64 hi, .bool true, .bool true, .int .i64 late, .bool fb, .bool fb, .tuple #[.agg #[.slice none 0 0, .int .i64 0, .int .i64 0, .int .i64 0, .slice none 0 0, .slice none 0 0, .slice none 0 0, .slice none 0 0, .int .i64 0, .int .i64 0, .int .i64 0, .slice none 0 0, .map none], .int .i64 2], .agg #[.slice none 0 0, .int .i64 0, .int .i64 0, .int .i64 0, .slice none 0 0, .slice none 0 0, .slice none 0 0, .slice none 0 0, .int .i64 0, .int .i64 0, .int .i64 0, .slice none 0 0, .map none], .int .i64 2, undef, undef, undef, undef, undef, undef, undef, undef, undef, undef, undef, undef, undef, undef], []⟩ : Act)) ?hq (wp_region_free_tail 13 11 (settingsΦt p e set lo hi late fb W) (by kernel_rfl) (by simp) (by kernel_rfl) (by kernel_rfl) (by kernel_rfl) (by kernel_rfl) settingsΦt_mono ?hob ?hQ ?hZ)
  case hob =>
   intro i o hin ho a wa hE hF
   match i, hin with
   | 0, _ =>
    cases ho
    have h0 : a.tmps[4]?.getD undef = .pointer (some ⟨w.heap.size, 0, none⟩) := evalD (hF.old 4 (by decide))
    have q := (HR0.out.ext hE).cell
    refine Ran.value rfl (v := .agg #[.slice p.Ab e.sky.bodies.length p.cb, .int .i64 e.sky.nnum, .int .i64 e.sky.nden, .int .i64 e.sky.nstart, .slice p.As e.sun.length p.cs, .slice p.Am e.moon.length p.cm, .slice p.An e.node.length p.cn, .slice p.Af e.feasts.length p.cf, .int .i64 e.nw, .int .i64 e.fl, .int .i64 e.wide]) (w1 := wa) ?_ ⟨rfl, Ext.refl _⟩
    go_simp
   | 1, _ =>
    cases ho
    have h0 : a.tmps[5]?.getD undef = .pointer (some ⟨w.heap.size + 1, 0, none⟩) := evalD (hF.old 5 (by decide))
    have q := (HR1.out.ext hE).cell
    refine Ran.value rfl (v := .int .i64 lo) (w1 := wa) ?_ ⟨rfl, Ext.refl _⟩
    go_simp
   | 2, _ =>
    cases ho
    have h0 : a.tmps[6]?.getD undef = .pointer (some ⟨w.heap.size + 2, 0, none⟩) := evalD (hF.old 6 (by decide))
    have q := (HR2.out.ext hE).cell
    refine Ran.value rfl (v := .int .i64 hi) (w1 := wa) ?_ ⟨rfl, Ext.refl _⟩
    go_simp
   | 3, _ =>
    cases ho
    have h0 : a.tmps[18]?.getD undef = .int .i64 lo := evalD (hF.from_ 1 18 rfl (by decide))
    have h1 : a.tmps[19]?.getD undef = .int .i64 hi := evalD (hF.from_ 2 19 rfl (by decide))
    refine Ran.enter rfl (f := 76) (args := #[.int .i64 lo, .int .i64 hi]) (w1 := wa) ?_ ?_
    ·go_simp
    ·refine (e_isSpan_any lo hi _).mono ?_
     rintro r w1 ⟨rfl, rfl⟩
     exact ⟨_, rfl, by rw [c2]; rfl, Ext.refl _⟩
   | 4, _ =>
    cases ho
    have h0 : a.tmps[20]?.getD undef = .bool true := evalD (hF.from_ 3 20 rfl (by decide))
    refine Ran.value rfl (v := .bool true) (w1 := wa) ?_ ⟨rfl, Ext.refl _⟩
    go_simp
   | 5, _ =>
    cases ho
    have hg : a.eval (.tmp 21) = .bool true := hF.from_ 4 21 rfl (by decide)
    refine Ran.if_ rfl rfl rfl hg (fun _ => ?_) (fun h => absurd rfl h)
    have h0 : a.tmps[7]?.getD undef = .pointer (some ⟨w.heap.size + 3, 0, none⟩) := evalD (hF.old 7 (by decide))
    have q := (HR3.out.ext hE).cell
    refine Ran.value rfl (v := .int .i64 late) (w1 := wa) ?_ ⟨rfl, Ext.refl _⟩
    go_simp
   | 6, _ =>
    cases ho
    have hg : a.eval (.tmp 21) = .bool true := hF.from_ 4 21 rfl (by decide)
    refine Ran.if_ rfl rfl rfl hg (fun _ => ?_) (fun h => absurd rfl h)
    have h0 : a.tmps[22]?.getD undef = .int .i64 late := evalD (hF.from_ 5 22 rfl (by decide))
    refine Ran.enter rfl (f := 83) (args := #[.int .i64 late]) (w1 := wa) ?_ ?_
    ·go_simp
    ·refine (e_isLate_any late _).mono ?_
     rintro r w1 ⟨rfl, rfl⟩
     exact ⟨_, rfl, by rw [c3]; rfl, Ext.refl _⟩
   | 7, _ =>
    cases ho
    have h0 : a.tmps[21]?.getD undef = .bool true := evalD (hF.from_ 4 21 rfl (by decide))
    have h1 : a.tmps[23]?.getD undef = .bool fb := evalD (hF.from_ 6 23 rfl (by decide))
    refine Ran.value rfl (v := .bool fb) (w1 := wa) ?_ ⟨rfl, Ext.refl _⟩
    go_simp
   | 8, _ =>
    cases ho
    have h0 : a.tmps[17]?.getD undef = .agg #[.slice p.Ab e.sky.bodies.length p.cb, .int .i64 e.sky.nnum, .int .i64 e.sky.nden, .int .i64 e.sky.nstart, .slice p.As e.sun.length p.cs, .slice p.Am e.moon.length p.cm, .slice p.An e.node.length p.cn, .slice p.Af e.feasts.length p.cf, .int .i64 e.nw, .int .i64 e.fl, .int .i64 e.wide] := evalD (hF.from_ 0 17 rfl (by decide))
    have h1 : a.tmps[24]?.getD undef = .bool fb := evalD (hF.from_ 7 24 rfl (by decide))
    refine Ran.enter rfl (f := 69) (args := #[.agg #[.slice p.Ab e.sky.bodies.length p.cb, .int .i64 e.sky.nnum, .int .i64 e.sky.nden, .int .i64 e.sky.nstart, .slice p.As e.sun.length p.cs, .slice p.Am e.moon.length p.cm, .slice p.An e.node.length p.cn, .slice p.Af e.feasts.length p.cf, .int .i64 e.nw, .int .i64 e.fl, .int .i64 e.wide], .slice none 0 0, .bool fb]) (w1 := wa) ?_ ?_
    ·go_simp
    ·refine (e_asked_err ⟨p.Ab, p.cb, p.As, p.cs, p.Am, p.cm, p.An, p.cn, p.Af, p.cf, none, 0⟩ e [] fb wa ⟨⟨(HM.out.ext (HE0.out.trans hE)).bodies, (HM.out.ext (HE0.out.trans hE)).sun, (HM.out.ext (HE0.out.trans hE)).moon, (HM.out.ext (HE0.out.trans hE)).node, (HM.out.ext (HE0.out.trans hE)).feasts⟩, fun h0 => absurd h0 (by simp)⟩ HL.out (by simp) h).mono ?_
     rintro r w1 ⟨rfl, hX⟩
     exact ⟨_, rfl, rfl, hX⟩
   | 9, _ =>
    cases ho
    have h0 : a.tmps[25]?.getD undef = .tuple #[.agg #[.slice none 0 0, .int .i64 0, .int .i64 0, .int .i64 0, .slice none 0 0, .slice none 0 0, .slice none 0 0, .slice none 0 0, .int .i64 0, .int .i64 0, .int .i64 0, .slice none 0 0, .map none], .int .i64 2] := evalD (hF.from_ 8 25 rfl (by decide))
    refine Ran.value rfl (w1 := wa) (v := .tuple #[.agg #[.slice none 0 0, .int .i64 0, .int .i64 0, .int .i64 0, .slice none 0 0, .slice none 0 0, .slice none 0 0, .slice none 0 0, .int .i64 0, .int .i64 0, .int .i64 0, .slice none 0 0, .map none], .int .i64 2]) ?_ ⟨rfl, Ext.refl _⟩
    go_simp
   | 10, _ =>
    cases ho
    have h0 : a.tmps[16]?.getD undef = .tuple #[.agg #[.slice none 0 0, .int .i64 0, .int .i64 0, .int .i64 0, .slice none 0 0, .slice none 0 0, .slice none 0 0, .slice none 0 0, .int .i64 0, .int .i64 0, .int .i64 0, .slice none 0 0, .map none], .int .i64 2] := evalD (hF.from_ 9 16 rfl (by decide))
    refine Ran.value rfl (w1 := wa) (v := .agg #[.slice none 0 0, .int .i64 0, .int .i64 0, .int .i64 0, .slice none 0 0, .slice none 0 0, .slice none 0 0, .slice none 0 0, .int .i64 0, .int .i64 0, .int .i64 0, .slice none 0 0, .map none]) ?_ ⟨rfl, Ext.refl _⟩
    go_simp
   | 11, _ =>
    cases ho
    have h0 : a.tmps[16]?.getD undef = .tuple #[.agg #[.slice none 0 0, .int .i64 0, .int .i64 0, .int .i64 0, .slice none 0 0, .slice none 0 0, .slice none 0 0, .slice none 0 0, .int .i64 0, .int .i64 0, .int .i64 0, .slice none 0 0, .map none], .int .i64 2] := evalD (hF.from_ 9 16 rfl (by decide))
    refine Ran.value rfl (w1 := wa) (v := .int .i64 2) ?_ ⟨rfl, Ext.refl _⟩
    go_simp
   | 12, _ =>
    cases ho
    refine Ran.value rfl (w1 := wa.alloc (.cells zeroEng 100)) (v := .pointer (some ⟨wa.heap.size, 0, none⟩)) (by kernel_rfl) ⟨⟨wa.heap.size, rfl, hE.size, Row.new _ _ _⟩, (Ext.refl _).alloc _⟩
   | k + 13, hin => omega
  case hQ =>
   intro vs w2 hE hΦ
   have f0 : vs 0 = .agg #[.slice p.Ab e.sky.bodies.length p.cb, .int .i64 e.sky.nnum, .int .i64 e.sky.nden, .int .i64 e.sky.nstart, .slice p.As e.sun.length p.cs, .slice p.Am e.moon.length p.cm, .slice p.An e.node.length p.cn, .slice p.Af e.feasts.length p.cf, .int .i64 e.nw, .int .i64 e.fl, .int .i64 e.wide] := hΦ 0 (by omega)
   have f1 : vs 1 = .int .i64 lo := hΦ 1 (by omega)
   have f2 : vs 2 = .int .i64 hi := hΦ 2 (by omega)
   have f3 : vs 3 = .bool true := hΦ 3 (by omega)
   have f4 : vs 4 = .bool true := hΦ 4 (by omega)
   have f5 : vs 5 = .int .i64 late := hΦ 5 (by omega)
   have f6 : vs 6 = .bool fb := hΦ 6 (by omega)
   have f7 : vs 7 = .bool fb := hΦ 7 (by omega)
   have f8 : vs 8 = .tuple #[.agg #[.slice none 0 0, .int .i64 0, .int .i64 0, .int .i64 0, .slice none 0 0, .slice none 0 0, .slice none 0 0, .slice none 0 0, .int .i64 0, .int .i64 0, .int .i64 0, .slice none 0 0, .map none], .int .i64 2] := hΦ 8 (by omega)
   have f9 : vs 9 = .tuple #[.agg #[.slice none 0 0, .int .i64 0, .int .i64 0, .int .i64 0, .slice none 0 0, .slice none 0 0, .slice none 0 0, .slice none 0 0, .int .i64 0, .int .i64 0, .int .i64 0, .slice none 0 0, .map none], .int .i64 2] := hΦ 9 (by omega)
   have f10 : vs 10 = .agg #[.slice none 0 0, .int .i64 0, .int .i64 0, .int .i64 0, .slice none 0 0, .slice none 0 0, .slice none 0 0, .slice none 0 0, .int .i64 0, .int .i64 0, .int .i64 0, .slice none 0 0, .map none] := hΦ 10 (by omega)
   have f11 : vs 11 = .int .i64 2 := hΦ 11 (by omega)
   obtain ⟨b, f12, hb, hr⟩ : AskNew W (vs 12) w2 := hΦ 12 (by omega)
   have hrg : List.range 13 = [0, 1, 2, 3, 4, 5, 6, 7, 8, 9, 10, 11, 12] := rfl
   unfold putAll putS
   simp only [List.length_cons, List.length_nil, List.take_succ_cons, List.take_zero, List.drop_succ_cons, List.drop_zero, Nat.reduceAdd, hrg, List.foldl_cons, List.foldl_nil, dstOf, List.getElem?_cons_succ, List.getElem?_cons_zero, Option.bind_some]
   clear hrg
   rw [f0, f1, f2, f3, f4, f5, f6, f7, f8, f9, f10, f11, f12]
   have c := hr.cell
   simp only [zeroEng] at c
   have fz := hr.free
   go_wp2
   clear c fz
   obtain ⟨W3, hW3⟩ : ∃ W3, setsAt w2 b 0 [.slice none 0 0, .int .i64 0, .int .i64 0, .int .i64 0, .slice none 0 0, .slice none 0 0, .slice none 0 0, .slice none 0 0, .int .i64 0, .int .i64 0, .int .i64 0, .slice none 0 0, .map none] = W3 := ⟨_, rfl⟩
   have hE3 : Ext W W3 := by rw [← hW3]; exact Ext.sets hb _ _ _ hE
   simp only [setsAt, Nat.reduceAdd] at hW3
   try rw [hW3]
   first | exact hE3 | exact ⟨hb, hE3⟩ | exact ⟨b, hb, hE3, by simp⟩
  case hZ =>
   intro _ vs w2 hE hΦ on oz hon hoz
   obtain rfl := Option.some.inj hon
   obtain rfl := Option.some.inj hoz
   have f0 : vs 0 = .agg #[.slice p.Ab e.sky.bodies.length p.cb, .int .i64 e.sky.nnum, .int .i64 e.sky.nden, .int .i64 e.sky.nstart, .slice p.As e.sun.length p.cs, .slice p.Am e.moon.length p.cm, .slice p.An e.node.length p.cn, .slice p.Af e.feasts.length p.cf, .int .i64 e.nw, .int .i64 e.fl, .int .i64 e.wide] := hΦ 0 (by omega) (by omega)
   have f1 : vs 1 = .int .i64 lo := hΦ 1 (by omega) (by omega)
   have f2 : vs 2 = .int .i64 hi := hΦ 2 (by omega) (by omega)
   have f3 : vs 3 = .bool true := hΦ 3 (by omega) (by omega)
   have f4 : vs 4 = .bool true := hΦ 4 (by omega) (by omega)
   have f5 : vs 5 = .int .i64 late := hΦ 5 (by omega) (by omega)
   have f6 : vs 6 = .bool fb := hΦ 6 (by omega) (by omega)
   have f7 : vs 7 = .bool fb := hΦ 7 (by omega) (by omega)
   have f8 : vs 8 = .tuple #[.agg #[.slice none 0 0, .int .i64 0, .int .i64 0, .int .i64 0, .slice none 0 0, .slice none 0 0, .slice none 0 0, .slice none 0 0, .int .i64 0, .int .i64 0, .int .i64 0, .slice none 0 0, .map none], .int .i64 2] := hΦ 8 (by omega) (by omega)
   have f9 : vs 9 = .tuple #[.agg #[.slice none 0 0, .int .i64 0, .int .i64 0, .int .i64 0, .slice none 0 0, .slice none 0 0, .slice none 0 0, .slice none 0 0, .int .i64 0, .int .i64 0, .int .i64 0, .slice none 0 0, .map none], .int .i64 2] := hΦ 9 (by omega) (by omega)
   have f10 : vs 10 = .agg #[.slice none 0 0, .int .i64 0, .int .i64 0, .int .i64 0, .slice none 0 0, .slice none 0 0, .slice none 0 0, .slice none 0 0, .int .i64 0, .int .i64 0, .int .i64 0, .slice none 0 0, .map none] := hΦ 10 (by omega) (by omega)
   obtain ⟨b, f12, hb, hr⟩ : AskNew W (vs 12) w2 := hΦ 12 (by omega) (by omega)
   have hrg : (List.range 13).filter (· ≠ 11) = [0, 1, 2, 3, 4, 5, 6, 7, 8, 9, 10, 12] := by decide
   rw [hrg]
   unfold putS
   simp only [List.take_succ_cons, List.take_zero, List.drop_succ_cons, List.drop_zero, Nat.reduceAdd, List.foldl_cons, List.foldl_nil, dstOf, List.getElem?_cons_succ, List.getElem?_cons_zero, Option.bind_some]
   clear hrg
   rw [f0, f1, f2, f3, f4, f5, f6, f7, f8, f9, f10, f12]
   have c := hr.cell
   simp only [zeroEng] at c
   have fz := hr.free
   go_wp2
   clear c fz
   obtain ⟨W3, hW3⟩ : ∃ W3, setsAt w2 b 0 [.slice none 0 0, .int .i64 0, .int .i64 0, .int .i64 0, .slice none 0 0, .slice none 0 0, .slice none 0 0, .slice none 0 0, .int .i64 0, .int .i64 0, .int .i64 0, .slice none 0 0, .map none] = W3 := ⟨_, rfl⟩
   have hE3 : Ext W W3 := by rw [← hW3]; exact Ext.sets hb _ _ _ hE
   simp only [setsAt, Nat.reduceAdd] at hW3
   try rw [hW3]
   first | exact hE3 | exact ⟨hb, hE3⟩ | exact ⟨b, hb, hE3, by simp⟩
  case hq =>
   rintro e' a' w3 ⟨rfl, b, hb, hE3, rfl⟩
   have hE4 : Ext w w3 := HE0.out.trans hE3
   go_wp2_with fail
   go_ret2
   exact ⟨rfl, hE4⟩
end Go.Proofs.YtcbodpnmndbgnaaGreatDoor
