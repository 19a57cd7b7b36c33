/- Volume 8 of the texts that the laws of this seat use: EcForetells EcMissed2 EcWithin EcUntil EcErr3 EcFree3: walks of the program's functions, and plain laws. -/
import Derived.Carry
import Derived.Test.YtfkcbgehcbhjnaaGreatDoorH02
import Derived.Test.YtfkcbgehcbhjnaaGreatDoorH03
import Derived.Test.YtfkcbgehcbhjnaaGreatDoorH04
import Derived.Test.YtfkcbgehcbhjnaaGreatDoorH07
namespace Go.Proofs.YtfkcbgehcbhjnaaGreatDoor
open Go.RowKit
open Sp (rd)
set_option maxRecDepth 100000
set_option maxHeartbeats 1000000
attribute [local go_sem] Oper.semAt_some
def foretellsΦ (p : EP) (e : Ec.Engine) (set : List Int) (lo : Int) (hi : Int) (w0 : World) (i : Nat) (v : Value) (w : World) : Prop :=
 match i with
 | 0 => v = .agg #[.slice p.Ab e.sky.bodies.length p.cb, .int .i64 e.sky.nnum, .int .i64 e.sky.nden, .int .i64 e.sky.nstart, .slice p.As e.sun.length p.cs, .slice p.Am e.moon.length p.cm, .slice p.An e.node.length p.cn, .slice p.Af e.feasts.length p.cf, .int .i64 e.nw, .int .i64 e.fl, .int .i64 e.wide]
 | 1 => v = .slice p.At set.length p.ct
 | 2 => v = .int .i64 lo
 | 3 => v = .int .i64 hi
 | 4 => v = .bool true
 | 5 => AskTup p e set w0 v w
 | 6 => AskTup p e set w0 v w
 | 7 => AskAgg p e set w0 v w
 | 8 => v = .int .i64 0
 | _ => AskNew w0 v w
theorem foretellsΦ_mono {p : EP} {e : Ec.Engine} {set : List Int} {lo : Int} {hi : Int} {w0 : World} (i : Nat) (v : Value) (w w' : World) (h : foretellsΦ p e set lo hi w0 i v w) (he : Ext w w') : foretellsΦ p e set lo hi w0 i v w' := by
 unfold foretellsΦ at h ⊢
 split at h <;> first
  | exact h
  | exact AskTup.ext h he
  | exact AskAgg.ext h he
  | exact AskNew.ext h he
theorem foreD_len (e : Ec.Engine) (set : List Int) (d : Int) : (Ec.foreD e set d).length ≤ 2 := by
 unfold Ec.foreD
 split <;> split <;> simp
theorem foreN_len (e : Ec.Engine) (set : List Int) (lo : Int) : ∀ k, (Ec.foreN e set lo k).length ≤ 2 * k
 | 0 => by simp [Ec.foreN]
 | k + 1 => by
  have h1 := foreN_len e set lo k
  have h2 := foreD_len e set (lo + (k : Nat))
  simp only [Ec.foreN, List.length_append]
  omega
def FoI (w : World) (base bO : Nat) (e : Ec.Engine) (set : List Int) (M : Nat) (pre : List Ecl1) (W : World) : Prop :=
 (∃ v, Out W base bO 22 87 3 v pre.length (eclCells (pre.map (·.1)))) ∧ (Below w.heap.size w W ∧ base ≤ W.heap.size) ∧ Seen e set M W
theorem foI_own {w : World} {base bO : Nat} {e : Ec.Engine} {set : List Int} {M B : Nat} (hB : w.heap.size ≤ B) (hM : M < B) : OwnFrom B (FoI w base bO e set M) := fun _ _ _ _ ⟨⟨v, h⟩, ⟨hb, hz⟩, hc⟩ hg hr =>
 ⟨⟨v, h.kept hg fun r e => (hr r e).2⟩, ⟨hb.grown hg hb.size (fun k e => Nat.le_trans hB (hr k e).1), Nat.le_trans hz hg.size⟩, hc.kept hg (fun e => by have := (hr M e.symm).1; omega)⟩
theorem foI_step {w : World} {base bO : Nat} {e : Ec.Engine} {set : List Int} {M : Nat} (hM : w.heap.size ≤ M) (s : List Ecl1) (A B : World) (h : FoI w base bO e set M s A) (hm : Move e set M A B) : FoI w base bO e set M s B :=
 let ⟨⟨v, ho⟩, ⟨hb, hz⟩, hc⟩ := h
 ⟨⟨v, hm.out hc ho⟩, ⟨hb.trans (hm.below hM hb.size), Nat.le_trans hz hm.size⟩, hm.cache⟩
theorem e_Foretells_ok (p : EP) (e : Ec.Engine) (set : List Int) (lo hi : Int) (w : World) (hm : EngSet w p e set) (hl : EngShort e) (hs : set.length ≤ 100000) (c0 : Ec.engineOk e = true) (c1 : Ec.setOk e.feasts set = true) (c2 : Ec.isSpan lo hi = true) :
  Calls Tryz.prog 35 #[.agg #[.slice p.Ab e.sky.bodies.length p.cb, .int .i64 e.sky.nnum, .int .i64 e.sky.nden, .int .i64 e.sky.nstart, .slice p.As e.sun.length p.cs, .slice p.Am e.moon.length p.cm, .slice p.An e.node.length p.cn, .slice p.Af e.feasts.length p.cf, .int .i64 e.nw, .int .i64 e.fl, .int .i64 e.wide], .slice p.At set.length p.ct, .int .i64 lo, .int .i64 hi] w fun r w' => ∃ v, r = .returned (.tuple #[v, .int .i64 0]) ∧ EclVal w' v (Ec.foreL e set lo hi) ∧ Ext w w' := by
 have HM := Lib.hid hm
 have HL := Lib.hid hl
 have hK : Fine e set := ⟨c0, c1⟩
 have HR0 : Hid (Row (w.alloc (.cells #[.slice p.Ab e.sky.bodies.length p.cb, .int .i64 e.sky.nnum, .int .i64 e.sky.nden, .int .i64 e.sky.nstart, .slice p.As e.sun.length p.cs, .slice p.Am e.moon.length p.cm, .slice p.An e.node.length p.cn, .slice p.Af e.feasts.length p.cf, .int .i64 e.nw, .int .i64 e.fl, .int .i64 e.wide] 76)) w.heap.size 76 #[.slice p.Ab e.sky.bodies.length p.cb, .int .i64 e.sky.nnum, .int .i64 e.sky.nden, .int .i64 e.sky.nstart, .slice p.As e.sun.length p.cs, .slice p.Am e.moon.length p.cm, .slice p.An e.node.length p.cn, .slice p.Af e.feasts.length p.cf, .int .i64 e.nw, .int .i64 e.fl, .int .i64 e.wide]) := Lib.hid (Row.new w _ _)
 have HE0 := Lib.hid ((Ext.refl w).alloc (.cells #[.slice p.Ab e.sky.bodies.length p.cb, .int .i64 e.sky.nnum, .int .i64 e.sky.nden, .int .i64 e.sky.nstart, .slice p.As e.sun.length p.cs, .slice p.Am e.moon.length p.cm, .slice p.An e.node.length p.cn, .slice p.Af e.feasts.length p.cf, .int .i64 e.nw, .int .i64 e.fl, .int .i64 e.wide] 76))
 have hd : 1 ≤ lo ∧ lo ≤ hi ∧ hi ≤ 9000 ∧ hi - lo ≤ 400 := by
  simp only [Ec.isSpan, Sp.inR, Bool.and_eq_true, decide_eq_true_eq] at c2
  omega
 clear hm hl
 refine (callsIn_wide (n := 8)).1 ?_
 refine callsIn_of_wp_marks Tryz.func35 rfl trivial ?_ rfl
 simp only [Tryz.ntmps35, List.size_toArray, List.length_cons, List.length_nil, Nat.reduceAdd, Nat.reduceSub, Array.replicate_succ, Array.replicate_zero, List.push_toArray, List.append_toArray, List.nil_append, List.cons_append]
 refine wpIn_wide.2 ?_
 go_wp2_with fail
 obtain ⟨W, hW⟩ : ∃ W, w.alloc (.cells #[.slice p.Ab e.sky.bodies.length p.cb, .int .i64 e.sky.nnum, .int .i64 e.sky.nden, .int .i64 e.sky.nstart, .slice p.As e.sun.length p.cs, .slice p.Am e.moon.length p.cm, .slice p.An e.node.length p.cn, .slice p.Af e.feasts.length p.cf, .int .i64 e.nw, .int .i64 e.fl, .int .i64 e.wide] 76) = W := ⟨_, rfl⟩
 rw [hW] at HR0 HE0 ⊢
 clear hW
 refine Code.wp_mono (Q := fun e' a' w' => e' = .normal ∧ ∃ M4 M5 M b, W.heap.size ≤ b ∧ W.heap.size ≤ M ∧ Ext W w' ∧ Row w' b 105 #[.slice p.Ab e.sky.bodies.length p.cb, .int .i64 e.sky.nnum, .int .i64 e.sky.nden, .int .i64 e.sky.nstart, .slice p.As e.sun.length p.cs, .slice p.Am e.moon.length p.cm, .slice p.An e.node.length p.cn, .slice p.Af e.feasts.length p.cf, .int .i64 e.nw, .int .i64 e.fl, .int .i64 e.wide, .slice p.At set.length p.ct, .map (some M)] ∧ Seen e set M w' ∧ a' = (⟨#[.agg #[.slice p.Ab e.sky.bodies.length p.cb, .int .i64 e.sky.nnum, .int .i64 e.sky.nden, .int .i64 e.sky.nstart, .slice p.As e.sun.length p.cs, .slice p.Am e.moon.length p.cm, .slice p.An e.node.length p.cn, .slice p.Af e.feasts.length p.cf, .int .i64 e.nw, .int .i64 e.fl, .int .i64 e.wide], .slice p.At set.length p.ct, .int .i64 lo, .int .i64 hi, .pointer (some ⟨w.heap.size, 0, none⟩), undef, undef, undef, .slice none 0 0, .int .i64 0, .pointer (some ⟨b, 0, none⟩), .int .i64 0, undef, undef, .tuple #[.agg #[.slice p.Ab e.sky.bodies.length p.cb, .int .i64 e.sky.nnum, .int .i64 e.sky.nden, .int .i64 e.sky.nstart, .slice p.As e.sun.length p.cs, .slice p.Am e.moon.length p.cm, .slice p.An e.node.length p.cn, .slice p.Af e.feasts.length p.cf, .int .i64 e.nw, .int .i64 e.fl, .int .i64 e.wide, .slice p.At set.length p.ct, .map (some M5)], .int .i64 0], .agg #[.slice p.Ab e.sky.bodies.length p.cb, .int .i64 e.sky.nnum, .int .i64 e.sky.nden, .int .i64 e.sky.nstart, .slice p.As e.sun.length p.cs, .slice p.Am e.moon.length p.cm, .slice p.An e.node.length p.cn, .slice p.Af e.feasts.length p.cf, .int .i64 e.nw, .int .i64 e.fl, .int .i64 e.wide], .slice p.At set.length p.ct, .int .i64 lo, .int .i64 hi, .bool true, .tuple #[.agg #[.slice p.Ab e.sky.bodies.length p.cb, .int .i64 e.sky.nnum, .int .i64 e.sky.nden, .int .i64 e.sky.nstart, .slice p.As e.sun.length p.cs, .slice p.Am e.moon.length p.cm, .slice p.An e.node.length p.cn, .slice p.Af e.feasts.length p.cf, .int .i64 e.nw, .int .i64 e.fl, .int .i64 e.wide, .slice p.At set.length p.ct, .map (some M4)], .int .i64 0], .agg #[.slice p.Ab e.sky.bodies.length p.cb, .int .i64 e.sky.nnum, .int .i64 e.sky.nden, .int .i64 e.sky.nstart, .slice p.As e.sun.length p.cs, .slice p.Am e.moon.length p.cm, .slice p.An e.node.length p.cn, .slice p.Af e.feasts.length p.cf, .int .i64 e.nw, .int .i64 e.fl, .int .i64 e.wide, .slice p.At set.length p.ct, .map (some M)], .int .i64 0, undef, undef, undef, undef, undef, undef, undef, undef, undef, undef, undef, undef, undef], []⟩ : Act)) ?hq (wp_region_free_tail 10 8 (foretellsΦ p e set lo hi W) (by kernel_rfl) (by simp) (by kernel_rfl) (by kernel_rfl) (by kernel_rfl) (by kernel_rfl) foretellsΦ_mono ?hob ?hQ ?hZ)
 case hob =>
  intro i o hin ho a wa hE hF
  match i, hin with
  | 0, _ =>
   cases ho
   have h0 : a.tmps[4]?.getD undef = .pointer (some ⟨w.heap.size, 0, none⟩) := evalD (hF.old 4 (by decide))
   have q := (HR0.out.ext hE).cell
   refine Ran.value rfl (v := .agg #[.slice p.Ab e.sky.bodies.length p.cb, .int .i64 e.sky.nnum, .int .i64 e.sky.nden, .int .i64 e.sky.nstart, .slice p.As e.sun.length p.cs, .slice p.Am e.moon.length p.cm, .slice p.An e.node.length p.cn, .slice p.Af e.feasts.length p.cf, .int .i64 e.nw, .int .i64 e.fl, .int .i64 e.wide]) (w1 := wa) ?_ ⟨rfl, Ext.refl _⟩
   go_simp
  | 1, _ =>
   cases ho
   have h0 : a.tmps[1]?.getD undef = .slice p.At set.length p.ct := evalD (hF.old 1 (by decide))
   refine Ran.value rfl (v := .slice p.At set.length p.ct) (w1 := wa) ?_ ⟨rfl, Ext.refl _⟩
   go_simp
  | 2, _ =>
   cases ho
   have h0 : a.tmps[2]?.getD undef = .int .i64 lo := evalD (hF.old 2 (by decide))
   refine Ran.value rfl (v := .int .i64 lo) (w1 := wa) ?_ ⟨rfl, Ext.refl _⟩
   go_simp
  | 3, _ =>
   cases ho
   have h0 : a.tmps[3]?.getD undef = .int .i64 hi := evalD (hF.old 3 (by decide))
   refine Ran.value rfl (v := .int .i64 hi) (w1 := wa) ?_ ⟨rfl, Ext.refl _⟩
   go_simp
  | 4, _ =>
   cases ho
   have h0 : a.tmps[17]?.getD undef = .int .i64 lo := evalD (hF.from_ 2 17 rfl (by decide))
   have h1 : a.tmps[18]?.getD undef = .int .i64 hi := evalD (hF.from_ 3 18 rfl (by decide))
   refine Ran.enter rfl (f := 69) (args := #[.int .i64 lo, .int .i64 hi]) (w1 := wa) ?_ ?_
   ·go_simp
   ·refine (e_isSpan_any lo hi _).mono ?_
    rintro r w1 ⟨rfl, rfl⟩
    exact ⟨_, rfl, by rw [c2]; rfl, Ext.refl _⟩
  | 5, _ =>
   cases ho
   have h0 : a.tmps[15]?.getD undef = .agg #[.slice p.Ab e.sky.bodies.length p.cb, .int .i64 e.sky.nnum, .int .i64 e.sky.nden, .int .i64 e.sky.nstart, .slice p.As e.sun.length p.cs, .slice p.Am e.moon.length p.cm, .slice p.An e.node.length p.cn, .slice p.Af e.feasts.length p.cf, .int .i64 e.nw, .int .i64 e.fl, .int .i64 e.wide] := evalD (hF.from_ 0 15 rfl (by decide))
   have h1 : a.tmps[16]?.getD undef = .slice p.At set.length p.ct := evalD (hF.from_ 1 16 rfl (by decide))
   have h2 : a.tmps[19]?.getD undef = .bool true := evalD (hF.from_ 4 19 rfl (by decide))
   refine Ran.enter rfl (f := 62) (args := #[.agg #[.slice p.Ab e.sky.bodies.length p.cb, .int .i64 e.sky.nnum, .int .i64 e.sky.nden, .int .i64 e.sky.nstart, .slice p.As e.sun.length p.cs, .slice p.Am e.moon.length p.cm, .slice p.An e.node.length p.cn, .slice p.Af e.feasts.length p.cf, .int .i64 e.nw, .int .i64 e.fl, .int .i64 e.wide], .slice p.At set.length p.ct, .bool true]) (w1 := wa) ?_ ?_
   ·go_simp
   ·refine (e_asked_ok p e set wa (HM.out.ext (HE0.out.trans hE)) HL.out hs c0 c1).mono ?_
    rintro r w1 ⟨M, rfl, hM, hC, hX⟩
    exact ⟨_, rfl, ⟨M, rfl, Nat.le_trans hE.size hM, hC⟩, hX⟩
  | 6, _ =>
   cases ho
   obtain ⟨M, h0, hM, hC⟩ : AskTup p e set W (a.eval (.tmp 20)) wa := hF.from_ 5 20 rfl (by decide)
   replace h0 := evalD h0
   refine Ran.value rfl (w1 := wa) (v := .tuple #[.agg #[.slice p.Ab e.sky.bodies.length p.cb, .int .i64 e.sky.nnum, .int .i64 e.sky.nden, .int .i64 e.sky.nstart, .slice p.As e.sun.length p.cs, .slice p.Am e.moon.length p.cm, .slice p.An e.node.length p.cn, .slice p.Af e.feasts.length p.cf, .int .i64 e.nw, .int .i64 e.fl, .int .i64 e.wide, .slice p.At set.length p.ct, .map (some M)], .int .i64 0]) ?_ ⟨⟨M, rfl, hM, hC⟩, Ext.refl _⟩
   go_simp
  | 7, _ =>
   cases ho
   obtain ⟨M, h0, hM, hC⟩ : AskTup p e set W (a.eval (.tmp 14)) wa := hF.from_ 6 14 rfl (by decide)
   replace h0 := evalD h0
   refine Ran.value rfl (w1 := wa) (v := .agg #[.slice p.Ab e.sky.bodies.length p.cb, .int .i64 e.sky.nnum, .int .i64 e.sky.nden, .int .i64 e.sky.nstart, .slice p.As e.sun.length p.cs, .slice p.Am e.moon.length p.cm, .slice p.An e.node.length p.cn, .slice p.Af e.feasts.length p.cf, .int .i64 e.nw, .int .i64 e.fl, .int .i64 e.wide, .slice p.At set.length p.ct, .map (some M)]) ?_ ⟨⟨M, rfl, hM, hC⟩, Ext.refl _⟩
   go_simp
  | 8, _ =>
   cases ho
   obtain ⟨M, h0, hM, hC⟩ : AskTup p e set W (a.eval (.tmp 14)) wa := hF.from_ 6 14 rfl (by decide)
   replace h0 := evalD h0
   refine Ran.value rfl (w1 := wa) (v := .int .i64 0) ?_ ⟨rfl, Ext.refl _⟩
   go_simp
  | 9, _ =>
   cases ho
   refine Ran.value rfl (w1 := wa.alloc (.cells zeroEng 105)) (v := .pointer (some ⟨wa.heap.size, 0, none⟩)) (by kernel_rfl) ⟨⟨wa.heap.size, rfl, hE.size, Row.new _ _ _⟩, (Ext.refl _).alloc _⟩
  | k + 10, hin => omega
 case hQ =>
  intro vs w2 hE hΦ
  have f0 : vs 0 = .agg #[.slice p.Ab e.sky.bodies.length p.cb, .int .i64 e.sky.nnum, .int .i64 e.sky.nden, .int .i64 e.sky.nstart, .slice p.As e.sun.length p.cs, .slice p.Am e.moon.length p.cm, .slice p.An e.node.length p.cn, .slice p.Af e.feasts.length p.cf, .int .i64 e.nw, .int .i64 e.fl, .int .i64 e.wide] := hΦ 0 (by omega)
  have f1 : vs 1 = .slice p.At set.length p.ct := hΦ 1 (by omega)
  have f2 : vs 2 = .int .i64 lo := hΦ 2 (by omega)
  have f3 : vs 3 = .int .i64 hi := hΦ 3 (by omega)
  have f4 : vs 4 = .bool true := hΦ 4 (by omega)
  obtain ⟨M4, f5, _, _⟩ : AskTup p e set W (vs 5) w2 := hΦ 5 (by omega)
  obtain ⟨M5, f6, _, _⟩ : AskTup p e set W (vs 6) w2 := hΦ 6 (by omega)
  obtain ⟨M, f7, hM, hC⟩ : AskAgg p e set W (vs 7) w2 := hΦ 7 (by omega)
  have f8 : vs 8 = .int .i64 0 := hΦ 8 (by omega)
  obtain ⟨b, f9, hb, hr⟩ : AskNew W (vs 9) w2 := hΦ 9 (by omega)
  have hrg : List.range 10 = [0, 1, 2, 3, 4, 5, 6, 7, 8, 9] := rfl
  unfold putAll putS
  simp only [List.length_cons, List.length_nil, List.take_succ_cons, List.take_zero, List.drop_succ_cons, List.drop_zero, Nat.reduceAdd, hrg, List.foldl_cons, List.foldl_nil, dstOf, List.getElem?_cons_succ, List.getElem?_cons_zero, Option.bind_some]
  clear hrg
  rw [f0, f1, f2, f3, f4, f5, f6, f7, f8, f9]
  have c := hr.cell
  simp only [zeroEng] at c
  have fz := hr.free
  have hne : b ≠ M := fun h => (hC.not_row hr) h
  go_wp2
  clear c fz
  obtain ⟨W3, hW3⟩ : ∃ W3, setsAt w2 b 0 [.slice p.Ab e.sky.bodies.length p.cb, .int .i64 e.sky.nnum, .int .i64 e.sky.nden, .int .i64 e.sky.nstart, .slice p.As e.sun.length p.cs, .slice p.Am e.moon.length p.cm, .slice p.An e.node.length p.cn, .slice p.Af e.feasts.length p.cf, .int .i64 e.nw, .int .i64 e.fl, .int .i64 e.wide, .slice p.At set.length p.ct, .map (some M)] = W3 := ⟨_, rfl⟩
  have hR3 : Row W3 b 105 #[.slice p.Ab e.sky.bodies.length p.cb, .int .i64 e.sky.nnum, .int .i64 e.sky.nden, .int .i64 e.sky.nstart, .slice p.As e.sun.length p.cs, .slice p.Am e.moon.length p.cm, .slice p.An e.node.length p.cn, .slice p.Af e.feasts.length p.cf, .int .i64 e.nw, .int .i64 e.fl, .int .i64 e.wide, .slice p.At set.length p.ct, .map (some M)] := by rw [← hW3]; exact Row.sets (cs := [.slice none 0 0, .int .i64 0, .int .i64 0, .int .i64 0, .slice none 0 0, .slice none 0 0, .slice none 0 0, .slice none 0 0, .int .i64 0, .int .i64 0, .int .i64 0, .slice none 0 0, .map none]) hr _ rfl
  have hE3 : Ext W W3 := by rw [← hW3]; exact Ext.sets hb _ _ _ hE
  have hC3 : Seen e set M W3 := by rw [← hW3]; exact Cache.sets hne _ _ _ hC
  simp only [setsAt, Nat.reduceAdd] at hW3
  try rw [hW3]
  exact ⟨M4, M5, M, b, hb, hM, hE3, hR3, hC3, by simp⟩
 case hZ =>
  intro _ vs w2 hE hΦ on oz hon hoz
  obtain rfl := Option.some.inj hon
  obtain rfl := Option.some.inj hoz
  have f0 : vs 0 = .agg #[.slice p.Ab e.sky.bodies.length p.cb, .int .i64 e.sky.nnum, .int .i64 e.sky.nden, .int .i64 e.sky.nstart, .slice p.As e.sun.length p.cs, .slice p.Am e.moon.length p.cm, .slice p.An e.node.length p.cn, .slice p.Af e.feasts.length p.cf, .int .i64 e.nw, .int .i64 e.fl, .int .i64 e.wide] := hΦ 0 (by omega) (by omega)
  have f1 : vs 1 = .slice p.At set.length p.ct := hΦ 1 (by omega) (by omega)
  have f2 : vs 2 = .int .i64 lo := hΦ 2 (by omega) (by omega)
  have f3 : vs 3 = .int .i64 hi := hΦ 3 (by omega) (by omega)
  have f4 : vs 4 = .bool true := hΦ 4 (by omega) (by omega)
  obtain ⟨M4, f5, _, _⟩ : AskTup p e set W (vs 5) w2 := hΦ 5 (by omega) (by omega)
  obtain ⟨M5, f6, _, _⟩ : AskTup p e set W (vs 6) w2 := hΦ 6 (by omega) (by omega)
  obtain ⟨M, f7, hM, hC⟩ : AskAgg p e set W (vs 7) w2 := hΦ 7 (by omega) (by omega)
  obtain ⟨b, f9, hb, hr⟩ : AskNew W (vs 9) w2 := hΦ 9 (by omega) (by omega)
  have hrg : (List.range 10).filter (· ≠ 8) = [0, 1, 2, 3, 4, 5, 6, 7, 9] := by decide
  rw [hrg]
  unfold putS
  simp only [List.take_succ_cons, List.take_zero, List.drop_succ_cons, List.drop_zero, Nat.reduceAdd, List.foldl_cons, List.foldl_nil, dstOf, List.getElem?_cons_succ, List.getElem?_cons_zero, Option.bind_some]
  clear hrg
  rw [f0, f1, f2, f3, f4, f5, f6, f7, f9]
  have c := hr.cell
  simp only [zeroEng] at c
  have fz := hr.free
  have hne : b ≠ M := fun h => (hC.not_row hr) h
  go_wp2
  clear c fz
  obtain ⟨W3, hW3⟩ : ∃ W3, setsAt w2 b 0 [.slice p.Ab e.sky.bodies.length p.cb, .int .i64 e.sky.nnum, .int .i64 e.sky.nden, .int .i64 e.sky.nstart, .slice p.As e.sun.length p.cs, .slice p.Am e.moon.length p.cm, .slice p.An e.node.length p.cn, .slice p.Af e.feasts.length p.cf, .int .i64 e.nw, .int .i64 e.fl, .int .i64 e.wide, .slice p.At set.length p.ct, .map (some M)] = W3 := ⟨_, rfl⟩
  have hR3 : Row W3 b 105 #[.slice p.Ab e.sky.bodies.length p.cb, .int .i64 e.sky.nnum, .int .i64 e.sky.nden, .int .i64 e.sky.nstart, .slice p.As e.sun.length p.cs, .slice p.Am e.moon.length p.cm, .slice p.An e.node.length p.cn, .slice p.Af e.feasts.length p.cf, .int .i64 e.nw, .int .i64 e.fl, .int .i64 e.wide, .slice p.At set.length p.ct, .map (some M)] := by rw [← hW3]; exact Row.sets (cs := [.slice none 0 0, .int .i64 0, .int .i64 0, .int .i64 0, .slice none 0 0, .slice none 0 0, .slice none 0 0, .slice none 0 0, .int .i64 0, .int .i64 0, .int .i64 0, .slice none 0 0, .map none]) hr _ rfl
  have hE3 : Ext W W3 := by rw [← hW3]; exact Ext.sets hb _ _ _ hE
  have hC3 : Seen e set M W3 := by rw [← hW3]; exact Cache.sets hne _ _ _ hC
  simp only [setsAt, Nat.reduceAdd] at hW3
  try rw [hW3]
  exact ⟨M4, M5, M, b, hb, hM, hE3, hR3, hC3, by simp⟩
 case hq =>
  rintro e' a' w3 ⟨rfl, M4, M5, M, b, hb, hM, hE3, hR3, hC3, rfl⟩
  have c := hR3.cell
  have HE3 := Lib.hid (HE0.out.trans hE3)
  have HO := Lib.hid (Out.new w3 (w3.heap.size + 4) 22 87 3)
  have HC4 := Lib.hid (hC3.ext ((Ext.refl w3).alloc (.cells #[.slice none 0 0] 22)))
  have HE4 := Lib.hid (HE3.out.alloc (.cells #[.slice none 0 0] 22))
  have HR4 := Lib.hid (hR3.alloc (.cells #[.slice none 0 0] 22))
  have hlt := lts hR3.lt
  go_wp2_with fail
  refine (e_foretold_any p e set M lo hi _).mono ?_
  rintro r w5 ⟨rfl, rfl⟩
  have hz4 : (w3.alloc (.cells #[.slice none 0 0] 22)).heap.size = w3.heap.size + 1 := World.size_alloc _ _
  have HI := Lib.hid (foreIn_new (p := p) lo hi HE4.out HC4.out)
  have HF := Lib.hid (foreW_F p e set M lo hi (w3.alloc (.cells #[.slice none 0 0] 22)))
  have HO5 := Lib.hid (HO.out.ext (foreW_ext p e set M lo hi (w3.alloc (.cells #[.slice none 0 0] 22))))
  have hsz := foreW_size p e set M lo hi (w3.alloc (.cells #[.slice none 0 0] 22))
  have hM3 := hC3.lt
  have hMO : M ≠ w3.heap.size := by omega
  have hw3 := HE3.out.size
  have hMw := Nat.le_trans HE0.out.size hM
  obtain ⟨W5, hW5⟩ : ∃ W5, foreW p e set M lo hi (w3.alloc (.cells #[.slice none 0 0] 22)) = W5 := ⟨_, rfl⟩
  rw [hW5] at HI HF HO5 hsz ⊢
  clear hW5 c hE3 hR3 hC3 HC4 HR4 HO
  rw [hz4] at HI HF hsz ⊢
  go_wp2_with fail
  refine (wpIn_wide (n := 8)).1 ?_
  refine wpIn_range_step rfl (by omega) (gf := 106) (lb := #[.pointer (some ⟨w3.heap.size + 1 + 1, 0, none⟩), .pointer (some ⟨w3.heap.size + 1 + 2, 0, none⟩), .pointer (some ⟨w3.heap.size + 1, 0, none⟩)]) rfl trivial (enters_of Tryz.func106 (by kernel_rfl) rfl)
   (fun W' hW' => fore_seq (8 - 1) (by omega) p e set M lo hi w hK HM.out hMw (by omega) (by omega) (by omega) (by omega) (w3.heap.size + 1) W5 HF.out HI.out W' hW')
   (fun h k => keepsEng_t h k) (fun W l o o' h1 h2 h3 h4 => keepsEng_b (by omega) (by omega) (by omega) (by omega) W l o o' h1 h2 h3 h4)
   (fun A B h => Step.keeps h (by omega)) (fun _ => rfl)
   (FoI w (w3.heap.size + 4) w3.heap.size e set M)
   (fun _ _ _ => False)
   (foI_own (by omega) (by omega))
   (fun _ _ _ _ _ hs _ _ => hs)
   (foI_step hMw)
   ⟨⟨_, HO5.out⟩, ⟨HI.out.ext, by omega⟩, HI.out.cache⟩
   (fun x a' W => ∃ Bx, Row W Bx 87 #[.int .i64 x.1.day, .bool x.1.full, .int .i64 x.1.far] ∧ a' = (⟨#[.agg #[.slice p.Ab e.sky.bodies.length p.cb, .int .i64 e.sky.nnum, .int .i64 e.sky.nden, .int .i64 e.sky.nstart, .slice p.As e.sun.length p.cs, .slice p.Am e.moon.length p.cm, .slice p.An e.node.length p.cn, .slice p.Af e.feasts.length p.cf, .int .i64 e.nw, .int .i64 e.fl, .int .i64 e.wide], .slice p.At set.length p.ct, .int .i64 lo, .int .i64 hi, .pointer (some ⟨w.heap.size, 0, none⟩), undef, undef, undef, .slice none 0 0, .int .i64 0, .pointer (some ⟨b, 0, none⟩), .int .i64 0, .pointer (some ⟨w3.heap.size, 0, none⟩), .pointer (some ⟨Bx, 0, none⟩), .tuple #[.agg #[.slice p.Ab e.sky.bodies.length p.cb, .int .i64 e.sky.nnum, .int .i64 e.sky.nden, .int .i64 e.sky.nstart, .slice p.As e.sun.length p.cs, .slice p.Am e.moon.length p.cm, .slice p.An e.node.length p.cn, .slice p.Af e.feasts.length p.cf, .int .i64 e.nw, .int .i64 e.fl, .int .i64 e.wide, .slice p.At set.length p.ct, .map (some M5)], .int .i64 0], .agg #[.slice p.Ab e.sky.bodies.length p.cb, .int .i64 e.sky.nnum, .int .i64 e.sky.nden, .int .i64 e.sky.nstart, .slice p.As e.sun.length p.cs, .slice p.Am e.moon.length p.cm, .slice p.An e.node.length p.cn, .slice p.Af e.feasts.length p.cf, .int .i64 e.nw, .int .i64 e.fl, .int .i64 e.wide], .slice p.At set.length p.ct, .int .i64 lo, .int .i64 hi, .bool true, .tuple #[.agg #[.slice p.Ab e.sky.bodies.length p.cb, .int .i64 e.sky.nnum, .int .i64 e.sky.nden, .int .i64 e.sky.nstart, .slice p.As e.sun.length p.cs, .slice p.Am e.moon.length p.cm, .slice p.An e.node.length p.cn, .slice p.Af e.feasts.length p.cf, .int .i64 e.nw, .int .i64 e.fl, .int .i64 e.wide, .slice p.At set.length p.ct, .map (some M4)], .int .i64 0], .agg #[.slice p.Ab e.sky.bodies.length p.cb, .int .i64 e.sky.nnum, .int .i64 e.sky.nden, .int .i64 e.sky.nstart, .slice p.As e.sun.length p.cs, .slice p.Am e.moon.length p.cm, .slice p.An e.node.length p.cn, .slice p.Af e.feasts.length p.cf, .int .i64 e.nw, .int .i64 e.fl, .int .i64 e.wide, .slice p.At set.length p.ct, .map (some M)], .int .i64 0, .int .i64 0, .bool false, undef, .agg #[.slice p.Ab e.sky.bodies.length p.cb, .int .i64 e.sky.nnum, .int .i64 e.sky.nden, .int .i64 e.sky.nstart, .slice p.As e.sun.length p.cs, .slice p.Am e.moon.length p.cm, .slice p.An e.node.length p.cn, .slice p.Af e.feasts.length p.cf, .int .i64 e.nw, .int .i64 e.fl, .int .i64 e.wide, .slice p.At set.length p.ct, .map (some M)], .int .i64 lo, .int .i64 hi, foreV (w3.heap.size + 1), .agg #[.int .i64 x.1.day, .bool x.1.full, .int .i64 x.1.far], undef, undef, undef, undef, undef], []⟩ : Act))
   (fun x a' _ X Y row hs hg hr => by obtain ⟨Bx, h1, h2⟩ := hs; exact ⟨Bx, h1.kept hg fun r e => (hr r e).2, h2⟩)
   ?assign ?body ?done ?stop
  case assign =>
   rintro l pre x W K hi' hK'
   simp only [eclV]
   gi_wp2
   obtain ⟨⟨v, hO⟩, ⟨hB, hz⟩, hC⟩ := hi'
   have hMl := hC.lt
   exact hK' _ _ ((KeepsOthers.alloc _ _).from _) ⟨(Below.refl _ _).alloc (by omega) _, Below.heap_alloc _ _ _ (by omega), Below.heap_alloc _ _ _ (by omega), Below.heap_alloc _ _ _ (by omega)⟩
    ⟨⟨v, hO.ext ((Ext.refl _).alloc _)⟩, ⟨hB.alloc hB.size _, by simp; omega⟩, hC.ext ((Ext.refl _).alloc _)⟩ ⟨_, Row.new _ _ _, rfl⟩
  case body =>
   rintro l pre x a' W hl' ⟨⟨v, hO⟩, ⟨hB, hz⟩, hC⟩ ⟨Bx, rX, rfl⟩ hlt
   have hMl := hC.lt
   have hln := foreN_len e set (max 1 lo) (hi + 1 - max 1 lo).toNat
   have hpl : pre.length < 1000 := by unfold Ec.foreL at hlt; omega
   obtain ⟨i0, hi0, hz0, hz1, hz2⟩ := info_parts info_ecl
   have hO5 := hO.ext ((Ext.refl _).alloc (.cells #[.int .i64 x.1.day, .bool x.1.full, .int .i64 x.1.far] 87))
   have r0 := rX.cell
   have rO := hO.box.cell 0
   simp only [List.getElem?_toArray, List.getElem?_cons_zero] at rO
   clear hln hlt
   gi_wp2_with (gi_at_builtin; refine wpListIn_append_own_at _ rfl _ _ 22 rfl (w3.heap.size + 4) 87 i0 _ 3 24 Tryz.underlying22 hi0 hz0 hz1 hz2 rfl (by decide) v _ _ rfl hO5.own ⟨W.heap.size, 0, none⟩ 1 1 [.int .i64 x.1.day, .bool x.1.full, .int .i64 x.1.far] rfl rfl (World.news_of_block (cs := #[.int .i64 x.1.day, .bool x.1.full, .int .i64 x.1.far]) (t := 87) (fr := (0, 0)) (heap_alloc_new _ _)) (by simp [Value.oneCell']) (by simp only [maxLen]; omega) (by omega) (by simp; omega) ?_; intro v' w8 hown1 hgrow _ hat; obtain ⟨gg, cap, rfl⟩ := ownsRow_succ hown1; have hc3 := grown_cell hgrow hO5.box hO5.ne 0; have hf3 := grown_free hgrow hO5.box hO5.ne 0; simp only [List.getElem?_toArray, List.getElem?_cons_zero] at hc3)
   have hat' : v.ownBlock = some gg ∨ gg = (W.alloc (.cells #[.int .i64 x.1.day, .bool x.1.full, .int .i64 x.1.far] 87)).heap.size := by
    rcases hat with e | e
    ·exact .inl e.symm
    ·exact .inr (by simpa [Value.ownBlock] using e)
   have hpush := hO5.pushed (Ext.refl _) hown1 hgrow hat'
   have hP := (Push.of_ext (bO := w3.heap.size) (v := v) ((Ext.refl W).alloc (.cells #[.int .i64 x.1.day, .bool x.1.full, .int .i64 x.1.far] 87))).trans hpush.2
   have hMb : M < w3.heap.size := hM3
   refine ⟨Push.keepsFrom hO hP _, ⟨hP.below hO (N := w.heap.size) (by omega) (by omega) hz, Push.old hO hP (by omega) hz (by omega), Push.old hO hP (by omega) hz (by omega), Push.old hO hP (by omega) hz (by omega)⟩, ⟨.slice (some ⟨gg, 0, none⟩) (pre.length + 1) cap, ?_⟩, ⟨hB.trans (hP.below hO (N := w.heap.size) (by omega) (by omega) hz), Nat.le_trans hz hP.size⟩, hC.of_block (Push.old hO hP (by omega) hz (by omega))⟩
   simpa [eclCells] using hpush.1
  case done =>
   rintro D xs W hD hS ⟨⟨v, hO⟩, ⟨hB, hz⟩, hC⟩ hK'
   have cO := hO.box.cell 0
   simp only [List.getElem?_toArray, List.getElem?_cons_zero] at cO
   go_wp2_with fail
   refine ⟨by simp, .inl ⟨_, _, rfl, run_takeDeferred hK', ?_⟩⟩
   refine ⟨_, results_tmp2 rfl _ _ _, v, rfl, ?_, ?_⟩
   ·have := (hO.kept (grownBy_putObj' W D (.deferred none)) (fun r e => by cases e; exact ⟨_, hK', rfl⟩)).own
    have hx : max 1 lo = lo := by omega
    unfold ForeAll at hS
    rw [hx] at hS
    have hln : xs.length = (Ec.foreL e set lo hi).length := by rw [← hS, List.length_map]
    rw [hS, hln] at this
    exact EclVal.of_own this
   ·exact hB.grown (grownBy_putObj' W D (.deferred none)) hB.size (fun k e => by cases e; omega)
  case stop =>
   rintro D c' pre W _ _ h _
   exact h.elim
end Go.Proofs.YtfkcbgehcbhjnaaGreatDoor
namespace Go.Proofs.YtfkcbgehcbhjnaaGreatDoor
open Go.RowKit
open Sp (rd)
set_option maxRecDepth 100000
set_option maxHeartbeats 1000000
def missedΦ (p : EP) (e : Ec.Engine) (set : List Int) (lo : Int) (hi : Int) (late : Int) (w0 : World) (i : Nat) (v : Value) (w : World) : Prop :=
 match i with
 | 0 => v = .agg #[.slice p.Ab e.sky.bodies.length p.cb, .int .i64 e.sky.nnum, .int .i64 e.sky.nden, .int .i64 e.sky.nstart, .slice p.As e.sun.length p.cs, .slice p.Am e.moon.length p.cm, .slice p.An e.node.length p.cn, .slice p.Af e.feasts.length p.cf, .int .i64 e.nw, .int .i64 e.fl, .int .i64 e.wide]
 | 1 => v = .slice p.At set.length p.ct
 | 2 => v = .int .i64 lo
 | 3 => v = .int .i64 hi
 | 4 => v = .bool true
 | 5 => v = .bool true
 | 6 => v = .int .i64 late
 | 7 => v = .bool true
 | 8 => v = .bool true
 | 9 => AskTup p e set w0 v w
 | 10 => AskTup p e set w0 v w
 | 11 => AskAgg p e set w0 v w
 | 12 => v = .int .i64 0
 | _ => AskNew w0 v w
theorem missedΦ_mono {p : EP} {e : Ec.Engine} {set : List Int} {lo : Int} {hi : Int} {late : Int} {w0 : World} (i : Nat) (v : Value) (w w' : World) (h : missedΦ p e set lo hi late w0 i v w) (he : Ext w w') : missedΦ p e set lo hi late w0 i v w' := by
 unfold missedΦ at h ⊢
 split at h <;> first
  | exact h
  | exact AskTup.ext h he
  | exact AskAgg.ext h he
  | exact AskNew.ext h he
theorem e_Missed_ok (p : EP) (e : Ec.Engine) (set : List Int) (lo hi late : Int) (w : World) (hm : EngSet w p e set) (hl : EngShort e) (hs : set.length ≤ 100000) (c0 : Ec.engineOk e = true) (c1 : Ec.setOk e.feasts set = true) (c2 : Ec.isSpan lo hi = true) (c3 : Ec.isLate late = true) :
  Calls Tryz.prog 36 #[.agg #[.slice p.Ab e.sky.bodies.length p.cb, .int .i64 e.sky.nnum, .int .i64 e.sky.nden, .int .i64 e.sky.nstart, .slice p.As e.sun.length p.cs, .slice p.Am e.moon.length p.cm, .slice p.An e.node.length p.cn, .slice p.Af e.feasts.length p.cf, .int .i64 e.nw, .int .i64 e.fl, .int .i64 e.wide], .slice p.At set.length p.ct, .int .i64 lo, .int .i64 hi, .int .i64 late] w fun r w' => ∃ v, r = .returned (.tuple #[v, .int .i64 0]) ∧ EclVal w' v (Ec.missedL e set lo hi late) ∧ Ext w w' := by
 have HM := Lib.hid hm
 have HL := Lib.hid hl
 have HK : Hid (Fine e set) := Lib.hid ⟨c0, c1⟩
 have HR0 : Hid (Row (w.alloc (.cells #[.slice p.Ab e.sky.bodies.length p.cb, .int .i64 e.sky.nnum, .int .i64 e.sky.nden, .int .i64 e.sky.nstart, .slice p.As e.sun.length p.cs, .slice p.Am e.moon.length p.cm, .slice p.An e.node.length p.cn, .slice p.Af e.feasts.length p.cf, .int .i64 e.nw, .int .i64 e.fl, .int .i64 e.wide] 76)) w.heap.size 76 #[.slice p.Ab e.sky.bodies.length p.cb, .int .i64 e.sky.nnum, .int .i64 e.sky.nden, .int .i64 e.sky.nstart, .slice p.As e.sun.length p.cs, .slice p.Am e.moon.length p.cm, .slice p.An e.node.length p.cn, .slice p.Af e.feasts.length p.cf, .int .i64 e.nw, .int .i64 e.fl, .int .i64 e.wide]) := Lib.hid (Row.new w _ _)
 have HE0 := Lib.hid ((Ext.refl w).alloc (.cells #[.slice p.Ab e.sky.bodies.length p.cb, .int .i64 e.sky.nnum, .int .i64 e.sky.nden, .int .i64 e.sky.nstart, .slice p.As e.sun.length p.cs, .slice p.Am e.moon.length p.cm, .slice p.An e.node.length p.cn, .slice p.Af e.feasts.length p.cf, .int .i64 e.nw, .int .i64 e.fl, .int .i64 e.wide] 76))
 have hd : 1 ≤ lo ∧ lo ≤ hi ∧ hi ≤ 9000 ∧ hi - lo ≤ 400 := by
  simp only [Ec.isSpan, Sp.inR, Bool.and_eq_true, decide_eq_true_eq] at c2
  omega
 have hla : 0 ≤ late ∧ late ≤ 30 := by
  simp only [Ec.isLate, Sp.inR, Bool.and_eq_true, decide_eq_true_eq] at c3
  omega
 clear hm hl
 go_enter Tryz.func36, Tryz.ntmps36
 go_wp2_with fail
 obtain ⟨W, hW⟩ : ∃ W, w.alloc (.cells #[.slice p.Ab e.sky.bodies.length p.cb, .int .i64 e.sky.nnum, .int .i64 e.sky.nden, .int .i64 e.sky.nstart, .slice p.As e.sun.length p.cs, .slice p.Am e.moon.length p.cm, .slice p.An e.node.length p.cn, .slice p.Af e.feasts.length p.cf, .int .i64 e.nw, .int .i64 e.fl, .int .i64 e.wide] 76) = W := ⟨_, rfl⟩
 rw [hW] at HR0 HE0 ⊢
 clear hW
 refine Code.wp_mono (Q := fun e' a' w' => e' = .normal ∧ ∃ M4 M5 M b, W.heap.size ≤ b ∧ W.heap.size ≤ M ∧ Ext W w' ∧ Row w' b 105 #[.slice p.Ab e.sky.bodies.length p.cb, .int .i64 e.sky.nnum, .int .i64 e.sky.nden, .int .i64 e.sky.nstart, .slice p.As e.sun.length p.cs, .slice p.Am e.moon.length p.cm, .slice p.An e.node.length p.cn, .slice p.Af e.feasts.length p.cf, .int .i64 e.nw, .int .i64 e.fl, .int .i64 e.wide, .slice p.At set.length p.ct, .map (some M)] ∧ Seen e set M w' ∧ a' = (⟨#[.agg #[.slice p.Ab e.sky.bodies.length p.cb, .int .i64 e.sky.nnum, .int .i64 e.sky.nden, .int .i64 e.sky.nstart, .slice p.As e.sun.length p.cs, .slice p.Am e.moon.length p.cm, .slice p.An e.node.length p.cn, .slice p.Af e.feasts.length p.cf, .int .i64 e.nw, .int .i64 e.fl, .int .i64 e.wide], .slice p.At set.length p.ct, .int .i64 lo, .int .i64 hi, .int .i64 late, .pointer (some ⟨w.heap.size, 0, none⟩), undef, undef, undef, undef, .slice none 0 0, .int .i64 0, .pointer (some ⟨b, 0, none⟩), .int .i64 0, .tuple #[.agg #[.slice p.Ab e.sky.bodies.length p.cb, .int .i64 e.sky.nnum, .int .i64 e.sky.nden, .int .i64 e.sky.nstart, .slice p.As e.sun.length p.cs, .slice p.Am e.moon.length p.cm, .slice p.An e.node.length p.cn, .slice p.Af e.feasts.length p.cf, .int .i64 e.nw, .int .i64 e.fl, .int .i64 e.wide, .slice p.At set.length p.ct, .map (some M5)], .int .i64 0], .agg #[.slice p.Ab e.sky.bodies.length p.cb, .int .i64 e.sky.nnum, .int .i64 e.sky.nden, .int .i64 e.sky.nstart, .slice p.As e.sun.length p.cs, .slice p.Am e.moon.length p.cm, .slice p.An e.node.length p.cn, .slice p.Af e.feasts.length p.cf, .int .i64 e.nw, .int .i64 e.fl, .int .i64 e.wide], .slice p.At set.length p.ct, .int .i64 lo, .int .i64 hi, .bool true, .bool true, .int .i64 late, .bool true, .bool true, .tuple #[.agg #[.slice p.Ab e.sky.bodies.length p.cb, .int .i64 e.sky.nnum, .int .i64 e.sky.nden, .int .i64 e.sky.nstart, .slice p.As e.sun.length p.cs, .slice p.Am e.moon.length p.cm, .slice p.An e.node.length p.cn, .slice p.Af e.feasts.length p.cf, .int .i64 e.nw, .int .i64 e.fl, .int .i64 e.wide, .slice p.At set.length p.ct, .map (some M4)], .int .i64 0], .agg #[.slice p.Ab e.sky.bodies.length p.cb, .int .i64 e.sky.nnum, .int .i64 e.sky.nden, .int .i64 e.sky.nstart, .slice p.As e.sun.length p.cs, .slice p.Am e.moon.length p.cm, .slice p.An e.node.length p.cn, .slice p.Af e.feasts.length p.cf, .int .i64 e.nw, .int .i64 e.fl, .int .i64 e.wide, .slice p.At set.length p.ct, .map (some M)], .int .i64 0, undef, undef, undef, undef, undef, undef, undef, undef], []⟩ : Act)) ?hq (wp_region_free_tail 14 12 (missedΦ p e set lo hi late W) (by kernel_rfl) (by simp) (by kernel_rfl) (by kernel_rfl) (by kernel_rfl) (by kernel_rfl) missedΦ_mono ?hob ?hQ ?hZ)
 case hob =>
  intro i o hin ho a wa hE hF
  match i, hin with
  | 0, _ =>
   cases ho
   have h0 : a.tmps[5]?.getD undef = .pointer (some ⟨w.heap.size, 0, none⟩) := evalD (hF.old 5 (by decide))
   have q := (HR0.out.ext hE).cell
   refine Ran.value rfl (v := .agg #[.slice p.Ab e.sky.bodies.length p.cb, .int .i64 e.sky.nnum, .int .i64 e.sky.nden, .int .i64 e.sky.nstart, .slice p.As e.sun.length p.cs, .slice p.Am e.moon.length p.cm, .slice p.An e.node.length p.cn, .slice p.Af e.feasts.length p.cf, .int .i64 e.nw, .int .i64 e.fl, .int .i64 e.wide]) (w1 := wa) ?_ ⟨rfl, Ext.refl _⟩
   go_simp
  | 1, _ =>
   cases ho
   have h0 : a.tmps[1]?.getD undef = .slice p.At set.length p.ct := evalD (hF.old 1 (by decide))
   refine Ran.value rfl (v := .slice p.At set.length p.ct) (w1 := wa) ?_ ⟨rfl, Ext.refl _⟩
   go_simp
  | 2, _ =>
   cases ho
   have h0 : a.tmps[2]?.getD undef = .int .i64 lo := evalD (hF.old 2 (by decide))
   refine Ran.value rfl (v := .int .i64 lo) (w1 := wa) ?_ ⟨rfl, Ext.refl _⟩
   go_simp
  | 3, _ =>
   cases ho
   have h0 : a.tmps[3]?.getD undef = .int .i64 hi := evalD (hF.old 3 (by decide))
   refine Ran.value rfl (v := .int .i64 hi) (w1 := wa) ?_ ⟨rfl, Ext.refl _⟩
   go_simp
  | 4, _ =>
   cases ho
   have h0 : a.tmps[17]?.getD undef = .int .i64 lo := evalD (hF.from_ 2 17 rfl (by decide))
   have h1 : a.tmps[18]?.getD undef = .int .i64 hi := evalD (hF.from_ 3 18 rfl (by decide))
   refine Ran.enter rfl (f := 69) (args := #[.int .i64 lo, .int .i64 hi]) (w1 := wa) ?_ ?_
   ·go_simp
   ·refine (e_isSpan_any lo hi _).mono ?_
    rintro r w1 ⟨rfl, rfl⟩
    exact ⟨_, rfl, by rw [c2]; rfl, Ext.refl _⟩
  | 5, _ =>
   cases ho
   have h0 : a.tmps[19]?.getD undef = .bool true := evalD (hF.from_ 4 19 rfl (by decide))
   refine Ran.value rfl (v := .bool true) (w1 := wa) ?_ ⟨rfl, Ext.refl _⟩
   go_simp
  | 6, _ =>
   cases ho
   have hg : a.eval (.tmp 20) = .bool true := hF.from_ 5 20 rfl (by decide)
   refine Ran.if_ rfl rfl rfl hg (fun _ => ?_) (fun h => absurd rfl h)
   have h0 : a.tmps[4]?.getD undef = .int .i64 late := evalD (hF.old 4 (by decide))
   refine Ran.value rfl (v := .int .i64 late) (w1 := wa) ?_ ⟨rfl, Ext.refl _⟩
   go_simp
  | 7, _ =>
   cases ho
   have hg : a.eval (.tmp 20) = .bool true := hF.from_ 5 20 rfl (by decide)
   refine Ran.if_ rfl rfl rfl hg (fun _ => ?_) (fun h => absurd rfl h)
   have h0 : a.tmps[21]?.getD undef = .int .i64 late := evalD (hF.from_ 6 21 rfl (by decide))
   refine Ran.enter rfl (f := 71) (args := #[.int .i64 late]) (w1 := wa) ?_ ?_
   ·go_simp
   ·refine (e_isLate_any late _).mono ?_
    rintro r w1 ⟨rfl, rfl⟩
    exact ⟨_, rfl, by rw [c3]; rfl, Ext.refl _⟩
  | 8, _ =>
   cases ho
   have h0 : a.tmps[20]?.getD undef = .bool true := evalD (hF.from_ 5 20 rfl (by decide))
   have h1 : a.tmps[22]?.getD undef = .bool true := evalD (hF.from_ 7 22 rfl (by decide))
   refine Ran.value rfl (v := .bool true) (w1 := wa) ?_ ⟨rfl, Ext.refl _⟩
   go_simp
  | 9, _ =>
   cases ho
   have h0 : a.tmps[15]?.getD undef = .agg #[.slice p.Ab e.sky.bodies.length p.cb, .int .i64 e.sky.nnum, .int .i64 e.sky.nden, .int .i64 e.sky.nstart, .slice p.As e.sun.length p.cs, .slice p.Am e.moon.length p.cm, .slice p.An e.node.length p.cn, .slice p.Af e.feasts.length p.cf, .int .i64 e.nw, .int .i64 e.fl, .int .i64 e.wide] := evalD (hF.from_ 0 15 rfl (by decide))
   have h1 : a.tmps[16]?.getD undef = .slice p.At set.length p.ct := evalD (hF.from_ 1 16 rfl (by decide))
   have h2 : a.tmps[23]?.getD undef = .bool true := evalD (hF.from_ 8 23 rfl (by decide))
   refine Ran.enter rfl (f := 62) (args := #[.agg #[.slice p.Ab e.sky.bodies.length p.cb, .int .i64 e.sky.nnum, .int .i64 e.sky.nden, .int .i64 e.sky.nstart, .slice p.As e.sun.length p.cs, .slice p.Am e.moon.length p.cm, .slice p.An e.node.length p.cn, .slice p.Af e.feasts.length p.cf, .int .i64 e.nw, .int .i64 e.fl, .int .i64 e.wide], .slice p.At set.length p.ct, .bool true]) (w1 := wa) ?_ ?_
   ·go_simp
   ·refine (e_asked_ok p e set wa (HM.out.ext (HE0.out.trans hE)) HL.out hs c0 c1).mono ?_
    rintro r w1 ⟨M, rfl, hM, hC, hX⟩
    exact ⟨_, rfl, ⟨M, rfl, Nat.le_trans hE.size hM, hC⟩, hX⟩
  | 10, _ =>
   cases ho
   obtain ⟨M, h0, hM, hC⟩ : AskTup p e set W (a.eval (.tmp 24)) wa := hF.from_ 9 24 rfl (by decide)
   replace h0 := evalD h0
   refine Ran.value rfl (w1 := wa) (v := .tuple #[.agg #[.slice p.Ab e.sky.bodies.length p.cb, .int .i64 e.sky.nnum, .int .i64 e.sky.nden, .int .i64 e.sky.nstart, .slice p.As e.sun.length p.cs, .slice p.Am e.moon.length p.cm, .slice p.An e.node.length p.cn, .slice p.Af e.feasts.length p.cf, .int .i64 e.nw, .int .i64 e.fl, .int .i64 e.wide, .slice p.At set.length p.ct, .map (some M)], .int .i64 0]) ?_ ⟨⟨M, rfl, hM, hC⟩, Ext.refl _⟩
   go_simp
  | 11, _ =>
   cases ho
   obtain ⟨M, h0, hM, hC⟩ : AskTup p e set W (a.eval (.tmp 14)) wa := hF.from_ 10 14 rfl (by decide)
   replace h0 := evalD h0
   refine Ran.value rfl (w1 := wa) (v := .agg #[.slice p.Ab e.sky.bodies.length p.cb, .int .i64 e.sky.nnum, .int .i64 e.sky.nden, .int .i64 e.sky.nstart, .slice p.As e.sun.length p.cs, .slice p.Am e.moon.length p.cm, .slice p.An e.node.length p.cn, .slice p.Af e.feasts.length p.cf, .int .i64 e.nw, .int .i64 e.fl, .int .i64 e.wide, .slice p.At set.length p.ct, .map (some M)]) ?_ ⟨⟨M, rfl, hM, hC⟩, Ext.refl _⟩
   go_simp
  | 12, _ =>
   cases ho
   obtain ⟨M, h0, hM, hC⟩ : AskTup p e set W (a.eval (.tmp 14)) wa := hF.from_ 10 14 rfl (by decide)
   replace h0 := evalD h0
   refine Ran.value rfl (w1 := wa) (v := .int .i64 0) ?_ ⟨rfl, Ext.refl _⟩
   go_simp
  | 13, _ =>
   cases ho
   refine Ran.value rfl (w1 := wa.alloc (.cells zeroEng 105)) (v := .pointer (some ⟨wa.heap.size, 0, none⟩)) (by kernel_rfl) ⟨⟨wa.heap.size, rfl, hE.size, Row.new _ _ _⟩, (Ext.refl _).alloc _⟩
  | k + 14, hin => omega
 case hQ =>
  intro vs w2 hE hΦ
  have f0 : vs 0 = .agg #[.slice p.Ab e.sky.bodies.length p.cb, .int .i64 e.sky.nnum, .int .i64 e.sky.nden, .int .i64 e.sky.nstart, .slice p.As e.sun.length p.cs, .slice p.Am e.moon.length p.cm, .slice p.An e.node.length p.cn, .slice p.Af e.feasts.length p.cf, .int .i64 e.nw, .int .i64 e.fl, .int .i64 e.wide] := hΦ 0 (by omega)
  have f1 : vs 1 = .slice p.At set.length p.ct := hΦ 1 (by omega)
  have f2 : vs 2 = .int .i64 lo := hΦ 2 (by omega)
  have f3 : vs 3 = .int .i64 hi := hΦ 3 (by omega)
  have f4 : vs 4 = .bool true := hΦ 4 (by omega)
  have f5 : vs 5 = .bool true := hΦ 5 (by omega)
  have f6 : vs 6 = .int .i64 late := hΦ 6 (by omega)
  have f7 : vs 7 = .bool true := hΦ 7 (by omega)
  have f8 : vs 8 = .bool true := hΦ 8 (by omega)
  obtain ⟨M4, f9, _, _⟩ : AskTup p e set W (vs 9) w2 := hΦ 9 (by omega)
  obtain ⟨M5, f10, _, _⟩ : AskTup p e set W (vs 10) w2 := hΦ 10 (by omega)
  obtain ⟨M, f11, hM, hC⟩ : AskAgg p e set W (vs 11) w2 := hΦ 11 (by omega)
  have f12 : vs 12 = .int .i64 0 := hΦ 12 (by omega)
  obtain ⟨b, f13, hb, hr⟩ : AskNew W (vs 13) w2 := hΦ 13 (by omega)
  have hrg : List.range 14 = [0, 1, 2, 3, 4, 5, 6, 7, 8, 9, 10, 11, 12, 13] := rfl
  unfold putAll putS
  simp only [List.length_cons, List.length_nil, List.take_succ_cons, List.take_zero, List.drop_succ_cons, List.drop_zero, Nat.reduceAdd, hrg, List.foldl_cons, List.foldl_nil, dstOf, List.getElem?_cons_succ, List.getElem?_cons_zero, Option.bind_some]
  clear hrg
  rw [f0, f1, f2, f3, f4, f5, f6, f7, f8, f9, f10, f11, f12, f13]
  have c := hr.cell
  simp only [zeroEng] at c
  have fz := hr.free
  have hne : b ≠ M := fun h => (hC.not_row hr) h
  go_wp2
  clear c fz
  obtain ⟨W3, hW3⟩ : ∃ W3, setsAt w2 b 0 [.slice p.Ab e.sky.bodies.length p.cb, .int .i64 e.sky.nnum, .int .i64 e.sky.nden, .int .i64 e.sky.nstart, .slice p.As e.sun.length p.cs, .slice p.Am e.moon.length p.cm, .slice p.An e.node.length p.cn, .slice p.Af e.feasts.length p.cf, .int .i64 e.nw, .int .i64 e.fl, .int .i64 e.wide, .slice p.At set.length p.ct, .map (some M)] = W3 := ⟨_, rfl⟩
  have hR3 : Row W3 b 105 #[.slice p.Ab e.sky.bodies.length p.cb, .int .i64 e.sky.nnum, .int .i64 e.sky.nden, .int .i64 e.sky.nstart, .slice p.As e.sun.length p.cs, .slice p.Am e.moon.length p.cm, .slice p.An e.node.length p.cn, .slice p.Af e.feasts.length p.cf, .int .i64 e.nw, .int .i64 e.fl, .int .i64 e.wide, .slice p.At set.length p.ct, .map (some M)] := by rw [← hW3]; exact Row.sets (cs := [.slice none 0 0, .int .i64 0, .int .i64 0, .int .i64 0, .slice none 0 0, .slice none 0 0, .slice none 0 0, .slice none 0 0, .int .i64 0, .int .i64 0, .int .i64 0, .slice none 0 0, .map none]) hr _ rfl
  have hE3 : Ext W W3 := by rw [← hW3]; exact Ext.sets hb _ _ _ hE
  have hC3 : Seen e set M W3 := by rw [← hW3]; exact Cache.sets hne _ _ _ hC
  simp only [setsAt, Nat.reduceAdd] at hW3
  try rw [hW3]
  exact ⟨M4, M5, M, b, hb, hM, hE3, hR3, hC3, by simp⟩
 case hZ =>
  intro _ vs w2 hE hΦ on oz hon hoz
  obtain rfl := Option.some.inj hon
  obtain rfl := Option.some.inj hoz
  have f0 : vs 0 = .agg #[.slice p.Ab e.sky.bodies.length p.cb, .int .i64 e.sky.nnum, .int .i64 e.sky.nden, .int .i64 e.sky.nstart, .slice p.As e.sun.length p.cs, .slice p.Am e.moon.length p.cm, .slice p.An e.node.length p.cn, .slice p.Af e.feasts.length p.cf, .int .i64 e.nw, .int .i64 e.fl, .int .i64 e.wide] := hΦ 0 (by omega) (by omega)
  have f1 : vs 1 = .slice p.At set.length p.ct := hΦ 1 (by omega) (by omega)
  have f2 : vs 2 = .int .i64 lo := hΦ 2 (by omega) (by omega)
  have f3 : vs 3 = .int .i64 hi := hΦ 3 (by omega) (by omega)
  have f4 : vs 4 = .bool true := hΦ 4 (by omega) (by omega)
  have f5 : vs 5 = .bool true := hΦ 5 (by omega) (by omega)
  have f6 : vs 6 = .int .i64 late := hΦ 6 (by omega) (by omega)
  have f7 : vs 7 = .bool true := hΦ 7 (by omega) (by omega)
  have f8 : vs 8 = .bool true := hΦ 8 (by omega) (by omega)
  obtain ⟨M4, f9, _, _⟩ : AskTup p e set W (vs 9) w2 := hΦ 9 (by omega) (by omega)
  obtain ⟨M5, f10, _, _⟩ : AskTup p e set W (vs 10) w2 := hΦ 10 (by omega) (by omega)
  obtain ⟨M, f11, hM, hC⟩ : AskAgg p e set W (vs 11) w2 := hΦ 11 (by omega) (by omega)
  obtain ⟨b, f13, hb, hr⟩ : AskNew W (vs 13) w2 := hΦ 13 (by omega) (by omega)
  have hrg : (List.range 14).filter (· ≠ 12) = [0, 1, 2, 3, 4, 5, 6, 7, 8, 9, 10, 11, 13] := by decide
  rw [hrg]
  unfold putS
  simp only [List.take_succ_cons, List.take_zero, List.drop_succ_cons, List.drop_zero, Nat.reduceAdd, List.foldl_cons, List.foldl_nil, dstOf, List.getElem?_cons_succ, List.getElem?_cons_zero, Option.bind_some]
  clear hrg
  rw [f0, f1, f2, f3, f4, f5, f6, f7, f8, f9, f10, f11, f13]
  have c := hr.cell
  simp only [zeroEng] at c
  have fz := hr.free
  have hne : b ≠ M := fun h => (hC.not_row hr) h
  go_wp2
  clear c fz
  obtain ⟨W3, hW3⟩ : ∃ W3, setsAt w2 b 0 [.slice p.Ab e.sky.bodies.length p.cb, .int .i64 e.sky.nnum, .int .i64 e.sky.nden, .int .i64 e.sky.nstart, .slice p.As e.sun.length p.cs, .slice p.Am e.moon.length p.cm, .slice p.An e.node.length p.cn, .slice p.Af e.feasts.length p.cf, .int .i64 e.nw, .int .i64 e.fl, .int .i64 e.wide, .slice p.At set.length p.ct, .map (some M)] = W3 := ⟨_, rfl⟩
  have hR3 : Row W3 b 105 #[.slice p.Ab e.sky.bodies.length p.cb, .int .i64 e.sky.nnum, .int .i64 e.sky.nden, .int .i64 e.sky.nstart, .slice p.As e.sun.length p.cs, .slice p.Am e.moon.length p.cm, .slice p.An e.node.length p.cn, .slice p.Af e.feasts.length p.cf, .int .i64 e.nw, .int .i64 e.fl, .int .i64 e.wide, .slice p.At set.length p.ct, .map (some M)] := by rw [← hW3]; exact Row.sets (cs := [.slice none 0 0, .int .i64 0, .int .i64 0, .int .i64 0, .slice none 0 0, .slice none 0 0, .slice none 0 0, .slice none 0 0, .int .i64 0, .int .i64 0, .int .i64 0, .slice none 0 0, .map none]) hr _ rfl
  have hE3 : Ext W W3 := by rw [← hW3]; exact Ext.sets hb _ _ _ hE
  have hC3 : Seen e set M W3 := by rw [← hW3]; exact Cache.sets hne _ _ _ hC
  simp only [setsAt, Nat.reduceAdd] at hW3
  try rw [hW3]
  exact ⟨M4, M5, M, b, hb, hM, hE3, hR3, hC3, by simp⟩
 case hq =>
  rintro e' a' w3 ⟨rfl, M4, M5, M, b, hb, hM, hE3, hR3, hC3, rfl⟩
  have hMw := Nat.le_trans HE0.out.size hM
  have HE3 := Lib.hid (HE0.out.trans hE3)
  have HR3 := Lib.hid hR3
  have HC3 := Lib.hid hC3
  have c := hR3.cell
  clear hE3 hR3 hC3
  go_wp2_with fail
  refine (e_missed_any p e set M lo hi late w _ HK.out HM.out hMw HE3.out HC3.out HL.out.sky hd.1 hd.2.1 hd.2.2.1 hd.2.2.2 hla.1 hla.2).mono ?_
  rintro r w4 ⟨v, rfl, hv, hmv⟩
  have hE4 := HE3.out.trans' (hmv.below hMw HE3.out.size)
  clear hmv c
  go_wp2_with fail
  go_ret2
  exact ⟨v, rfl, hv, hE4⟩
def withinΦ (p : EP) (e : Ec.Engine) (set : List Int) (lo : Int) (hi : Int) (w0 : World) (i : Nat) (v : Value) (w : World) : Prop :=
 match i with
 | 0 => v = .agg #[.slice p.Ab e.sky.bodies.length p.cb, .int .i64 e.sky.nnum, .int .i64 e.sky.nden, .int .i64 e.sky.nstart, .slice p.As e.sun.length p.cs, .slice p.Am e.moon.length p.cm, .slice p.An e.node.length p.cn, .slice p.Af e.feasts.length p.cf, .int .i64 e.nw, .int .i64 e.fl, .int .i64 e.wide]
 | 1 => v = .slice p.At set.length p.ct
 | 2 => v = .int .i64 lo
 | 3 => v = .int .i64 hi
 | 4 => v = .bool true
 | 5 => AskTup p e set w0 v w
 | 6 => AskTup p e set w0 v w
 | 7 => AskAgg p e set w0 v w
 | 8 => v = .int .i64 0
 | _ => AskNew w0 v w
theorem withinΦ_mono {p : EP} {e : Ec.Engine} {set : List Int} {lo : Int} {hi : Int} {w0 : World} (i : Nat) (v : Value) (w w' : World) (h : withinΦ p e set lo hi w0 i v w) (he : Ext w w') : withinΦ p e set lo hi w0 i v w' := by
 unfold withinΦ at h ⊢
 split at h <;> first
  | exact h
  | exact AskTup.ext h he
  | exact AskAgg.ext h he
  | exact AskNew.ext h he
theorem withinN_at (e : Ec.Engine) (set : List Int) (lo hi : Int) : ∀ (n k : Nat) (i : Int), k < n → (∀ j : Nat, j < k → (Ec.missedL e set lo hi (i + j)).length ≠ 0) → (Ec.missedL e set lo hi (i + k)).length = 0 → Ec.withinN e set lo hi i n = some (i + k)
 | 0, _, _, h, _, _ => by omega
 | n + 1, 0, i, _, _, h => by
  simp only [Int.natCast_zero, Int.add_zero] at h ⊢
  simp [Ec.withinN, h]
 | n + 1, k + 1, i, hk, hj, h => by
  have h0 := hj 0 (by omega)
  simp only [Int.natCast_zero, Int.add_zero] at h0
  simp only [Ec.withinN, h0, if_false]
  have := withinN_at e set lo hi n k (i + 1) (by omega) (fun j hj' => by
   have := hj (j + 1) (by omega)
   rwa [show i + 1 + (j : Int) = i + ((j + 1 : Nat) : Int) by omega]) (by rwa [show i + 1 + (k : Int) = i + ((k + 1 : Nat) : Int) by omega])
  rw [this]
  congr 1
  omega
theorem withinN_no (e : Ec.Engine) (set : List Int) (lo hi : Int) : ∀ (n : Nat) (i : Int), (∀ j : Nat, j < n → (Ec.missedL e set lo hi (i + j)).length ≠ 0) → Ec.withinN e set lo hi i n = none
 | 0, _, _ => rfl
 | n + 1, i, hj => by
  have h0 := hj 0 (by omega)
  simp only [Int.natCast_zero, Int.add_zero] at h0
  simp only [Ec.withinN, h0, if_false]
  exact withinN_no e set lo hi n (i + 1) fun j hj' => by
   have := hj (j + 1) (by omega)
   rwa [show i + 1 + (j : Int) = i + ((j + 1 : Nat) : Int) by omega]
def withinV (o : Option Int) : Value := match o with
 | some n => .tuple #[.int .i64 n, .int .i64 0]
 | none => .tuple #[.int .i64 0, .int .i64 5]
def WinRel (w3 : World) (e : Ec.Engine) (set : List Int) (M : Nat) (lo hi : Int) (d : Value) (wr : World) : Prop :=
 ∃ k : Nat, k ≤ 31 ∧ d = .int .i64 k ∧ Hid (∀ j : Nat, j < k → (Ec.missedL e set lo hi j).length ≠ 0) ∧ Move e set M w3 wr
theorem e_Within_ok (p : EP) (e : Ec.Engine) (set : List Int) (lo hi : Int) (w : World) (hm : EngSet w p e set) (hl : EngShort e) (hs : set.length ≤ 100000) (c0 : Ec.engineOk e = true) (c1 : Ec.setOk e.feasts set = true) (c2 : Ec.isSpan lo hi = true) :
  Calls Tryz.prog 37 #[.agg #[.slice p.Ab e.sky.bodies.length p.cb, .int .i64 e.sky.nnum, .int .i64 e.sky.nden, .int .i64 e.sky.nstart, .slice p.As e.sun.length p.cs, .slice p.Am e.moon.length p.cm, .slice p.An e.node.length p.cn, .slice p.Af e.feasts.length p.cf, .int .i64 e.nw, .int .i64 e.fl, .int .i64 e.wide], .slice p.At set.length p.ct, .int .i64 lo, .int .i64 hi] w fun r w' => r = .returned (withinV (Ec.withinO e set lo hi)) ∧ Ext w w' := by
 have HM := Lib.hid hm
 have HL := Lib.hid hl
 have HK : Hid (Fine e set) := Lib.hid ⟨c0, c1⟩
 have HR0 : Hid (Row (w.alloc (.cells #[.slice p.Ab e.sky.bodies.length p.cb, .int .i64 e.sky.nnum, .int .i64 e.sky.nden, .int .i64 e.sky.nstart, .slice p.As e.sun.length p.cs, .slice p.Am e.moon.length p.cm, .slice p.An e.node.length p.cn, .slice p.Af e.feasts.length p.cf, .int .i64 e.nw, .int .i64 e.fl, .int .i64 e.wide] 76)) w.heap.size 76 #[.slice p.Ab e.sky.bodies.length p.cb, .int .i64 e.sky.nnum, .int .i64 e.sky.nden, .int .i64 e.sky.nstart, .slice p.As e.sun.length p.cs, .slice p.Am e.moon.length p.cm, .slice p.An e.node.length p.cn, .slice p.Af e.feasts.length p.cf, .int .i64 e.nw, .int .i64 e.fl, .int .i64 e.wide]) := Lib.hid (Row.new w _ _)
 have HE0 := Lib.hid ((Ext.refl w).alloc (.cells #[.slice p.Ab e.sky.bodies.length p.cb, .int .i64 e.sky.nnum, .int .i64 e.sky.nden, .int .i64 e.sky.nstart, .slice p.As e.sun.length p.cs, .slice p.Am e.moon.length p.cm, .slice p.An e.node.length p.cn, .slice p.Af e.feasts.length p.cf, .int .i64 e.nw, .int .i64 e.fl, .int .i64 e.wide] 76))
 have hd : 1 ≤ lo ∧ lo ≤ hi ∧ hi ≤ 9000 ∧ hi - lo ≤ 400 := by
  simp only [Ec.isSpan, Sp.inR, Bool.and_eq_true, decide_eq_true_eq] at c2
  omega
 clear hm hl
 go_enter Tryz.func37, Tryz.ntmps37
 go_wp2_with fail
 obtain ⟨W, hW⟩ : ∃ W, w.alloc (.cells #[.slice p.Ab e.sky.bodies.length p.cb, .int .i64 e.sky.nnum, .int .i64 e.sky.nden, .int .i64 e.sky.nstart, .slice p.As e.sun.length p.cs, .slice p.Am e.moon.length p.cm, .slice p.An e.node.length p.cn, .slice p.Af e.feasts.length p.cf, .int .i64 e.nw, .int .i64 e.fl, .int .i64 e.wide] 76) = W := ⟨_, rfl⟩
 rw [hW] at HR0 HE0 ⊢
 clear hW
 refine Code.wp_mono (Q := fun e' a' w' => e' = .normal ∧ ∃ M4 M5 M b, W.heap.size ≤ b ∧ W.heap.size ≤ M ∧ Ext W w' ∧ Row w' b 105 #[.slice p.Ab e.sky.bodies.length p.cb, .int .i64 e.sky.nnum, .int .i64 e.sky.nden, .int .i64 e.sky.nstart, .slice p.As e.sun.length p.cs, .slice p.Am e.moon.length p.cm, .slice p.An e.node.length p.cn, .slice p.Af e.feasts.length p.cf, .int .i64 e.nw, .int .i64 e.fl, .int .i64 e.wide, .slice p.At set.length p.ct, .map (some M)] ∧ Seen e set M w' ∧ a' = (⟨#[.agg #[.slice p.Ab e.sky.bodies.length p.cb, .int .i64 e.sky.nnum, .int .i64 e.sky.nden, .int .i64 e.sky.nstart, .slice p.As e.sun.length p.cs, .slice p.Am e.moon.length p.cm, .slice p.An e.node.length p.cn, .slice p.Af e.feasts.length p.cf, .int .i64 e.nw, .int .i64 e.fl, .int .i64 e.wide], .slice p.At set.length p.ct, .int .i64 lo, .int .i64 hi, .pointer (some ⟨w.heap.size, 0, none⟩), undef, undef, undef, .int .i64 0, .int .i64 0, .pointer (some ⟨b, 0, none⟩), .int .i64 0, undef, .tuple #[.agg #[.slice p.Ab e.sky.bodies.length p.cb, .int .i64 e.sky.nnum, .int .i64 e.sky.nden, .int .i64 e.sky.nstart, .slice p.As e.sun.length p.cs, .slice p.Am e.moon.length p.cm, .slice p.An e.node.length p.cn, .slice p.Af e.feasts.length p.cf, .int .i64 e.nw, .int .i64 e.fl, .int .i64 e.wide, .slice p.At set.length p.ct, .map (some M5)], .int .i64 0], .agg #[.slice p.Ab e.sky.bodies.length p.cb, .int .i64 e.sky.nnum, .int .i64 e.sky.nden, .int .i64 e.sky.nstart, .slice p.As e.sun.length p.cs, .slice p.Am e.moon.length p.cm, .slice p.An e.node.length p.cn, .slice p.Af e.feasts.length p.cf, .int .i64 e.nw, .int .i64 e.fl, .int .i64 e.wide], .slice p.At set.length p.ct, .int .i64 lo, .int .i64 hi, .bool true, .tuple #[.agg #[.slice p.Ab e.sky.bodies.length p.cb, .int .i64 e.sky.nnum, .int .i64 e.sky.nden, .int .i64 e.sky.nstart, .slice p.As e.sun.length p.cs, .slice p.Am e.moon.length p.cm, .slice p.An e.node.length p.cn, .slice p.Af e.feasts.length p.cf, .int .i64 e.nw, .int .i64 e.fl, .int .i64 e.wide, .slice p.At set.length p.ct, .map (some M4)], .int .i64 0], .agg #[.slice p.Ab e.sky.bodies.length p.cb, .int .i64 e.sky.nnum, .int .i64 e.sky.nden, .int .i64 e.sky.nstart, .slice p.As e.sun.length p.cs, .slice p.Am e.moon.length p.cm, .slice p.An e.node.length p.cn, .slice p.Af e.feasts.length p.cf, .int .i64 e.nw, .int .i64 e.fl, .int .i64 e.wide, .slice p.At set.length p.ct, .map (some M)], .int .i64 0, undef, undef, undef, undef, undef, undef, undef, undef, undef, undef, undef, undef, undef, undef, undef], []⟩ : Act)) ?hq (wp_region_free_tail 10 8 (withinΦ p e set lo hi W) (by kernel_rfl) (by simp) (by kernel_rfl) (by kernel_rfl) (by kernel_rfl) (by kernel_rfl) withinΦ_mono ?hob ?hQ ?hZ)
 case hob =>
  intro i o hin ho a wa hE hF
  match i, hin with
  | 0, _ =>
   cases ho
   have h0 : a.tmps[4]?.getD undef = .pointer (some ⟨w.heap.size, 0, none⟩) := evalD (hF.old 4 (by decide))
   have q := (HR0.out.ext hE).cell
   refine Ran.value rfl (v := .agg #[.slice p.Ab e.sky.bodies.length p.cb, .int .i64 e.sky.nnum, .int .i64 e.sky.nden, .int .i64 e.sky.nstart, .slice p.As e.sun.length p.cs, .slice p.Am e.moon.length p.cm, .slice p.An e.node.length p.cn, .slice p.Af e.feasts.length p.cf, .int .i64 e.nw, .int .i64 e.fl, .int .i64 e.wide]) (w1 := wa) ?_ ⟨rfl, Ext.refl _⟩
   go_simp
  | 1, _ =>
   cases ho
   have h0 : a.tmps[1]?.getD undef = .slice p.At set.length p.ct := evalD (hF.old 1 (by decide))
   refine Ran.value rfl (v := .slice p.At set.length p.ct) (w1 := wa) ?_ ⟨rfl, Ext.refl _⟩
   go_simp
  | 2, _ =>
   cases ho
   have h0 : a.tmps[2]?.getD undef = .int .i64 lo := evalD (hF.old 2 (by decide))
   refine Ran.value rfl (v := .int .i64 lo) (w1 := wa) ?_ ⟨rfl, Ext.refl _⟩
   go_simp
  | 3, _ =>
   cases ho
   have h0 : a.tmps[3]?.getD undef = .int .i64 hi := evalD (hF.old 3 (by decide))
   refine Ran.value rfl (v := .int .i64 hi) (w1 := wa) ?_ ⟨rfl, Ext.refl _⟩
   go_simp
  | 4, _ =>
   cases ho
   have h0 : a.tmps[16]?.getD undef = .int .i64 lo := evalD (hF.from_ 2 16 rfl (by decide))
   have h1 : a.tmps[17]?.getD undef = .int .i64 hi := evalD (hF.from_ 3 17 rfl (by decide))
   refine Ran.enter rfl (f := 69) (args := #[.int .i64 lo, .int .i64 hi]) (w1 := wa) ?_ ?_
   ·go_simp
   ·refine (e_isSpan_any lo hi _).mono ?_
    rintro r w1 ⟨rfl, rfl⟩
    exact ⟨_, rfl, by rw [c2]; rfl, Ext.refl _⟩
  | 5, _ =>
   cases ho
   have h0 : a.tmps[14]?.getD undef = .agg #[.slice p.Ab e.sky.bodies.length p.cb, .int .i64 e.sky.nnum, .int .i64 e.sky.nden, .int .i64 e.sky.nstart, .slice p.As e.sun.length p.cs, .slice p.Am e.moon.length p.cm, .slice p.An e.node.length p.cn, .slice p.Af e.feasts.length p.cf, .int .i64 e.nw, .int .i64 e.fl, .int .i64 e.wide] := evalD (hF.from_ 0 14 rfl (by decide))
   have h1 : a.tmps[15]?.getD undef = .slice p.At set.length p.ct := evalD (hF.from_ 1 15 rfl (by decide))
   have h2 : a.tmps[18]?.getD undef = .bool true := evalD (hF.from_ 4 18 rfl (by decide))
   refine Ran.enter rfl (f := 62) (args := #[.agg #[.slice p.Ab e.sky.bodies.length p.cb, .int .i64 e.sky.nnum, .int .i64 e.sky.nden, .int .i64 e.sky.nstart, .slice p.As e.sun.length p.cs, .slice p.Am e.moon.length p.cm, .slice p.An e.node.length p.cn, .slice p.Af e.feasts.length p.cf, .int .i64 e.nw, .int .i64 e.fl, .int .i64 e.wide], .slice p.At set.length p.ct, .bool true]) (w1 := wa) ?_ ?_
   ·go_simp
   ·refine (e_asked_ok p e set wa (HM.out.ext (HE0.out.trans hE)) HL.out hs c0 c1).mono ?_
    rintro r w1 ⟨M, rfl, hM, hC, hX⟩
    exact ⟨_, rfl, ⟨M, rfl, Nat.le_trans hE.size hM, hC⟩, hX⟩
  | 6, _ =>
   cases ho
   obtain ⟨M, h0, hM, hC⟩ : AskTup p e set W (a.eval (.tmp 19)) wa := hF.from_ 5 19 rfl (by decide)
   replace h0 := evalD h0
   refine Ran.value rfl (w1 := wa) (v := .tuple #[.agg #[.slice p.Ab e.sky.bodies.length p.cb, .int .i64 e.sky.nnum, .int .i64 e.sky.nden, .int .i64 e.sky.nstart, .slice p.As e.sun.length p.cs, .slice p.Am e.moon.length p.cm, .slice p.An e.node.length p.cn, .slice p.Af e.feasts.length p.cf, .int .i64 e.nw, .int .i64 e.fl, .int .i64 e.wide, .slice p.At set.length p.ct, .map (some M)], .int .i64 0]) ?_ ⟨⟨M, rfl, hM, hC⟩, Ext.refl _⟩
   go_simp
  | 7, _ =>
   cases ho
   obtain ⟨M, h0, hM, hC⟩ : AskTup p e set W (a.eval (.tmp 13)) wa := hF.from_ 6 13 rfl (by decide)
   replace h0 := evalD h0
   refine Ran.value rfl (w1 := wa) (v := .agg #[.slice p.Ab e.sky.bodies.length p.cb, .int .i64 e.sky.nnum, .int .i64 e.sky.nden, .int .i64 e.sky.nstart, .slice p.As e.sun.length p.cs, .slice p.Am e.moon.length p.cm, .slice p.An e.node.length p.cn, .slice p.Af e.feasts.length p.cf, .int .i64 e.nw, .int .i64 e.fl, .int .i64 e.wide, .slice p.At set.length p.ct, .map (some M)]) ?_ ⟨⟨M, rfl, hM, hC⟩, Ext.refl _⟩
   go_simp
  | 8, _ =>
   cases ho
   obtain ⟨M, h0, hM, hC⟩ : AskTup p e set W (a.eval (.tmp 13)) wa := hF.from_ 6 13 rfl (by decide)
   replace h0 := evalD h0
   refine Ran.value rfl (w1 := wa) (v := .int .i64 0) ?_ ⟨rfl, Ext.refl _⟩
   go_simp
  | 9, _ =>
   cases ho
   refine Ran.value rfl (w1 := wa.alloc (.cells zeroEng 105)) (v := .pointer (some ⟨wa.heap.size, 0, none⟩)) (by kernel_rfl) ⟨⟨wa.heap.size, rfl, hE.size, Row.new _ _ _⟩, (Ext.refl _).alloc _⟩
  | k + 10, hin => omega
 case hQ =>
  intro vs w2 hE hΦ
  have f0 : vs 0 = .agg #[.slice p.Ab e.sky.bodies.length p.cb, .int .i64 e.sky.nnum, .int .i64 e.sky.nden, .int .i64 e.sky.nstart, .slice p.As e.sun.length p.cs, .slice p.Am e.moon.length p.cm, .slice p.An e.node.length p.cn, .slice p.Af e.feasts.length p.cf, .int .i64 e.nw, .int .i64 e.fl, .int .i64 e.wide] := hΦ 0 (by omega)
  have f1 : vs 1 = .slice p.At set.length p.ct := hΦ 1 (by omega)
  have f2 : vs 2 = .int .i64 lo := hΦ 2 (by omega)
  have f3 : vs 3 = .int .i64 hi := hΦ 3 (by omega)
  have f4 : vs 4 = .bool true := hΦ 4 (by omega)
  obtain ⟨M4, f5, _, _⟩ : AskTup p e set W (vs 5) w2 := hΦ 5 (by omega)
  obtain ⟨M5, f6, _, _⟩ : AskTup p e set W (vs 6) w2 := hΦ 6 (by omega)
  obtain ⟨M, f7, hM, hC⟩ : AskAgg p e set W (vs 7) w2 := hΦ 7 (by omega)
  have f8 : vs 8 = .int .i64 0 := hΦ 8 (by omega)
  obtain ⟨b, f9, hb, hr⟩ : AskNew W (vs 9) w2 := hΦ 9 (by omega)
  have hrg : List.range 10 = [0, 1, 2, 3, 4, 5, 6, 7, 8, 9] := rfl
  unfold putAll putS
  simp only [List.length_cons, List.length_nil, List.take_succ_cons, List.take_zero, List.drop_succ_cons, List.drop_zero, Nat.reduceAdd, hrg, List.foldl_cons, List.foldl_nil, dstOf, List.getElem?_cons_succ, List.getElem?_cons_zero, Option.bind_some]
  clear hrg
  rw [f0, f1, f2, f3, f4, f5, f6, f7, f8, f9]
  have c := hr.cell
  simp only [zeroEng] at c
  have fz := hr.free
  have hne : b ≠ M := fun h => (hC.not_row hr) h
  go_wp2
  clear c fz
  obtain ⟨W3, hW3⟩ : ∃ W3, setsAt w2 b 0 [.slice p.Ab e.sky.bodies.length p.cb, .int .i64 e.sky.nnum, .int .i64 e.sky.nden, .int .i64 e.sky.nstart, .slice p.As e.sun.length p.cs, .slice p.Am e.moon.length p.cm, .slice p.An e.node.length p.cn, .slice p.Af e.feasts.length p.cf, .int .i64 e.nw, .int .i64 e.fl, .int .i64 e.wide, .slice p.At set.length p.ct, .map (some M)] = W3 := ⟨_, rfl⟩
  have hR3 : Row W3 b 105 #[.slice p.Ab e.sky.bodies.length p.cb, .int .i64 e.sky.nnum, .int .i64 e.sky.nden, .int .i64 e.sky.nstart, .slice p.As e.sun.length p.cs, .slice p.Am e.moon.length p.cm, .slice p.An e.node.length p.cn, .slice p.Af e.feasts.length p.cf, .int .i64 e.nw, .int .i64 e.fl, .int .i64 e.wide, .slice p.At set.length p.ct, .map (some M)] := by rw [← hW3]; exact Row.sets (cs := [.slice none 0 0, .int .i64 0, .int .i64 0, .int .i64 0, .slice none 0 0, .slice none 0 0, .slice none 0 0, .slice none 0 0, .int .i64 0, .int .i64 0, .int .i64 0, .slice none 0 0, .map none]) hr _ rfl
  have hE3 : Ext W W3 := by rw [← hW3]; exact Ext.sets hb _ _ _ hE
  have hC3 : Seen e set M W3 := by rw [← hW3]; exact Cache.sets hne _ _ _ hC
  simp only [setsAt, Nat.reduceAdd] at hW3
  try rw [hW3]
  exact ⟨M4, M5, M, b, hb, hM, hE3, hR3, hC3, by simp⟩
 case hZ =>
  intro _ vs w2 hE hΦ on oz hon hoz
  obtain rfl := Option.some.inj hon
  obtain rfl := Option.some.inj hoz
  have f0 : vs 0 = .agg #[.slice p.Ab e.sky.bodies.length p.cb, .int .i64 e.sky.nnum, .int .i64 e.sky.nden, .int .i64 e.sky.nstart, .slice p.As e.sun.length p.cs, .slice p.Am e.moon.length p.cm, .slice p.An e.node.length p.cn, .slice p.Af e.feasts.length p.cf, .int .i64 e.nw, .int .i64 e.fl, .int .i64 e.wide] := hΦ 0 (by omega) (by omega)
  have f1 : vs 1 = .slice p.At set.length p.ct := hΦ 1 (by omega) (by omega)
  have f2 : vs 2 = .int .i64 lo := hΦ 2 (by omega) (by omega)
  have f3 : vs 3 = .int .i64 hi := hΦ 3 (by omega) (by omega)
  have f4 : vs 4 = .bool true := hΦ 4 (by omega) (by omega)
  obtain ⟨M4, f5, _, _⟩ : AskTup p e set W (vs 5) w2 := hΦ 5 (by omega) (by omega)
  obtain ⟨M5, f6, _, _⟩ : AskTup p e set W (vs 6) w2 := hΦ 6 (by omega) (by omega)
  obtain ⟨M, f7, hM, hC⟩ : AskAgg p e set W (vs 7) w2 := hΦ 7 (by omega) (by omega)
  obtain ⟨b, f9, hb, hr⟩ : AskNew W (vs 9) w2 := hΦ 9 (by omega) (by omega)
  have hrg : (List.range 10).filter (· ≠ 8) = [0, 1, 2, 3, 4, 5, 6, 7, 9] := by decide
  rw [hrg]
  unfold putS
  simp only [List.take_succ_cons, List.take_zero, List.drop_succ_cons, List.drop_zero, Nat.reduceAdd, List.foldl_cons, List.foldl_nil, dstOf, List.getElem?_cons_succ, List.getElem?_cons_zero, Option.bind_some]
  clear hrg
  rw [f0, f1, f2, f3, f4, f5, f6, f7, f9]
  have c := hr.cell
  simp only [zeroEng] at c
  have fz := hr.free
  have hne : b ≠ M := fun h => (hC.not_row hr) h
  go_wp2
  clear c fz
  obtain ⟨W3, hW3⟩ : ∃ W3, setsAt w2 b 0 [.slice p.Ab e.sky.bodies.length p.cb, .int .i64 e.sky.nnum, .int .i64 e.sky.nden, .int .i64 e.sky.nstart, .slice p.As e.sun.length p.cs, .slice p.Am e.moon.length p.cm, .slice p.An e.node.length p.cn, .slice p.Af e.feasts.length p.cf, .int .i64 e.nw, .int .i64 e.fl, .int .i64 e.wide, .slice p.At set.length p.ct, .map (some M)] = W3 := ⟨_, rfl⟩
  have hR3 : Row W3 b 105 #[.slice p.Ab e.sky.bodies.length p.cb, .int .i64 e.sky.nnum, .int .i64 e.sky.nden, .int .i64 e.sky.nstart, .slice p.As e.sun.length p.cs, .slice p.Am e.moon.length p.cm, .slice p.An e.node.length p.cn, .slice p.Af e.feasts.length p.cf, .int .i64 e.nw, .int .i64 e.fl, .int .i64 e.wide, .slice p.At set.length p.ct, .map (some M)] := by rw [← hW3]; exact Row.sets (cs := [.slice none 0 0, .int .i64 0, .int .i64 0, .int .i64 0, .slice none 0 0, .slice none 0 0, .slice none 0 0, .slice none 0 0, .int .i64 0, .int .i64 0, .int .i64 0, .slice none 0 0, .map none]) hr _ rfl
  have hE3 : Ext W W3 := by rw [← hW3]; exact Ext.sets hb _ _ _ hE
  have hC3 : Seen e set M W3 := by rw [← hW3]; exact Cache.sets hne _ _ _ hC
  simp only [setsAt, Nat.reduceAdd] at hW3
  try rw [hW3]
  exact ⟨M4, M5, M, b, hb, hM, hE3, hR3, hC3, by simp⟩
 case hq =>
  rintro e' a' w3 ⟨rfl, M4, M5, M, b, hb, hM, hE3, hR3, hC3, rfl⟩
  have hMw := Nat.le_trans HE0.out.size hM
  have HE3 := Lib.hid (HE0.out.trans hE3)
  have HR3 := Lib.hid hR3
  have HC3 := Lib.hid hC3
  have c := hR3.cell
  clear hE3 hR3 hC3
  go_wp2_with fail
  clear c
  go_loopw [25] (fun d wr => WinRel w3 e set M lo hi d wr) (fun d _ => 31 - (intOf d).toNat)
  case atStart => exact ⟨0, by omega, rfl, Lib.hid fun j h => by omega, Step.refl HC3.out⟩
  case round =>
   obtain ⟨k, hk, rfl, HN, hmv⟩ := hrel
   have HMV := Lib.hid hmv
   have HEr := Lib.hid (HE3.out.trans' (hmv.below hMw HE3.out.size))
   have c := (hmv.row HC3.out HR3.out).cell
   clear hmv
   by_cases hlt : k < 31
   ·go_wp2_with fail
    refine (e_missed_any p e set M lo hi k w _ HK.out HM.out hMw HEr.out HMV.out.cache HL.out.sky hd.1 hd.2.1 hd.2.2.1 hd.2.2.2 (by omega) (by omega)).mono ?_
    rintro r w4 ⟨v, rfl, ⟨Av, cv, rfl, _⟩, hmv4⟩
    have HM4 := Lib.hid (HMV.out.trans hmv4)
    have HE4 := Lib.hid (HEr.out.trans' (hmv4.below hMw HEr.out.size))
    clear hmv4 c
    obtain ⟨n, hn⟩ : ∃ n, (Ec.missedL e set lo hi k).length = n := ⟨_, rfl⟩
    rw [hn]
    have HQ := Lib.hid hn
    clear hn
    rcases Nat.eq_zero_or_pos n with h0 | h0
    ·have hq : ((n : Int) == 0) = true := by simp [h0]
     go_wp2_with fail
     go_ret2
     refine ⟨?_, HE4.out⟩
     have := withinN_at e set lo hi 31 k 0 hlt (fun j hj => by rw [Int.zero_add]; exact HN.out j hj) (by rw [Int.zero_add, HQ.out, h0])
     rw [Ec.withinO, this, Int.zero_add]
     rfl
    ·have hq : ((n : Int) == 0) = false := by simp; omega
     go_wp2_with fail
     refine ⟨⟨k + 1, by omega, by go_num, Lib.hid fun j hj => ?_, HM4.out⟩, by simp [intOf]; omega⟩
     rcases Nat.lt_or_ge j k with h | h
     ·exact HN.out j h
     ·obtain rfl : j = k := by omega
      rw [HQ.out]; omega
   ·obtain rfl : k = 31 := by omega
    clear c
    go_wp2_with fail
    go_ret2
    refine ⟨?_, HEr.out⟩
    have := withinN_no e set lo hi 31 0 (fun j hj => by rw [Int.zero_add]; exact HN.out j hj)
    rw [Ec.withinO, this]
    rfl
def untilΦ (p : EP) (e : Ec.Engine) (set : List Int) (lo : Int) (hi : Int) (late : Int) (w0 : World) (i : Nat) (v : Value) (w : World) : Prop :=
 match i with
 | 0 => v = .agg #[.slice p.Ab e.sky.bodies.length p.cb, .int .i64 e.sky.nnum, .int .i64 e.sky.nden, .int .i64 e.sky.nstart, .slice p.As e.sun.length p.cs, .slice p.Am e.moon.length p.cm, .slice p.An e.node.length p.cn, .slice p.Af e.feasts.length p.cf, .int .i64 e.nw, .int .i64 e.fl, .int .i64 e.wide]
 | 1 => v = .slice p.At set.length p.ct
 | 2 => v = .int .i64 lo
 | 3 => v = .int .i64 hi
 | 4 => v = .bool true
 | 5 => v = .bool true
 | 6 => v = .int .i64 late
 | 7 => v = .bool true
 | 8 => v = .bool true
 | 9 => AskTup p e set w0 v w
 | 10 => AskTup p e set w0 v w
 | 11 => AskAgg p e set w0 v w
 | 12 => v = .int .i64 0
 | _ => AskNew w0 v w
theorem untilΦ_mono {p : EP} {e : Ec.Engine} {set : List Int} {lo : Int} {hi : Int} {late : Int} {w0 : World} (i : Nat) (v : Value) (w w' : World) (h : untilΦ p e set lo hi late w0 i v w) (he : Ext w w') : untilΦ p e set lo hi late w0 i v w' := by
 unfold untilΦ at h ⊢
 split at h <;> first
  | exact h
  | exact AskTup.ext h he
  | exact AskAgg.ext h he
  | exact AskNew.ext h he
def untilV (lo u : Int) : Value := if u < lo then .tuple #[.int .i64 0, .int .i64 5] else .tuple #[.int .i64 u, .int .i64 0]
theorem e_Until_ok (p : EP) (e : Ec.Engine) (set : List Int) (lo hi late : Int) (w : World) (hm : EngSet w p e set) (hl : EngShort e) (hs : set.length ≤ 100000) (c0 : Ec.engineOk e = true) (c1 : Ec.setOk e.feasts set = true) (c2 : Ec.isSpan lo hi = true) (c3 : Ec.isLate late = true) :
  Calls Tryz.prog 38 #[.agg #[.slice p.Ab e.sky.bodies.length p.cb, .int .i64 e.sky.nnum, .int .i64 e.sky.nden, .int .i64 e.sky.nstart, .slice p.As e.sun.length p.cs, .slice p.Am e.moon.length p.cm, .slice p.An e.node.length p.cn, .slice p.Af e.feasts.length p.cf, .int .i64 e.nw, .int .i64 e.fl, .int .i64 e.wide], .slice p.At set.length p.ct, .int .i64 lo, .int .i64 hi, .int .i64 late] w fun r w' => r = .returned (untilV lo (Ec.untilI e set lo hi late)) ∧ Ext w w' := by
 have HM := Lib.hid hm
 have HL := Lib.hid hl
 have HK : Hid (Fine e set) := Lib.hid ⟨c0, c1⟩
 have HR0 : Hid (Row (w.alloc (.cells #[.slice p.Ab e.sky.bodies.length p.cb, .int .i64 e.sky.nnum, .int .i64 e.sky.nden, .int .i64 e.sky.nstart, .slice p.As e.sun.length p.cs, .slice p.Am e.moon.length p.cm, .slice p.An e.node.length p.cn, .slice p.Af e.feasts.length p.cf, .int .i64 e.nw, .int .i64 e.fl, .int .i64 e.wide] 76)) w.heap.size 76 #[.slice p.Ab e.sky.bodies.length p.cb, .int .i64 e.sky.nnum, .int .i64 e.sky.nden, .int .i64 e.sky.nstart, .slice p.As e.sun.length p.cs, .slice p.Am e.moon.length p.cm, .slice p.An e.node.length p.cn, .slice p.Af e.feasts.length p.cf, .int .i64 e.nw, .int .i64 e.fl, .int .i64 e.wide]) := Lib.hid (Row.new w _ _)
 have HE0 := Lib.hid ((Ext.refl w).alloc (.cells #[.slice p.Ab e.sky.bodies.length p.cb, .int .i64 e.sky.nnum, .int .i64 e.sky.nden, .int .i64 e.sky.nstart, .slice p.As e.sun.length p.cs, .slice p.Am e.moon.length p.cm, .slice p.An e.node.length p.cn, .slice p.Af e.feasts.length p.cf, .int .i64 e.nw, .int .i64 e.fl, .int .i64 e.wide] 76))
 have hd : 1 ≤ lo ∧ lo ≤ hi ∧ hi ≤ 9000 ∧ hi - lo ≤ 400 := by
  simp only [Ec.isSpan, Sp.inR, Bool.and_eq_true, decide_eq_true_eq] at c2
  omega
 have hla : 0 ≤ late ∧ late ≤ 30 := by
  simp only [Ec.isLate, Sp.inR, Bool.and_eq_true, decide_eq_true_eq] at c3
  omega
 clear hm hl
 go_enter Tryz.func38, Tryz.ntmps38
 go_wp2_with fail
 obtain ⟨W, hW⟩ : ∃ W, w.alloc (.cells #[.slice p.Ab e.sky.bodies.length p.cb, .int .i64 e.sky.nnum, .int .i64 e.sky.nden, .int .i64 e.sky.nstart, .slice p.As e.sun.length p.cs, .slice p.Am e.moon.length p.cm, .slice p.An e.node.length p.cn, .slice p.Af e.feasts.length p.cf, .int .i64 e.nw, .int .i64 e.fl, .int .i64 e.wide] 76) = W := ⟨_, rfl⟩
 rw [hW] at HR0 HE0 ⊢
 clear hW
 refine Code.wp_mono (Q := fun e' a' w' => e' = .normal ∧ ∃ M4 M5 M b, W.heap.size ≤ b ∧ W.heap.size ≤ M ∧ Ext W w' ∧ Row w' b 105 #[.slice p.Ab e.sky.bodies.length p.cb, .int .i64 e.sky.nnum, .int .i64 e.sky.nden, .int .i64 e.sky.nstart, .slice p.As e.sun.length p.cs, .slice p.Am e.moon.length p.cm, .slice p.An e.node.length p.cn, .slice p.Af e.feasts.length p.cf, .int .i64 e.nw, .int .i64 e.fl, .int .i64 e.wide, .slice p.At set.length p.ct, .map (some M)] ∧ Seen e set M w' ∧ a' = (⟨#[.agg #[.slice p.Ab e.sky.bodies.length p.cb, .int .i64 e.sky.nnum, .int .i64 e.sky.nden, .int .i64 e.sky.nstart, .slice p.As e.sun.length p.cs, .slice p.Am e.moon.length p.cm, .slice p.An e.node.length p.cn, .slice p.Af e.feasts.length p.cf, .int .i64 e.nw, .int .i64 e.fl, .int .i64 e.wide], .slice p.At set.length p.ct, .int .i64 lo, .int .i64 hi, .int .i64 late, .pointer (some ⟨w.heap.size, 0, none⟩), undef, undef, undef, undef, .int .i64 0, .int .i64 0, .pointer (some ⟨b, 0, none⟩), .int .i64 0, undef, .tuple #[.agg #[.slice p.Ab e.sky.bodies.length p.cb, .int .i64 e.sky.nnum, .int .i64 e.sky.nden, .int .i64 e.sky.nstart, .slice p.As e.sun.length p.cs, .slice p.Am e.moon.length p.cm, .slice p.An e.node.length p.cn, .slice p.Af e.feasts.length p.cf, .int .i64 e.nw, .int .i64 e.fl, .int .i64 e.wide, .slice p.At set.length p.ct, .map (some M5)], .int .i64 0], .agg #[.slice p.Ab e.sky.bodies.length p.cb, .int .i64 e.sky.nnum, .int .i64 e.sky.nden, .int .i64 e.sky.nstart, .slice p.As e.sun.length p.cs, .slice p.Am e.moon.length p.cm, .slice p.An e.node.length p.cn, .slice p.Af e.feasts.length p.cf, .int .i64 e.nw, .int .i64 e.fl, .int .i64 e.wide], .slice p.At set.length p.ct, .int .i64 lo, .int .i64 hi, .bool true, .bool true, .int .i64 late, .bool true, .bool true, .tuple #[.agg #[.slice p.Ab e.sky.bodies.length p.cb, .int .i64 e.sky.nnum, .int .i64 e.sky.nden, .int .i64 e.sky.nstart, .slice p.As e.sun.length p.cs, .slice p.Am e.moon.length p.cm, .slice p.An e.node.length p.cn, .slice p.Af e.feasts.length p.cf, .int .i64 e.nw, .int .i64 e.fl, .int .i64 e.wide, .slice p.At set.length p.ct, .map (some M4)], .int .i64 0], .agg #[.slice p.Ab e.sky.bodies.length p.cb, .int .i64 e.sky.nnum, .int .i64 e.sky.nden, .int .i64 e.sky.nstart, .slice p.As e.sun.length p.cs, .slice p.Am e.moon.length p.cm, .slice p.An e.node.length p.cn, .slice p.Af e.feasts.length p.cf, .int .i64 e.nw, .int .i64 e.fl, .int .i64 e.wide, .slice p.At set.length p.ct, .map (some M)], .int .i64 0, undef, undef, undef, undef, undef, undef, undef, undef, undef, undef, undef, undef, undef, undef, undef, undef, undef, undef, undef, undef, undef, undef, undef], []⟩ : Act)) ?hq (wp_region_free_tail 14 12 (untilΦ p e set lo hi late W) (by kernel_rfl) (by simp) (by kernel_rfl) (by kernel_rfl) (by kernel_rfl) (by kernel_rfl) untilΦ_mono ?hob ?hQ ?hZ)
 case hob =>
  intro i o hin ho a wa hE hF
  match i, hin with
  | 0, _ =>
   cases ho
   have h0 : a.tmps[5]?.getD undef = .pointer (some ⟨w.heap.size, 0, none⟩) := evalD (hF.old 5 (by decide))
   have q := (HR0.out.ext hE).cell
   refine Ran.value rfl (v := .agg #[.slice p.Ab e.sky.bodies.length p.cb, .int .i64 e.sky.nnum, .int .i64 e.sky.nden, .int .i64 e.sky.nstart, .slice p.As e.sun.length p.cs, .slice p.Am e.moon.length p.cm, .slice p.An e.node.length p.cn, .slice p.Af e.feasts.length p.cf, .int .i64 e.nw, .int .i64 e.fl, .int .i64 e.wide]) (w1 := wa) ?_ ⟨rfl, Ext.refl _⟩
   go_simp
  | 1, _ =>
   cases ho
   have h0 : a.tmps[1]?.getD undef = .slice p.At set.length p.ct := evalD (hF.old 1 (by decide))
   refine Ran.value rfl (v := .slice p.At set.length p.ct) (w1 := wa) ?_ ⟨rfl, Ext.refl _⟩
   go_simp
  | 2, _ =>
   cases ho
   have h0 : a.tmps[2]?.getD undef = .int .i64 lo := evalD (hF.old 2 (by decide))
   refine Ran.value rfl (v := .int .i64 lo) (w1 := wa) ?_ ⟨rfl, Ext.refl _⟩
   go_simp
  | 3, _ =>
   cases ho
   have h0 : a.tmps[3]?.getD undef = .int .i64 hi := evalD (hF.old 3 (by decide))
   refine Ran.value rfl (v := .int .i64 hi) (w1 := wa) ?_ ⟨rfl, Ext.refl _⟩
   go_simp
  | 4, _ =>
   cases ho
   have h0 : a.tmps[18]?.getD undef = .int .i64 lo := evalD (hF.from_ 2 18 rfl (by decide))
   have h1 : a.tmps[19]?.getD undef = .int .i64 hi := evalD (hF.from_ 3 19 rfl (by decide))
   refine Ran.enter rfl (f := 69) (args := #[.int .i64 lo, .int .i64 hi]) (w1 := wa) ?_ ?_
   ·go_simp
   ·refine (e_isSpan_any lo hi _).mono ?_
    rintro r w1 ⟨rfl, rfl⟩
    exact ⟨_, rfl, by rw [c2]; rfl, Ext.refl _⟩
  | 5, _ =>
   cases ho
   have h0 : a.tmps[20]?.getD undef = .bool true := evalD (hF.from_ 4 20 rfl (by decide))
   refine Ran.value rfl (v := .bool true) (w1 := wa) ?_ ⟨rfl, Ext.refl _⟩
   go_simp
  | 6, _ =>
   cases ho
   have hg : a.eval (.tmp 21) = .bool true := hF.from_ 5 21 rfl (by decide)
   refine Ran.if_ rfl rfl rfl hg (fun _ => ?_) (fun h => absurd rfl h)
   have h0 : a.tmps[4]?.getD undef = .int .i64 late := evalD (hF.old 4 (by decide))
   refine Ran.value rfl (v := .int .i64 late) (w1 := wa) ?_ ⟨rfl, Ext.refl _⟩
   go_simp
  | 7, _ =>
   cases ho
   have hg : a.eval (.tmp 21) = .bool true := hF.from_ 5 21 rfl (by decide)
   refine Ran.if_ rfl rfl rfl hg (fun _ => ?_) (fun h => absurd rfl h)
   have h0 : a.tmps[22]?.getD undef = .int .i64 late := evalD (hF.from_ 6 22 rfl (by decide))
   refine Ran.enter rfl (f := 71) (args := #[.int .i64 late]) (w1 := wa) ?_ ?_
   ·go_simp
   ·refine (e_isLate_any late _).mono ?_
    rintro r w1 ⟨rfl, rfl⟩
    exact ⟨_, rfl, by rw [c3]; rfl, Ext.refl _⟩
  | 8, _ =>
   cases ho
   have h0 : a.tmps[21]?.getD undef = .bool true := evalD (hF.from_ 5 21 rfl (by decide))
   have h1 : a.tmps[23]?.getD undef = .bool true := evalD (hF.from_ 7 23 rfl (by decide))
   refine Ran.value rfl (v := .bool true) (w1 := wa) ?_ ⟨rfl, Ext.refl _⟩
   go_simp
  | 9, _ =>
   cases ho
   have h0 : a.tmps[16]?.getD undef = .agg #[.slice p.Ab e.sky.bodies.length p.cb, .int .i64 e.sky.nnum, .int .i64 e.sky.nden, .int .i64 e.sky.nstart, .slice p.As e.sun.length p.cs, .slice p.Am e.moon.length p.cm, .slice p.An e.node.length p.cn, .slice p.Af e.feasts.length p.cf, .int .i64 e.nw, .int .i64 e.fl, .int .i64 e.wide] := evalD (hF.from_ 0 16 rfl (by decide))
   have h1 : a.tmps[17]?.getD undef = .slice p.At set.length p.ct := evalD (hF.from_ 1 17 rfl (by decide))
   have h2 : a.tmps[24]?.getD undef = .bool true := evalD (hF.from_ 8 24 rfl (by decide))
   refine Ran.enter rfl (f := 62) (args := #[.agg #[.slice p.Ab e.sky.bodies.length p.cb, .int .i64 e.sky.nnum, .int .i64 e.sky.nden, .int .i64 e.sky.nstart, .slice p.As e.sun.length p.cs, .slice p.Am e.moon.length p.cm, .slice p.An e.node.length p.cn, .slice p.Af e.feasts.length p.cf, .int .i64 e.nw, .int .i64 e.fl, .int .i64 e.wide], .slice p.At set.length p.ct, .bool true]) (w1 := wa) ?_ ?_
   ·go_simp
   ·refine (e_asked_ok p e set wa (HM.out.ext (HE0.out.trans hE)) HL.out hs c0 c1).mono ?_
    rintro r w1 ⟨M, rfl, hM, hC, hX⟩
    exact ⟨_, rfl, ⟨M, rfl, Nat.le_trans hE.size hM, hC⟩, hX⟩
  | 10, _ =>
   cases ho
   obtain ⟨M, h0, hM, hC⟩ : AskTup p e set W (a.eval (.tmp 25)) wa := hF.from_ 9 25 rfl (by decide)
   replace h0 := evalD h0
   refine Ran.value rfl (w1 := wa) (v := .tuple #[.agg #[.slice p.Ab e.sky.bodies.length p.cb, .int .i64 e.sky.nnum, .int .i64 e.sky.nden, .int .i64 e.sky.nstart, .slice p.As e.sun.length p.cs, .slice p.Am e.moon.length p.cm, .slice p.An e.node.length p.cn, .slice p.Af e.feasts.length p.cf, .int .i64 e.nw, .int .i64 e.fl, .int .i64 e.wide, .slice p.At set.length p.ct, .map (some M)], .int .i64 0]) ?_ ⟨⟨M, rfl, hM, hC⟩, Ext.refl _⟩
   go_simp
  | 11, _ =>
   cases ho
   obtain ⟨M, h0, hM, hC⟩ : AskTup p e set W (a.eval (.tmp 15)) wa := hF.from_ 10 15 rfl (by decide)
   replace h0 := evalD h0
   refine Ran.value rfl (w1 := wa) (v := .agg #[.slice p.Ab e.sky.bodies.length p.cb, .int .i64 e.sky.nnum, .int .i64 e.sky.nden, .int .i64 e.sky.nstart, .slice p.As e.sun.length p.cs, .slice p.Am e.moon.length p.cm, .slice p.An e.node.length p.cn, .slice p.Af e.feasts.length p.cf, .int .i64 e.nw, .int .i64 e.fl, .int .i64 e.wide, .slice p.At set.length p.ct, .map (some M)]) ?_ ⟨⟨M, rfl, hM, hC⟩, Ext.refl _⟩
   go_simp
  | 12, _ =>
   cases ho
   obtain ⟨M, h0, hM, hC⟩ : AskTup p e set W (a.eval (.tmp 15)) wa := hF.from_ 10 15 rfl (by decide)
   replace h0 := evalD h0
   refine Ran.value rfl (w1 := wa) (v := .int .i64 0) ?_ ⟨rfl, Ext.refl _⟩
   go_simp
  | 13, _ =>
   cases ho
   refine Ran.value rfl (w1 := wa.alloc (.cells zeroEng 105)) (v := .pointer (some ⟨wa.heap.size, 0, none⟩)) (by kernel_rfl) ⟨⟨wa.heap.size, rfl, hE.size, Row.new _ _ _⟩, (Ext.refl _).alloc _⟩
  | k + 14, hin => omega
 case hQ =>
  intro vs w2 hE hΦ
  have f0 : vs 0 = .agg #[.slice p.Ab e.sky.bodies.length p.cb, .int .i64 e.sky.nnum, .int .i64 e.sky.nden, .int .i64 e.sky.nstart, .slice p.As e.sun.length p.cs, .slice p.Am e.moon.length p.cm, .slice p.An e.node.length p.cn, .slice p.Af e.feasts.length p.cf, .int .i64 e.nw, .int .i64 e.fl, .int .i64 e.wide] := hΦ 0 (by omega)
  have f1 : vs 1 = .slice p.At set.length p.ct := hΦ 1 (by omega)
  have f2 : vs 2 = .int .i64 lo := hΦ 2 (by omega)
  have f3 : vs 3 = .int .i64 hi := hΦ 3 (by omega)
  have f4 : vs 4 = .bool true := hΦ 4 (by omega)
  have f5 : vs 5 = .bool true := hΦ 5 (by omega)
  have f6 : vs 6 = .int .i64 late := hΦ 6 (by omega)
  have f7 : vs 7 = .bool true := hΦ 7 (by omega)
  have f8 : vs 8 = .bool true := hΦ 8 (by omega)
  obtain ⟨M4, f9, _, _⟩ : AskTup p e set W (vs 9) w2 := hΦ 9 (by omega)
  obtain ⟨M5, f10, _, _⟩ : AskTup p e set W (vs 10) w2 := hΦ 10 (by omega)
  obtain ⟨M, f11, hM, hC⟩ : AskAgg p e set W (vs 11) w2 := hΦ 11 (by omega)
  have f12 : vs 12 = .int .i64 0 := hΦ 12 (by omega)
  obtain ⟨b, f13, hb, hr⟩ : AskNew W (vs 13) w2 := hΦ 13 (by omega)
  have hrg : List.range 14 = [0, 1, 2, 3, 4, 5, 6, 7, 8, 9, 10, 11, 12, 13] := rfl
  unfold putAll putS
  simp only [List.length_cons, List.length_nil, List.take_succ_cons, List.take_zero, List.drop_succ_cons, List.drop_zero, Nat.reduceAdd, hrg, List.foldl_cons, List.foldl_nil, dstOf, List.getElem?_cons_succ, List.getElem?_cons_zero, Option.bind_some]
  clear hrg
  rw [f0, f1, f2, f3, f4, f5, f6, f7, f8, f9, f10, f11, f12, f13]
  have c := hr.cell
  simp only [zeroEng] at c
  have fz := hr.free
  have hne : b ≠ M := fun h => (hC.not_row hr) h
  go_wp2
  clear c fz
  obtain ⟨W3, hW3⟩ : ∃ W3, setsAt w2 b 0 [.slice p.Ab e.sky.bodies.length p.cb, .int .i64 e.sky.nnum, .int .i64 e.sky.nden, .int .i64 e.sky.nstart, .slice p.As e.sun.length p.cs, .slice p.Am e.moon.length p.cm, .slice p.An e.node.length p.cn, .slice p.Af e.feasts.length p.cf, .int .i64 e.nw, .int .i64 e.fl, .int .i64 e.wide, .slice p.At set.length p.ct, .map (some M)] = W3 := ⟨_, rfl⟩
  have hR3 : Row W3 b 105 #[.slice p.Ab e.sky.bodies.length p.cb, .int .i64 e.sky.nnum, .int .i64 e.sky.nden, .int .i64 e.sky.nstart, .slice p.As e.sun.length p.cs, .slice p.Am e.moon.length p.cm, .slice p.An e.node.length p.cn, .slice p.Af e.feasts.length p.cf, .int .i64 e.nw, .int .i64 e.fl, .int .i64 e.wide, .slice p.At set.length p.ct, .map (some M)] := by rw [← hW3]; exact Row.sets (cs := [.slice none 0 0, .int .i64 0, .int .i64 0, .int .i64 0, .slice none 0 0, .slice none 0 0, .slice none 0 0, .slice none 0 0, .int .i64 0, .int .i64 0, .int .i64 0, .slice none 0 0, .map none]) hr _ rfl
  have hE3 : Ext W W3 := by rw [← hW3]; exact Ext.sets hb _ _ _ hE
  have hC3 : Seen e set M W3 := by rw [← hW3]; exact Cache.sets hne _ _ _ hC
  simp only [setsAt, Nat.reduceAdd] at hW3
  try rw [hW3]
  exact ⟨M4, M5, M, b, hb, hM, hE3, hR3, hC3, by simp⟩
 case hZ =>
  intro _ vs w2 hE hΦ on oz hon hoz
  obtain rfl := Option.some.inj hon
  obtain rfl := Option.some.inj hoz
  have f0 : vs 0 = .agg #[.slice p.Ab e.sky.bodies.length p.cb, .int .i64 e.sky.nnum, .int .i64 e.sky.nden, .int .i64 e.sky.nstart, .slice p.As e.sun.length p.cs, .slice p.Am e.moon.length p.cm, .slice p.An e.node.length p.cn, .slice p.Af e.feasts.length p.cf, .int .i64 e.nw, .int .i64 e.fl, .int .i64 e.wide] := hΦ 0 (by omega) (by omega)
  have f1 : vs 1 = .slice p.At set.length p.ct := hΦ 1 (by omega) (by omega)
  have f2 : vs 2 = .int .i64 lo := hΦ 2 (by omega) (by omega)
  have f3 : vs 3 = .int .i64 hi := hΦ 3 (by omega) (by omega)
  have f4 : vs 4 = .bool true := hΦ 4 (by omega) (by omega)
  have f5 : vs 5 = .bool true := hΦ 5 (by omega) (by omega)
  have f6 : vs 6 = .int .i64 late := hΦ 6 (by omega) (by omega)
  have f7 : vs 7 = .bool true := hΦ 7 (by omega) (by omega)
  have f8 : vs 8 = .bool true := hΦ 8 (by omega) (by omega)
  obtain ⟨M4, f9, _, _⟩ : AskTup p e set W (vs 9) w2 := hΦ 9 (by omega) (by omega)
  obtain ⟨M5, f10, _, _⟩ : AskTup p e set W (vs 10) w2 := hΦ 10 (by omega) (by omega)
  obtain ⟨M, f11, hM, hC⟩ : AskAgg p e set W (vs 11) w2 := hΦ 11 (by omega) (by omega)
  obtain ⟨b, f13, hb, hr⟩ : AskNew W (vs 13) w2 := hΦ 13 (by omega) (by omega)
  have hrg : (List.range 14).filter (· ≠ 12) = [0, 1, 2, 3, 4, 5, 6, 7, 8, 9, 10, 11, 13] := by decide
  rw [hrg]
  unfold putS
  simp only [List.take_succ_cons, List.take_zero, List.drop_succ_cons, List.drop_zero, Nat.reduceAdd, List.foldl_cons, List.foldl_nil, dstOf, List.getElem?_cons_succ, List.getElem?_cons_zero, Option.bind_some]
  clear hrg
  rw [f0, f1, f2, f3, f4, f5, f6, f7, f8, f9, f10, f11, f13]
  have c := hr.cell
  simp only [zeroEng] at c
  have fz := hr.free
  have hne : b ≠ M := fun h => (hC.not_row hr) h
  go_wp2
  clear c fz
  obtain ⟨W3, hW3⟩ : ∃ W3, setsAt w2 b 0 [.slice p.Ab e.sky.bodies.length p.cb, .int .i64 e.sky.nnum, .int .i64 e.sky.nden, .int .i64 e.sky.nstart, .slice p.As e.sun.length p.cs, .slice p.Am e.moon.length p.cm, .slice p.An e.node.length p.cn, .slice p.Af e.feasts.length p.cf, .int .i64 e.nw, .int .i64 e.fl, .int .i64 e.wide, .slice p.At set.length p.ct, .map (some M)] = W3 := ⟨_, rfl⟩
  have hR3 : Row W3 b 105 #[.slice p.Ab e.sky.bodies.length p.cb, .int .i64 e.sky.nnum, .int .i64 e.sky.nden, .int .i64 e.sky.nstart, .slice p.As e.sun.length p.cs, .slice p.Am e.moon.length p.cm, .slice p.An e.node.length p.cn, .slice p.Af e.feasts.length p.cf, .int .i64 e.nw, .int .i64 e.fl, .int .i64 e.wide, .slice p.At set.length p.ct, .map (some M)] := by rw [← hW3]; exact Row.sets (cs := [.slice none 0 0, .int .i64 0, .int .i64 0, .int .i64 0, .slice none 0 0, .slice none 0 0, .slice none 0 0, .slice none 0 0, .int .i64 0, .int .i64 0, .int .i64 0, .slice none 0 0, .map none]) hr _ rfl
  have hE3 : Ext W W3 := by rw [← hW3]; exact Ext.sets hb _ _ _ hE
  have hC3 : Seen e set M W3 := by rw [← hW3]; exact Cache.sets hne _ _ _ hC
  simp only [setsAt, Nat.reduceAdd] at hW3
  try rw [hW3]
  exact ⟨M4, M5, M, b, hb, hM, hE3, hR3, hC3, by simp⟩
 case hq =>
  rintro e' a' w3 ⟨rfl, M4, M5, M, b, hb, hM, hE3, hR3, hC3, rfl⟩
  have hMw := Nat.le_trans HE0.out.size hM
  have HE3 := Lib.hid (HE0.out.trans hE3)
  have HR3 := Lib.hid hR3
  have HC3 := Lib.hid hC3
  have c := hR3.cell
  clear hE3 hR3 hC3
  go_wp2_with fail
  refine (e_missed_any p e set M lo hi late w _ HK.out HM.out hMw HE3.out HC3.out HL.out.sky hd.1 hd.2.1 hd.2.2.1 hd.2.2.2 hla.1 hla.2).mono ?_
  rintro r w4 ⟨v, rfl, hv, hmv⟩
  have HE4 := Lib.hid (HE3.out.trans' (hmv.below hMw HE3.out.size))
  clear hmv c
  have HQ : Hid (Ec.untilI e set lo hi late = if (Ec.missedL e set lo hi late).length = 0 then hi else ((Ec.missedL e set lo hi late).headD Ec.noEcl).day - 1) := Lib.hid rfl
  have HD : Hid (∀ x ∈ Ec.missedL e set lo hi late, lo ≤ x.day ∧ x.day ≤ hi) := Lib.hid fun x hx => ((Ec.missed_is _ _ _ _ _ _).1 hx).1
  obtain ⟨l, hL⟩ : ∃ l, Ec.missedL e set lo hi late = l := ⟨_, rfl⟩
  rw [hL] at hv HQ HD
  clear hL
  obtain ⟨A, cA, rfl, hcl⟩ := hv
  cases l with
  | nil =>
   have HQ2 : Hid (Ec.untilI e set lo hi late = hi) := Lib.hid (HQ.out.trans (by simp))
   clear hcl
   simp only [List.length_nil]
   go_wp2_with fail
   go_ret2
   have h9 : untilV lo (Ec.untilI e set lo hi late) = .tuple #[.int .i64 hi, .int .i64 0] := by rw [HQ2.out, untilV, if_neg (by omega)]
   exact ⟨by rw [h9] <;> rfl, HE4.out⟩
  | cons x l =>
   obtain ⟨b, o, rfl, hk⟩ := hcl (by simp)
   obtain ⟨q, _, _⟩ := hk 0 (by simp)
   simp only [Nat.zero_mul, Nat.add_zero, List.getElem_cons_zero] at q
   have hx := HD.out x (by simp)
   have HQ2 : Hid (Ec.untilI e set lo hi late = x.day - 1) := Lib.hid (HQ.out.trans (by simp))
   obtain ⟨n, hn⟩ : ∃ n, (x :: l).length = n := ⟨_, rfl⟩
   have hn0 : 0 < n := by rw [← hn]; simp
   have hq : ((n : Int) == 0) = false := by simp; omega
   rw [hn]
   clear hk hn HQ HD
   obtain ⟨d, hd0⟩ : ∃ d, x.day = d := ⟨_, rfl⟩
   rw [hd0] at q hx HQ2
   clear hd0
   cases hdl : (d == lo)
   ·have hne : ¬ d = lo := by simpa using hdl
    go_wp2_with fail
    go_ret2
    have h9 : untilV lo (Ec.untilI e set lo hi late) = .tuple #[.int .i64 (d - 1), .int .i64 0] := by rw [HQ2.out, untilV, if_neg (by omega)]
    exact ⟨by rw [h9] <;> rfl, HE4.out⟩
   ·have he : d = lo := by simpa using hdl
    have HHE := Lib.hid he
    clear he
    go_wp2_with fail
    go_ret2
    have he := HHE.out
    have h9 : untilV lo (Ec.untilI e set lo hi late) = .tuple #[.int .i64 0, .int .i64 5] := by rw [HQ2.out, untilV, if_pos (by omega)]
    exact ⟨by rw [h9] <;> rfl, HE4.out⟩
end Go.Proofs.YtfkcbgehcbhjnaaGreatDoor
namespace Go.Proofs.YtfkcbgehcbhjnaaGreatDoor
open Go.RowKit
open Sp (rd)
set_option maxRecDepth 100000
set_option maxHeartbeats 1000000
set_option linter.unusedVariables false
theorem fourBlocks (w : World) (o1 o2 o3 o4 : Obj) : ((((w.alloc o1).alloc o2).alloc o3).alloc o4).heap[w.heap.size]? = some o1 ∧ ((((w.alloc o1).alloc o2).alloc o3).alloc o4).heap[w.heap.size + 1]? = some o2 ∧ ((((w.alloc o1).alloc o2).alloc o3).alloc o4).heap[w.heap.size + 2]? = some o3 ∧ ((((w.alloc o1).alloc o2).alloc o3).alloc o4).heap[w.heap.size + 3]? = some o4 :=
 ⟨(Below.heap_alloc _ _ _ (by simp; omega)).trans (blocks3 w o1 o2 o3).1, (Below.heap_alloc _ _ _ (by simp)).trans (blocks3 w o1 o2 o3).2.1, (Below.heap_alloc _ _ _ (by simp)).trans (blocks3 w o1 o2 o3).2.2, by have := heap_alloc_new (((w.alloc o1).alloc o2).alloc o3) o4; simpa using this⟩
end Go.Proofs.YtfkcbgehcbhjnaaGreatDoor
namespace Go.Proofs.YtfkcbgehcbhjnaaGreatDoor
open Go.RowKit
def NewAt (w0 : World) (v : Value) (w : World) (t : TypeId) (cs : Array Value) : Prop := ∃ b, v = .pointer (some ⟨b, 0, none⟩) ∧ w0.heap.size ≤ b ∧ Row w b t cs
theorem NewAt.ext {w0 w w' : World} {v : Value} {t : TypeId} {cs : Array Value} (h : NewAt w0 v w t cs) (he : Ext w w') : NewAt w0 v w' t cs := let ⟨b, h1, h2, h3⟩ := h; ⟨b, h1, h2, h3.ext he⟩
end Go.Proofs.YtfkcbgehcbhjnaaGreatDoor
