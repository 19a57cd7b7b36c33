/- Volume 16 of the texts that the laws of this seat use: EcEmptyW: walks of the program's functions, and plain laws. -/
import Derived.Carry
import Derived.Test.YtcbodpnmndbgnaaGreatDoorF15
import Derived.Test.YtcbodpnmndbgnaaGreatDoorF07
import Derived.Test.YtcbodpnmndbgnaaGreatDoorF08
namespace Go.Proofs.YtcbodpnmndbgnaaGreatDoor
open Go.RowKit
open Sp (rd)
set_option maxRecDepth 100000
set_option maxHeartbeats 16000000
set_option linter.unusedVariables false
attribute [local go_sem] Oper.semAt_some
def emptyΦ (p : EP) (e : Ec.Engine) (set : List Int) (lo : Int) (hi : Int) (late : Int) (w0 : World) (i : Nat) (v : Value) (w : World) : Prop :=
 match i with
 | 0 => v = .agg #[.slice p.Ab e.sky.bodies.length p.cb, .int .i64 e.sky.nnum, .int .i64 e.sky.nden, .int .i64 e.sky.nstart, .slice p.As e.sun.length p.cs, .slice p.Am e.moon.length p.cm, .slice p.An e.node.length p.cn, .slice p.Af e.feasts.length p.cf, .int .i64 e.nw, .int .i64 e.fl, .int .i64 e.wide]
 | 1 => v = .slice p.At set.length p.ct
 | 2 => v = .int .i64 lo
 | 3 => v = .int .i64 hi
 | 4 => v = .bool true
 | 5 => v = .bool true
 | 6 => v = .int .i64 late
 | 7 => v = .bool true
 | 8 => v = .bool true
 | 9 => AskTup p e set w0 v w
 | 10 => AskTup p e set w0 v w
 | 11 => AskAgg p e set w0 v w
 | 12 => v = .int .i64 0
 | _ => AskNew w0 v w
theorem emptyΦ_mono {p : EP} {e : Ec.Engine} {set : List Int} {lo : Int} {hi : Int} {late : Int} {w0 : World} (i : Nat) (v : Value) (w w' : World) (h : emptyΦ p e set lo hi late w0 i v w) (he : Ext w w') : emptyΦ p e set lo hi late w0 i v w' := by
 unfold emptyΦ at h ⊢
 split at h <;> first
  | exact h
  | exact AskTup.ext h he
  | exact AskAgg.ext h he
  | exact AskNew.ext h he
def EmI (w : World) (base bO : Nat) (e : Ec.Engine) (set : List Int) (M : Nat) (R : List Sp.Ecl) (late : Int) (w5 : World) (pre : List Ecl1) (W : World) : Prop :=
 (∃ v, Out W base bO 50 59 3 v (Ec.without (pre.map (·.1)) R late).length (eclCells (Ec.without (pre.map (·.1)) R late))) ∧ (Below w.heap.size w W ∧ base ≤ W.heap.size) ∧ Seen e set M W ∧ ∀ k, k < bO → k ≠ M → W.heap[k]? = w5.heap[k]?
theorem emI_own {w : World} {base bO : Nat} {e : Ec.Engine} {set : List Int} {M B : Nat} {R : List Sp.Ecl} {late : Int} {w5 : World} (hB : w.heap.size ≤ B) (hM : M < B) (hO : bO ≤ B) (hb : bO ≤ base) : OwnFrom B (EmI w base bO e set M R late w5) := fun _ _ _ _ ⟨⟨v, h⟩, ⟨hb1, hz⟩, hc, hk⟩ hg hr =>
 ⟨⟨v, h.kept hg fun r e => (hr r e).2⟩, ⟨hb1.grown hg hb1.size (fun k e => Nat.le_trans hB (hr k e).1), Nat.le_trans hz hg.size⟩, hc.kept hg (fun e => by have := (hr M e.symm).1; omega), fun k h1 h2 => (hg.block k (by omega) (fun e => by have := (hr k e.symm).1; omega)).trans (hk k h1 h2)⟩
theorem emI_step {w : World} {base bO : Nat} {e : Ec.Engine} {set : List Int} {M : Nat} {R : List Sp.Ecl} {late : Int} {w5 : World} (hM : w.heap.size ≤ M) (hb : bO ≤ base) (s : List Ecl1) (A B : World) (h : EmI w base bO e set M R late w5 s A) (hm : Move e set M A B) : EmI w base bO e set M R late w5 s B :=
 let ⟨⟨v, ho⟩, ⟨hb1, hz⟩, hc, hk⟩ := h
 ⟨⟨v, hm.out hc ho⟩, ⟨hb1.trans (hm.below hM hb1.size), Nat.le_trans hz hm.size⟩, hm.cache, fun k h1 h2 => (hm.block (by omega) h2).trans (hk k h1 h2)⟩
theorem without_snoc (pre : List Ecl1) (y : Ecl1) (R : List Sp.Ecl) (late : Int) : Ec.without ((pre ++ [y]).map (·.1)) R late = if Ec.beside R y.1 late = true then Ec.without (pre.map (·.1)) R late else Ec.without (pre.map (·.1)) R late ++ [y.1] := by
 unfold Ec.without
 rw [List.map_append, List.filter_append]
 cases h : Ec.beside R y.1 late <;> simp [h]
theorem cell_same {w W : World} {p : Addr} {u : Value} (h : w.cell? p = some u) (hb : W.heap[p.block]? = w.heap[p.block]?) : W.cell? p = some u := by
 unfold World.cell? at h ⊢
 rw [hb]
 exact h
theorem EclVal.kept_but {w5 W : World} {M : Nat} {v : Value} {R : List Sp.Ecl} (h : EclVal w5 v R) (hn : ∀ p u, w5.cell? p = some u → p.block ≠ M) (hk : ∀ k, k < w5.heap.size → k ≠ M → W.heap[k]? = w5.heap[k]?) : EclVal W v R := by
 obtain ⟨A, c, rfl, q⟩ := h
 have f : ∀ p u, w5.cell? p = some u → W.cell? p = some u := fun p u hp => cell_same hp (hk _ (lt_of_cell hp) (hn p u hp))
 exact ⟨A, c, rfl, fun h0 => let ⟨b, o, e, p⟩ := q h0; ⟨b, o, e, fun k hk' => ⟨f _ _ (p k hk').1, f _ _ (p k hk').2.1, f _ _ (p k hk').2.2⟩⟩⟩
theorem e_Empty_ok (p : EP) (e : Ec.Engine) (set : List Int) (lo hi late : Int) (w : World) (hm : EngSet w p e set) (hl : EngShort e) (hs : set.length ≤ 100000) (c0 : Ec.engineOk e = true) (c1 : Ec.setOk e.feasts set = true) (c2 : Ec.isSpan lo hi = true) (c3 : Ec.isLate late = true) :
  Calls Tryz.prog 51 #[.agg #[.slice p.Ab e.sky.bodies.length p.cb, .int .i64 e.sky.nnum, .int .i64 e.sky.nden, .int .i64 e.sky.nstart, .slice p.As e.sun.length p.cs, .slice p.Am e.moon.length p.cm, .slice p.An e.node.length p.cn, .slice p.Af e.feasts.length p.cf, .int .i64 e.nw, .int .i64 e.fl, .int .i64 e.wide], .slice p.At set.length p.ct, .int .i64 lo, .int .i64 hi, .int .i64 late] w fun r w' => ∃ v, r = .returned (.tuple #[v, .int .i64 0]) ∧ EclVal w' v (Ec.emptyL e set lo hi late) ∧ Ext w w' := by
 have HM := Lib.hid hm
 have HL := Lib.hid hl
 have hK : Fine e set := ⟨c0, c1⟩
 have HR0 : Hid (Row ((w.alloc (.cells #[.slice p.Ab e.sky.bodies.length p.cb, .int .i64 e.sky.nnum, .int .i64 e.sky.nden, .int .i64 e.sky.nstart, .slice p.As e.sun.length p.cs, .slice p.Am e.moon.length p.cm, .slice p.An e.node.length p.cn, .slice p.Af e.feasts.length p.cf, .int .i64 e.nw, .int .i64 e.fl, .int .i64 e.wide] 32)).alloc (.cells #[.int .i64 late] 3)) w.heap.size 32 #[.slice p.Ab e.sky.bodies.length p.cb, .int .i64 e.sky.nnum, .int .i64 e.sky.nden, .int .i64 e.sky.nstart, .slice p.As e.sun.length p.cs, .slice p.Am e.moon.length p.cm, .slice p.An e.node.length p.cn, .slice p.Af e.feasts.length p.cf, .int .i64 e.nw, .int .i64 e.fl, .int .i64 e.wide]) := Lib.hid ((Row.new w _ _).alloc _)
 have HR1 : Hid (Row ((w.alloc (.cells #[.slice p.Ab e.sky.bodies.length p.cb, .int .i64 e.sky.nnum, .int .i64 e.sky.nden, .int .i64 e.sky.nstart, .slice p.As e.sun.length p.cs, .slice p.Am e.moon.length p.cm, .slice p.An e.node.length p.cn, .slice p.Af e.feasts.length p.cf, .int .i64 e.nw, .int .i64 e.fl, .int .i64 e.wide] 32)).alloc (.cells #[.int .i64 late] 3)) (w.heap.size + 1) 3 #[.int .i64 late]) := Lib.hid (by
  have := Row.new (w.alloc (.cells #[.slice p.Ab e.sky.bodies.length p.cb, .int .i64 e.sky.nnum, .int .i64 e.sky.nden, .int .i64 e.sky.nstart, .slice p.As e.sun.length p.cs, .slice p.Am e.moon.length p.cm, .slice p.An e.node.length p.cn, .slice p.Af e.feasts.length p.cf, .int .i64 e.nw, .int .i64 e.fl, .int .i64 e.wide] 32)) 3 #[.int .i64 late]
  simpa using this)
 have HE0 := Lib.hid (((Ext.refl w).alloc (.cells #[.slice p.Ab e.sky.bodies.length p.cb, .int .i64 e.sky.nnum, .int .i64 e.sky.nden, .int .i64 e.sky.nstart, .slice p.As e.sun.length p.cs, .slice p.Am e.moon.length p.cm, .slice p.An e.node.length p.cn, .slice p.Af e.feasts.length p.cf, .int .i64 e.nw, .int .i64 e.fl, .int .i64 e.wide] 32)).alloc (.cells #[.int .i64 late] 3))
 have hd : 1 ≤ lo ∧ lo ≤ hi ∧ hi ≤ 9000 ∧ hi - lo ≤ 400 := by
  simp only [Ec.isSpan, Sp.inR, Bool.and_eq_true, decide_eq_true_eq] at c2
  omega
 have hla : 0 ≤ late ∧ late ≤ 30 := by
  simp only [Ec.isLate, Sp.inR, Bool.and_eq_true, decide_eq_true_eq] at c3
  omega
 clear hm hl
 refine (callsIn_wide (n := 8)).1 ?_
 refine callsIn_of_wp_marks Tryz.func51 rfl trivial ?_ rfl
 simp only [Tryz.ntmps51, List.size_toArray, List.length_cons, List.length_nil, Nat.reduceAdd, Nat.reduceSub, Array.replicate_succ, Array.replicate_zero, List.push_toArray, List.append_toArray, List.nil_append, List.cons_append]
 refine wpIn_wide.2 ?_
 go_wp2_with fail
 go_step3
 go_wp2_with fail
 obtain ⟨W, hW⟩ : ∃ W, (w.alloc (.cells #[.slice p.Ab e.sky.bodies.length p.cb, .int .i64 e.sky.nnum, .int .i64 e.sky.nden, .int .i64 e.sky.nstart, .slice p.As e.sun.length p.cs, .slice p.Am e.moon.length p.cm, .slice p.An e.node.length p.cn, .slice p.Af e.feasts.length p.cf, .int .i64 e.nw, .int .i64 e.fl, .int .i64 e.wide] 32)).alloc (.cells #[.int .i64 late] 3) = W := ⟨_, rfl⟩
 rw [hW] at HR0 HR1 HE0 ⊢
 clear hW
 refine Code.wp_mono (Q := fun e' a' w' => e' = .normal ∧ ∃ M4 M5 M b, W.heap.size ≤ b ∧ W.heap.size ≤ M ∧ Ext W w' ∧ Row w' b 100 #[.slice p.Ab e.sky.bodies.length p.cb, .int .i64 e.sky.nnum, .int .i64 e.sky.nden, .int .i64 e.sky.nstart, .slice p.As e.sun.length p.cs, .slice p.Am e.moon.length p.cm, .slice p.An e.node.length p.cn, .slice p.Af e.feasts.length p.cf, .int .i64 e.nw, .int .i64 e.fl, .int .i64 e.wide, .slice p.At set.length p.ct, .map (some M)] ∧ Seen e set M w' ∧ a' = (⟨#[.agg #[.slice p.Ab e.sky.bodies.length p.cb, .int .i64 e.sky.nnum, .int .i64 e.sky.nden, .int .i64 e.sky.nstart, .slice p.As e.sun.length p.cs, .slice p.Am e.moon.length p.cm, .slice p.An e.node.length p.cn, .slice p.Af e.feasts.length p.cf, .int .i64 e.nw, .int .i64 e.fl, .int .i64 e.wide], .slice p.At set.length p.ct, .int .i64 lo, .int .i64 hi, .int .i64 late, .pointer (some ⟨w.heap.size, 0, none⟩), undef, undef, undef, .pointer (some ⟨w.heap.size + 1, 0, none⟩), .slice none 0 0, .int .i64 0, .pointer (some ⟨b, 0, none⟩), .int .i64 0, undef, undef, undef, undef, undef, .tuple #[.agg #[.slice p.Ab e.sky.bodies.length p.cb, .int .i64 e.sky.nnum, .int .i64 e.sky.nden, .int .i64 e.sky.nstart, .slice p.As e.sun.length p.cs, .slice p.Am e.moon.length p.cm, .slice p.An e.node.length p.cn, .slice p.Af e.feasts.length p.cf, .int .i64 e.nw, .int .i64 e.fl, .int .i64 e.wide, .slice p.At set.length p.ct, .map (some M5)], .int .i64 0], .agg #[.slice p.Ab e.sky.bodies.length p.cb, .int .i64 e.sky.nnum, .int .i64 e.sky.nden, .int .i64 e.sky.nstart, .slice p.As e.sun.length p.cs, .slice p.Am e.moon.length p.cm, .slice p.An e.node.length p.cn, .slice p.Af e.feasts.length p.cf, .int .i64 e.nw, .int .i64 e.fl, .int .i64 e.wide], .slice p.At set.length p.ct, .int .i64 lo, .int .i64 hi, .bool true, .bool true, .int .i64 late, .bool true, .bool true, .tuple #[.agg #[.slice p.Ab e.sky.bodies.length p.cb, .int .i64 e.sky.nnum, .int .i64 e.sky.nden, .int .i64 e.sky.nstart, .slice p.As e.sun.length p.cs, .slice p.Am e.moon.length p.cm, .slice p.An e.node.length p.cn, .slice p.Af e.feasts.length p.cf, .int .i64 e.nw, .int .i64 e.fl, .int .i64 e.wide, .slice p.At set.length p.ct, .map (some M4)], .int .i64 0], .agg #[.slice p.Ab e.sky.bodies.length p.cb, .int .i64 e.sky.nnum, .int .i64 e.sky.nden, .int .i64 e.sky.nstart, .slice p.As e.sun.length p.cs, .slice p.Am e.moon.length p.cm, .slice p.An e.node.length p.cn, .slice p.Af e.feasts.length p.cf, .int .i64 e.nw, .int .i64 e.fl, .int .i64 e.wide, .slice p.At set.length p.ct, .map (some M)], .int .i64 0, undef, undef, undef, undef, undef, undef, undef, undef, undef, undef, undef, undef, undef, undef, undef, undef, undef, undef, undef, undef, undef, undef, undef, undef, undef, undef, undef, undef, undef, undef, undef, undef, undef, undef, undef, undef, undef, undef, undef, undef, undef, undef, undef, undef, undef, undef], []⟩ : Act)) ?hq (wp_region_free_tail 14 12 (emptyΦ p e set lo hi late W) (by kernel_rfl) (by simp) (by kernel_rfl) (by kernel_rfl) (by kernel_rfl) (by kernel_rfl) emptyΦ_mono ?hob ?hQ ?hZ)
 case hob =>
  intro i o hin ho a wa hE hF
  match i, hin with
  | 0, _ =>
   obtain rfl := Option.some.inj ho
   have h0 : a.tmps[5]?.getD undef = .pointer (some ⟨w.heap.size, 0, none⟩) := evalD (hF.old 5 (by decide))
   have q := (HR0.out.ext hE).cell
   refine Ran.value rfl (v := .agg #[.slice p.Ab e.sky.bodies.length p.cb, .int .i64 e.sky.nnum, .int .i64 e.sky.nden, .int .i64 e.sky.nstart, .slice p.As e.sun.length p.cs, .slice p.Am e.moon.length p.cm, .slice p.An e.node.length p.cn, .slice p.Af e.feasts.length p.cf, .int .i64 e.nw, .int .i64 e.fl, .int .i64 e.wide]) (w1 := wa) ?_ ⟨rfl, Ext.refl _⟩
   go_simp
  | 1, _ =>
   obtain rfl := Option.some.inj ho
   have h0 : a.tmps[1]?.getD undef = .slice p.At set.length p.ct := evalD (hF.old 1 (by decide))
   refine Ran.value rfl (v := .slice p.At set.length p.ct) (w1 := wa) ?_ ⟨rfl, Ext.refl _⟩
   go_simp
  | 2, _ =>
   obtain rfl := Option.some.inj ho
   have h0 : a.tmps[2]?.getD undef = .int .i64 lo := evalD (hF.old 2 (by decide))
   refine Ran.value rfl (v := .int .i64 lo) (w1 := wa) ?_ ⟨rfl, Ext.refl _⟩
   go_simp
  | 3, _ =>
   obtain rfl := Option.some.inj ho
   have h0 : a.tmps[3]?.getD undef = .int .i64 hi := evalD (hF.old 3 (by decide))
   refine Ran.value rfl (v := .int .i64 hi) (w1 := wa) ?_ ⟨rfl, Ext.refl _⟩
   go_simp
  | 4, _ =>
   obtain rfl := Option.some.inj ho
   have h0 : a.tmps[22]?.getD undef = .int .i64 lo := evalD (hF.from_ 2 22 rfl (by decide))
   have h1 : a.tmps[23]?.getD undef = .int .i64 hi := evalD (hF.from_ 3 23 rfl (by decide))
   refine Ran.enter rfl (f := 76) (args := #[.int .i64 lo, .int .i64 hi]) (w1 := wa) ?_ ?_
   ·go_simp
   ·refine (e_isSpan_any lo hi _).mono ?_
    rintro r w1 ⟨rfl, rfl⟩
    exact ⟨_, rfl, by rw [c2]; rfl, Ext.refl _⟩
  | 5, _ =>
   obtain rfl := Option.some.inj ho
   have h0 : a.tmps[24]?.getD undef = .bool true := evalD (hF.from_ 4 24 rfl (by decide))
   refine Ran.value rfl (v := .bool true) (w1 := wa) ?_ ⟨rfl, Ext.refl _⟩
   go_simp
  | 6, _ =>
   obtain rfl := Option.some.inj ho
   have hg : a.eval (.tmp 25) = .bool true := hF.from_ 5 25 rfl (by decide)
   refine Ran.if_ rfl rfl rfl hg (fun _ => ?_) (fun h => absurd rfl h)
   have h0 : a.tmps[9]?.getD undef = .pointer (some ⟨w.heap.size + 1, 0, none⟩) := evalD (hF.old 9 (by decide))
   have q := (HR1.out.ext hE).cell
   refine Ran.value rfl (v := .int .i64 late) (w1 := wa) ?_ ⟨rfl, Ext.refl _⟩
   go_simp
  | 7, _ =>
   obtain rfl := Option.some.inj ho
   have hg : a.eval (.tmp 25) = .bool true := hF.from_ 5 25 rfl (by decide)
   refine Ran.if_ rfl rfl rfl hg (fun _ => ?_) (fun h => absurd rfl h)
   have h0 : a.tmps[26]?.getD undef = .int .i64 late := evalD (hF.from_ 6 26 rfl (by decide))
   refine Ran.enter rfl (f := 83) (args := #[.int .i64 late]) (w1 := wa) ?_ ?_
   ·go_simp
   ·refine (e_isLate_any late _).mono ?_
    rintro r w1 ⟨rfl, rfl⟩
    exact ⟨_, rfl, by rw [c3]; rfl, Ext.refl _⟩
  | 8, _ =>
   obtain rfl := Option.some.inj ho
   have h0 : a.tmps[25]?.getD undef = .bool true := evalD (hF.from_ 5 25 rfl (by decide))
   have h1 : a.tmps[27]?.getD undef = .bool true := evalD (hF.from_ 7 27 rfl (by decide))
   refine Ran.value rfl (v := .bool true) (w1 := wa) ?_ ⟨rfl, Ext.refl _⟩
   go_simp
  | 9, _ =>
   obtain rfl := Option.some.inj ho
   have h0 : a.tmps[20]?.getD undef = .agg #[.slice p.Ab e.sky.bodies.length p.cb, .int .i64 e.sky.nnum, .int .i64 e.sky.nden, .int .i64 e.sky.nstart, .slice p.As e.sun.length p.cs, .slice p.Am e.moon.length p.cm, .slice p.An e.node.length p.cn, .slice p.Af e.feasts.length p.cf, .int .i64 e.nw, .int .i64 e.fl, .int .i64 e.wide] := evalD (hF.from_ 0 20 rfl (by decide))
   have h1 : a.tmps[21]?.getD undef = .slice p.At set.length p.ct := evalD (hF.from_ 1 21 rfl (by decide))
   have h2 : a.tmps[28]?.getD undef = .bool true := evalD (hF.from_ 8 28 rfl (by decide))
   refine Ran.enter rfl (f := 69) (args := #[.agg #[.slice p.Ab e.sky.bodies.length p.cb, .int .i64 e.sky.nnum, .int .i64 e.sky.nden, .int .i64 e.sky.nstart, .slice p.As e.sun.length p.cs, .slice p.Am e.moon.length p.cm, .slice p.An e.node.length p.cn, .slice p.Af e.feasts.length p.cf, .int .i64 e.nw, .int .i64 e.fl, .int .i64 e.wide], .slice p.At set.length p.ct, .bool true]) (w1 := wa) ?_ ?_
   ·go_simp
   ·refine (e_asked_ok p e set wa (HM.out.ext (HE0.out.trans hE)) HL.out hs c0 c1).mono ?_
    rintro r w1 ⟨M, rfl, hM, hC, hX⟩
    exact ⟨_, rfl, ⟨M, rfl, Nat.le_trans hE.size hM, hC⟩, hX⟩
  | 10, _ =>
   obtain rfl := Option.some.inj ho
   obtain ⟨M, h0, hM, hC⟩ : AskTup p e set W (a.eval (.tmp 29)) wa := hF.from_ 9 29 rfl (by decide)
   replace h0 := evalD h0
   refine Ran.value rfl (w1 := wa) (v := .tuple #[.agg #[.slice p.Ab e.sky.bodies.length p.cb, .int .i64 e.sky.nnum, .int .i64 e.sky.nden, .int .i64 e.sky.nstart, .slice p.As e.sun.length p.cs, .slice p.Am e.moon.length p.cm, .slice p.An e.node.length p.cn, .slice p.Af e.feasts.length p.cf, .int .i64 e.nw, .int .i64 e.fl, .int .i64 e.wide, .slice p.At set.length p.ct, .map (some M)], .int .i64 0]) ?_ ⟨⟨M, rfl, hM, hC⟩, Ext.refl _⟩
   go_simp
  | 11, _ =>
   obtain rfl := Option.some.inj ho
   obtain ⟨M, h0, hM, hC⟩ : AskTup p e set W (a.eval (.tmp 19)) wa := hF.from_ 10 19 rfl (by decide)
   replace h0 := evalD h0
   refine Ran.value rfl (w1 := wa) (v := .agg #[.slice p.Ab e.sky.bodies.length p.cb, .int .i64 e.sky.nnum, .int .i64 e.sky.nden, .int .i64 e.sky.nstart, .slice p.As e.sun.length p.cs, .slice p.Am e.moon.length p.cm, .slice p.An e.node.length p.cn, .slice p.Af e.feasts.length p.cf, .int .i64 e.nw, .int .i64 e.fl, .int .i64 e.wide, .slice p.At set.length p.ct, .map (some M)]) ?_ ⟨⟨M, rfl, hM, hC⟩, Ext.refl _⟩
   go_simp
  | 12, _ =>
   obtain rfl := Option.some.inj ho
   obtain ⟨M, h0, hM, hC⟩ : AskTup p e set W (a.eval (.tmp 19)) wa := hF.from_ 10 19 rfl (by decide)
   replace h0 := evalD h0
   refine Ran.value rfl (w1 := wa) (v := .int .i64 0) ?_ ⟨rfl, Ext.refl _⟩
   go_simp
  | 13, _ =>
   obtain rfl := Option.some.inj ho
   refine Ran.value rfl (w1 := wa.alloc (.cells zeroEng 100)) (v := .pointer (some ⟨wa.heap.size, 0, none⟩)) (by kernel_rfl) ⟨⟨wa.heap.size, rfl, hE.size, Row.new _ _ _⟩, (Ext.refl _).alloc _⟩
  | k + 14, hin => omega
 case hQ =>
  intro vs w2 hE hΦ
  have f0 : vs 0 = .agg #[.slice p.Ab e.sky.bodies.length p.cb, .int .i64 e.sky.nnum, .int .i64 e.sky.nden, .int .i64 e.sky.nstart, .slice p.As e.sun.length p.cs, .slice p.Am e.moon.length p.cm, .slice p.An e.node.length p.cn, .slice p.Af e.feasts.length p.cf, .int .i64 e.nw, .int .i64 e.fl, .int .i64 e.wide] := hΦ 0 (by omega)
  have f1 : vs 1 = .slice p.At set.length p.ct := hΦ 1 (by omega)
  have f2 : vs 2 = .int .i64 lo := hΦ 2 (by omega)
  have f3 : vs 3 = .int .i64 hi := hΦ 3 (by omega)
  have f4 : vs 4 = .bool true := hΦ 4 (by omega)
  have f5 : vs 5 = .bool true := hΦ 5 (by omega)
  have f6 : vs 6 = .int .i64 late := hΦ 6 (by omega)
  have f7 : vs 7 = .bool true := hΦ 7 (by omega)
  have f8 : vs 8 = .bool true := hΦ 8 (by omega)
  obtain ⟨M4, f9, _, _⟩ : AskTup p e set W (vs 9) w2 := hΦ 9 (by omega)
  obtain ⟨M5, f10, _, _⟩ : AskTup p e set W (vs 10) w2 := hΦ 10 (by omega)
  obtain ⟨M, f11, hM, hC⟩ : AskAgg p e set W (vs 11) w2 := hΦ 11 (by omega)
  have f12 : vs 12 = .int .i64 0 := hΦ 12 (by omega)
  obtain ⟨b, f13, hb, hr⟩ : AskNew W (vs 13) w2 := hΦ 13 (by omega)
  have hrg : List.range 14 = [0, 1, 2, 3, 4, 5, 6, 7, 8, 9, 10, 11, 12, 13] := rfl
  unfold putAll putS
  simp only [List.length_cons, List.length_nil, List.take_succ_cons, List.take_zero, List.drop_succ_cons, List.drop_zero, Nat.reduceAdd, hrg, List.foldl_cons, List.foldl_nil, dstOf, List.getElem?_cons_succ, List.getElem?_cons_zero, Option.bind_some]
  clear hrg
  rw [f0, f1, f2, f3, f4, f5, f6, f7, f8, f9, f10, f11, f12, f13]
  have c := hr.cell
  simp only [zeroEng] at c
  have fz := hr.free
  have hne : b ≠ M := fun h => (hC.not_row hr) h
  go_wp2
  clear c fz
  obtain ⟨W3, hW3⟩ : ∃ W3, setsAt w2 b 0 [.slice p.Ab e.sky.bodies.length p.cb, .int .i64 e.sky.nnum, .int .i64 e.sky.nden, .int .i64 e.sky.nstart, .slice p.As e.sun.length p.cs, .slice p.Am e.moon.length p.cm, .slice p.An e.node.length p.cn, .slice p.Af e.feasts.length p.cf, .int .i64 e.nw, .int .i64 e.fl, .int .i64 e.wide, .slice p.At set.length p.ct, .map (some M)] = W3 := ⟨_, rfl⟩
  have hR3 : Row W3 b 100 #[.slice p.Ab e.sky.bodies.length p.cb, .int .i64 e.sky.nnum, .int .i64 e.sky.nden, .int .i64 e.sky.nstart, .slice p.As e.sun.length p.cs, .slice p.Am e.moon.length p.cm, .slice p.An e.node.length p.cn, .slice p.Af e.feasts.length p.cf, .int .i64 e.nw, .int .i64 e.fl, .int .i64 e.wide, .slice p.At set.length p.ct, .map (some M)] := by rw [← hW3]; exact Row.sets (cs := [.slice none 0 0, .int .i64 0, .int .i64 0, .int .i64 0, .slice none 0 0, .slice none 0 0, .slice none 0 0, .slice none 0 0, .int .i64 0, .int .i64 0, .int .i64 0, .slice none 0 0, .map none]) hr _ rfl
  have hE3 : Ext W W3 := by rw [← hW3]; exact Ext.sets hb _ _ _ hE
  have hC3 : Seen e set M W3 := by rw [← hW3]; exact Cache.sets hne _ _ _ hC
  simp only [setsAt, Nat.reduceAdd] at hW3
  try rw [hW3]
  exact ⟨M4, M5, M, b, hb, hM, hE3, hR3, hC3, by simp⟩
 case hZ =>
  intro _ vs w2 hE hΦ on oz hon hoz
  obtain rfl := Option.some.inj hon
  obtain rfl := Option.some.inj hoz
  have f0 : vs 0 = .agg #[.slice p.Ab e.sky.bodies.length p.cb, .int .i64 e.sky.nnum, .int .i64 e.sky.nden, .int .i64 e.sky.nstart, .slice p.As e.sun.length p.cs, .slice p.Am e.moon.length p.cm, .slice p.An e.node.length p.cn, .slice p.Af e.feasts.length p.cf, .int .i64 e.nw, .int .i64 e.fl, .int .i64 e.wide] := hΦ 0 (by omega) (by omega)
  have f1 : vs 1 = .slice p.At set.length p.ct := hΦ 1 (by omega) (by omega)
  have f2 : vs 2 = .int .i64 lo := hΦ 2 (by omega) (by omega)
  have f3 : vs 3 = .int .i64 hi := hΦ 3 (by omega) (by omega)
  have f4 : vs 4 = .bool true := hΦ 4 (by omega) (by omega)
  have f5 : vs 5 = .bool true := hΦ 5 (by omega) (by omega)
  have f6 : vs 6 = .int .i64 late := hΦ 6 (by omega) (by omega)
  have f7 : vs 7 = .bool true := hΦ 7 (by omega) (by omega)
  have f8 : vs 8 = .bool true := hΦ 8 (by omega) (by omega)
  obtain ⟨M4, f9, _, _⟩ : AskTup p e set W (vs 9) w2 := hΦ 9 (by omega) (by omega)
  obtain ⟨M5, f10, _, _⟩ : AskTup p e set W (vs 10) w2 := hΦ 10 (by omega) (by omega)
  obtain ⟨M, f11, hM, hC⟩ : AskAgg p e set W (vs 11) w2 := hΦ 11 (by omega) (by omega)
  obtain ⟨b, f13, hb, hr⟩ : AskNew W (vs 13) w2 := hΦ 13 (by omega) (by omega)
  have hrg : (List.range 14).filter (· ≠ 12) = [0, 1, 2, 3, 4, 5, 6, 7, 8, 9, 10, 11, 13] := by decide
  rw [hrg]
  unfold putS
  simp only [List.take_succ_cons, List.take_zero, List.drop_succ_cons, List.drop_zero, Nat.reduceAdd, List.foldl_cons, List.foldl_nil, dstOf, List.getElem?_cons_succ, List.getElem?_cons_zero, Option.bind_some]
  clear hrg
  rw [f0, f1, f2, f3, f4, f5, f6, f7, f8, f9, f10, f11, f13]
  have c := hr.cell
  simp only [zeroEng] at c
  have fz := hr.free
  have hne : b ≠ M := fun h => (hC.not_row hr) h
  go_wp2
  clear c fz
  obtain ⟨W3, hW3⟩ : ∃ W3, setsAt w2 b 0 [.slice p.Ab e.sky.bodies.length p.cb, .int .i64 e.sky.nnum, .int .i64 e.sky.nden, .int .i64 e.sky.nstart, .slice p.As e.sun.length p.cs, .slice p.Am e.moon.length p.cm, .slice p.An e.node.length p.cn, .slice p.Af e.feasts.length p.cf, .int .i64 e.nw, .int .i64 e.fl, .int .i64 e.wide, .slice p.At set.length p.ct, .map (some M)] = W3 := ⟨_, rfl⟩
  have hR3 : Row W3 b 100 #[.slice p.Ab e.sky.bodies.length p.cb, .int .i64 e.sky.nnum, .int .i64 e.sky.nden, .int .i64 e.sky.nstart, .slice p.As e.sun.length p.cs, .slice p.Am e.moon.length p.cm, .slice p.An e.node.length p.cn, .slice p.Af e.feasts.length p.cf, .int .i64 e.nw, .int .i64 e.fl, .int .i64 e.wide, .slice p.At set.length p.ct, .map (some M)] := by rw [← hW3]; exact Row.sets (cs := [.slice none 0 0, .int .i64 0, .int .i64 0, .int .i64 0, .slice none 0 0, .slice none 0 0, .slice none 0 0, .slice none 0 0, .int .i64 0, .int .i64 0, .int .i64 0, .slice none 0 0, .map none]) hr _ rfl
  have hE3 : Ext W W3 := by rw [← hW3]; exact Ext.sets hb _ _ _ hE
  have hC3 : Seen e set M W3 := by rw [← hW3]; exact Cache.sets hne _ _ _ hC
  simp only [setsAt, Nat.reduceAdd] at hW3
  try rw [hW3]
  exact ⟨M4, M5, M, b, hb, hM, hE3, hR3, hC3, by simp⟩
 case hq =>
  rintro e' a' w3 ⟨rfl, M4, M5, M, b, hb, hM, hE3, hR3, hC3, rfl⟩
  have c := hR3.cell
  have HE3 := Lib.hid (HE0.out.trans hE3)
  have HL3 := Lib.hid (HR1.out.ext hE3)
  have HR3 := Lib.hid hR3
  have HC3 := Lib.hid hC3
  have cl := HL3.out.cell
  clear hE3 hR3 hC3
  go_wp2_with fail
  refine (e_real_any p e set M (lo - late) (hi + late) _ hK (HM.out.ext HE3.out) HL.out.sky (by omega) (by omega) (by omega) (by omega) (by omega)).mono ?_
  rintro r w4 ⟨v1, rfl, hv1, hE4⟩
  clear c cl
  obtain ⟨A1, cp1, rfl, q1⟩ := hv1
  obtain ⟨R, hR⟩ : ∃ R, Ec.realL e (max 1 (lo - late)) (hi + late) = R := ⟨_, rfl⟩
  have HRL := Lib.hid hR
  rw [hR] at q1 ⊢
  clear hR
  have HE4 := Lib.hid (HE3.out.trans hE4)
  have HR4 := Lib.hid (HR3.out.ext hE4)
  have HL4 := Lib.hid (HL3.out.ext hE4)
  have HC4 := Lib.hid (HC3.out.ext hE4)
  have HQ4 := Lib.hid q1
  clear hE4 q1 HR3 HL3 HC3 HE3
  have x1 := HE4.out.alloc (.cells #[.slice A1 R.length cp1] 50)
  have x2 := HR4.out.alloc (.cells #[.slice A1 R.length cp1] 50)
  have x3 := HL4.out.alloc (.cells #[.slice A1 R.length cp1] 50)
  have x4 := HC4.out.ext ((Ext.refl w4).alloc (.cells #[.slice A1 R.length cp1] 50))
  have x5 := Row.new w4 50 #[.slice A1 R.length cp1]
  have x6 : EclVal (w4.alloc (.cells #[.slice A1 R.length cp1] 50)) (.slice A1 R.length cp1) R := EclVal.ext ⟨A1, cp1, rfl, HQ4.out⟩ ((Ext.refl w4).alloc _)
  have x7 : w4.heap.size + 1 = (w4.alloc (.cells #[.slice A1 R.length cp1] 50)).heap.size := by simp
  have hltb := lts HR4.out.lt
  go_wp2_with fail
  obtain ⟨w5, hw5⟩ : ∃ W, w4.alloc (.cells #[.slice A1 R.length cp1] 50) = W := ⟨_, rfl⟩
  rw [hw5] at x1 x2 x3 x4 x5 x6 x7 ⊢
  clear hw5
  have HE5 := Lib.hid x1
  have HR5 := Lib.hid x2
  have HL5 := Lib.hid x3
  have HC5 := Lib.hid x4
  have H14 := Lib.hid x5
  have HV5 := Lib.hid x6
  have c := x2.cell
  have HO := Lib.hid (Out.new w5 (w5.heap.size + 4) 50 59 3)
  have HC6 := Lib.hid (x4.ext ((Ext.refl w5).alloc (.cells #[.slice none 0 0] 50)))
  have HE6 := Lib.hid (x1.alloc (.cells #[.slice none 0 0] 50))
  have hlt := lts x2.lt
  clear x1 x2 x3 x4 x5 x6 hltb
  go_wp2_with fail
  go_step3
  go_wp2_with fail
  refine (e_foretold_any p e set M lo hi _).mono ?_
  rintro r w7 ⟨rfl, rfl⟩
  have hz4 : (w5.alloc (.cells #[.slice none 0 0] 50)).heap.size = w5.heap.size + 1 := World.size_alloc _ _
  have HI := Lib.hid (foreIn_new (p := p) lo hi HE6.out HC6.out)
  have HF := Lib.hid (foreW_F p e set M lo hi (w5.alloc (.cells #[.slice none 0 0] 50)))
  have HO5 := Lib.hid (HO.out.ext (foreW_ext p e set M lo hi (w5.alloc (.cells #[.slice none 0 0] 50))))
  have HX7 := Lib.hid (((Ext.refl w5).alloc (.cells #[.slice none 0 0] 50)).trans (foreW_ext p e set M lo hi (w5.alloc (.cells #[.slice none 0 0] 50))))
  have hsz := foreW_size p e set M lo hi (w5.alloc (.cells #[.slice none 0 0] 50))
  have hM3 := HC5.out.lt
  have hMO : M ≠ w5.heap.size := by omega
  have hw3 := HE5.out.size
  have hMw := Nat.le_trans HE0.out.size hM
  obtain ⟨W7, hW7⟩ : ∃ W7, foreW p e set M lo hi (w5.alloc (.cells #[.slice none 0 0] 50)) = W7 := ⟨_, rfl⟩
  rw [hW7] at HI HF HO5 HX7 hsz ⊢
  clear hW7 c HC6 HO
  rw [hz4] at HI HF hsz ⊢
  go_wp2_with fail
  refine (wpIn_wide (n := 8)).1 ?_
  have HRD : Hid (DaysIn R) := Lib.hid (by rw [← HRL.out]; exact real_days e (by omega) (by omega))
  have hRln : R.length ≤ 100000 := by rw [← HRL.out]; exact real_few e (by omega) (by omega)
  have hkeep7 : ∀ k, k < w5.heap.size → k ≠ M → W7.heap[k]? = w5.heap[k]? := fun k h1 _ => HX7.out.block k h1
  refine wpIn_range_step rfl (by omega) (gf := 133) (lb := #[.pointer (some ⟨w5.heap.size + 1 + 1, 0, none⟩), .pointer (some ⟨w5.heap.size + 1 + 2, 0, none⟩), .pointer (some ⟨w5.heap.size + 1, 0, none⟩)]) rfl trivial (enters_of Tryz.func133 (by kernel_rfl) rfl)
   (fun W' hW' => fore_seq (8 - 1) (by omega) p e set M lo hi w hK HM.out hMw (by omega) (by omega) (by omega) (by omega) (w5.heap.size + 1) W7 HF.out HI.out W' hW')
   (fun h k => keepsEng_t h k) (fun W l o o' h1 h2 h3 h4 => keepsEng_b (by omega) (by omega) (by omega) (by omega) W l o o' h1 h2 h3 h4)
   (fun A B h => Step.keeps h (by omega)) (fun _ => rfl)
   (EmI w (w5.heap.size + 4) w5.heap.size e set M R late w5)
   (fun _ _ _ => False)
   (emI_own (by omega) (by omega) (by omega) (by omega))
   (fun _ _ _ _ _ hs _ _ => hs)
   (emI_step hMw (by omega))
   ⟨⟨_, HO5.out⟩, ⟨HI.out.ext, by omega⟩, HI.out.cache, hkeep7⟩
   (fun x a' W => ∃ Bx, Row W Bx 59 #[.int .i64 x.1.day, .bool x.1.full, .int .i64 x.1.far] ∧ a' = (⟨#[.agg #[.slice p.Ab e.sky.bodies.length p.cb, .int .i64 e.sky.nnum, .int .i64 e.sky.nden, .int .i64 e.sky.nstart, .slice p.As e.sun.length p.cs, .slice p.Am e.moon.length p.cm, .slice p.An e.node.length p.cn, .slice p.Af e.feasts.length p.cf, .int .i64 e.nw, .int .i64 e.fl, .int .i64 e.wide], .slice p.At set.length p.ct, .int .i64 lo, .int .i64 hi, .int .i64 late, .pointer (some ⟨w.heap.size, 0, none⟩), undef, undef, undef, .pointer (some ⟨w.heap.size + 1, 0, none⟩), .slice none 0 0, .int .i64 0, .pointer (some ⟨b, 0, none⟩), .int .i64 0, .pointer (some ⟨w4.heap.size, 0, none⟩), .pointer (some ⟨w5.heap.size, 0, none⟩), .pointer (some ⟨Bx, 0, none⟩), undef, undef, .tuple #[.agg #[.slice p.Ab e.sky.bodies.length p.cb, .int .i64 e.sky.nnum, .int .i64 e.sky.nden, .int .i64 e.sky.nstart, .slice p.As e.sun.length p.cs, .slice p.Am e.moon.length p.cm, .slice p.An e.node.length p.cn, .slice p.Af e.feasts.length p.cf, .int .i64 e.nw, .int .i64 e.fl, .int .i64 e.wide, .slice p.At set.length p.ct, .map (some M5)], .int .i64 0], .agg #[.slice p.Ab e.sky.bodies.length p.cb, .int .i64 e.sky.nnum, .int .i64 e.sky.nden, .int .i64 e.sky.nstart, .slice p.As e.sun.length p.cs, .slice p.Am e.moon.length p.cm, .slice p.An e.node.length p.cn, .slice p.Af e.feasts.length p.cf, .int .i64 e.nw, .int .i64 e.fl, .int .i64 e.wide], .slice p.At set.length p.ct, .int .i64 lo, .int .i64 hi, .bool true, .bool true, .int .i64 late, .bool true, .bool true, .tuple #[.agg #[.slice p.Ab e.sky.bodies.length p.cb, .int .i64 e.sky.nnum, .int .i64 e.sky.nden, .int .i64 e.sky.nstart, .slice p.As e.sun.length p.cs, .slice p.Am e.moon.length p.cm, .slice p.An e.node.length p.cn, .slice p.Af e.feasts.length p.cf, .int .i64 e.nw, .int .i64 e.fl, .int .i64 e.wide, .slice p.At set.length p.ct, .map (some M4)], .int .i64 0], .agg #[.slice p.Ab e.sky.bodies.length p.cb, .int .i64 e.sky.nnum, .int .i64 e.sky.nden, .int .i64 e.sky.nstart, .slice p.As e.sun.length p.cs, .slice p.Am e.moon.length p.cm, .slice p.An e.node.length p.cn, .slice p.Af e.feasts.length p.cf, .int .i64 e.nw, .int .i64 e.fl, .int .i64 e.wide, .slice p.At set.length p.ct, .map (some M)], .int .i64 0, .int .i64 0, .bool false, undef, .agg #[.slice p.Ab e.sky.bodies.length p.cb, .int .i64 e.sky.nnum, .int .i64 e.sky.nden, .int .i64 e.sky.nstart, .slice p.As e.sun.length p.cs, .slice p.Am e.moon.length p.cm, .slice p.An e.node.length p.cn, .slice p.Af e.feasts.length p.cf, .int .i64 e.nw, .int .i64 e.fl, .int .i64 e.wide, .slice p.At set.length p.ct, .map (some M)], .int .i64 lo, .int .i64 late, .int .i64 (lo - late), .int .i64 hi, .int .i64 late, .int .i64 (hi + late), .slice A1 R.length cp1, .agg #[.slice p.Ab e.sky.bodies.length p.cb, .int .i64 e.sky.nnum, .int .i64 e.sky.nden, .int .i64 e.sky.nstart, .slice p.As e.sun.length p.cs, .slice p.Am e.moon.length p.cm, .slice p.An e.node.length p.cn, .slice p.Af e.feasts.length p.cf, .int .i64 e.nw, .int .i64 e.fl, .int .i64 e.wide, .slice p.At set.length p.ct, .map (some M)], .int .i64 lo, .int .i64 hi, foreV (w5.heap.size + 1), .agg #[.int .i64 x.1.day, .bool x.1.full, .int .i64 x.1.far], undef, undef, undef, undef, undef, undef, undef, undef, undef, undef, undef, undef, undef, undef, undef, undef, undef, undef, undef, undef, undef, undef, undef, undef, undef, undef, undef, undef, undef, undef], []⟩ : Act))
   (fun x a' _ X Y row hs hg hr => by obtain ⟨Bx, h1, h2⟩ := hs; exact ⟨Bx, h1.kept hg fun r e => (hr r e).2, h2⟩)
   ?assign ?body ?done ?stop
  case assign =>
   rintro l pre x W K hi' hK'
   simp only [eclV]
   gi_wp2
   obtain ⟨⟨v, hO⟩, ⟨hB, hz⟩, hC, hKp⟩ := hi'
   have hMl := hC.lt
   exact hK' _ _ ((KeepsOthers.alloc _ _).from _) ⟨(Below.refl _ _).alloc (by omega) _, Below.heap_alloc _ _ _ (by omega), Below.heap_alloc _ _ _ (by omega), Below.heap_alloc _ _ _ (by omega)⟩
    ⟨⟨v, hO.ext ((Ext.refl _).alloc _)⟩, ⟨hB.alloc hB.size _, by simp; omega⟩, hC.ext ((Ext.refl _).alloc _), fun k h1 h2 => (Below.heap_alloc _ _ _ (by omega)).trans (hKp k h1 h2)⟩ ⟨_, Row.new _ _ _, rfl⟩
  case body =>
   rintro l pre x a' W hl' ⟨⟨v, hO⟩, ⟨hB, hz⟩, hC, hKp⟩ ⟨Bx, rX, rfl⟩ hlt
   have hMl := hC.lt
   have hln := foreN_len e set (max 1 lo) (hi + 1 - max 1 lo).toNat
   have hpl : pre.length < 1000 := by unfold Ec.foreL at hlt; omega
   obtain ⟨i0, hi0, hz0, hz1, hz2⟩ := info_parts info_ecl
   have r14 : Row W w4.heap.size 50 #[.slice A1 R.length cp1] := (hKp _ H14.out.lt (HC5.out.not_row H14.out)).trans H14.out
   have rL : Row W (w.heap.size + 1) 3 #[.int .i64 late] := (hKp _ HL5.out.lt (HC5.out.not_row HL5.out)).trans HL5.out
   have hV : EclVal W (.slice A1 R.length cp1) R := HV5.out.kept_but (fun p u hp => HC5.out.not_cell hp) hKp
   obtain ⟨A2, cp2, hA2, qR⟩ := hV
   obtain ⟨rfl, rfl⟩ : A1 = A2 ∧ cp1 = cp2 := by cases hA2; exact ⟨rfl, rfl⟩
   have HQR := Lib.hid qR
   clear hA2 qR hln hlt
   have b14 := r14.cell
   have bX := rX.cell
   have HRX := Lib.hid rX
   have HRLt := Lib.hid rL
   have HO := Lib.hid hO
   have hjx := lts rX.lt
   obtain ⟨⟨yd, yf, yr⟩, hy⟩ := x
   dsimp only at bX HRX hy ⊢
   gi_wp2
   clear b14 bX
   gi_loopw [50] (fun i wr => ∃ k : Nat, k ≤ R.length ∧ i = .int .i64 (k : Int) ∧ (R.take k).any (bsP ⟨yd, yf, yr⟩ late) = false ∧ Ext W wr) (fun i _ => R.length - (intOf i).toNat)
   case atStart => exact ⟨0, Nat.zero_le _, rfl, rfl, Ext.refl _⟩
   case round =>
    obtain ⟨k, hk, rfl, htk, hX⟩ := hrel
    have HX := Lib.hid hX
    by_cases hkl : k < R.length
    ·obtain ⟨b1, o1, rfl, p1⟩ := HQR.out (by omega)
     have a0 := hX.cell (p1 k hkl).1
     have a1 := hX.cell (p1 k hkl).2.1
     have a2 := hX.cell (p1 k hkl).2.2
     have HNX := Lib.hid (fun he => any_take hkl htk he)
     have HIN := Lib.hid (fun he => any_at (P := bsP ⟨yd, yf, yr⟩ late) hkl he)
     have hdm : 0 ≤ (R[k]).day ∧ (R[k]).day ≤ 20000 := HRD.out _ (List.getElem_mem hkl)
     clear p1 htk hX
     generalize R[k] = m at *
     obtain ⟨md, mf, mr⟩ := m
     dsimp only at a0 a1 a2 hdm
     have HPE : Hid (bsP ⟨yd, yf, yr⟩ late ⟨md, mf, mr⟩ = ((mf == yf) && Sp.inR md (yd - late) (yd + late))) := Lib.hid rfl
     have rX2 := (HRX.out.ext HX.out).alloc (.cells #[.int .i64 md, .bool mf, .int .i64 mr] 59)
     have rL2 := (HRLt.out.ext HX.out).alloc (.cells #[.int .i64 md, .bool mf, .int .i64 mr] 59)
     have rN := Row.new wr 59 #[.int .i64 md, .bool mf, .int .i64 mr]
     have HXN := Lib.hid (HX.out.alloc (.cells #[.int .i64 md, .bool mf, .int .i64 mr] 59))
     have bX := rX2.cell
     have bL := rL2.cell
     have bN := rN.cell
     cases hfe : (mf == yf)
     ·have HX3 := Lib.hid (HNX.out (by rw [HPE.out, hfe]; rfl))
      clear HNX HIN HPE
      gi_wp2
      refine ⟨trivial, ?_⟩
      gi_wp2
      go_roundw
      case rel => exact ⟨k + 1, by omega, by go_num, HX3.out, HXN.out⟩
      case measure => simp [intOf]; omega
     ·cases hin : Sp.inR md (yd - late) (yd + late)
      ·have HX3 := Lib.hid (HNX.out (by rw [HPE.out, hfe, hin]; rfl))
       clear HNX HIN HPE
       gi_wp2
       refine ⟨trivial, CallsIn.inRound l ((callsIn_wide.2 (e_in_any md (yd - late) (yd + late) _)).mono ?_)⟩
       rintro r w' ⟨rfl, rfl⟩
       rw [hin]
       gi_wp2
       go_roundw
       case rel => exact ⟨k + 1, by omega, by go_num, HX3.out, HXN.out⟩
       case measure => simp [intOf]; omega
      ·have HX3 := Lib.hid (HIN.out (by rw [HPE.out, hfe, hin]; rfl))
       clear HNX HIN HPE
       gi_wp2
       refine ⟨trivial, CallsIn.inRound l ((callsIn_wide.2 (e_in_any md (yd - late) (yd + late) _)).mono ?_)⟩
       rintro r w' ⟨rfl, rfl⟩
       rw [hin]
       gi_wp2
       have hP := Push.of_ext (bO := w5.heap.size) (v := v) HXN.out
       refine ⟨Push.keepsFrom HO.out hP _, ⟨hP.below HO.out (N := w.heap.size) (by omega) (by omega) hz, Push.old HO.out hP (by omega) hz (by omega), Push.old HO.out hP (by omega) hz (by omega), Push.old HO.out hP (by omega) hz (by omega)⟩, ⟨v, ?_⟩, ⟨hB.trans (hP.below HO.out (N := w.heap.size) (by omega) (by omega) hz), Nat.le_trans hz hP.size⟩, hC.of_block (Push.old HO.out hP (by omega) hz (by omega)), fun k h1 h2 => (Push.old HO.out hP (by omega) hz (by omega)).trans (hKp k h1 h2)⟩
       have := HO.out.ext HXN.out
       rw [without_snoc, if_pos (show Ec.beside R ⟨yd, yf, yr⟩ late = true from HX3.out)]
       exact this
    ·obtain rfl : k = R.length := by omega
     rw [List.take_length] at htk
     have HBE := Lib.hid htk
     have hOr := HO.out.ext hX
     have HOr := Lib.hid hOr
     have hzr := hX.size
     have hO5 := hOr.ext ((Ext.refl _).alloc (.cells #[.int .i64 yd, .bool yf, .int .i64 yr] 59))
     have rXr := HRX.out.ext hX
     have r0 := rXr.cell
     have rO := hOr.box.cell 0
     have hlw : (Ec.without (pre.map (·.1)) R late).length ≤ 1000 := Nat.le_trans (List.length_filter_le ..) (by rw [List.length_map]; omega)
     simp only [List.getElem?_toArray, List.getElem?_cons_zero] at rO
     clear htk hX hOr
     gi_wp2_with (gi_at_builtin; refine wpListIn_append_own_at _ rfl _ _ 50 rfl (w5.heap.size + 4) 59 i0 _ 3 24 Tryz.underlying50 hi0 hz0 hz1 hz2 rfl (by decide) v _ _ rfl hO5.own ⟨wr.heap.size, 0, none⟩ 1 1 [.int .i64 yd, .bool yf, .int .i64 yr] rfl rfl (World.news_of_block (cs := #[.int .i64 yd, .bool yf, .int .i64 yr]) (t := 59) (fr := (0, 0)) (heap_alloc_new _ _)) (by simp [Value.oneCell']) (by simp only [maxLen]; omega) (by omega) (by simp; omega) ?_; intro v' w8 hown1 hgrow _ hat; obtain ⟨gg, cap, rfl⟩ := ownsRow_succ hown1; have hc3 := grown_cell hgrow hO5.box hO5.ne 0; have hf3 := grown_free hgrow hO5.box hO5.ne 0; simp only [List.getElem?_toArray, List.getElem?_cons_zero] at hc3)
     have hat' : v.ownBlock = some gg ∨ gg = (wr.alloc (.cells #[.int .i64 yd, .bool yf, .int .i64 yr] 59)).heap.size := by
      rcases hat with e | e
      ·exact .inl e.symm
      ·exact .inr (by simpa [Value.ownBlock] using e)
     have hpush := hO5.pushed (Ext.refl _) hown1 hgrow hat'
     have hP := (Push.of_ext (bO := w5.heap.size) (v := v) (HX.out.alloc (.cells #[.int .i64 yd, .bool yf, .int .i64 yr] 59))).trans hpush.2
     refine ⟨Push.keepsFrom HO.out hP _, ⟨hP.below HO.out (N := w.heap.size) (by omega) (by omega) hz, Push.old HO.out hP (by omega) hz (by omega), Push.old HO.out hP (by omega) hz (by omega), Push.old HO.out hP (by omega) hz (by omega)⟩, ⟨.slice (some ⟨gg, 0, none⟩) ((Ec.without (pre.map (·.1)) R late).length + 1) cap, ?_⟩, ⟨hB.trans (hP.below HO.out (N := w.heap.size) (by omega) (by omega) hz), Nat.le_trans hz hP.size⟩, hC.of_block (Push.old HO.out hP (by omega) hz (by omega)), fun k h1 h2 => (Push.old HO.out hP (by omega) hz (by omega)).trans (hKp k h1 h2)⟩
     rw [without_snoc, if_neg (show ¬ Ec.beside R ⟨yd, yf, yr⟩ late = true by rw [show Ec.beside R ⟨yd, yf, yr⟩ late = false from HBE.out]; decide)]
     simpa [eclCells] using hpush.1
  case done =>
   rintro D xs W hD hS ⟨⟨v, hO⟩, ⟨hB, hz⟩, hC, hKp⟩ hK'
   have cO := hO.box.cell 0
   simp only [List.getElem?_toArray, List.getElem?_cons_zero] at cO
   go_wp2_with fail
   refine ⟨by simp, .inl ⟨_, _, rfl, run_takeDeferred hK', ?_⟩⟩
   refine ⟨_, results_tmp2 rfl _ _ _, v, rfl, ?_, ?_⟩
   ·have := (hO.kept (grownBy_putObj' W D (.deferred none)) (fun r e => by cases e; exact ⟨_, hK', rfl⟩)).own
    have hx : max 1 lo = lo := by omega
    unfold ForeAll at hS
    rw [hx] at hS
    rw [hS, ← HRL.out] at this
    exact EclVal.of_own this
   ·exact hB.grown (grownBy_putObj' W D (.deferred none)) hB.size (fun k e => by cases e; omega)
  case stop =>
   rintro D c' pre W _ _ h _
   exact h.elim
end Go.Proofs.YtcbodpnmndbgnaaGreatDoor
