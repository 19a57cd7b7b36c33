/- Volume 8 of the texts that the laws of this seat use: EcEmptyW EcRef2 EcRef4 EcRef5 TpRFT V07N TpRepeat TpS: walks of the program's functions, and plain laws. -/
import Derived.Carry
import Derived.BigQuiet
import Derived.Laws.CopyOwn
import Derived.Test.YtimkmokomohgjaaGreatR02
import Derived.Test.YtimkmokomohgjaaGreatR05
import Derived.Test.YtimkmokomohgjaaGreatR06
import Derived.Test.YtimkmokomohgjaaGreatR07
namespace Go.Proofs.YtimkmokomohgjaaGreat
open Go.RowKit
open Sp (rd)
set_option maxRecDepth 100000
set_option maxHeartbeats 16000000
set_option linter.unusedVariables false
attribute [local go_sem] Oper.semAt_some
def emptyΦ (p : EP) (e : Ec.Engine) (set : List Int) (lo : Int) (hi : Int) (late : Int) (w0 : World) (i : Nat) (v : Value) (w : World) : Prop :=
  match i with
  | 0 => v = .agg #[.slice p.Ab e.sky.bodies.length p.cb, .int .i64 e.sky.nnum, .int .i64 e.sky.nden, .int .i64 e.sky.nstart, .slice p.As e.sun.length p.cs, .slice p.Am e.moon.length p.cm, .slice p.An e.node.length p.cn, .slice p.Af e.feasts.length p.cf, .int .i64 e.nw, .int .i64 e.fl, .int .i64 e.wide]
  | 1 => v = .slice p.At set.length p.ct
  | 2 => v = .int .i64 lo
  | 3 => v = .int .i64 hi
  | 4 => v = .bool true
  | 5 => v = .bool true
  | 6 => v = .int .i64 late
  | 7 => v = .bool true
  | 8 => v = .bool true
  | 9 => AskTup p e set w0 v w
  | 10 => AskTup p e set w0 v w
  | 11 => AskAgg p e set w0 v w
  | 12 => v = .int .i64 0
  | _ => AskNew w0 v w
theorem emptyΦ_mono {p : EP} {e : Ec.Engine} {set : List Int} {lo : Int} {hi : Int} {late : Int} {w0 : World} (i : Nat) (v : Value) (w w' : World) (h : emptyΦ p e set lo hi late w0 i v w) (he : Ext w w') : emptyΦ p e set lo hi late w0 i v w' := by
  unfold emptyΦ at h ⊢
  split at h <;> first
    | exact h
    | exact AskTup.ext h he
    | exact AskAgg.ext h he
    | exact AskNew.ext h he
def EmI (w : World) (base bO : Nat) (e : Ec.Engine) (set : List Int) (M : Nat) (R : List Sp.Ecl) (late : Int) (w5 : World) (pre : List Ecl1) (W : World) : Prop :=
  (∃ v, Out W base bO 92 156 3 v (Ec.without (pre.map (·.1)) R late).length (eclCells (Ec.without (pre.map (·.1)) R late))) ∧ (Below w.heap.size w W ∧ base ≤ W.heap.size) ∧ Seen e set M W ∧ ∀ k, k < bO → k ≠ M → W.heap[k]? = w5.heap[k]?
theorem emI_own {w : World} {base bO : Nat} {e : Ec.Engine} {set : List Int} {M B : Nat} {R : List Sp.Ecl} {late : Int} {w5 : World} (hB : w.heap.size ≤ B) (hM : M < B) (hO : bO ≤ B) (hb : bO ≤ base) : OwnFrom B (EmI w base bO e set M R late w5) := fun _ _ _ _ ⟨⟨v, h⟩, ⟨hb1, hz⟩, hc, hk⟩ hg hr =>
  ⟨⟨v, h.kept hg fun r e => (hr r e).2⟩, ⟨hb1.grown hg hb1.size (fun k e => Nat.le_trans hB (hr k e).1), Nat.le_trans hz hg.size⟩, hc.kept hg (fun e => by have := (hr M e.symm).1; omega), fun k h1 h2 => (hg.block k (by omega) (fun e => by have := (hr k e.symm).1; omega)).trans (hk k h1 h2)⟩
theorem emI_step {w : World} {base bO : Nat} {e : Ec.Engine} {set : List Int} {M : Nat} {R : List Sp.Ecl} {late : Int} {w5 : World} (hM : w.heap.size ≤ M) (hb : bO ≤ base) (s : List Ecl1) (A B : World) (h : EmI w base bO e set M R late w5 s A) (hm : Move e set M A B) : EmI w base bO e set M R late w5 s B :=
  let ⟨⟨v, ho⟩, ⟨hb1, hz⟩, hc, hk⟩ := h
  ⟨⟨v, hm.out hc ho⟩, ⟨hb1.trans (hm.below hM hb1.size), Nat.le_trans hz hm.size⟩, hm.cache, fun k h1 h2 => (hm.block (by omega) h2).trans (hk k h1 h2)⟩
theorem without_snoc (pre : List Ecl1) (y : Ecl1) (R : List Sp.Ecl) (late : Int) : Ec.without ((pre ++ [y]).map (·.1)) R late = if Ec.beside R y.1 late = true then Ec.without (pre.map (·.1)) R late else Ec.without (pre.map (·.1)) R late ++ [y.1] := by
  unfold Ec.without
  rw [List.map_append, List.filter_append]
  cases h : Ec.beside R y.1 late <;> simp [h]
theorem cell_same {w W : World} {p : Addr} {u : Value} (h : w.cell? p = some u) (hb : W.heap[p.block]? = w.heap[p.block]?) : W.cell? p = some u := by
  unfold World.cell? at h ⊢
  rw [hb]
  exact h
theorem EclVal.kept_but {w5 W : World} {M : Nat} {v : Value} {R : List Sp.Ecl} (h : EclVal w5 v R) (hn : ∀ p u, w5.cell? p = some u → p.block ≠ M) (hk : ∀ k, k < w5.heap.size → k ≠ M → W.heap[k]? = w5.heap[k]?) : EclVal W v R := by
  obtain ⟨A, c, rfl, q⟩ := h
  have f : ∀ p u, w5.cell? p = some u → W.cell? p = some u := fun p u hp => cell_same hp (hk _ (lt_of_cell hp) (hn p u hp))
  exact ⟨A, c, rfl, fun h0 => let ⟨b, o, e, p⟩ := q h0; ⟨b, o, e, fun k hk' => ⟨f _ _ (p k hk').1, f _ _ (p k hk').2.1, f _ _ (p k hk').2.2⟩⟩⟩
theorem e_Empty_ok (p : EP) (e : Ec.Engine) (set : List Int) (lo hi late : Int) (w : World) (hm : EngSet w p e set) (hl : EngShort e) (hs : set.length ≤ 100000) (c0 : Ec.engineOk e = true) (c1 : Ec.setOk e.feasts set = true) (c2 : Ec.isSpan lo hi = true) (c3 : Ec.isLate late = true) :
    Calls Tryz.prog 30 #[.agg #[.slice p.Ab e.sky.bodies.length p.cb, .int .i64 e.sky.nnum, .int .i64 e.sky.nden, .int .i64 e.sky.nstart, .slice p.As e.sun.length p.cs, .slice p.Am e.moon.length p.cm, .slice p.An e.node.length p.cn, .slice p.Af e.feasts.length p.cf, .int .i64 e.nw, .int .i64 e.fl, .int .i64 e.wide], .slice p.At set.length p.ct, .int .i64 lo, .int .i64 hi, .int .i64 late] w fun r w' => ∃ v, r = .returned (.tuple #[v, .int .i64 0]) ∧ EclVal w' v (Ec.emptyL e set lo hi late) ∧ Ext w w' := by
  have HM := Lib.hid hm
  have HL := Lib.hid hl
  have hK : Fine e set := ⟨c0, c1⟩
  have HR0 : Hid (Row ((w.alloc (.cells #[.slice p.Ab e.sky.bodies.length p.cb, .int .i64 e.sky.nnum, .int .i64 e.sky.nden, .int .i64 e.sky.nstart, .slice p.As e.sun.length p.cs, .slice p.Am e.moon.length p.cm, .slice p.An e.node.length p.cn, .slice p.Af e.feasts.length p.cf, .int .i64 e.nw, .int .i64 e.fl, .int .i64 e.wide] 83)).alloc (.cells #[.int .i64 late] 3)) w.heap.size 83 #[.slice p.Ab e.sky.bodies.length p.cb, .int .i64 e.sky.nnum, .int .i64 e.sky.nden, .int .i64 e.sky.nstart, .slice p.As e.sun.length p.cs, .slice p.Am e.moon.length p.cm, .slice p.An e.node.length p.cn, .slice p.Af e.feasts.length p.cf, .int .i64 e.nw, .int .i64 e.fl, .int .i64 e.wide]) := Lib.hid ((Row.new w _ _).alloc _)
  have HR1 : Hid (Row ((w.alloc (.cells #[.slice p.Ab e.sky.bodies.length p.cb, .int .i64 e.sky.nnum, .int .i64 e.sky.nden, .int .i64 e.sky.nstart, .slice p.As e.sun.length p.cs, .slice p.Am e.moon.length p.cm, .slice p.An e.node.length p.cn, .slice p.Af e.feasts.length p.cf, .int .i64 e.nw, .int .i64 e.fl, .int .i64 e.wide] 83)).alloc (.cells #[.int .i64 late] 3)) (w.heap.size + 1) 3 #[.int .i64 late]) := Lib.hid (by
    have := Row.new (w.alloc (.cells #[.slice p.Ab e.sky.bodies.length p.cb, .int .i64 e.sky.nnum, .int .i64 e.sky.nden, .int .i64 e.sky.nstart, .slice p.As e.sun.length p.cs, .slice p.Am e.moon.length p.cm, .slice p.An e.node.length p.cn, .slice p.Af e.feasts.length p.cf, .int .i64 e.nw, .int .i64 e.fl, .int .i64 e.wide] 83)) 3 #[.int .i64 late]
    simpa using this)
  have HE0 := Lib.hid (((Ext.refl w).alloc (.cells #[.slice p.Ab e.sky.bodies.length p.cb, .int .i64 e.sky.nnum, .int .i64 e.sky.nden, .int .i64 e.sky.nstart, .slice p.As e.sun.length p.cs, .slice p.Am e.moon.length p.cm, .slice p.An e.node.length p.cn, .slice p.Af e.feasts.length p.cf, .int .i64 e.nw, .int .i64 e.fl, .int .i64 e.wide] 83)).alloc (.cells #[.int .i64 late] 3))
  have hd : 1 ≤ lo ∧ lo ≤ hi ∧ hi ≤ 9000 ∧ hi - lo ≤ 400 := by
    simp only [Ec.isSpan, Sp.inR, Bool.and_eq_true, decide_eq_true_eq] at c2
    omega
  have hla : 0 ≤ late ∧ late ≤ 30 := by
    simp only [Ec.isLate, Sp.inR, Bool.and_eq_true, decide_eq_true_eq] at c3
    omega
  clear hm hl
  refine (callsIn_wide (n := 8)).1 ?_
  refine callsIn_of_wp_marks Tryz.func30 rfl trivial ?_ rfl
  simp only [Tryz.ntmps30, List.size_toArray, List.length_cons, List.length_nil, Nat.reduceAdd, Nat.reduceSub, Array.replicate_succ, Array.replicate_zero, List.push_toArray, List.append_toArray, List.nil_append, List.cons_append]
  refine wpIn_wide.2 ?_
  go_wp2_with fail
  go_step3
  go_wp2_with fail
  obtain ⟨W, hW⟩ : ∃ W, (w.alloc (.cells #[.slice p.Ab e.sky.bodies.length p.cb, .int .i64 e.sky.nnum, .int .i64 e.sky.nden, .int .i64 e.sky.nstart, .slice p.As e.sun.length p.cs, .slice p.Am e.moon.length p.cm, .slice p.An e.node.length p.cn, .slice p.Af e.feasts.length p.cf, .int .i64 e.nw, .int .i64 e.fl, .int .i64 e.wide] 83)).alloc (.cells #[.int .i64 late] 3) = W := ⟨_, rfl⟩
  rw [hW] at HR0 HR1 HE0 ⊢
  clear hW
  refine Code.wp_mono (Q := fun e' a' w' => e' = .normal ∧ ∃ M4 M5 M b, W.heap.size ≤ b ∧ W.heap.size ≤ M ∧ Ext W w' ∧ Row w' b 144 #[.slice p.Ab e.sky.bodies.length p.cb, .int .i64 e.sky.nnum, .int .i64 e.sky.nden, .int .i64 e.sky.nstart, .slice p.As e.sun.length p.cs, .slice p.Am e.moon.length p.cm, .slice p.An e.node.length p.cn, .slice p.Af e.feasts.length p.cf, .int .i64 e.nw, .int .i64 e.fl, .int .i64 e.wide, .slice p.At set.length p.ct, .map (some M)] ∧ Seen e set M w' ∧ a' = (⟨#[.agg #[.slice p.Ab e.sky.bodies.length p.cb, .int .i64 e.sky.nnum, .int .i64 e.sky.nden, .int .i64 e.sky.nstart, .slice p.As e.sun.length p.cs, .slice p.Am e.moon.length p.cm, .slice p.An e.node.length p.cn, .slice p.Af e.feasts.length p.cf, .int .i64 e.nw, .int .i64 e.fl, .int .i64 e.wide], .slice p.At set.length p.ct, .int .i64 lo, .int .i64 hi, .int .i64 late, .pointer (some ⟨w.heap.size, 0, none⟩), undef, undef, undef, .pointer (some ⟨w.heap.size + 1, 0, none⟩), .slice none 0 0, .int .i64 0, .pointer (some ⟨b, 0, none⟩), .int .i64 0, undef, undef, undef, undef, undef, .tuple #[.agg #[.slice p.Ab e.sky.bodies.length p.cb, .int .i64 e.sky.nnum, .int .i64 e.sky.nden, .int .i64 e.sky.nstart, .slice p.As e.sun.length p.cs, .slice p.Am e.moon.length p.cm, .slice p.An e.node.length p.cn, .slice p.Af e.feasts.length p.cf, .int .i64 e.nw, .int .i64 e.fl, .int .i64 e.wide, .slice p.At set.length p.ct, .map (some M5)], .int .i64 0], .agg #[.slice p.Ab e.sky.bodies.length p.cb, .int .i64 e.sky.nnum, .int .i64 e.sky.nden, .int .i64 e.sky.nstart, .slice p.As e.sun.length p.cs, .slice p.Am e.moon.length p.cm, .slice p.An e.node.length p.cn, .slice p.Af e.feasts.length p.cf, .int .i64 e.nw, .int .i64 e.fl, .int .i64 e.wide], .slice p.At set.length p.ct, .int .i64 lo, .int .i64 hi, .bool true, .bool true, .int .i64 late, .bool true, .bool true, .tuple #[.agg #[.slice p.Ab e.sky.bodies.length p.cb, .int .i64 e.sky.nnum, .int .i64 e.sky.nden, .int .i64 e.sky.nstart, .slice p.As e.sun.length p.cs, .slice p.Am e.moon.length p.cm, .slice p.An e.node.length p.cn, .slice p.Af e.feasts.length p.cf, .int .i64 e.nw, .int .i64 e.fl, .int .i64 e.wide, .slice p.At set.length p.ct, .map (some M4)], .int .i64 0], .agg #[.slice p.Ab e.sky.bodies.length p.cb, .int .i64 e.sky.nnum, .int .i64 e.sky.nden, .int .i64 e.sky.nstart, .slice p.As e.sun.length p.cs, .slice p.Am e.moon.length p.cm, .slice p.An e.node.length p.cn, .slice p.Af e.feasts.length p.cf, .int .i64 e.nw, .int .i64 e.fl, .int .i64 e.wide, .slice p.At set.length p.ct, .map (some M)], .int .i64 0, undef, undef, undef, undef, undef, undef, undef, undef, undef, undef, undef, undef, undef, undef, undef, undef, undef, undef, undef, undef, undef, undef, undef, undef, undef, undef, undef, undef, undef, undef, undef, undef, undef, undef, undef, undef, undef, undef, undef, undef, undef, undef, undef, undef, undef, undef], []⟩ : Act)) ?hq (wp_region_free_tail 14 12 (emptyΦ p e set lo hi late W) (by kernel_rfl) (by simp) (by kernel_rfl) (by kernel_rfl) (by kernel_rfl) (by kernel_rfl) emptyΦ_mono ?hob ?hQ ?hZ)
  case hob =>
    intro i o hin ho a wa hE hF
    match i, hin with
    | 0, _ =>
      obtain rfl := Option.some.inj ho
      have h0 : a.tmps[5]?.getD undef = .pointer (some ⟨w.heap.size, 0, none⟩) := evalD (hF.old 5 (by decide))
      have q := (HR0.out.ext hE).cell
      refine Ran.value rfl (v := .agg #[.slice p.Ab e.sky.bodies.length p.cb, .int .i64 e.sky.nnum, .int .i64 e.sky.nden, .int .i64 e.sky.nstart, .slice p.As e.sun.length p.cs, .slice p.Am e.moon.length p.cm, .slice p.An e.node.length p.cn, .slice p.Af e.feasts.length p.cf, .int .i64 e.nw, .int .i64 e.fl, .int .i64 e.wide]) (w1 := wa) ?_ ⟨rfl, Ext.refl _⟩
      go_simp
    | 1, _ =>
      obtain rfl := Option.some.inj ho
      have h0 : a.tmps[1]?.getD undef = .slice p.At set.length p.ct := evalD (hF.old 1 (by decide))
      refine Ran.value rfl (v := .slice p.At set.length p.ct) (w1 := wa) ?_ ⟨rfl, Ext.refl _⟩
      go_simp
    | 2, _ =>
      obtain rfl := Option.some.inj ho
      have h0 : a.tmps[2]?.getD undef = .int .i64 lo := evalD (hF.old 2 (by decide))
      refine Ran.value rfl (v := .int .i64 lo) (w1 := wa) ?_ ⟨rfl, Ext.refl _⟩
      go_simp
    | 3, _ =>
      obtain rfl := Option.some.inj ho
      have h0 : a.tmps[3]?.getD undef = .int .i64 hi := evalD (hF.old 3 (by decide))
      refine Ran.value rfl (v := .int .i64 hi) (w1 := wa) ?_ ⟨rfl, Ext.refl _⟩
      go_simp
    | 4, _ =>
      obtain rfl := Option.some.inj ho
      have h0 : a.tmps[22]?.getD undef = .int .i64 lo := evalD (hF.from_ 2 22 rfl (by decide))
      have h1 : a.tmps[23]?.getD undef = .int .i64 hi := evalD (hF.from_ 3 23 rfl (by decide))
      refine Ran.enter rfl (f := 83) (args := #[.int .i64 lo, .int .i64 hi]) (w1 := wa) ?_ ?_
      · go_simp
      · refine (e_isSpan_any lo hi _).mono ?_
        rintro r w1 ⟨rfl, rfl⟩
        exact ⟨_, rfl, by rw [c2]; rfl, Ext.refl _⟩
    | 5, _ =>
      obtain rfl := Option.some.inj ho
      have h0 : a.tmps[24]?.getD undef = .bool true := evalD (hF.from_ 4 24 rfl (by decide))
      refine Ran.value rfl (v := .bool true) (w1 := wa) ?_ ⟨rfl, Ext.refl _⟩
      go_simp
    | 6, _ =>
      obtain rfl := Option.some.inj ho
      have hg : a.eval (.tmp 25) = .bool true := hF.from_ 5 25 rfl (by decide)
      refine Ran.if_ rfl rfl rfl hg (fun _ => ?_) (fun h => absurd rfl h)
      have h0 : a.tmps[9]?.getD undef = .pointer (some ⟨w.heap.size + 1, 0, none⟩) := evalD (hF.old 9 (by decide))
      have q := (HR1.out.ext hE).cell
      refine Ran.value rfl (v := .int .i64 late) (w1 := wa) ?_ ⟨rfl, Ext.refl _⟩
      go_simp
    | 7, _ =>
      obtain rfl := Option.some.inj ho
      have hg : a.eval (.tmp 25) = .bool true := hF.from_ 5 25 rfl (by decide)
      refine Ran.if_ rfl rfl rfl hg (fun _ => ?_) (fun h => absurd rfl h)
      have h0 : a.tmps[26]?.getD undef = .int .i64 late := evalD (hF.from_ 6 26 rfl (by decide))
      refine Ran.enter rfl (f := 84) (args := #[.int .i64 late]) (w1 := wa) ?_ ?_
      · go_simp
      · refine (e_isLate_any late _).mono ?_
        rintro r w1 ⟨rfl, rfl⟩
        exact ⟨_, rfl, by rw [c3]; rfl, Ext.refl _⟩
    | 8, _ =>
      obtain rfl := Option.some.inj ho
      have h0 : a.tmps[25]?.getD undef = .bool true := evalD (hF.from_ 5 25 rfl (by decide))
      have h1 : a.tmps[27]?.getD undef = .bool true := evalD (hF.from_ 7 27 rfl (by decide))
      refine Ran.value rfl (v := .bool true) (w1 := wa) ?_ ⟨rfl, Ext.refl _⟩
      go_simp
    | 9, _ =>
      obtain rfl := Option.some.inj ho
      have h0 : a.tmps[20]?.getD undef = .agg #[.slice p.Ab e.sky.bodies.length p.cb, .int .i64 e.sky.nnum, .int .i64 e.sky.nden, .int .i64 e.sky.nstart, .slice p.As e.sun.length p.cs, .slice p.Am e.moon.length p.cm, .slice p.An e.node.length p.cn, .slice p.Af e.feasts.length p.cf, .int .i64 e.nw, .int .i64 e.fl, .int .i64 e.wide] := evalD (hF.from_ 0 20 rfl (by decide))
      have h1 : a.tmps[21]?.getD undef = .slice p.At set.length p.ct := evalD (hF.from_ 1 21 rfl (by decide))
      have h2 : a.tmps[28]?.getD undef = .bool true := evalD (hF.from_ 8 28 rfl (by decide))
      refine Ran.enter rfl (f := 77) (args := #[.agg #[.slice p.Ab e.sky.bodies.length p.cb, .int .i64 e.sky.nnum, .int .i64 e.sky.nden, .int .i64 e.sky.nstart, .slice p.As e.sun.length p.cs, .slice p.Am e.moon.length p.cm, .slice p.An e.node.length p.cn, .slice p.Af e.feasts.length p.cf, .int .i64 e.nw, .int .i64 e.fl, .int .i64 e.wide], .slice p.At set.length p.ct, .bool true]) (w1 := wa) ?_ ?_
      · go_simp
      · refine (e_asked_ok p e set wa (HM.out.ext (HE0.out.trans hE)) HL.out hs c0 c1).mono ?_
        rintro r w1 ⟨M, rfl, hM, hC, hX⟩
        exact ⟨_, rfl, ⟨M, rfl, Nat.le_trans hE.size hM, hC⟩, hX⟩
    | 10, _ =>
      obtain rfl := Option.some.inj ho
      obtain ⟨M, h0, hM, hC⟩ : AskTup p e set W (a.eval (.tmp 29)) wa := hF.from_ 9 29 rfl (by decide)
      replace h0 := evalD h0
      refine Ran.value rfl (w1 := wa) (v := .tuple #[.agg #[.slice p.Ab e.sky.bodies.length p.cb, .int .i64 e.sky.nnum, .int .i64 e.sky.nden, .int .i64 e.sky.nstart, .slice p.As e.sun.length p.cs, .slice p.Am e.moon.length p.cm, .slice p.An e.node.length p.cn, .slice p.Af e.feasts.length p.cf, .int .i64 e.nw, .int .i64 e.fl, .int .i64 e.wide, .slice p.At set.length p.ct, .map (some M)], .int .i64 0]) ?_ ⟨⟨M, rfl, hM, hC⟩, Ext.refl _⟩
      go_simp
    | 11, _ =>
      obtain rfl := Option.some.inj ho
      obtain ⟨M, h0, hM, hC⟩ : AskTup p e set W (a.eval (.tmp 19)) wa := hF.from_ 10 19 rfl (by decide)
      replace h0 := evalD h0
      refine Ran.value rfl (w1 := wa) (v := .agg #[.slice p.Ab e.sky.bodies.length p.cb, .int .i64 e.sky.nnum, .int .i64 e.sky.nden, .int .i64 e.sky.nstart, .slice p.As e.sun.length p.cs, .slice p.Am e.moon.length p.cm, .slice p.An e.node.length p.cn, .slice p.Af e.feasts.length p.cf, .int .i64 e.nw, .int .i64 e.fl, .int .i64 e.wide, .slice p.At set.length p.ct, .map (some M)]) ?_ ⟨⟨M, rfl, hM, hC⟩, Ext.refl _⟩
      go_simp
    | 12, _ =>
      obtain rfl := Option.some.inj ho
      obtain ⟨M, h0, hM, hC⟩ : AskTup p e set W (a.eval (.tmp 19)) wa := hF.from_ 10 19 rfl (by decide)
      replace h0 := evalD h0
      refine Ran.value rfl (w1 := wa) (v := .int .i64 0) ?_ ⟨rfl, Ext.refl _⟩
      go_simp
    | 13, _ =>
      obtain rfl := Option.some.inj ho
      refine Ran.value rfl (w1 := wa.alloc (.cells zeroEng 144)) (v := .pointer (some ⟨wa.heap.size, 0, none⟩)) (by kernel_rfl) ⟨⟨wa.heap.size, rfl, hE.size, Row.new _ _ _⟩, (Ext.refl _).alloc _⟩
    | k + 14, hin => omega
  case hQ =>
    intro vs w2 hE hΦ
    have f0 : vs 0 = .agg #[.slice p.Ab e.sky.bodies.length p.cb, .int .i64 e.sky.nnum, .int .i64 e.sky.nden, .int .i64 e.sky.nstart, .slice p.As e.sun.length p.cs, .slice p.Am e.moon.length p.cm, .slice p.An e.node.length p.cn, .slice p.Af e.feasts.length p.cf, .int .i64 e.nw, .int .i64 e.fl, .int .i64 e.wide] := hΦ 0 (by omega)
    have f1 : vs 1 = .slice p.At set.length p.ct := hΦ 1 (by omega)
    have f2 : vs 2 = .int .i64 lo := hΦ 2 (by omega)
    have f3 : vs 3 = .int .i64 hi := hΦ 3 (by omega)
    have f4 : vs 4 = .bool true := hΦ 4 (by omega)
    have f5 : vs 5 = .bool true := hΦ 5 (by omega)
    have f6 : vs 6 = .int .i64 late := hΦ 6 (by omega)
    have f7 : vs 7 = .bool true := hΦ 7 (by omega)
    have f8 : vs 8 = .bool true := hΦ 8 (by omega)
    obtain ⟨M4, f9, _, _⟩ : AskTup p e set W (vs 9) w2 := hΦ 9 (by omega)
    obtain ⟨M5, f10, _, _⟩ : AskTup p e set W (vs 10) w2 := hΦ 10 (by omega)
    obtain ⟨M, f11, hM, hC⟩ : AskAgg p e set W (vs 11) w2 := hΦ 11 (by omega)
    have f12 : vs 12 = .int .i64 0 := hΦ 12 (by omega)
    obtain ⟨b, f13, hb, hr⟩ : AskNew W (vs 13) w2 := hΦ 13 (by omega)
    have hrg : List.range 14 = [0, 1, 2, 3, 4, 5, 6, 7, 8, 9, 10, 11, 12, 13] := rfl
    unfold putAll putS
    simp only [List.length_cons, List.length_nil, List.take_succ_cons, List.take_zero, List.drop_succ_cons, List.drop_zero, Nat.reduceAdd, hrg, List.foldl_cons, List.foldl_nil, dstOf, List.getElem?_cons_succ, List.getElem?_cons_zero, Option.bind_some]
    clear hrg
    rw [f0, f1, f2, f3, f4, f5, f6, f7, f8, f9, f10, f11, f12, f13]
    have c := hr.cell
    simp only [zeroEng] at c
    have fz := hr.free
    have hne : b ≠ M := fun h => (hC.not_row hr) h
    go_wp2
    clear c fz
    obtain ⟨W3, hW3⟩ : ∃ W3, setsAt w2 b 0 [.slice p.Ab e.sky.bodies.length p.cb, .int .i64 e.sky.nnum, .int .i64 e.sky.nden, .int .i64 e.sky.nstart, .slice p.As e.sun.length p.cs, .slice p.Am e.moon.length p.cm, .slice p.An e.node.length p.cn, .slice p.Af e.feasts.length p.cf, .int .i64 e.nw, .int .i64 e.fl, .int .i64 e.wide, .slice p.At set.length p.ct, .map (some M)] = W3 := ⟨_, rfl⟩
    have hR3 : Row W3 b 144 #[.slice p.Ab e.sky.bodies.length p.cb, .int .i64 e.sky.nnum, .int .i64 e.sky.nden, .int .i64 e.sky.nstart, .slice p.As e.sun.length p.cs, .slice p.Am e.moon.length p.cm, .slice p.An e.node.length p.cn, .slice p.Af e.feasts.length p.cf, .int .i64 e.nw, .int .i64 e.fl, .int .i64 e.wide, .slice p.At set.length p.ct, .map (some M)] := by rw [← hW3]; exact Row.sets (cs := [.slice none 0 0, .int .i64 0, .int .i64 0, .int .i64 0, .slice none 0 0, .slice none 0 0, .slice none 0 0, .slice none 0 0, .int .i64 0, .int .i64 0, .int .i64 0, .slice none 0 0, .map none]) hr _ rfl
    have hE3 : Ext W W3 := by rw [← hW3]; exact Ext.sets hb _ _ _ hE
    have hC3 : Seen e set M W3 := by rw [← hW3]; exact Cache.sets hne _ _ _ hC
    simp only [setsAt, Nat.reduceAdd] at hW3
    try rw [hW3]
    exact ⟨M4, M5, M, b, hb, hM, hE3, hR3, hC3, by simp⟩
  case hZ =>
    intro _ vs w2 hE hΦ on oz hon hoz
    obtain rfl := Option.some.inj hon
    obtain rfl := Option.some.inj hoz
    have f0 : vs 0 = .agg #[.slice p.Ab e.sky.bodies.length p.cb, .int .i64 e.sky.nnum, .int .i64 e.sky.nden, .int .i64 e.sky.nstart, .slice p.As e.sun.length p.cs, .slice p.Am e.moon.length p.cm, .slice p.An e.node.length p.cn, .slice p.Af e.feasts.length p.cf, .int .i64 e.nw, .int .i64 e.fl, .int .i64 e.wide] := hΦ 0 (by omega) (by omega)
    have f1 : vs 1 = .slice p.At set.length p.ct := hΦ 1 (by omega) (by omega)
    have f2 : vs 2 = .int .i64 lo := hΦ 2 (by omega) (by omega)
    have f3 : vs 3 = .int .i64 hi := hΦ 3 (by omega) (by omega)
    have f4 : vs 4 = .bool true := hΦ 4 (by omega) (by omega)
    have f5 : vs 5 = .bool true := hΦ 5 (by omega) (by omega)
    have f6 : vs 6 = .int .i64 late := hΦ 6 (by omega) (by omega)
    have f7 : vs 7 = .bool true := hΦ 7 (by omega) (by omega)
    have f8 : vs 8 = .bool true := hΦ 8 (by omega) (by omega)
    obtain ⟨M4, f9, _, _⟩ : AskTup p e set W (vs 9) w2 := hΦ 9 (by omega) (by omega)
    obtain ⟨M5, f10, _, _⟩ : AskTup p e set W (vs 10) w2 := hΦ 10 (by omega) (by omega)
    obtain ⟨M, f11, hM, hC⟩ : AskAgg p e set W (vs 11) w2 := hΦ 11 (by omega) (by omega)
    obtain ⟨b, f13, hb, hr⟩ : AskNew W (vs 13) w2 := hΦ 13 (by omega) (by omega)
    have hrg : (List.range 14).filter (· ≠ 12) = [0, 1, 2, 3, 4, 5, 6, 7, 8, 9, 10, 11, 13] := by decide
    rw [hrg]
    unfold putS
    simp only [List.take_succ_cons, List.take_zero, List.drop_succ_cons, List.drop_zero, Nat.reduceAdd, List.foldl_cons, List.foldl_nil, dstOf, List.getElem?_cons_succ, List.getElem?_cons_zero, Option.bind_some]
    clear hrg
    rw [f0, f1, f2, f3, f4, f5, f6, f7, f8, f9, f10, f11, f13]
    have c := hr.cell
    simp only [zeroEng] at c
    have fz := hr.free
    have hne : b ≠ M := fun h => (hC.not_row hr) h
    go_wp2
    clear c fz
    obtain ⟨W3, hW3⟩ : ∃ W3, setsAt w2 b 0 [.slice p.Ab e.sky.bodies.length p.cb, .int .i64 e.sky.nnum, .int .i64 e.sky.nden, .int .i64 e.sky.nstart, .slice p.As e.sun.length p.cs, .slice p.Am e.moon.length p.cm, .slice p.An e.node.length p.cn, .slice p.Af e.feasts.length p.cf, .int .i64 e.nw, .int .i64 e.fl, .int .i64 e.wide, .slice p.At set.length p.ct, .map (some M)] = W3 := ⟨_, rfl⟩
    have hR3 : Row W3 b 144 #[.slice p.Ab e.sky.bodies.length p.cb, .int .i64 e.sky.nnum, .int .i64 e.sky.nden, .int .i64 e.sky.nstart, .slice p.As e.sun.length p.cs, .slice p.Am e.moon.length p.cm, .slice p.An e.node.length p.cn, .slice p.Af e.feasts.length p.cf, .int .i64 e.nw, .int .i64 e.fl, .int .i64 e.wide, .slice p.At set.length p.ct, .map (some M)] := by rw [← hW3]; exact Row.sets (cs := [.slice none 0 0, .int .i64 0, .int .i64 0, .int .i64 0, .slice none 0 0, .slice none 0 0, .slice none 0 0, .slice none 0 0, .int .i64 0, .int .i64 0, .int .i64 0, .slice none 0 0, .map none]) hr _ rfl
    have hE3 : Ext W W3 := by rw [← hW3]; exact Ext.sets hb _ _ _ hE
    have hC3 : Seen e set M W3 := by rw [← hW3]; exact Cache.sets hne _ _ _ hC
    simp only [setsAt, Nat.reduceAdd] at hW3
    try rw [hW3]
    exact ⟨M4, M5, M, b, hb, hM, hE3, hR3, hC3, by simp⟩
  case hq =>
    rintro e' a' w3 ⟨rfl, M4, M5, M, b, hb, hM, hE3, hR3, hC3, rfl⟩
    have c := hR3.cell
    have HE3 := Lib.hid (HE0.out.trans hE3)
    have HL3 := Lib.hid (HR1.out.ext hE3)
    have HR3 := Lib.hid hR3
    have HC3 := Lib.hid hC3
    have cl := HL3.out.cell
    clear hE3 hR3 hC3
    go_wp2_with fail
    refine (e_real_any p e set M (lo - late) (hi + late) _ hK (HM.out.ext HE3.out) HL.out.sky (by omega) (by omega) (by omega) (by omega) (by omega)).mono ?_
    rintro r w4 ⟨v1, rfl, hv1, hE4⟩
    clear c cl
    obtain ⟨A1, cp1, rfl, q1⟩ := hv1
    obtain ⟨R, hR⟩ : ∃ R, Ec.realL e (max 1 (lo - late)) (hi + late) = R := ⟨_, rfl⟩
    have HRL := Lib.hid hR
    rw [hR] at q1 ⊢
    clear hR
    have HE4 := Lib.hid (HE3.out.trans hE4)
    have HR4 := Lib.hid (HR3.out.ext hE4)
    have HL4 := Lib.hid (HL3.out.ext hE4)
    have HC4 := Lib.hid (HC3.out.ext hE4)
    have HQ4 := Lib.hid q1
    clear hE4 q1 HR3 HL3 HC3 HE3
    have x1 := HE4.out.alloc (.cells #[.slice A1 R.length cp1] 92)
    have x2 := HR4.out.alloc (.cells #[.slice A1 R.length cp1] 92)
    have x3 := HL4.out.alloc (.cells #[.slice A1 R.length cp1] 92)
    have x4 := HC4.out.ext ((Ext.refl w4).alloc (.cells #[.slice A1 R.length cp1] 92))
    have x5 := Row.new w4 92 #[.slice A1 R.length cp1]
    have x6 : EclVal (w4.alloc (.cells #[.slice A1 R.length cp1] 92)) (.slice A1 R.length cp1) R := EclVal.ext ⟨A1, cp1, rfl, HQ4.out⟩ ((Ext.refl w4).alloc _)
    have x7 : w4.heap.size + 1 = (w4.alloc (.cells #[.slice A1 R.length cp1] 92)).heap.size := by simp
    have hltb := lts HR4.out.lt
    go_wp2_with fail
    obtain ⟨w5, hw5⟩ : ∃ W, w4.alloc (.cells #[.slice A1 R.length cp1] 92) = W := ⟨_, rfl⟩
    rw [hw5] at x1 x2 x3 x4 x5 x6 x7 ⊢
    clear hw5
    have HE5 := Lib.hid x1
    have HR5 := Lib.hid x2
    have HL5 := Lib.hid x3
    have HC5 := Lib.hid x4
    have H14 := Lib.hid x5
    have HV5 := Lib.hid x6
    have c := x2.cell
    have HO := Lib.hid (Out.new w5 (w5.heap.size + 4) 92 156 3)
    have HC6 := Lib.hid (x4.ext ((Ext.refl w5).alloc (.cells #[.slice none 0 0] 92)))
    have HE6 := Lib.hid (x1.alloc (.cells #[.slice none 0 0] 92))
    have hlt := lts x2.lt
    clear x1 x2 x3 x4 x5 x6 hltb
    go_wp2_with fail
    go_step3
    go_wp2_with fail
    refine (e_foretold_any p e set M lo hi _).mono ?_
    rintro r w7 ⟨rfl, rfl⟩
    have hz4 : (w5.alloc (.cells #[.slice none 0 0] 92)).heap.size = w5.heap.size + 1 := World.size_alloc _ _
    have HI := Lib.hid (foreIn_new (p := p) lo hi HE6.out HC6.out)
    have HF := Lib.hid (foreW_F p e set M lo hi (w5.alloc (.cells #[.slice none 0 0] 92)))
    have HO5 := Lib.hid (HO.out.ext (foreW_ext p e set M lo hi (w5.alloc (.cells #[.slice none 0 0] 92))))
    have HX7 := Lib.hid (((Ext.refl w5).alloc (.cells #[.slice none 0 0] 92)).trans (foreW_ext p e set M lo hi (w5.alloc (.cells #[.slice none 0 0] 92))))
    have hsz := foreW_size p e set M lo hi (w5.alloc (.cells #[.slice none 0 0] 92))
    have hM3 := HC5.out.lt
    have hMO : M ≠ w5.heap.size := by omega
    have hw3 := HE5.out.size
    have hMw := Nat.le_trans HE0.out.size hM
    obtain ⟨W7, hW7⟩ : ∃ W7, foreW p e set M lo hi (w5.alloc (.cells #[.slice none 0 0] 92)) = W7 := ⟨_, rfl⟩
    rw [hW7] at HI HF HO5 HX7 hsz ⊢
    clear hW7 c HC6 HO
    rw [hz4] at HI HF hsz ⊢
    go_wp2_with fail
    refine (wpIn_wide (n := 8)).1 ?_
    have HRD : Hid (DaysIn R) := Lib.hid (by rw [← HRL.out]; exact real_days e (by omega) (by omega))
    have hRln : R.length ≤ 100000 := by rw [← HRL.out]; exact real_few e (by omega) (by omega)
    have hkeep7 : ∀ k, k < w5.heap.size → k ≠ M → W7.heap[k]? = w5.heap[k]? := fun k h1 _ => HX7.out.block k h1
    refine wpIn_range_step rfl (by omega) (gf := 141) (lb := #[.pointer (some ⟨w5.heap.size + 1 + 1, 0, none⟩), .pointer (some ⟨w5.heap.size + 1 + 2, 0, none⟩), .pointer (some ⟨w5.heap.size + 1, 0, none⟩)]) rfl trivial (enters_of Tryz.func141 (by kernel_rfl) rfl)
      (fun W' hW' => fore_seq (8 - 1) (by omega) p e set M lo hi w hK HM.out hMw (by omega) (by omega) (by omega) (by omega) (w5.heap.size + 1) W7 HF.out HI.out W' hW')
      (fun h k => keepsEng_t h k) (fun W l o o' h1 h2 h3 h4 => keepsEng_b (by omega) (by omega) (by omega) (by omega) W l o o' h1 h2 h3 h4)
      (fun A B h => Step.keeps h (by omega)) (fun _ => rfl)
      (EmI w (w5.heap.size + 4) w5.heap.size e set M R late w5)
      (fun _ _ _ => False)
      (emI_own (by omega) (by omega) (by omega) (by omega))
      (fun _ _ _ _ _ hs _ _ => hs)
      (emI_step hMw (by omega))
      ⟨⟨_, HO5.out⟩, ⟨HI.out.ext, by omega⟩, HI.out.cache, hkeep7⟩
      (fun x a' W => ∃ Bx, Row W Bx 156 #[.int .i64 x.1.day, .bool x.1.full, .int .i64 x.1.far] ∧ a' = (⟨#[.agg #[.slice p.Ab e.sky.bodies.length p.cb, .int .i64 e.sky.nnum, .int .i64 e.sky.nden, .int .i64 e.sky.nstart, .slice p.As e.sun.length p.cs, .slice p.Am e.moon.length p.cm, .slice p.An e.node.length p.cn, .slice p.Af e.feasts.length p.cf, .int .i64 e.nw, .int .i64 e.fl, .int .i64 e.wide], .slice p.At set.length p.ct, .int .i64 lo, .int .i64 hi, .int .i64 late, .pointer (some ⟨w.heap.size, 0, none⟩), undef, undef, undef, .pointer (some ⟨w.heap.size + 1, 0, none⟩), .slice none 0 0, .int .i64 0, .pointer (some ⟨b, 0, none⟩), .int .i64 0, .pointer (some ⟨w4.heap.size, 0, none⟩), .pointer (some ⟨w5.heap.size, 0, none⟩), .pointer (some ⟨Bx, 0, none⟩), undef, undef, .tuple #[.agg #[.slice p.Ab e.sky.bodies.length p.cb, .int .i64 e.sky.nnum, .int .i64 e.sky.nden, .int .i64 e.sky.nstart, .slice p.As e.sun.length p.cs, .slice p.Am e.moon.length p.cm, .slice p.An e.node.length p.cn, .slice p.Af e.feasts.length p.cf, .int .i64 e.nw, .int .i64 e.fl, .int .i64 e.wide, .slice p.At set.length p.ct, .map (some M5)], .int .i64 0], .agg #[.slice p.Ab e.sky.bodies.length p.cb, .int .i64 e.sky.nnum, .int .i64 e.sky.nden, .int .i64 e.sky.nstart, .slice p.As e.sun.length p.cs, .slice p.Am e.moon.length p.cm, .slice p.An e.node.length p.cn, .slice p.Af e.feasts.length p.cf, .int .i64 e.nw, .int .i64 e.fl, .int .i64 e.wide], .slice p.At set.length p.ct, .int .i64 lo, .int .i64 hi, .bool true, .bool true, .int .i64 late, .bool true, .bool true, .tuple #[.agg #[.slice p.Ab e.sky.bodies.length p.cb, .int .i64 e.sky.nnum, .int .i64 e.sky.nden, .int .i64 e.sky.nstart, .slice p.As e.sun.length p.cs, .slice p.Am e.moon.length p.cm, .slice p.An e.node.length p.cn, .slice p.Af e.feasts.length p.cf, .int .i64 e.nw, .int .i64 e.fl, .int .i64 e.wide, .slice p.At set.length p.ct, .map (some M4)], .int .i64 0], .agg #[.slice p.Ab e.sky.bodies.length p.cb, .int .i64 e.sky.nnum, .int .i64 e.sky.nden, .int .i64 e.sky.nstart, .slice p.As e.sun.length p.cs, .slice p.Am e.moon.length p.cm, .slice p.An e.node.length p.cn, .slice p.Af e.feasts.length p.cf, .int .i64 e.nw, .int .i64 e.fl, .int .i64 e.wide, .slice p.At set.length p.ct, .map (some M)], .int .i64 0, .int .i64 0, .bool false, undef, .agg #[.slice p.Ab e.sky.bodies.length p.cb, .int .i64 e.sky.nnum, .int .i64 e.sky.nden, .int .i64 e.sky.nstart, .slice p.As e.sun.length p.cs, .slice p.Am e.moon.length p.cm, .slice p.An e.node.length p.cn, .slice p.Af e.feasts.length p.cf, .int .i64 e.nw, .int .i64 e.fl, .int .i64 e.wide, .slice p.At set.length p.ct, .map (some M)], .int .i64 lo, .int .i64 late, .int .i64 (lo - late), .int .i64 hi, .int .i64 late, .int .i64 (hi + late), .slice A1 R.length cp1, .agg #[.slice p.Ab e.sky.bodies.length p.cb, .int .i64 e.sky.nnum, .int .i64 e.sky.nden, .int .i64 e.sky.nstart, .slice p.As e.sun.length p.cs, .slice p.Am e.moon.length p.cm, .slice p.An e.node.length p.cn, .slice p.Af e.feasts.length p.cf, .int .i64 e.nw, .int .i64 e.fl, .int .i64 e.wide, .slice p.At set.length p.ct, .map (some M)], .int .i64 lo, .int .i64 hi, foreV (w5.heap.size + 1), .agg #[.int .i64 x.1.day, .bool x.1.full, .int .i64 x.1.far], undef, undef, undef, undef, undef, undef, undef, undef, undef, undef, undef, undef, undef, undef, undef, undef, undef, undef, undef, undef, undef, undef, undef, undef, undef, undef, undef, undef, undef, undef], []⟩ : Act))
      (fun x a' _ X Y row hs hg hr => by obtain ⟨Bx, h1, h2⟩ := hs; exact ⟨Bx, h1.kept hg fun r e => (hr r e).2, h2⟩)
      ?assign ?body ?done ?stop
    case assign =>
      rintro l pre x W K hi' hK'
      simp only [eclV]
      gi_wp2
      obtain ⟨⟨v, hO⟩, ⟨hB, hz⟩, hC, hKp⟩ := hi'
      have hMl := hC.lt
      exact hK' _ _ ((KeepsOthers.alloc _ _).from _) ⟨(Below.refl _ _).alloc (by omega) _, Below.heap_alloc _ _ _ (by omega), Below.heap_alloc _ _ _ (by omega), Below.heap_alloc _ _ _ (by omega)⟩
        ⟨⟨v, hO.ext ((Ext.refl _).alloc _)⟩, ⟨hB.alloc hB.size _, by simp; omega⟩, hC.ext ((Ext.refl _).alloc _), fun k h1 h2 => (Below.heap_alloc _ _ _ (by omega)).trans (hKp k h1 h2)⟩ ⟨_, Row.new _ _ _, rfl⟩
    case body =>
      rintro l pre x a' W hl' ⟨⟨v, hO⟩, ⟨hB, hz⟩, hC, hKp⟩ ⟨Bx, rX, rfl⟩ hlt
      have hMl := hC.lt
      have hln := foreN_len e set (max 1 lo) (hi + 1 - max 1 lo).toNat
      have hpl : pre.length < 1000 := by unfold Ec.foreL at hlt; omega
      obtain ⟨i0, hi0, hz0, hz1, hz2⟩ := info_parts info_ecl
      have r14 : Row W w4.heap.size 92 #[.slice A1 R.length cp1] := (hKp _ H14.out.lt (HC5.out.not_row H14.out)).trans H14.out
      have rL : Row W (w.heap.size + 1) 3 #[.int .i64 late] := (hKp _ HL5.out.lt (HC5.out.not_row HL5.out)).trans HL5.out
      have hV : EclVal W (.slice A1 R.length cp1) R := HV5.out.kept_but (fun p u hp => HC5.out.not_cell hp) hKp
      obtain ⟨A2, cp2, hA2, qR⟩ := hV
      obtain ⟨rfl, rfl⟩ : A1 = A2 ∧ cp1 = cp2 := by cases hA2; exact ⟨rfl, rfl⟩
      have HQR := Lib.hid qR
      clear hA2 qR hln hlt
      have b14 := r14.cell
      have bX := rX.cell
      have HRX := Lib.hid rX
      have HRLt := Lib.hid rL
      have HO := Lib.hid hO
      have hjx := lts rX.lt
      obtain ⟨⟨yd, yf, yr⟩, hy⟩ := x
      dsimp only at bX HRX hy ⊢
      gi_wp2
      clear b14 bX
      gi_loopw [50] (fun i wr => ∃ k : Nat, k ≤ R.length ∧ i = .int .i64 (k : Int) ∧ (R.take k).any (bsP ⟨yd, yf, yr⟩ late) = false ∧ Ext W wr) (fun i _ => R.length - (intOf i).toNat)
      case atStart => exact ⟨0, Nat.zero_le _, rfl, rfl, Ext.refl _⟩
      case round =>
        obtain ⟨k, hk, rfl, htk, hX⟩ := hrel
        have HX := Lib.hid hX
        by_cases hkl : k < R.length
        · obtain ⟨b1, o1, rfl, p1⟩ := HQR.out (by omega)
          have a0 := hX.cell (p1 k hkl).1
          have a1 := hX.cell (p1 k hkl).2.1
          have a2 := hX.cell (p1 k hkl).2.2
          have HNX := Lib.hid (fun he => any_take hkl htk he)
          have HIN := Lib.hid (fun he => any_at (P := bsP ⟨yd, yf, yr⟩ late) hkl he)
          have hdm : 0 ≤ (R[k]).day ∧ (R[k]).day ≤ 20000 := HRD.out _ (List.getElem_mem hkl)
          clear p1 htk hX
          generalize R[k] = m at *
          obtain ⟨md, mf, mr⟩ := m
          dsimp only at a0 a1 a2 hdm
          have HPE : Hid (bsP ⟨yd, yf, yr⟩ late ⟨md, mf, mr⟩ = ((mf == yf) && Sp.inR md (yd - late) (yd + late))) := Lib.hid rfl
          have rX2 := (HRX.out.ext HX.out).alloc (.cells #[.int .i64 md, .bool mf, .int .i64 mr] 156)
          have rL2 := (HRLt.out.ext HX.out).alloc (.cells #[.int .i64 md, .bool mf, .int .i64 mr] 156)
          have rN := Row.new wr 156 #[.int .i64 md, .bool mf, .int .i64 mr]
          have HXN := Lib.hid (HX.out.alloc (.cells #[.int .i64 md, .bool mf, .int .i64 mr] 156))
          have bX := rX2.cell
          have bL := rL2.cell
          have bN := rN.cell
          cases hfe : (mf == yf)
          · have HX3 := Lib.hid (HNX.out (by rw [HPE.out, hfe]; rfl))
            clear HNX HIN HPE
            gi_wp2
            refine ⟨trivial, ?_⟩
            gi_wp2
            go_roundw
            case rel => exact ⟨k + 1, by omega, by go_num, HX3.out, HXN.out⟩
            case measure => simp [intOf]; omega
          · cases hin : Sp.inR md (yd - late) (yd + late)
            · have HX3 := Lib.hid (HNX.out (by rw [HPE.out, hfe, hin]; rfl))
              clear HNX HIN HPE
              gi_wp2
              refine ⟨trivial, CallsIn.inRound l ((callsIn_wide.2 (e_in_any md (yd - late) (yd + late) _)).mono ?_)⟩
              rintro r w' ⟨rfl, rfl⟩
              rw [hin]
              gi_wp2
              go_roundw
              case rel => exact ⟨k + 1, by omega, by go_num, HX3.out, HXN.out⟩
              case measure => simp [intOf]; omega
            · have HX3 := Lib.hid (HIN.out (by rw [HPE.out, hfe, hin]; rfl))
              clear HNX HIN HPE
              gi_wp2
              refine ⟨trivial, CallsIn.inRound l ((callsIn_wide.2 (e_in_any md (yd - late) (yd + late) _)).mono ?_)⟩
              rintro r w' ⟨rfl, rfl⟩
              rw [hin]
              gi_wp2
              have hP := Push.of_ext (bO := w5.heap.size) (v := v) HXN.out
              refine ⟨Push.keepsFrom HO.out hP _, ⟨hP.below HO.out (N := w.heap.size) (by omega) (by omega) hz, Push.old HO.out hP (by omega) hz (by omega), Push.old HO.out hP (by omega) hz (by omega), Push.old HO.out hP (by omega) hz (by omega)⟩, ⟨v, ?_⟩, ⟨hB.trans (hP.below HO.out (N := w.heap.size) (by omega) (by omega) hz), Nat.le_trans hz hP.size⟩, hC.of_block (Push.old HO.out hP (by omega) hz (by omega)), fun k h1 h2 => (Push.old HO.out hP (by omega) hz (by omega)).trans (hKp k h1 h2)⟩
              have := HO.out.ext HXN.out
              rw [without_snoc, if_pos (show Ec.beside R ⟨yd, yf, yr⟩ late = true from HX3.out)]
              exact this
        · obtain rfl : k = R.length := by omega
          rw [List.take_length] at htk
          have HBE := Lib.hid htk
          have hOr := HO.out.ext hX
          have HOr := Lib.hid hOr
          have hzr := hX.size
          have hO5 := hOr.ext ((Ext.refl _).alloc (.cells #[.int .i64 yd, .bool yf, .int .i64 yr] 156))
          have rXr := HRX.out.ext hX
          have r0 := rXr.cell
          have rO := hOr.box.cell 0
          have hlw : (Ec.without (pre.map (·.1)) R late).length ≤ 1000 := Nat.le_trans (List.length_filter_le ..) (by rw [List.length_map]; omega)
          simp only [List.getElem?_toArray, List.getElem?_cons_zero] at rO
          clear htk hX hOr
          gi_wp2_with (gi_at_builtin; refine wpListIn_append_own_at _ rfl _ _ 92 rfl (w5.heap.size + 4) 156 i0 _ 3 24 Tryz.underlying92 hi0 hz0 hz1 hz2 rfl (by decide) v _ _ rfl hO5.own ⟨wr.heap.size, 0, none⟩ 1 1 [.int .i64 yd, .bool yf, .int .i64 yr] rfl rfl (World.news_of_block (cs := #[.int .i64 yd, .bool yf, .int .i64 yr]) (t := 156) (fr := (0, 0)) (heap_alloc_new _ _)) (by simp [Value.oneCell']) (by simp only [maxLen]; omega) (by omega) (by simp; omega) ?_; intro v' w8 hown1 hgrow _ hat; obtain ⟨gg, cap, rfl⟩ := ownsRow_succ hown1; have hc3 := grown_cell hgrow hO5.box hO5.ne 0; have hf3 := grown_free hgrow hO5.box hO5.ne 0; simp only [List.getElem?_toArray, List.getElem?_cons_zero] at hc3)
          have hat' : v.ownBlock = some gg ∨ gg = (wr.alloc (.cells #[.int .i64 yd, .bool yf, .int .i64 yr] 156)).heap.size := by
            rcases hat with e | e
            · exact .inl e.symm
            · exact .inr (by simpa [Value.ownBlock] using e)
          have hpush := hO5.pushed (Ext.refl _) hown1 hgrow hat'
          have hP := (Push.of_ext (bO := w5.heap.size) (v := v) (HX.out.alloc (.cells #[.int .i64 yd, .bool yf, .int .i64 yr] 156))).trans hpush.2
          refine ⟨Push.keepsFrom HO.out hP _, ⟨hP.below HO.out (N := w.heap.size) (by omega) (by omega) hz, Push.old HO.out hP (by omega) hz (by omega), Push.old HO.out hP (by omega) hz (by omega), Push.old HO.out hP (by omega) hz (by omega)⟩, ⟨.slice (some ⟨gg, 0, none⟩) ((Ec.without (pre.map (·.1)) R late).length + 1) cap, ?_⟩, ⟨hB.trans (hP.below HO.out (N := w.heap.size) (by omega) (by omega) hz), Nat.le_trans hz hP.size⟩, hC.of_block (Push.old HO.out hP (by omega) hz (by omega)), fun k h1 h2 => (Push.old HO.out hP (by omega) hz (by omega)).trans (hKp k h1 h2)⟩
          rw [without_snoc, if_neg (show ¬ Ec.beside R ⟨yd, yf, yr⟩ late = true by rw [show Ec.beside R ⟨yd, yf, yr⟩ late = false from HBE.out]; decide)]
          simpa [eclCells] using hpush.1
    case done =>
      rintro D xs W hD hS ⟨⟨v, hO⟩, ⟨hB, hz⟩, hC, hKp⟩ hK'
      have cO := hO.box.cell 0
      simp only [List.getElem?_toArray, List.getElem?_cons_zero] at cO
      go_wp2_with fail
      refine ⟨by simp, .inl ⟨_, _, rfl, run_takeDeferred hK', ?_⟩⟩
      refine ⟨_, results_tmp2 rfl _ _ _, v, rfl, ?_, ?_⟩
      · have := (hO.kept (grownBy_putObj' W D (.deferred none)) (fun r e => by cases e; exact ⟨_, hK', rfl⟩)).own
        have hx : max 1 lo = lo := by omega
        unfold ForeAll at hS
        rw [hx] at hS
        rw [hS, ← HRL.out] at this
        exact EclVal.of_own this
      · exact hB.grown (grownBy_putObj' W D (.deferred none)) hB.size (fun k e => by cases e; omega)
    case stop =>
      rintro D c' pre W _ _ h _
      exact h.elim
end Go.Proofs.YtimkmokomohgjaaGreat
namespace Go.Proofs.YtimkmokomohgjaaGreat
open Go.RowKit
open Sp (rd)
set_option maxRecDepth 100000
set_option maxHeartbeats 2000000
set_option linter.unusedVariables false
theorem r7_Engine_any (p : EP) (e : Ec.Engine) (w : World) (hm : EngAt w p e) (hl : EngShort e) :
    Calls Tryz.prog 24 #[.agg #[.slice p.Ab e.sky.bodies.length p.cb, .int .i64 e.sky.nnum, .int .i64 e.sky.nden, .int .i64 e.sky.nstart, .slice p.As e.sun.length p.cs, .slice p.Am e.moon.length p.cm, .slice p.An e.node.length p.cn, .slice p.Af e.feasts.length p.cf, .int .i64 e.nw, .int .i64 e.fl, .int .i64 e.wide]] w fun r w' => r = .returned (.bool (Ec.engineOk e)) ∧ Ext w w' := by
  have HM := Lib.hid hm
  have HL := Lib.hid hl
  clear hm hl
  have HR0 : Hid (Row (w.alloc (.cells #[.slice p.Ab e.sky.bodies.length p.cb, .int .i64 e.sky.nnum, .int .i64 e.sky.nden, .int .i64 e.sky.nstart, .slice p.As e.sun.length p.cs, .slice p.Am e.moon.length p.cm, .slice p.An e.node.length p.cn, .slice p.Af e.feasts.length p.cf, .int .i64 e.nw, .int .i64 e.fl, .int .i64 e.wide] 83)) w.heap.size 83 #[.slice p.Ab e.sky.bodies.length p.cb, .int .i64 e.sky.nnum, .int .i64 e.sky.nden, .int .i64 e.sky.nstart, .slice p.As e.sun.length p.cs, .slice p.Am e.moon.length p.cm, .slice p.An e.node.length p.cn, .slice p.Af e.feasts.length p.cf, .int .i64 e.nw, .int .i64 e.fl, .int .i64 e.wide]) := Lib.hid (Row.new w _ _)
  have HE0 : Hid (Ext w (w.alloc (.cells #[.slice p.Ab e.sky.bodies.length p.cb, .int .i64 e.sky.nnum, .int .i64 e.sky.nden, .int .i64 e.sky.nstart, .slice p.As e.sun.length p.cs, .slice p.Am e.moon.length p.cm, .slice p.An e.node.length p.cn, .slice p.Af e.feasts.length p.cf, .int .i64 e.nw, .int .i64 e.fl, .int .i64 e.wide] 83))) := Lib.hid ((Ext.refl w).alloc _)
  go_enter Tryz.func24, Tryz.ntmps24
  have b0 := HR0.out.cell
  go_wp2_with fail
  refine (r_Sky_any e.sky p.Ab p.cb _ (HM.out.ext HE0.out).bodies HL.out.sky).mono ?_
  rintro r w1 ⟨rfl, hE1⟩
  have HE1 := Lib.hid (HE0.out.trans hE1)
  have HR1 := Lib.hid (HR0.out.ext hE1)
  clear b0 hE1
  have b1 := HR1.out.cell
  cases hsky : Sp.skyOk e.sky with
  | false =>
    have HN : Hid (Ec.engineOk e = false) := Lib.hid (by simp [Ec.engineOk, hsky])
    go_wp2_with fail
    go_ret
    exact ⟨ret_bool (by rw [HN.out]), HE1.out⟩
  | true =>
    go_wp2_with fail
    refine (r1_Train_any p.As p.cs e.sun _ (HM.out.ext HE1.out).sun HL.out.sun).mono ?_
    rintro r w' ⟨rfl, rfl⟩
    cases hsun : Ec.trainOk e.sun with
    | false =>
      have HN : Hid (Ec.engineOk e = false) := Lib.hid (by simp [Ec.engineOk, hsun])
      go_wp2_with fail
      go_ret
      exact ⟨ret_bool (by rw [HN.out]), HE1.out⟩
    | true =>
      go_wp2_with fail
      refine (r1_Train_any p.Am p.cm e.moon _ (HM.out.ext HE1.out).moon HL.out.moon).mono ?_
      rintro r w' ⟨rfl, rfl⟩
      cases hmoon : Ec.trainOk e.moon with
      | false =>
        have HN : Hid (Ec.engineOk e = false) := Lib.hid (by simp [Ec.engineOk, hmoon])
        go_wp2_with fail
        go_ret
        exact ⟨ret_bool (by rw [HN.out]), HE1.out⟩
      | true =>
        go_wp2_with fail
        refine (r1_Train_any p.An p.cn e.node _ (HM.out.ext HE1.out).node HL.out.node).mono ?_
        rintro r w' ⟨rfl, rfl⟩
        cases hnode : Ec.trainOk e.node with
        | false =>
          have HN : Hid (Ec.engineOk e = false) := Lib.hid (by simp [Ec.engineOk, hnode])
          go_wp2_with fail
          go_ret
          exact ⟨ret_bool (by rw [HN.out]), HE1.out⟩
        | true =>
          go_wp2_with fail
          refine (r1_Feasts_any p.Af p.cf e.feasts _ (HM.out.ext HE1.out).feasts HL.out.feasts).mono ?_
          rintro r w2 ⟨rfl, hE2⟩
          have HE2 := Lib.hid (HE1.out.trans hE2)
          have HR2 := Lib.hid (HR1.out.ext hE2)
          clear b1 hE2
          have b2 := HR2.out.cell
          cases hfeasts : Ec.feastsOk e.feasts with
          | false =>
            have HN : Hid (Ec.engineOk e = false) := Lib.hid (by simp [Ec.engineOk, hfeasts])
            go_wp2_with fail
            go_ret
            exact ⟨ret_bool (by rw [HN.out]), HE2.out⟩
          | true =>
            go_wp2_with fail
            refine (r_Limit_any _ _).mono ?_
            rintro r w' ⟨rfl, rfl⟩
            cases hnw : Sp.isLimit e.nw with
            | false =>
              have HN : Hid (Ec.engineOk e = false) := Lib.hid (by simp [Ec.engineOk, hnw])
              go_wp2_with fail
              go_ret
              exact ⟨ret_bool (by rw [HN.out]), HE2.out⟩
            | true =>
              go_wp2_with fail
              refine (r_Limit_any _ _).mono ?_
              rintro r w' ⟨rfl, rfl⟩
              cases hfl : Sp.isLimit e.fl with
              | false =>
                have HN : Hid (Ec.engineOk e = false) := Lib.hid (by simp [Ec.engineOk, hfl])
                go_wp2_with fail
                go_ret
                exact ⟨ret_bool (by rw [HN.out]), HE2.out⟩
              | true =>
                go_wp2_with fail
                refine (r_Limit_any _ _).mono ?_
                rintro r w' ⟨rfl, rfl⟩
                cases hwide : Sp.isLimit e.wide with
                | false =>
                  have HN : Hid (Ec.engineOk e = false) := Lib.hid (by simp [Ec.engineOk, hwide])
                  go_wp2_with fail
                  go_ret
                  exact ⟨ret_bool (by rw [HN.out]), HE2.out⟩
                | true =>
                  go_wp2_with fail
                  have HK := Lib.hid (skyOk_iff.1 hsky)
                  cases hmo : Sp.isMonth e.sky with
                  | false =>
                    have HN : Hid (Ec.engineOk e = false) := Lib.hid (by simp [Ec.engineOk, hmo])
                    refine (r_Month_no e.sky p.Ab p.cb _ HK.out (HM.out.ext HE2.out).bodies hmo).mono ?_
                    rintro r w3 ⟨rfl, hE3⟩
                    have HE3 := Lib.hid (HE2.out.trans hE3)
                    go_wp2_with fail
                    go_ret
                    exact ⟨ret_bool (by rw [HN.out]), HE3.out⟩
                  | true =>
                    have HN : Hid (Ec.engineOk e = true) := Lib.hid (by simp [Ec.engineOk, hmo, hsky, hsun, hmoon, hnode, hfeasts, hnw, hfl, hwide])
                    refine (r_Month_ok e.sky p.Ab p.cb _ HK.out (HM.out.ext HE2.out).bodies hmo).mono ?_
                    rintro r w3 ⟨rfl, hE3⟩
                    have HE3 := Lib.hid (HE2.out.trans hE3)
                    go_wp2_with fail
                    go_ret
                    exact ⟨ret_bool (by rw [HN.out]), HE3.out⟩
end Go.Proofs.YtimkmokomohgjaaGreat
namespace Go.Proofs.YtimkmokomohgjaaGreat
open Go.RowKit
open Sp (rd)
set_option maxRecDepth 100000
set_option maxHeartbeats 2000000
set_option linter.unusedVariables false
theorem r7_Target_any (num den : Int) (w : World) : Calls Tryz.prog 21 #[.agg #[.int .i64 num, .int .i64 den]] w fun e w' => e = .returned (.agg #[.int .i64 den, .int .i64 num]) ∧ Ext w w' := by
  have h1 := ((Row.new w 23 #[.int .i64 num, .int .i64 den]).alloc (.cells #[.int .i64 0, .int .i64 0] 69))
  have h2 := Row.new (w.alloc (.cells #[.int .i64 num, .int .i64 den] 23)) 69 #[.int .i64 den, .int .i64 num]
  have hE := ((Ext.refl w).alloc (.cells #[.int .i64 num, .int .i64 den] 23)).alloc (.cells #[.int .i64 den, .int .i64 num] 69)
  simp only [World.size_alloc] at h2
  have HR2 := Lib.hid h2
  have HE := Lib.hid hE
  have c1 := h1.cell
  clear h1 h2 hE
  go_enter Tryz.func21, Tryz.ntmps21
  go_wp2_with fail
  refine bodyPost_ret (results_cell_row rfl _ _ (w.heap.size + 1) 69 _ (0, 0) _ rfl HR2.out Tryz.underlying69 rfl (by kernel_rfl)) rfl ?_
  exact ⟨rfl, HE.out⟩
end Go.Proofs.YtimkmokomohgjaaGreat
namespace Go.Proofs.YtimkmokomohgjaaGreat
open Go.RowKit
open Sp (rd)
set_option maxRecDepth 100000
set_option maxHeartbeats 2000000
set_option linter.unusedVariables false
theorem r1_Gcd_any (x y : Nat) (w : World) (hx : x ≤ 1000000000) (hy : y ≤ 1000000000) :
    Calls Tryz.prog 69 #[.int .i64 (x : Int), .int .i64 (y : Int)] w fun e w' => e = .returned (.int .i64 (Nat.gcd x y : Int)) ∧ Ext w w' := by
  go_enter Tryz.func69, Tryz.ntmps69
  go_wp2_with fail
  go_loopw [0, 1] (fun a b wr => ∃ p q : Nat, a = .int .i64 (p : Int) ∧ b = .int .i64 (q : Int) ∧ Nat.gcd x y = Nat.gcd p q ∧ p ≤ 1000000000 ∧ q ≤ 1000000000 ∧ Ext w wr) (fun _ b _ => (intOf b).toNat)
  case atStart => exact ⟨x, y, rfl, rfl, rfl, hx, hy, Ext.refl _⟩
  case round =>
    obtain ⟨p, q, rfl, rfl, hg, hp, hq, hE⟩ := hrel
    have HG := Lib.hid hg
    have HE := Lib.hid hE
    clear hg hE
    by_cases h0 : 0 < q
    · have hm : (p : Int).tmod (q : Int) = ((p % q : Nat) : Int) := by rw [Int.tmod_eq_emod_of_nonneg (by omega)]; rfl
      have hlt := Nat.mod_lt p h0
      go_wp2_with fail
      go_quiet (fail)
      go_wp2_with fail
      refine ⟨⟨q, p % q, rfl, by go_num, by rw [HG.out, ngcd_step], hq, by omega, HE.out.drewN _⟩, by simp [intOf]; omega⟩
    · obtain rfl : q = 0 := by omega
      go_wp2_with fail
      go_ret
      exact ⟨by rw [HG.out, Nat.gcd_zero_right]; rfl, HE.out⟩
def redΦ (N D G NQ DQ : Nat) (pa : Nat) (w0 : World) (i : Nat) (v : Value) (w : World) : Prop :=
  match i with
  | 0 => v = .pointer (some ⟨pa, 0, none⟩)
  | 1 => v = .int .i64 (N : Int)
  | 2 => v = .int .i64 (G : Int)
  | 3 => v = .int .i64 (NQ : Int)
  | 4 => v = .pointer (some ⟨pa, 1, none⟩)
  | 5 => v = .int .i64 (D : Int)
  | 6 => v = .int .i64 (G : Int)
  | 7 => v = .int .i64 (DQ : Int)
  | _ => v = .agg #[.int .i64 (NQ : Int), .int .i64 (DQ : Int)]
theorem redΦ_mono {N D G NQ DQ : Nat} {pa : Nat} {w0 : World} (i : Nat) (v : Value) (w w' : World) (h : redΦ N D G NQ DQ pa w0 i v w) (he : Ext w w') : redΦ N D G NQ DQ pa w0 i v w' := by
  unfold redΦ at h ⊢
  split at h <;> first
    | exact h
    | exact MkAt.ext h he
    | exact fun hg => MkAt.ext (h hg) he
theorem r1_Reduced_any (N D : Nat) (w : World) (hN : N ≤ 1000000000) (hD : D ≤ 1000000000) (hD1 : 1 ≤ D) :
    Calls Tryz.prog 20 #[.agg #[.int .i64 (N : Int), .int .i64 (D : Int)]] w fun e w' => e = .returned (.agg #[.int .i64 ((N / Nat.gcd N D : Nat) : Int), .int .i64 ((D / Nat.gcd N D : Nat) : Int)]) ∧ Ext w w' := by
  have h1 := (Row.new w 69 #[.int .i64 (N : Int), .int .i64 (D : Int)]).alloc (.cells #[.int .i64 0, .int .i64 0] 69)
  have h2 := Row.new (w.alloc (.cells #[.int .i64 (N : Int), .int .i64 (D : Int)] 69)) 69 #[.int .i64 0, .int .i64 0]
  have hE := ((Ext.refl w).alloc (.cells #[.int .i64 (N : Int), .int .i64 (D : Int)] 69)).alloc (.cells #[.int .i64 0, .int .i64 0] 69)
  simp only [World.size_alloc] at h2
  have hg1 : 1 ≤ Nat.gcd N D := Nat.gcd_pos_of_pos_right N hD1
  have hgl : Nat.gcd N D ≤ D := Nat.gcd_le_right N hD1
  have HG0 := Lib.hid (fun W => r1_Gcd_any N D W hN hD)
  obtain ⟨G, hG⟩ : ∃ G, Nat.gcd N D = G := ⟨_, rfl⟩
  rw [hG] at hg1 hgl HG0 ⊢
  obtain ⟨NQ, hNQ⟩ : ∃ q, N / G = q := ⟨_, rfl⟩
  obtain ⟨DQ, hDQ⟩ : ∃ q, D / G = q := ⟨_, rfl⟩
  have hn9 : NQ ≤ N := by rw [← hNQ]; exact Nat.div_le_self _ _
  have hd9 : DQ ≤ D := by rw [← hDQ]; exact Nat.div_le_self _ _
  have HQ : Hid ((N : Int).tdiv (G : Int) = (NQ : Int) ∧ (D : Int).tdiv (G : Int) = (DQ : Int)) := Lib.hid ⟨by rw [Int.tdiv_eq_ediv_of_nonneg (by omega), ← hNQ]; rfl, by rw [Int.tdiv_eq_ediv_of_nonneg (by omega), ← hDQ]; rfl⟩
  have HG : Hid ((0 : Int) < (G : Int)) := Lib.hid (by omega)
  rw [hNQ, hDQ]
  clear hG hNQ hDQ hD1
  have HR1 := Lib.hid h1
  have HR2 := Lib.hid h2
  have HE := Lib.hid hE
  have c1 := h1.cell
  clear h1 h2 hE
  go_enter Tryz.func20, Tryz.ntmps20
  go_wp2_with fail
  refine (HG0.out _).mono ?_
  rintro e W ⟨rfl, hE1⟩
  have HA := Lib.hid (HR1.out.ext hE1)
  have HR := Lib.hid (HR2.out.ext hE1)
  have HE1 := Lib.hid (HE.out.trans hE1)
  clear hE1 c1 HR1 HR2 HE
  go_wp2_with fail
  obtain ⟨pa, hpa⟩ : ∃ pa, w.heap.size = pa := ⟨_, rfl⟩
  rw [hpa] at HA HR ⊢
  have HPA := Lib.hid hpa
  clear hpa
  refine wp_region_free_tail 9 9 (redΦ N D G NQ DQ pa W) (by kernel_rfl) (by simp) (by kernel_rfl) (by kernel_rfl) (by kernel_rfl) (by kernel_rfl) redΦ_mono ?hob ?hQ (fun h => absurd h (by omega))
  case hob =>
    intro i o hin ho a wa hE hF
    match i, hin with
    | 0, _ =>
      obtain rfl := Option.some.inj ho
      have h0 : a.tmps[1]?.getD undef = .pointer (some ⟨pa, 0, none⟩) := evalD (hF.old 1 (by decide))
      refine Ran.value rfl (v := .pointer (some ⟨pa, 0, none⟩)) (w1 := wa) ?_ ⟨rfl, Ext.refl _⟩
      go_simp
    | 1, _ =>
      obtain rfl := Option.some.inj ho
      have h0 : a.tmps[9]?.getD undef = .pointer (some ⟨pa, 0, none⟩) := evalD ((hF.from_ 0 9 rfl (by decide)))
      have q := (Row.ext (HA.out) hE).cell
      refine Ran.value rfl (v := .int .i64 (N : Int)) (w1 := wa) ?_ ⟨rfl, Ext.refl _⟩
      go_simp
    | 2, _ =>
      obtain rfl := Option.some.inj ho
      have h0 : a.tmps[3]?.getD undef = .int .i64 (G : Int) := evalD (hF.old 3 (by decide))
      refine Ran.value rfl (v := .int .i64 (G : Int)) (w1 := wa) ?_ ⟨rfl, Ext.refl _⟩
      go_simp
    | 3, _ =>
      obtain rfl := Option.some.inj ho
      have h0 : a.tmps[10]?.getD undef = .int .i64 (N : Int) := evalD ((hF.from_ 1 10 rfl (by decide)))
      have h1 : a.tmps[11]?.getD undef = .int .i64 (G : Int) := evalD ((hF.from_ 2 11 rfl (by decide)))
      refine Ran.value rfl (v := .int .i64 (NQ : Int)) (w1 := wa) ?_ ⟨rfl, Ext.refl _⟩
      have hq := HQ.out.1
      have hg := HG.out
      have hw : IntKind.i64.wrap (NQ : Int) = (NQ : Int) := IntWalk.i64_in _ ⟨by omega, by omega⟩
      go_simp
      omega
    | 4, _ =>
      obtain rfl := Option.some.inj ho
      have h0 : a.tmps[1]?.getD undef = .pointer (some ⟨pa, 0, none⟩) := evalD (hF.old 1 (by decide))
      refine Ran.value rfl (v := .pointer (some ⟨pa, 1, none⟩)) (w1 := wa) ?_ ⟨rfl, Ext.refl _⟩
      go_simp
    | 5, _ =>
      obtain rfl := Option.some.inj ho
      have h0 : a.tmps[13]?.getD undef = .pointer (some ⟨pa, 1, none⟩) := evalD ((hF.from_ 4 13 rfl (by decide)))
      have q := (Row.ext (HA.out) hE).cell
      refine Ran.value rfl (v := .int .i64 (D : Int)) (w1 := wa) ?_ ⟨rfl, Ext.refl _⟩
      go_simp
    | 6, _ =>
      obtain rfl := Option.some.inj ho
      have h0 : a.tmps[3]?.getD undef = .int .i64 (G : Int) := evalD (hF.old 3 (by decide))
      refine Ran.value rfl (v := .int .i64 (G : Int)) (w1 := wa) ?_ ⟨rfl, Ext.refl _⟩
      go_simp
    | 7, _ =>
      obtain rfl := Option.some.inj ho
      have h0 : a.tmps[14]?.getD undef = .int .i64 (D : Int) := evalD ((hF.from_ 5 14 rfl (by decide)))
      have h1 : a.tmps[15]?.getD undef = .int .i64 (G : Int) := evalD ((hF.from_ 6 15 rfl (by decide)))
      refine Ran.value rfl (v := .int .i64 (DQ : Int)) (w1 := wa) ?_ ⟨rfl, Ext.refl _⟩
      have hq := HQ.out.2
      have hg := HG.out
      have hw : IntKind.i64.wrap (DQ : Int) = (DQ : Int) := IntWalk.i64_in _ ⟨by omega, by omega⟩
      go_simp
      omega
    | 8, _ =>
      obtain rfl := Option.some.inj ho
      have h0 : a.tmps[12]?.getD undef = .int .i64 (NQ : Int) := evalD ((hF.from_ 3 12 rfl (by decide)))
      have h1 : a.tmps[16]?.getD undef = .int .i64 (DQ : Int) := evalD ((hF.from_ 7 16 rfl (by decide)))
      refine Ran.value rfl (v := .agg #[.int .i64 (NQ : Int), .int .i64 (DQ : Int)]) (w1 := wa) ?_ ⟨rfl, Ext.refl _⟩
      go_simp
    | k + 9, hin => omega
  case hQ =>
    intro vs w2 hE hΦ
    have f0 : vs 0 = .pointer (some ⟨pa, 0, none⟩) := hΦ 0 (by omega)
    have f1 : vs 1 = .int .i64 (N : Int) := hΦ 1 (by omega)
    have f2 : vs 2 = .int .i64 (G : Int) := hΦ 2 (by omega)
    have f3 : vs 3 = .int .i64 (NQ : Int) := hΦ 3 (by omega)
    have f4 : vs 4 = .pointer (some ⟨pa, 1, none⟩) := hΦ 4 (by omega)
    have f5 : vs 5 = .int .i64 (D : Int) := hΦ 5 (by omega)
    have f6 : vs 6 = .int .i64 (G : Int) := hΦ 6 (by omega)
    have f7 : vs 7 = .int .i64 (DQ : Int) := hΦ 7 (by omega)
    have f8 : vs 8 = .agg #[.int .i64 (NQ : Int), .int .i64 (DQ : Int)] := hΦ 8 (by omega)
    have hrg : List.range 9 = [0, 1, 2, 3, 4, 5, 6, 7, 8] := rfl
    unfold putAll putS
    simp only [List.length_cons, List.length_nil, List.take_succ_cons, List.take_zero, List.drop_succ_cons, List.drop_zero, Nat.reduceAdd, hrg, List.foldl_cons, List.foldl_nil, dstOf, List.getElem?_cons_succ, List.getElem?_cons_zero, Option.bind_some]
    clear hrg
    rw [f0, f1, f2, f3, f4, f5, f6, f7, f8]
    simp only [Act.put, List.setIfInBounds_toArray, List.set_cons_succ, List.set_cons_zero]
    have HRr := Lib.hid (HR.out.ext hE)
    have c2 := HRr.out.cell
    have fz := HRr.out.free
    have HE2 := Lib.hid (HE1.out.trans hE)
    clear hΦ f0 f1 f2 f3 f4 f5 f6 f7 f8 hE
    go_wp2_with fail
    refine bodyPost_ret (results_cell_row rfl _ _ (pa + 1) 69 _ (0, 0) _ rfl ((HRr.out.set_ 0 (.int .i64 (NQ : Int))).set_ 1 (.int .i64 (DQ : Int))) Tryz.underlying69 rfl (by kernel_rfl)) rfl ?_
    exact ⟨rfl, (HE2.out.setCell (p := ⟨pa + 1, 0, none⟩) (by have := HPA.out; simp; omega) _).setCell (p := ⟨pa + 1, 1, none⟩) (by have := HPA.out; simp; omega) _⟩
theorem TrainOk.taken {l : List Ec.Pair} (h : TrainOk l) (k : Nat) : (1 ≤ Ec.drivesP (l.take k) ∧ Ec.drivesP (l.take k) ≤ 216000) ∧ (1 ≤ Ec.drivenP (l.take k) ∧ Ec.drivenP (l.take k) ≤ 216000) := by
  have hl : (l.take k).length ≤ 3 := by rw [List.length_take]; have := h.n3; omega
  exact ⟨prod_bounds (·.drives) _ _ rfl hl fun p hp => (h.mem p (List.mem_of_mem_take hp)).1, prod_bounds (·.driven) _ _ rfl hl fun p hp => (h.mem p (List.mem_of_mem_take hp)).2⟩
end Go.Proofs.YtimkmokomohgjaaGreat
namespace Go.Proofs.YtimkmokomohgjaaGreat
open Go.RowKit
open Sp (rd)
set_option maxRecDepth 100000
set_option maxHeartbeats 4000000
set_option linter.unusedVariables false
theorem l1_F_any (w : World) : Calls Tryz.prog 36 #[] w fun e w' => e = .returned (.agg #[.int .i64 43, .int .i64 30]) ∧ Ext w w' := by
  go_enter Tryz.func36, Tryz.ntmps36
  go_wp2_with fail
  have b0 := (Row.new w 69 #[.int .i64 43, .int .i64 30]).cell
  exact bodyPost_ret (v := .agg #[.int .i64 43, .int .i64 30]) (by simp [results, Tryz.results36, go_sem, b0]) rfl ⟨rfl, (Ext.refl w).alloc _⟩
theorem l1_R_any (w : World) : Calls Tryz.prog 35 #[] w fun e w' => ∃ A, e = .returned (.agg #[.int .i64 6, .int .i64 12, .int .i64 2, .int .i64 1, .slice A 1 1]) ∧ Ints w' A [7] ∧ Ext w w' := by
  go_enter Tryz.func35, Tryz.ntmps35
  go_wp2_with fail
  have r0 := (Row.new w 101 #[.int .i64 6, .int .i64 12, .int .i64 2, .int .i64 1, .slice (some ⟨w.heap.size + 1, 0, none⟩) 1 1]).alloc (.cells #[.int .i64 7] 3)
  have r1 := Row.new (w.alloc (.cells #[.int .i64 6, .int .i64 12, .int .i64 2, .int .i64 1, .slice (some ⟨w.heap.size + 1, 0, none⟩) 1 1] 101)) 3 #[.int .i64 7]
  simp only [World.size_alloc] at r1
  have b0 := r0.cell
  refine bodyPost_ret (v := .agg #[.int .i64 6, .int .i64 12, .int .i64 2, .int .i64 1, .slice (some ⟨w.heap.size + 1, 0, none⟩) 1 1]) (by simp [results, Tryz.results35, go_sem, b0]) rfl ⟨_, rfl, ?_, ((Ext.refl w).alloc _).alloc _⟩
  exact fun _ => ⟨_, 0, rfl, fun k hk => by
    obtain rfl : k = 0 := by simp at hk; omega
    exact (r1.cell 0).trans rfl⟩
theorem l1_T_any (w : World) : Calls Tryz.prog 40 #[] w fun e w' => ∃ A, e = .returned (.slice A 2 2) ∧ Pairs w' A [⟨12, 10⟩, ⟨12, 10⟩] ∧ Ext w w' := by
  go_enter Tryz.func40, Tryz.ntmps40
  go_wp2_with fail
  have r0 := Row.new w 125 #[.int .i64 12, .int .i64 10, .int .i64 12, .int .i64 10]
  go_ret
  refine ⟨_, rfl, ?_, (Ext.refl w).alloc _⟩
  exact fun _ => ⟨_, 0, rfl, fun k hk => by
    have hk2 : k < 2 := hk
    rcases (show k = 0 ∨ k = 1 by omega) with rfl | rfl
    · exact ⟨(r0.cell 0).trans rfl, (r0.cell 1).trans rfl⟩
    · exact ⟨(r0.cell 2).trans rfl, (r0.cell 3).trans rfl⟩⟩
end Go.Proofs.YtimkmokomohgjaaGreat
namespace Go.Proofs.YtimkmokomohgjaaGreat
open Go.RowKit Go.Shelf
open Sp (rd)
def moonV : Bool → Value
  | true => .iface 179 (.agg #[])
  | false => .iface 181 (.agg #[])
theorem moonOf_any (full : Bool) (w : World) : Calls Tryz.prog 50 #[.bool full] w fun e w' => e = .returned (moonV full) ∧ Ext w w' := by
  cases full
  · go_enter Tryz.func50, Tryz.ntmps50
    go_wp2_with fail
    go_ret
    exact ⟨rfl, Ext.refl _⟩
  · go_enter Tryz.func50, Tryz.ntmps50
    go_wp2_with fail
    go_ret
    exact ⟨rfl, Ext.refl _⟩
theorem has_any (s : Sp.Sky) (A : Option Addr) (c : Nat) (day : Int) (full : Bool) (w : World) (hs : SkyOk s) (hm : Bodies w A s.bodies) (h2 : 1 ≤ day) (h3 : day ≤ 20000) :
    Calls Tryz.prog 49 #[.agg #[.slice A s.bodies.length c, .int .i64 s.nnum, .int .i64 s.nden, .int .i64 s.nstart, .int .i64 day], moonV full] w fun e w' => e = .returned (.bool (Sp.moonB s day full)) ∧ Ext w w' := by
  cases full
  · exact hasNew s A c day w hs hm h2 h3
  · exact hasFull s A c day w hs hm h2 h3
theorem blocks4 (w : World) (o1 o2 o3 o4 : Obj) : ((((w.alloc o1).alloc o2).alloc o3).alloc o4).heap[w.heap.size]? = some o1 ∧ ((((w.alloc o1).alloc o2).alloc o3).alloc o4).heap[w.heap.size + 1]? = some o2 ∧ ((((w.alloc o1).alloc o2).alloc o3).alloc o4).heap[w.heap.size + 2]? = some o3 ∧ ((((w.alloc o1).alloc o2).alloc o3).alloc o4).heap[w.heap.size + 3]? = some o4 :=
  ⟨(Below.heap_alloc _ _ _ (by simp; omega)).trans (blocks3 w o1 o2 o3).1, (Below.heap_alloc _ _ _ (by simp)).trans (blocks3 w o1 o2 o3).2.1, (Below.heap_alloc _ _ _ (by simp)).trans (blocks3 w o1 o2 o3).2.2, by have := heap_alloc_new (((w.alloc o1).alloc o2).alloc o3) o4; simpa using this⟩
theorem next_results (tmps : Array Value) (W : World) (b2 b3 : Nat) (x e : Int) (h6 : tmps[6]?.getD undef = .pointer (some ⟨b2, 0, none⟩)) (h7 : tmps[7]?.getD undef = .pointer (some ⟨b3, 0, none⟩))
    (c2 : W.cell? ⟨b2, 0, none⟩ = some (.int .i64 x)) (c3 : W.cell? ⟨b3, 0, none⟩ = some (.int .i64 e)) : (results Tryz.f11 tmps).run Tryz.prog W = .ok (.tuple #[.int .i64 x, .int .i64 e]) W := by
  simp [results, Tryz.results11, go_sem, h6, h7, c2, c3]
def nextV (s : Sp.Sky) (day : Int) (full : Bool) : Value := match Sp.nextO s day full with
  | some d => .tuple #[.int .i64 d, .int .i64 0]
  | none => .tuple #[.int .i64 0, .int .i64 5]
attribute [local go_sem] Oper.semAt_some
theorem nextN_none (s : Sp.Sky) (full : Bool) : ∀ (n : Nat) (lo : Int), (∀ k : Nat, k < n → Sp.moonB s (lo + k) full = false) → Sp.nextN s full lo n = none
  | 0, _, _ => rfl
  | n + 1, lo, h => by
    have h0 := h 0 (by omega)
    simp only [Int.natCast_zero, Int.add_zero] at h0
    simp only [Sp.nextN, h0, Bool.false_eq_true, if_false]
    refine nextN_none s full n (lo + 1) fun k hk => ?_
    have := h (k + 1) (by omega)
    rwa [show lo + 1 + (k : Int) = lo + ((k + 1 : Nat) : Int) by omega]
theorem nextN_some (s : Sp.Sky) (full : Bool) : ∀ (n : Nat) (lo : Int) (j : Nat), j < n → (∀ k : Nat, k < j → Sp.moonB s (lo + k) full = false) → Sp.moonB s (lo + j) full = true → Sp.nextN s full lo n = some (lo + j)
  | 0, _, _, h, _, _ => by omega
  | n + 1, lo, 0, _, _, h1 => by
    simp only [Int.natCast_zero, Int.add_zero] at h1 ⊢
    simp [Sp.nextN, h1]
  | n + 1, lo, j + 1, hj, h, h1 => by
    have h0 := h 0 (by omega)
    simp only [Int.natCast_zero, Int.add_zero] at h0
    simp only [Sp.nextN, h0, Bool.false_eq_true, if_false]
    have := nextN_some s full n (lo + 1) j (by omega) (fun k hk => by
      have := h (k + 1) (by omega)
      rwa [show lo + 1 + (k : Int) = lo + ((k + 1 : Nat) : Int) by omega]) (by rwa [show lo + 1 + (j : Int) = lo + ((j + 1 : Nat) : Int) by omega])
    rw [this]
    congr 1
    omega
theorem days_get {pre : List Day1} {lo : Int} {n : Nat} (h : pre.map Subtype.val = daysL lo n) : pre.length = n ∧ ∀ k (hk : k < pre.length), (pre[k]).1 = lo + (k : Nat) := by
  have hl : pre.length = n := by have := congrArg List.length h; simpa [daysL] using this
  refine ⟨hl, fun k hk => ?_⟩
  have h1 : (pre.map Subtype.val)[k]? = (daysL lo n)[k]? := by rw [h]
  simp only [List.getElem?_map, daysL] at h1
  rw [List.getElem?_eq_getElem hk, List.getElem?_range (by omega)] at h1
  simpa using h1
theorem next_none (s : Sp.Sky) (day lo : Int) (full : Bool) (hlo : max 1 day = lo) (xs : List Day1) (h : DaysAll lo 20000 xs) (hn : ∀ x ∈ xs, Sp.moonB s x.1 full = false) : nextV s day full = .tuple #[.int .i64 0, .int .i64 5] := by
  obtain ⟨hl, hg⟩ := days_get (n := (20000 + 1 - lo).toNat) h
  have : Sp.nextO s day full = none := by
    unfold Sp.nextO
    rw [hlo]
    refine nextN_none s full _ lo fun k hk => ?_
    have hk' : k < xs.length := by omega
    rw [← hg k hk']
    exact hn _ (List.getElem_mem hk')
  simp [nextV, this]
theorem next_some (s : Sp.Sky) (day lo : Int) (full : Bool) (hlo : max 1 day = lo) (init : List Day1) (x : Day1) (h : DaysSome lo 20000 (init ++ [x])) (hn : ∀ y ∈ init, Sp.moonB s y.1 full = false) (h1 : Sp.moonB s x.1 full = true) : nextV s day full = .tuple #[.int .i64 x.1, .int .i64 0] := by
  obtain ⟨k, hk, h⟩ := h
  obtain ⟨hl, hg⟩ := days_get h
  simp only [List.length_append, List.length_cons, List.length_nil] at hl
  have hx : x.1 = lo + (init.length : Nat) := by
    have := hg init.length (by simp)
    simpa using this
  have : Sp.nextO s day full = some (lo + (init.length : Nat)) := by
    unfold Sp.nextO
    rw [hlo]
    refine nextN_some s full _ lo init.length (by omega) (fun k hk => ?_) (by rw [← hx]; exact h1)
    have hg' := hg k (by simp; omega)
    rw [List.getElem_append_left hk] at hg'
    rw [← hg']
    exact hn _ (List.getElem_mem hk)
  simp [nextV, this, hx]
def NextI (w : World) (s : Sp.Sky) (full : Bool) (pre : List Day1) (W : World) : Prop := (∀ x ∈ pre, Sp.moonB s x.1 full = false) ∧ (Below w.heap.size w W ∧ w.heap.size + 3 ≤ W.heap.size)
def NextX (w0 : World) (s : Sp.Sky) (full : Bool) (c : Code) (pre : List Day1) (W : World) : Prop := c = .ret ∧ ∃ init x, pre = init ++ [x] ∧ (∀ y ∈ init, Sp.moonB s y.1 full = false) ∧ Sp.moonB s x.1 full = true ∧
  Row W (w0.heap.size + 2) 3 #[.int .i64 x.1] ∧ Row W (w0.heap.size + 3) 32 #[.int .i64 0] ∧ Below w0.heap.size w0 W
theorem nextI_own (w : World) (s : Sp.Sky) (full : Bool) (B : Nat) (hB : w.heap.size ≤ B) : OwnFrom B (NextI w s full) := fun _ _ _ _ ⟨h, hb, hz⟩ hg hr =>
  ⟨h, hb.grown hg hb.size (fun k e => Nat.le_trans hB (hr k e).1), Nat.le_trans hz hg.size⟩
theorem nextX_own (w : World) (s : Sp.Sky) (full : Bool) (B : Nat) (hB : w.heap.size ≤ B) (c : Code) : OwnFrom B (NextX w s full c) := fun _ _ _ _ ⟨e, i, x, h1, h2, h3, h4, h5, hb⟩ hg hr =>
  ⟨e, i, x, h1, h2, h3, h4.kept hg fun r e => (hr r e).2, h5.kept hg fun r e => (hr r e).2, hb.grown hg hb.size (fun k e => Nat.le_trans hB (hr k e).1)⟩
theorem keepsFrom_ext {W W' : World} (h : Ext W W') (B : Nat) : KeepsFrom B W W' := ⟨h.size, fun k _ _ hk _ => (h.block k (Array.getElem?_eq_some_iff.1 hk).1).trans hk⟩
set_option maxRecDepth 100000 in
set_option maxHeartbeats 1000000 in
theorem Next_ok0 (s : Sp.Sky) (A : Option Addr) (c : Nat) (day : Int) (full : Bool) (w : World) (hm : Bodies w A s.bodies) (hl : Short s.bodies) (c0 : Sp.skyOk s = true) (c1 : Sp.isDay day = true) (hday : day ≤ 1) :
    Calls Tryz.prog 11 #[.agg #[.slice A s.bodies.length c, .int .i64 s.nnum, .int .i64 s.nden, .int .i64 s.nstart], .int .i64 day, .bool full] w fun e w' => e = .returned (nextV s day full) ∧ Ext w w' := by
  have hl1 := hl.1
  have HL := Lib.hid hl
  have HM := Lib.hid hm
  clear hm hl
  obtain ⟨d1, d2⟩ := isDay_of c1
  refine (callsIn_wide (n := 8)).1 ?_
  refine callsIn_of_wp_marks Tryz.func11 rfl trivial ?_ rfl
  simp only [Tryz.ntmps11, List.size_toArray, List.length_cons, List.length_nil, Nat.reduceAdd, Nat.reduceSub, Array.replicate_succ, Array.replicate_zero, List.push_toArray, List.append_toArray, List.nil_append, List.cons_append]
  gi_wp2
  refine ⟨trivial, (callsIn_wide.2 (isSky_any s A c _ (HM.out.ext (((((Ext.refl w).alloc _).alloc _).alloc _).alloc _)) HL.out)).mono ?_⟩
  rintro e w1 ⟨rfl, hE1⟩
  have hE := (((((Ext.refl w).alloc _).alloc _).alloc _).alloc _).trans hE1
  have hr : Row w1 w.heap.size 28 _ := Row.ext (blocks4 w _ _ _ _).1 hE1
  have hr1 : Row w1 (w.heap.size + 1) 4 _ := Row.ext (blocks4 w _ _ _ _).2.1 hE1
  have hr2 : Row w1 (w.heap.size + 2) 3 _ := Row.ext (blocks4 w _ _ _ _).2.2.1 hE1
  have hr3 : Row w1 (w.heap.size + 3) 32 _ := Row.ext (blocks4 w _ _ _ _).2.2.2 hE1
  have hz1 : w.heap.size + 4 ≤ w1.heap.size := by have := hE1.size; simpa using this
  have b0 := hr.cell
  clear hE1
  rw [c0]
  have HK := Lib.hid (skyOk_iff.1 c0)
  gi_wp2
  refine ⟨trivial, (callsIn_wide.2 (isDay_any day _)).mono ?_⟩
  rintro e w0 ⟨rfl, rfl⟩
  rw [c1]
  gi_wp2
  refine ⟨trivial, (callsIn_wide.2 (days_any A _ c s 1 20000 _)).mono ?_⟩
  rintro e w' ⟨rfl, rfl⟩
  gi_wp2
  have hlo : max 1 day = 1 := by omega
  have rS := daysW_S A s.bodies.length c s 1 20000 w1
  have rF := daysW_F A s.bodies.length c s 1 20000 w1
  have rT := daysW_T A s.bodies.length c s 1 20000 w1
  have hsz := daysW_size A s.bodies.length c s 1 20000 w1
  have hE2 := daysW_ext A s.bodies.length c s 1 20000 w1
  obtain ⟨W0, hW0⟩ : ∃ W0, daysW A s.bodies.length c s 1 20000 w1 = W0 := ⟨_, rfl⟩
  rw [hW0] at hE2 rS rF rT hsz ⊢
  clear hW0 b0
  have HE := Lib.hid hE
  have h0 : NextI w1 s full [] W0 := ⟨by simp, hE2, by omega⟩
  clear hE hE2
  refine wpIn_rangeFunc_ownH rfl (by omega) (gf := 103) (lb := #[.pointer (some ⟨w1.heap.size + 1, 0, none⟩), .pointer (some ⟨w1.heap.size + 2, 0, none⟩), .pointer (some ⟨w1.heap.size, 0, none⟩)]) rfl trivial (enters_of Tryz.func103 (by kernel_rfl) rfl)
    (days_stops (8 - 1) (by omega) A s.bodies.length c s 1 20000 (by omega) (by omega) w1.heap.size W0 rS rF rT) (fun h k => keepsTwo_t _ _ h k) (keepsTwo_b (by omega) (by omega)) (Below.refl _ _) (fun _ => rfl)
    (NextI w1 s full)
    (NextX w s full)
    (nextI_own w1 s full _ (by omega))
    (nextX_own w s full _ (by omega))
    h0
    (fun x a' W => ∃ Bx, w1.heap.size + 3 ≤ Bx ∧ Row W Bx 115 #[.slice A s.bodies.length c, .int .i64 s.nnum, .int .i64 s.nden, .int .i64 s.nstart, .int .i64 x.1] ∧ a' = (⟨#[.agg #[.slice A s.bodies.length c, .int .i64 s.nnum, .int .i64 s.nden, .int .i64 s.nstart], .int .i64 day, .bool full, .pointer (some ⟨w.heap.size, 0, none⟩), undef, .pointer (some ⟨w.heap.size + 1, 0, none⟩), .pointer (some ⟨w.heap.size + 1 + 1, 0, none⟩), .pointer (some ⟨w.heap.size + 1 + 1 + 1, 0, none⟩), .pointer (some ⟨Bx, 0, none⟩), .agg #[.slice A s.bodies.length c, .int .i64 s.nnum, .int .i64 s.nden, .int .i64 s.nstart], .bool true, .bool false, .bool false, .int .i64 day, .bool true, .bool false, .bool false, .agg #[.slice A s.bodies.length c, .int .i64 s.nnum, .int .i64 s.nden, .int .i64 s.nstart], .int .i64 day, .int .i64 1, daysV w1.heap.size, .agg #[.slice A s.bodies.length c, .int .i64 s.nnum, .int .i64 s.nden, .int .i64 s.nstart, .int .i64 x.1], undef, undef, undef, undef, undef, undef], []⟩ : Act))
    (fun x a' _ X Y row hs hg hr => by obtain ⟨Bx, h0, h1, h2⟩ := hs; exact ⟨Bx, h0, h1.kept hg fun r e => (hr r e).2, h2⟩)
    ?assign ?body ?done ?stop
  case assign =>
    rintro l pre x W K hi hK
    simp only [skyV]
    gi_wp2
    obtain ⟨hI, hB, hz⟩ := hi
    exact hK _ _ ((KeepsOthers.alloc _ _).from _) ⟨Below.heap_alloc _ _ _ (by omega), Below.heap_alloc _ _ _ (by omega)⟩ ⟨hI, hB.alloc hB.size _, by simp; omega⟩ ⟨_, by omega, Row.new _ _ _, rfl⟩
  case body =>
    rintro l pre x a' W hl ⟨r, hr'⟩ ⟨hI, hB, hz⟩ ⟨Bx, hBx, rX, rfl⟩ hlt
    have hx := x.2
    have hE1 : Ext w1 W := hB
    have HE1 := Lib.hid hE1
    have HI := Lib.hid hI
    have HE3 := Lib.hid (HE.out.trans hE1)
    clear hB hI
    gi_wp2
    refine wpIn_region_later (by kernel_rfl) (by kernel_rfl) (by kernel_rfl) (fun WW hW => ?_)
    have q1 := Later.block (w := WW) (by rw [hW]; exact rX)
    have q2 := Later.block (w := WW) (by rw [hW]; exact hr1.ext hE1)
    have HB := Lib.hid (fun X : Later WW => HM.out.ext ((by rw [hW]; exact HE3.out : Ext w WW).trans X.ext))
    clear hE1
    repeat (go_big_quiet_step ((first | (go_at_call 50; exact Later.call (moonOf_any _ _)) | (go_at_call 49; exact Later.call (has_any s A c _ full _ HK.out (by exact HB.out _) (by omega) (by omega))))))
    refine wpQuiet_nil ?_
    rintro ⟨W2, hE4⟩
    subst hW
    have hz4 := Nat.le_trans hz hE4.size
    cases hb : Sp.moonB s x.1 full
    · have HE4 := Lib.hid hE4
      clear q1 q2
      gi_wp2
      refine ⟨keepsFrom_ext HE4.out _, ⟨HE4.out.block _ (by omega), HE4.out.block _ (by omega)⟩, ?_, HE1.out.trans HE4.out, hz4⟩
      intro y hy
      rcases List.mem_append.1 hy with hy | hy
      · exact HI.out y hy
      · rw [List.mem_singleton.1 hy]; exact hb
    · have HE4 := Lib.hid hE4
      have c4 := (rX.ext hE4).cell
      have s2 := (hr2.ext HE1.out).ext hE4
      have s3 := (hr3.ext HE1.out).ext hE4
      have cc2 := s2.cell
      have cc3 := s3.cell
      have ff2 := s2.free
      have ff3 := s3.free
      have ne1 : w.heap.size + 2 ≠ Bx := by omega
      have ne2 : w.heap.size + 3 ≠ Bx := by omega
      clear q1 q2
      gi_wp2
      refine ⟨(keepsFrom_ext HE4.out _).trans (((KeepsOthers.setCell _ _ _).trans (KeepsOthers.setCell _ _ _)).from _), rfl, pre, x, rfl, HI.out, hb, ?_, ?_, ?_⟩
      · simpa using (s2.set_ 0 (.int .i64 x.1)).far (p := ⟨w.heap.size + 3, 0, none⟩) (by simp) (.int .i64 0)
      · simpa using (s3.far (p := ⟨w.heap.size + 2, 0, none⟩) (by simp) (.int .i64 x.1)).set_ 0 (.int .i64 0)
      · exact ((HE3.out.trans HE4.out).setCell (by simp; omega) _).setCell (by simp; omega) _
  case done =>
    rintro D xs W hD hS ⟨hI, hB, hz⟩ hK
    have hB' : Ext w1 W := hB
    have s2 := hr2.ext hB'
    have s3 := hr3.ext hB'
    have HB := Lib.hid hB'
    have cc2 := s2.cell
    have cc3 := s3.cell
    have ff2 := s2.free
    have ff3 := s3.free
    have HI := Lib.hid hI
    clear hB hB' hI
    gi_wp2
    have hK' := ((KeepsOthers.setCell W ⟨w.heap.size + 2, 0, none⟩ (.int .i64 0)).trans (KeepsOthers.setCell _ ⟨w.heap.size + 3, 0, none⟩ (.int .i64 5))).same D _ hK rfl
    refine ⟨by simp, .inl ⟨_, _, rfl, run_takeDeferred hK', ?_⟩⟩
    have s2' : Row ((W.setCell ⟨w.heap.size + 2, 0, none⟩ (.int .i64 0)).setCell ⟨w.heap.size + 3, 0, none⟩ (.int .i64 5)) (w.heap.size + 2) 3 #[.int .i64 0] := by simpa using (s2.set_ 0 (.int .i64 0)).far (p := ⟨w.heap.size + 3, 0, none⟩) (by simp) (.int .i64 5)
    have s3' : Row ((W.setCell ⟨w.heap.size + 2, 0, none⟩ (.int .i64 0)).setCell ⟨w.heap.size + 3, 0, none⟩ (.int .i64 5)) (w.heap.size + 3) 32 #[.int .i64 5] := by simpa using (s3.far (p := ⟨w.heap.size + 2, 0, none⟩) (by simp) (.int .i64 0)).set_ 0 (.int .i64 5)
    have k2 := s2'.kept (grownBy_putObj' _ D (.deferred none)) (fun r e => by cases e; exact ⟨_, hK', rfl⟩)
    have k3 := s3'.kept (grownBy_putObj' _ D (.deferred none)) (fun r e => by cases e; exact ⟨_, hK', rfl⟩)
    refine ⟨_, next_results _ _ (w.heap.size + 2) (w.heap.size + 3) 0 5 rfl rfl (by simpa using k2.cell 0) (by simpa using k3.cell 0), by rw [next_none s day 1 full hlo xs hS HI.out], ?_⟩
    have hF := ((HE.out.trans HB.out).setCell (p := ⟨w.heap.size + 2, 0, none⟩) (by simp) (.int .i64 0)).setCell (p := ⟨w.heap.size + 3, 0, none⟩) (by simp) (.int .i64 5)
    exact Below.grown hF (grownBy_putObj' _ D (.deferred none)) hF.size (fun k e => by cases e; omega)
  case stop =>
    rintro D c' pre W hD hS ⟨rfl, init, x, rfl, hn, h1, s2, s3, hB⟩ hK
    gi_wp2
    refine ⟨by simp, .inl ⟨_, _, rfl, run_takeDeferred hK, ?_⟩⟩
    have k2 := s2.kept (grownBy_putObj' _ D (.deferred none)) (fun r e => by cases e; exact ⟨_, hK, rfl⟩)
    have k3 := s3.kept (grownBy_putObj' _ D (.deferred none)) (fun r e => by cases e; exact ⟨_, hK, rfl⟩)
    refine ⟨_, next_results _ _ (w.heap.size + 2) (w.heap.size + 3) x.1 0 rfl rfl (by simpa using k2.cell 0) (by simpa using k3.cell 0), by rw [next_some s day 1 full hlo init x hS hn h1], ?_⟩
    exact Below.grown hB (grownBy_putObj' _ D (.deferred none)) hB.size (fun k e => by cases e; omega)
end Go.Proofs.YtimkmokomohgjaaGreat
namespace Go.Proofs.YtimkmokomohgjaaGreat
open Go.RowKit
open Sp (rd)
set_option maxRecDepth 100000
set_option maxHeartbeats 4000000
set_option linter.unusedVariables false
theorem b_Mul64_0 (w : World) : Calls Tryz.prog 200 #[.int .u64 1, .int .u64 0] w fun e w' => e = .returned (.tuple #[.int .u64 0, .int .u64 0]) ∧ w = w' := by
  go_enter Tryz.func200, Tryz.ntmps200
  go_wp2_with fail
  go_ret2
  exact ⟨rfl, rfl⟩
theorem b_Mul_0 (w : World) : Calls Tryz.prog 171 #[.int .u64 1, .int .u64 0] w fun e w' => e = .returned (.tuple #[.int .u64 0, .int .u64 0]) ∧ w = w' := by
  go_enter Tryz.func171, Tryz.ntmps171
  go_wp2_with fail
  refine (b_Mul64_0 _).mono ?_
  rintro e w1 ⟨rfl, rfl⟩
  go_wp2_with fail
  go_ret2
  exact ⟨rfl, rfl⟩
theorem b_Mul64_1 (w : World) : Calls Tryz.prog 200 #[.int .u64 1, .int .u64 1] w fun e w' => e = .returned (.tuple #[.int .u64 0, .int .u64 1]) ∧ w = w' := by
  go_enter Tryz.func200, Tryz.ntmps200
  go_wp2_with fail
  go_ret2
  exact ⟨rfl, rfl⟩
theorem b_Mul_1 (w : World) : Calls Tryz.prog 171 #[.int .u64 1, .int .u64 1] w fun e w' => e = .returned (.tuple #[.int .u64 0, .int .u64 1]) ∧ w = w' := by
  go_enter Tryz.func171, Tryz.ntmps171
  go_wp2_with fail
  refine (b_Mul64_1 _).mono ?_
  rintro e w1 ⟨rfl, rfl⟩
  go_wp2_with fail
  go_ret2
  exact ⟨rfl, rfl⟩
theorem b_Mul64_2 (w : World) : Calls Tryz.prog 200 #[.int .u64 1, .int .u64 2] w fun e w' => e = .returned (.tuple #[.int .u64 0, .int .u64 2]) ∧ w = w' := by
  go_enter Tryz.func200, Tryz.ntmps200
  go_wp2_with fail
  go_ret2
  exact ⟨rfl, rfl⟩
theorem b_Mul_2 (w : World) : Calls Tryz.prog 171 #[.int .u64 1, .int .u64 2] w fun e w' => e = .returned (.tuple #[.int .u64 0, .int .u64 2]) ∧ w = w' := by
  go_enter Tryz.func171, Tryz.ntmps171
  go_wp2_with fail
  refine (b_Mul64_2 _).mono ?_
  rintro e w1 ⟨rfl, rfl⟩
  go_wp2_with fail
  go_ret2
  exact ⟨rfl, rfl⟩
theorem mk_int_0 (w : World) : (Instr.makeSlice 48 (.int .i64 0) (.int .i64 0)).run Tryz.prog w = .ok (.slice (some ⟨w.heap.size, 0, none⟩) 0 0) (w.alloc (.cells #[] 3)) := by kernel_rfl
theorem mk_int_1 (w : World) : (Instr.makeSlice 48 (.int .i64 1) (.int .i64 1)).run Tryz.prog w = .ok (.slice (some ⟨w.heap.size, 0, none⟩) 1 1) (w.alloc (.cells #[.int .i64 0] 3)) := by kernel_rfl
theorem mk_int_2 (w : World) : (Instr.makeSlice 48 (.int .i64 2) (.int .i64 2)).run Tryz.prog w = .ok (.slice (some ⟨w.heap.size, 0, none⟩) 2 2) (w.alloc (.cells #[.int .i64 0, .int .i64 0] 3)) := by kernel_rfl
theorem szInt : (Tryz.prog.info? 3).map (·.size) = some 1 := by kernel_rfl
theorem cp_run (w : World) (g o dLen dCap : Nat) (a : Addr) (sLen sCap : Nat) (cur : Array Value) (cs : List Value) (hg : Row w g 3 cur) (hn : cs.length = Nat.min sLen dLen)
    (hsrc : ∀ j v, cs[j]? = some v → w.cell? (a.add j) = some v) (hfit : o + cs.length ≤ cur.size) (h1 : ∀ v ∈ cs, v.oneCell' = true) :
    (Builtin.copy_ #[48, 48] 3 #[.slice (some ⟨g, o, none⟩) dLen dCap, .slice (some a) sLen sCap]).run Tryz.prog w = .ok (goInt cs.length) (w.setRow g (cur.toList.take o ++ cs ++ cur.toList.drop (o + cs.length)).toArray) ∧
      Row (w.setRow g (cur.toList.take o ++ cs ++ cur.toList.drop (o + cs.length)).toArray) g 3 (cur.toList.take o ++ cs ++ cur.toList.drop (o + cs.length)).toArray ∧
      (∀ w0, Ext w0 w → w0.heap.size ≤ g → Ext w0 (w.setRow g (cur.toList.take o ++ cs ++ cur.toList.drop (o + cs.length)).toArray)) :=
  ⟨run_copy_row Tryz.prog w 48 48 3 3 g o dLen dCap a sLen sCap cur 3 cs Tryz.underlying48 szInt hg hn hsrc hfit h1, setRow_heap w g cur _ 3 _ hg,
    fun w0 hb hBg => below_setRow hb hBg _⟩
theorem cp_zero (w : World) (g b : Nat) : (Builtin.copy_ #[48, 48] 3 #[.slice (some ⟨g, 0, none⟩) 0 0, .slice (some ⟨b, 0, none⟩) 1 1]).run Tryz.prog w = .ok (goInt 0) w :=
  run_copy_none w 48 48 3 3 _ _ 0 0 1 1 Tryz.underlying48 szInt rfl
theorem s_Repeat_0 (b : Nat) (w : World) : Calls Tryz.prog 149 #[.slice (some ⟨b, 0, none⟩) 1 1, .int .i64 0] w fun e w' => ∃ A c, e = .returned (.slice A 0 c) ∧ Ext w w' := by
  have hmk := fun w => mk_int_0 w
  have hcp := fun W => cp_zero W w.heap.size b
  have HE := Lib.hid ((Ext.refl w).alloc (.cells #[] 3))
  go_enter Tryz.func149, Tryz.ntmps149
  go_wp2_with fail
  refine (b_Mul_0 _).mono ?_
  rintro e w1 ⟨rfl, rfl⟩
  go_wp2_with fail
  go_loopw [8] (fun i wr => i = .int .i64 0 ∧ Ext w wr) (fun _ _ => 0)
  case atStart => exact ⟨rfl, HE.out⟩
  case round =>
    obtain ⟨rfl, hE⟩ := hrel
    go_wp2_with fail
    go_ret
    exact ⟨_, _, rfl, hE⟩
theorem Tp.sixty {w : World} {b n : Nat} (hr : Row w b 3 (Array.replicate n (.int .i64 60))) : Ints w (some ⟨b, 0, none⟩) (List.replicate n 60) := fun _ => ⟨b, 0, rfl, fun k hk => by
  rw [List.length_replicate] at hk
  have h := hr.cell k
  simp [hk] at h
  simpa [rd, hk] using h⟩
theorem s_Repeat_1 (b : Nat) (w : World) (hr : Row w b 3 #[.int .i64 60]) : Calls Tryz.prog 149 #[.slice (some ⟨b, 0, none⟩) 1 1, .int .i64 1] w fun e w' => ∃ A c, e = .returned (.slice A 1 c) ∧ Ints w' A [60] ∧ Ext w w' := by
  have hmk := fun w => mk_int_1 w
  have HN := Lib.hid (Row.new w 3 #[.int .i64 0])
  have HE := Lib.hid ((Ext.refl w).alloc (.cells #[.int .i64 0] 3))
  have HR := Lib.hid (hr.ext HE.out)
  obtain ⟨hcp, hrow, hext⟩ := cp_run _ w.heap.size 0 1 1 ⟨b, 0, none⟩ 1 1 #[.int .i64 0] [.int .i64 60] HN.out rfl (fun j v hj => by
    match j, hj with
    | 0, hj =>
      have := HR.out.cell 0
      simp at hj
      subst hj
      simpa [Addr.add] using this
    | j + 1, hj => simp at hj) (by simp) (by simp [Value.oneCell'])
  have HX := Lib.hid (hext w HE.out (Nat.le_refl _))
  have HW := Lib.hid hrow
  simp only [List.take_zero, List.nil_append, List.length_cons, List.length_nil, Nat.zero_add, List.drop_succ_cons, List.drop_nil, List.append_nil] at hcp HX HW
  clear hrow hext hr
  go_enter Tryz.func149, Tryz.ntmps149
  go_wp2_with fail
  refine (b_Mul_1 _).mono ?_
  rintro e w1 ⟨rfl, rfl⟩
  go_wp2_with fail
  clear hcp
  go_loopw [8] (fun i wr => i = .int .i64 1 ∧ Row wr w.heap.size 3 #[.int .i64 60] ∧ Ext w wr) (fun _ _ => 0)
  case atStart => exact ⟨rfl, HW.out, HX.out⟩
  case round =>
    obtain ⟨rfl, hR, hE⟩ := hrel
    have HR' := Lib.hid hR
    have HE' := Lib.hid hE
    clear hR hE
    go_wp2_with fail
    go_ret
    exact ⟨_, _, rfl, Tp.sixty (n := 1) HR'.out, HE'.out⟩
theorem s_Repeat_2 (b : Nat) (w : World) (hr : Row w b 3 #[.int .i64 60]) : Calls Tryz.prog 149 #[.slice (some ⟨b, 0, none⟩) 1 1, .int .i64 2] w fun e w' => ∃ A c, e = .returned (.slice A 2 c) ∧ Ints w' A [60, 60] ∧ Ext w w' := by
  have hmk := fun w => mk_int_2 w
  have HN := Lib.hid (Row.new w 3 #[.int .i64 0, .int .i64 0])
  have HE := Lib.hid ((Ext.refl w).alloc (.cells #[.int .i64 0, .int .i64 0] 3))
  have HR := Lib.hid (hr.ext HE.out)
  obtain ⟨hcp, hrow, hext⟩ := cp_run _ w.heap.size 0 2 2 ⟨b, 0, none⟩ 1 1 #[.int .i64 0, .int .i64 0] [.int .i64 60] HN.out rfl (fun j v hj => by
    match j, hj with
    | 0, hj =>
      have := HR.out.cell 0
      simp at hj
      subst hj
      simpa [Addr.add] using this
    | j + 1, hj => simp at hj) (by simp) (by simp [Value.oneCell'])
  have HX := Lib.hid (hext w HE.out (Nat.le_refl _))
  have HW := Lib.hid hrow
  simp only [List.take_zero, List.nil_append, List.length_cons, List.length_nil, Nat.zero_add, List.drop_succ_cons, List.drop_zero, List.cons_append] at hcp HX HW
  clear hrow hext hr
  go_enter Tryz.func149, Tryz.ntmps149
  go_wp2_with fail
  refine (b_Mul_2 _).mono ?_
  rintro e w1 ⟨rfl, rfl⟩
  go_wp2_with fail
  clear hcp
  obtain ⟨H, hH⟩ : ∃ H, w.heap.size = H := ⟨_, rfl⟩
  have HH := Lib.hid hH
  rw [hH] at HX HW ⊢
  clear hH
  go_loopw [8] (fun i wr => (i = .int .i64 1 ∧ Row wr H 3 #[.int .i64 60, .int .i64 0] ∧ Ext w wr) ∨ (i = .int .i64 2 ∧ Row wr H 3 #[.int .i64 60, .int .i64 60] ∧ Ext w wr)) (fun i _ => 2 - (intOf i).toNat)
  case atStart => exact .inl ⟨rfl, HW.out, HX.out⟩
  case round =>
    rcases hrel with ⟨rfl, hR, hE⟩ | ⟨rfl, hR, hE⟩
    · obtain ⟨hcp, hrow, hext⟩ := cp_run wr.drew H 1 1 1 ⟨H, 0, none⟩ 1 2 #[.int .i64 60, .int .i64 0] [.int .i64 60] hR.drew rfl (fun j v hj => by
        match j, hj with
        | 0, hj =>
          have := hR.drew.cell 0
          simp at hj
          subst hj
          simpa [Addr.add] using this
        | j + 1, hj => simp at hj) (by simp) (by simp [Value.oneCell'])
      have HX1 := Lib.hid (hext w hE.drew (by rw [HH.out]; exact Nat.le_refl _))
      have HW1 := Lib.hid hrow
      simp only [List.take_succ_cons, List.take_zero, List.nil_append, List.length_cons, List.length_nil, Nat.zero_add, Nat.reduceAdd, List.drop_succ_cons, List.drop_nil, List.append_nil, List.cons_append] at hcp HX1 HW1
      clear hrow hext hR hE
      go_wp2_with fail
      go_region
      go_wp2_with fail
      go_roundw
      case rel => exact .inr ⟨by go_num, HW1.out, HX1.out⟩
      case measure => simp [intOf]
    · have HR' := Lib.hid hR
      have HE' := Lib.hid hE
      clear hR hE
      go_wp2_with fail
      go_ret
      exact ⟨_, _, rfl, Tp.sixty (n := 2) HR'.out, HE'.out⟩
/-- The product of n sixties, made anew: the sizes of the marks. -/
theorem t_sixties_any (A : Option Addr) (c n : Nat) (w : World) (hm : Ints w A (List.replicate n 60)) (hn : n ≤ 2) : Calls Tryz.prog 148 #[.slice A n c] w fun e w' => e = .returned (.int .i64 ((60 ^ n : Nat) : Int)) ∧ w = w' := by
  have h := t_product_any A c (List.replicate n 60) w hm (by rw [List.length_replicate]; omega) (fun k hk => by
    rw [List.length_replicate] at hk
    simp [rd, hk])
  rw [List.length_replicate] at h
  match n, hn, h with
  | 0, _, h => exact h
  | 1, _, h => exact h
  | 2, _, h => exact h
end Go.Proofs.YtimkmokomohgjaaGreat
namespace Go.Proofs.YtimkmokomohgjaaGreat
open Go.RowKit
open Sp (rd)
set_option maxRecDepth 100000
set_option linter.unusedVariables false
def skyS : Sp.Sky := ⟨[⟨360, 1, 0, [0]⟩, ⟨27, 1, 0, [0, 300, 0, -300]⟩], 6000, 1, 1000⟩
theorem bodyAt_row {w : World} {g o h c : Nat} {t u : TypeId} {cs rs : Array Value} {B : Sp.Body} (h1 : Row w g t cs) (h2 : Row w h u rs) (c0 : cs[o]? = some (.int .i64 B.num)) (c1 : cs[o + 1]? = some (.int .i64 B.den)) (c2 : cs[o + 2]? = some (.int .i64 B.start))
    (c3 : cs[o + 3]? = some (.slice (some ⟨h, 0, none⟩) B.road.length c)) (hr : ∀ k, k < B.road.length → rs[k]? = some (.int .i64 (rd B.road k))) : BodyAt w g o B :=
  ⟨(h1.cell _).trans c0, (h1.cell _).trans c1, (h1.cell _).trans c2, _, _, (h1.cell _).trans c3, fun _ => ⟨h, 0, rfl, fun k hk => by rw [Nat.zero_add]; exact (h2.cell _).trans (hr k hk)⟩⟩
theorem l_S_any (w : World) : Calls Tryz.prog 38 #[] w fun e w' => ∃ A c, e = .returned (.agg #[.slice A 2 c, .int .i64 6000, .int .i64 1, .int .i64 1000]) ∧ Bodies w' A skyS.bodies ∧ Ext w w' := by
  go_enter Tryz.func38, Tryz.ntmps38
  go_wp2_with fail
  obtain ⟨b1, b2, b3, b4⟩ := blocks4 w (.cells #[.slice (some ⟨w.heap.size + 1 + 1 + 1, 0, none⟩) 2 2, .int .i64 6000, .int .i64 1, .int .i64 1000] 28) (.cells #[.int .i64 0] 3) (.cells #[.int .i64 0, .int .i64 300, .int .i64 0, .int .i64 (-300)] 3)
    (.cells #[.int .i64 360, .int .i64 1, .int .i64 0, .slice (some ⟨w.heap.size + 1, 0, none⟩) 1 1, .int .i64 27, .int .i64 1, .int .i64 0, .slice (some ⟨w.heap.size + 1 + 1, 0, none⟩) 4 4] 72)
  refine bodyPost_ret (results_cell_row rfl _ _ w.heap.size 28 _ (0, 0) _ rfl b1 Tryz.underlying28 rfl (by kernel_rfl)) rfl ?_
  refine ⟨_, _, rfl, fun _ => ⟨w.heap.size + 1 + 1 + 1, 0, rfl, fun k hk => ?_⟩, ((((Ext.refl w).alloc _).alloc _).alloc _).alloc _⟩
  match k, hk with
  | 0, _ => exact bodyAt_row (c := 1) b4 b2 rfl rfl rfl rfl (fun k hk => by match k, hk with | 0, _ => rfl)
  | 1, _ => exact bodyAt_row (c := 4) b4 b3 rfl rfl rfl rfl (fun k hk => by match k, hk with | 0, _ => rfl | 1, _ => rfl | 2, _ => rfl | 3, _ => rfl)
  | n + 2, h => exact absurd h (by simp [skyS])
theorem skyS_ok : Sp.skyOk skyS = true := by decide +kernel
theorem skyS_next : Sp.nextO skyS 1 false = some 30 := by decide +kernel
theorem skyS_Next (A : Option Addr) (c : Nat) (w : World) (h : Bodies w A skyS.bodies) :
    Calls Tryz.prog 11 #[.agg #[.slice A 2 c, .int .i64 6000, .int .i64 1, .int .i64 1000], .int .i64 1, .bool false] w fun e w' => e = .returned (.tuple #[.int .i64 30, .int .i64 0]) ∧ Ext w w' := by
  have := Next_ok0 skyS A c 1 false w h ⟨by decide, fun k hk => by
    have hk2 : k < 2 := hk
    rcases (show k = 0 ∨ k = 1 by omega) with rfl | rfl <;> decide⟩ skyS_ok (by decide) (Int.le_refl _)
  unfold nextV at this
  rw [skyS_next] at this
  exact this
end Go.Proofs.YtimkmokomohgjaaGreat
