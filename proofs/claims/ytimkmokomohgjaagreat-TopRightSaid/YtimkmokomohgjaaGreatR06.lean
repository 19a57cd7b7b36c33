/- Volume 6 of the texts that the laws of this seat use: TpWideF TpTurns TpClone EcRefA TpRefSky EcRefM EcRef1 EcKept EcNever EcNever2 EcOff TpRightP EcHands EcOffs EcFore: walks of the program's functions, and plain laws. -/
import Derived.Carry
import Derived.BigQuiet
import Derived.Deep.DrawnRows
import Derived.Deep.RegionHeld3
import Derived.RangeFuncNested
import Derived.Laws.StructEq
import Derived.Test.YtimkmokomohgjaaGreatR01
import Derived.Test.YtimkmokomohgjaaGreatR02
import Derived.Test.YtimkmokomohgjaaGreatR03
import Derived.Test.YtimkmokomohgjaaGreatR04
import Derived.Test.YtimkmokomohgjaaGreatR05
namespace Go.Proofs.YtimkmokomohgjaaGreat
open Go.RowKit
set_option maxRecDepth 100000
set_option linter.unusedVariables false
section
variable {P : Program} {ops : Array Oper} {Q : Exit → Act → World → Prop} {md : Region.Mode} {S : World → Prop} {n : Nat} {F : Fence}
def Tp.noDefer (ops : Array Oper) : Bool := ops.all fun o => match o.op with | .defer _ => false | _ => true
theorem Tp.noDefer_spec (h : Tp.noDefer ops = true) {j : Nat} {o : Oper} (ho : ops[j]? = some o) (c : Call) : o.op ≠ .defer c := by
  intro e
  have h1 := (Array.all_eq_true'.1 h) o (Array.mem_of_getElem? ho)
  rw [e] at h1
  cases h1
theorem Tp.yieldF (hF : ∀ f, F.fn f) (hnd : Tp.noDefer ops = true) {i : Nat} {o : Oper} {v : Value} {a : Act} (hi : ops[i]? = some o) (hy : YieldsIf P ops S o v a) {K : Act → World → Prop} {w : World} (hS : S w) (h : K (a.put o.dst v) w) : wpOpIn F n P ops Q i K a w := by
  unfold wpOpIn
  simp only [hi]
  rcases hy with ⟨hw, hv⟩ | ⟨hw, rfl⟩
  · simp only [hw, if_true]
    refine ⟨fun f _ => hF f, ?_⟩
    rw [Oper.semAt_eq _ _ _ (Tp.noDefer_spec hnd hi), hv w hS]
    exact h
  · simp only [hw, Bool.false_eq_true, if_false]
    exact ⟨fun f _ => hF f, h⟩
theorem Tp.putF (hF : ∀ f, F.fn f) (hnd : Tp.noDefer ops = true) {j : Nat} {oi oj : Oper} {v : Value} (hj : ops[j]? = some oj) (hap : oi.apart ops oj = true)
    (hsi : ∀ cs b, oi.op ≠ .select cs b) (hsj : ∀ cs b, oj.op ≠ .select cs b)
    (hQ : ∀ c a w, Q (.panic c) (a.put oi.dst v) w → Q (.panic c) a w) {K : Act → World → Prop} {a : Act} {w : World}
    (hy : YieldsIf P ops S oi v a) (h : wpOpIn F n P ops Q j K (a.put oi.dst v) w) :
    wpOpIn F n P ops Q j (fun a' w' => YieldsIf P ops S oi v a' ∧ K (a'.put oi.dst v) w') a w := by
  obtain ⟨h1, h2, h3⟩ := Oper.apart_spec hap
  have HJJ := Lib.hid (fun c => Tp.noDefer_spec hnd hj c)
  have keep : ∀ (a : Act), YieldsIf P ops S oi v a → ∀ u, YieldsIf P ops S oi v (a.put oj.dst u) := fun a hy u =>
    hy.of_same (execOp_put oi hsi a oj.dst u h3) (wanted_put oi a oj.dst u h3)
  have keepD : ∀ d, YieldsIf P ops S oi v { a with defers := d :: a.defers } := fun d => hy.of_same rfl rfl
  unfold wpOpIn at *
  simp only [hj] at *
  rw [wanted_put oj a oi.dst v h1] at h
  split
  · rename_i hw
    simp only [hw, if_true] at h
    refine ⟨fun f _ => hF f, ?_⟩
    have h := h.2
    rw [Oper.semAt_eq _ _ _ HJJ.out] at h
    rw [Oper.semAt_eq _ _ _ HJJ.out]
    rw [execOp_put oj hsj a oi.dst v h1] at h
    generalize (execOp a.eval oj).run P w = r at *
    cases r with
    | ok x w' =>
      cases x <;> simp only [Oper.uponIn] at h ⊢
      case value u => exact ⟨keep a hy u, by rw [← Act.put_comm a v u h2]; exact h⟩
      case skip => exact ⟨keep a hy _, by rw [← Act.put_comm a v undef h2]; exact h⟩
      case defer d =>
        refine ⟨keep _ (keepD d) _, ?_⟩
        rw [← Act.put_comm _ v undef h2, ← Act.put_defers]
        exact h
      case enter f args =>
        refine ⟨h.1, CallsIn.mono h.2 fun e w'' he => ?_⟩
        cases e with
        | returned u => exact ⟨keep a hy u, by rw [← Act.put_comm a v u h2]; exact he⟩
        | panicked c => exact hQ _ _ _ he
        | outgrown => exact he
      case row row args => exact ⟨h.1, RowsIn.mono h.2 fun u w'' he => ⟨keep a hy u, by rw [← Act.put_comm a v u h2]; exact he⟩⟩
      case round l f tmps assign body =>
        refine ⟨h.1, RoundIn.mono h.2 fun e w'' he => ?_⟩
        cases e with
        | returned u => exact ⟨keep a hy u, by rw [← Act.put_comm a v u h2]; exact he⟩
        | panicked c => exact hQ _ _ _ he
        | outgrown => exact he
    | halt x w' =>
      cases x <;> simp only [Oper.uponIn] at h ⊢
      case panic u => exact hQ _ _ _ h
  · rename_i hw
    simp only [hw] at h
    exact ⟨fun f _ => hF f, keep a hy _, by rw [← Act.put_comm a v undef h2]; exact h.2⟩
/-- Whatever order is picked from here on; S holds behind each operation. -/
def Tp.anyF (F : Fence) (n : Nat) (P : Program) (md : Region.Mode) (ops : Array Oper) (Q : Exit → Act → World → Prop) (S : World → Prop) : Nat → Array Bool → Act → World → Prop
  | 0, listed, a, w => Region.ready md ops listed = [] ∧ Q .normal a w
  | fuel + 1, listed, a, w =>
    (Region.ready md ops listed = [] → Q .normal a w) ∧
    ∀ i ∈ Region.ready md ops listed, wpOpIn F n P ops Q i (fun a' w' => S w' ∧ Tp.anyF F n P md ops Q S fuel (listed.setIfInBounds i true) a' w') a w
theorem Tp.anyF_any : ∀ (fuel : Nat) (listed : Array Bool) (a : Act) (w : World), Tp.anyF F n P md ops Q S fuel listed a w → wpAnyIn F n P md ops Q fuel listed a w
  | 0, _, _, _, h => h
  | fuel + 1, _, _, _, h => ⟨h.1, fun i hi => wpOpIn_mono (fun a' w' h' => Tp.anyF_any fuel _ a' w' h'.2) (h.2 i hi)⟩
theorem Tp.anyF_first (hF : ∀ f, F.fn f) (hnd : Tp.noDefer ops = true) {i : Nat} {oi : Oper} {v : Value} (hi : ops[i]? = some oi) (hsel : ∀ (j : Nat) (o : Oper) cs b, ops[j]? = some o → o.op ≠ .select cs b)
    (hQ : ∀ c a w, Q (.panic c) (a.put oi.dst v) w → Q (.panic c) a w) :
    ∀ (fuel : Nat) (listed : Array Bool) (a : Act) (w : World),
      (∀ j oj, ops[j]? = some oj → j ≠ i → listed.getD j true = false → (∀ e ∈ oj.after, Region.binds md e = true → e.on ≠ i) → oi.apart ops oj = true) →
      i ∈ Region.ready md ops listed → YieldsIf P ops S oi v a → S w →
      Tp.anyF F n P md ops Q S fuel (listed.setIfInBounds i true) (a.put oi.dst v) w → Tp.anyF F n P md ops Q S (fuel + 1) listed a w := by
  intro fuel
  induction fuel with
  | zero =>
    intro listed a w _ hr hy hS H
    refine ⟨fun h => (by rw [h] at hr; cases hr), fun j hj => ?_⟩
    by_cases hji : j = i
    · subst hji; exact Tp.yieldF hF hnd hi hy hS ⟨hS, H⟩
    · have := ready_mono hj hji
      rw [H.1] at this
      cases this
  | succ fuel ih =>
    intro listed a w hfree hr hy hS H
    refine ⟨fun h => (by rw [h] at hr; cases hr), fun j hj => ?_⟩
    by_cases hji : j = i
    · subst hji; exact Tp.yieldF hF hnd hi hy hS ⟨hS, H⟩
    · have h1 := H.2 j (ready_mono hj hji)
      obtain ⟨hjun, oj, hoj, hall⟩ := mem_ready.1 hj
      have hnot : ∀ e ∈ oj.after, Region.binds md e = true → e.on ≠ i := fun e he hb heq => by
        have h1 := hall e he hb
        have h0 := (mem_ready.1 hr).1
        rw [heq] at h1
        rcases Nat.lt_or_ge i listed.size with h' | h'
        · simp [h'] at h0 h1; rw [h0] at h1; cases h1
        · simp [Array.getElem?_eq_none h'] at h1
      have h2 := Tp.putF hF hnd hoj (hfree j oj hoj hji hjun hnot) (fun cs b => hsel i oi cs b hi) (fun cs b => hsel j oj cs b hoj) hQ hy h1
      have hfree' : ∀ k ok, ops[k]? = some ok → k ≠ i → (listed.setIfInBounds j true).getD k true = false →
          (∀ e ∈ ok.after, Region.binds md e = true → e.on ≠ i) → oi.apart ops ok = true := fun k ok hk hki hun hno => by
        refine hfree k ok hk hki ?_ hno
        by_cases hjk : j = k
        · subst hjk; exact hjun
        · rw [getD_set_ne true hjk] at hun; exact hun
      refine wpOpIn_mono (fun a' w' h3 => ⟨h3.2.1, ih (listed.setIfInBounds j true) a' w' hfree' (ready_mono hr (Ne.symm hji)) h3.1 h3.2.1 ?_⟩) h2
      rw [Array.setIfInBounds_comm _ _ hji]
      exact h3.2.2
theorem Tp.anyF_take (hF : ∀ f, F.fn f) (hnd : Tp.noDefer ops = true) {i : Nat} {oi : Oper} {v : Value} {fuel : Nat} {listed : Array Bool} {a : Act} {w : World} (hi : ops[i]? = some oi)
    (hs : Region.noSelect ops = true) (hf : Region.free md ops listed i = true) (hr : (Region.ready md ops listed).contains i = true)
    (hQ : ∀ c a w, Q (.panic c) (a.put oi.dst v) w → Q (.panic c) a w) (hy : YieldsIf P ops S oi v a) (hS : S w)
    (h : Tp.anyF F n P md ops Q S fuel (listed.setIfInBounds i true) (a.put oi.dst v) w) : Tp.anyF F n P md ops Q S (fuel + 1) listed a w :=
  Tp.anyF_first hF hnd hi (Region.noSelect_spec hs) hQ fuel listed a w (Region.free_spec hi hf) (by simpa using hr) hy hS h
/-- One operation alone comes next. -/
theorem Tp.anyF_one {i : Nat} {o : Oper} {fuel : Nat} {listed : Array Bool} {a : Act} {w : World} (hr : Region.ready md ops listed = [i]) (ho : ops[i]? = some o)
    (h : ∀ K : Act → World → Prop, Shut (∀ a w, S w → Tp.anyF F n P md ops Q S fuel (listed.setIfInBounds i true) a w → K a w) → (if Region.wanted o (yielded ops a.tmps) then o.wpIn F n P a w K Q else (∀ f, o.about P w a.eval = some f → F.fn f) ∧ K (a.put o.dst undef) w)) :
    Tp.anyF F n P md ops Q S (fuel + 1) listed a w :=
  ⟨fun h0 => (by rw [hr] at h0; cases h0), fun j hj => by
    rw [hr] at hj
    obtain rfl : j = i := by simpa using hj
    unfold wpOpIn
    rw [ho]
    exact h _ (fun a w h1 h2 => ⟨h1, h2⟩)⟩
/-- One of two operations comes next. -/
theorem Tp.anyF_two {i j : Nat} {oi oj : Oper} {fuel : Nat} {listed : Array Bool} {a : Act} {w : World} (hr : Region.ready md ops listed = [i, j]) (hoi : ops[i]? = some oi) (hoj : ops[j]? = some oj)
    (h : ∀ K : Act → World → Prop, Shut (∀ a w, S w → Tp.anyF F n P md ops Q S fuel (listed.setIfInBounds i true) a w → K a w) → (if Region.wanted oi (yielded ops a.tmps) then oi.wpIn F n P a w K Q else (∀ f, oi.about P w a.eval = some f → F.fn f) ∧ K (a.put oi.dst undef) w))
    (h2 : ∀ K : Act → World → Prop, Shut (∀ a w, S w → Tp.anyF F n P md ops Q S fuel (listed.setIfInBounds j true) a w → K a w) → (if Region.wanted oj (yielded ops a.tmps) then oj.wpIn F n P a w K Q else (∀ f, oj.about P w a.eval = some f → F.fn f) ∧ K (a.put oj.dst undef) w)) :
    Tp.anyF F n P md ops Q S (fuel + 1) listed a w :=
  ⟨fun h0 => (by rw [hr] at h0; cases h0), fun k hk => by
    rw [hr] at hk
    simp only [List.mem_cons, List.not_mem_nil, or_false] at hk
    unfold wpOpIn
    rcases hk with rfl | rfl
    · rw [hoi]
      exact h _ (fun a w h1 h2 => ⟨h1, h2⟩)
    · rw [hoj]
      exact h2 _ (fun a w h1 h2 => ⟨h1, h2⟩)⟩
theorem Tp.region_fence {id : Nat} {a : Act} {w : World} (S : World → Prop) (hm : P.follows .mixedOrders = true) (h : Tp.anyF F n P .any ops Q S ops.size (Array.replicate ops.size false) a w.drew) : (Code.region id ops true).wpIn F n P Q a w :=
  wpIn_region_any hm (Tp.anyF_any _ _ _ _ h)
end
end Go.Proofs.YtimkmokomohgjaaGreat
namespace Go.Proofs.YtimkmokomohgjaaGreat
open Go.RowKit
open Sp (rd)
set_option maxRecDepth 100000
set_option maxHeartbeats 2000000
set_option linter.unusedVariables false
theorem t_Turns_sense (A : Option Addr) (c : Nat) (l : List Ec.Pair) (w : World) (hm : Pairs w A l) (hl : l.length ≤ 100000) (h : Ec.trainOk l = true) :
    Calls Tryz.prog 66 #[.slice A l.length c] w fun r w' => r = .returned (.tuple #[.agg #[.int .i64 (Ec.turnsN l), .int .i64 (Ec.turnsD l)], .bool ((l.length : Int) % 2 == 0), .int .i64 0]) ∧ Ext w w' := by
  have HM := Lib.hid hm
  have hK := trainOk_of h
  have HK := Lib.hid hK
  have h3 := hK.n3
  clear hm hK
  go_enter Tryz.func66, Tryz.ntmps66
  go_wp2_with fail
  refine (t_isTrain_any A c l _ (HM.out.ext ((Ext.refl w).alloc _)) hl).mono ?_
  rintro r w1 ⟨rfl, hE1⟩
  have hE := ((Ext.refl w).alloc _).trans hE1
  have hr := (Row.new w 69 #[.int .i64 0, .int .i64 0]).ext hE1
  clear hE1
  go_wp2_with fail
  refine (t_turns_any A c l _ (HM.out.ext hE) HK.out).mono ?_
  rintro r w2 ⟨rfl, hE2⟩
  have hr2 := hr.ext hE2
  have g0 := hr2.cell
  have k0 := hr2.free
  have HE3 := Lib.hid (hE.trans hE2)
  clear hr hE hE2
  go_wp2_with fail
  exact bodyPost_ret (v := .tuple #[.agg #[.int .i64 (Ec.turnsN l), .int .i64 (Ec.turnsD l)], .bool ((l.length : Int) % 2 == 0), .int .i64 0]) (by simp [results, Tryz.results66, go_sem, g0]) rfl ⟨rfl, (HE3.out.setCell (p := ⟨w.heap.size, 0, none⟩) (Nat.le_refl _) _).setCell (p := ⟨w.heap.size, 1, none⟩) (Nat.le_refl _) _⟩
end Go.Proofs.YtimkmokomohgjaaGreat
namespace Go.Proofs.YtimkmokomohgjaaGreat
open Go.RowKit
open Sp (rd)
set_option maxRecDepth 100000
set_option maxHeartbeats 4000000
set_option linter.unusedVariables false
theorem Tp.pairs_news {w : World} {b o : Nat} {l : List Ec.Pair} (h : Pairs w (some ⟨b, o, none⟩) l) : ∀ j u, (Tp.pc l)[j]? = some u → w.cell? ((⟨b, o, none⟩ : Addr).add j) = some u := by
  intro j u hu
  have hj : j < l.length * 2 := by
    have := (List.getElem?_eq_some_iff.1 hu).1
    rwa [Tp.pc_len] at this
  have hadd : (⟨b, o, none⟩ : Addr).add j = ⟨b, o + j, none⟩ := by unfold Addr.add; split <;> simp_all
  obtain ⟨b', o', e, hc⟩ := h (by omega)
  cases e
  rw [hadd]
  rcases (show j = j / 2 * 2 ∨ j = j / 2 * 2 + 1 by omega) with e | e
  · rw [e] at hu ⊢
    rw [(Tp.pc_get l (j / 2) (by omega)).1] at hu
    cases hu
    exact (hc (j / 2) (by omega)).1
  · rw [e] at hu ⊢
    rw [(Tp.pc_get l (j / 2) (by omega)).2] at hu
    cases hu
    exact (hc (j / 2) (by omega)).2
theorem Tp.pc_one (l : List Ec.Pair) : ∀ u ∈ Tp.pc l, u.oneCell' = true := by
  intro u hu
  simp only [Tp.pc, List.mem_flatMap, List.mem_cons, List.not_mem_nil, or_false] at hu
  obtain ⟨m, _, rfl | rfl⟩ := hu <;> rfl
theorem Tp.own_empty (W : World) (base : Nat) (t : TypeId) (size : Nat) (h : base ≤ W.heap.size) : (W.alloc (.cells #[] t)).ownsRow base t size (.slice (some ⟨W.heap.size, 0, none⟩) 0 0) 0 [] :=
  ⟨by simp, .inr ⟨W.heap.size, 0, #[], rfl, h, heap_alloc_new W _, Nat.le_refl _, Nat.zero_le _, by simp, by simp⟩⟩
theorem Tp.eql_nil (w : World) : (binOp .eql 78 (.slice none 0 0) (.slice none 0 0)).run Tryz.prog w = .ok (.bool true) w := by kernel_rfl
theorem Tp.eql_some (b o n c : Nat) (w : World) : (binOp .eql 78 (.slice (some ⟨b, o, none⟩) n c) (.slice none 0 0)).run Tryz.prog w = .ok (.bool false) w := by kernel_rfl
theorem Tp.neq_nil (w : World) : (binOp .neq 78 (.slice none 0 0) (.slice none 0 0)).run Tryz.prog w = .ok (.bool false) w := by kernel_rfl
theorem Tp.neq_some (b o n c : Nat) (w : World) : (binOp .neq 78 (.slice (some ⟨b, o, none⟩) n c) (.slice none 0 0)).run Tryz.prog w = .ok (.bool true) w := by kernel_rfl
theorem s_Clone_nil (w : World) : Calls Tryz.prog 197 #[.slice none 0 0] w fun e w' => e = .returned (.slice none 0 0) ∧ Ext w w' := by
  have he := Tp.eql_nil
  go_enter Tryz.func197, Tryz.ntmps197
  go_wp2_with fail
  go_ret
  exact ⟨rfl, Ext.refl _⟩
theorem s_Clone_any (b o n c : Nat) (l : List Ec.Pair) (w : World) (hm : Pairs w (some ⟨b, o, none⟩) l) (h0 : 0 < l.length) (hl : l.length ≤ 1000) (hn : n = l.length) :
    Calls Tryz.prog 197 #[.slice (some ⟨b, o, none⟩) n c] w fun e w' => ∃ g cap, e = .returned (.slice (some ⟨g, 0, none⟩) n cap) ∧ w'.ownsRow w.heap.size 125 2 (.slice (some ⟨g, 0, none⟩) n cap) n (Tp.pc l) ∧ Ext w w' := by
  have HM := Lib.hid (Tp.pairs_news (hm.ext ((Ext.refl w).alloc (.cells #[] 125))))
  have HO := Lib.hid (Tp.own_empty w w.heap.size 125 2 (Nat.le_refl _))
  obtain ⟨i0, hi0, hi1, hi2, hi3⟩ := info_parts Tp.info_pair
  have he := Tp.eql_some
  clear hm
  go_enter Tryz.func197, Tryz.ntmps197
  go_wp2_with (at_builtin; refine wpList_append_lies _ rfl _ _ 78 rfl w.heap.size 125 i0 _ 2 16 Tryz.underlying78 hi0 hi1 hi2 hi3 rfl (by decide) _ 0 [] rfl HO.out ⟨b, o, none⟩ n c (Tp.pc l) rfl (by rw [Tp.pc_len, hn]) HM.out (Tp.pc_one l) (by omega) (by simp only [maxLen]; omega) (by omega) (by simp) _ rfl ?_; intro gg cap w5 hown5 hgrow hat hlt5; have HO5 := Lib.hid hown5; have HX5 := Lib.hid (((Ext.refl w).alloc (.cells #[] 125)).grown hgrow (fun g hg => (HO.out.lt g hg).1)); clear hown5 hgrow hat)
  rw [Nat.zero_add] at HO5
  go_ret
  exact ⟨gg, cap, by rw [hn]; rfl, by simpa using HO5.out, HX5.out⟩
end Go.Proofs.YtimkmokomohgjaaGreat
namespace Go.Proofs.YtimkmokomohgjaaGreat
open Go.RowKit
open Sp (rd)
theorem r_in_any (x lo hi : Int) (w : World) : Calls Tryz.prog 33 #[.int .i64 x, .int .i64 lo, .int .i64 hi] w fun e w' => e = .returned (.bool (Sp.inR x lo hi)) ∧ w = w' := by
  go_enter Tryz.func33, Tryz.ntmps33
  go_wp2
  all_goals
    go_ret
    exact ⟨ret_bool (by simp [Sp.inR, *] <;> omega), rfl⟩
theorem r_Spot_any (n : Int) (w : World) : Calls Tryz.prog 32 #[.int .i64 n] w fun e w' => e = .returned (.bool (Sp.spot n)) ∧ w = w' := by
  go_enter Tryz.func32, Tryz.ntmps32
  go_wp2_with (go_at_call 33; refine (r_in_any _ _ _ _).mono ?_; rintro e w' ⟨rfl, rfl⟩)
  go_ret
  exact ⟨rfl, rfl⟩
theorem r_Limit_any (n : Int) (w : World) : Calls Tryz.prog 74 #[.int .i64 n] w fun e w' => e = .returned (.bool (Sp.isLimit n)) ∧ w = w' := by
  go_enter Tryz.func74, Tryz.ntmps74
  go_wp2_with (go_at_call 33; refine (r_in_any _ _ _ _).mono ?_; rintro e w' ⟨rfl, rfl⟩)
  go_ret
  exact ⟨rfl, rfl⟩
theorem r_period_any (num den : Int) (w : World) : Calls Tryz.prog 31 #[.agg #[.int .i64 num, .int .i64 den]] w fun e w' => e = .returned (.bool (Sp.period num den)) ∧ Ext w w' := by
  by_cases hn : 1 ≤ num ∧ num ≤ 10000
  · obtain ⟨n1, n2⟩ := hn
    have hn' : Sp.inR num 1 10000 = true := inR_iff.2 ⟨n1, n2⟩
    by_cases hd : 1 ≤ den ∧ den ≤ 10000
    · obtain ⟨d1, d2⟩ := hd
      have hd' : Sp.inR den 1 10000 = true := inR_iff.2 ⟨d1, d2⟩
      go_enter Tryz.func31, Tryz.ntmps31
      go_wp2_with (go_at_call 33; refine (r_in_any _ _ _ _).mono ?_; rintro e w' ⟨rfl, rfl⟩)
      all_goals
        go_ret
        exact ⟨ret_bool (by simp_all [Sp.period]), (Ext.refl _).alloc _⟩
    · have hd' : Sp.inR den 1 10000 = false := inR_no.2 hd
      clear hd
      go_enter Tryz.func31, Tryz.ntmps31
      go_wp2_with (go_at_call 33; refine (r_in_any _ _ _ _).mono ?_; rintro e w' ⟨rfl, rfl⟩)
      all_goals
        go_ret
        exact ⟨ret_bool (by simp_all [Sp.period]), (Ext.refl _).alloc _⟩
  · have hn' : Sp.inR num 1 10000 = false := inR_no.2 hn
    clear hn
    go_enter Tryz.func31, Tryz.ntmps31
    go_wp2_with (go_at_call 33; refine (r_in_any _ _ _ _).mono ?_; rintro e w' ⟨rfl, rfl⟩)
    all_goals
      go_ret
      exact ⟨ret_bool (by simp_all [Sp.period]), (Ext.refl _).alloc _⟩
end Go.Proofs.YtimkmokomohgjaaGreat
namespace Go.Proofs.YtimkmokomohgjaaGreat
open Go.RowKit
open Sp (rd)
end Go.Proofs.YtimkmokomohgjaaGreat
namespace Go.Proofs.YtimkmokomohgjaaGreat
open Go.RowKit
open Sp (rd)
end Go.Proofs.YtimkmokomohgjaaGreat
namespace Go.Proofs.YtimkmokomohgjaaGreat
open Go.RowKit
open Sp (rd)
end Go.Proofs.YtimkmokomohgjaaGreat
namespace Go.Proofs.YtimkmokomohgjaaGreat
open Go.RowKit
open Sp (rd)
set_option linter.unusedVariables false
theorem skyOk_no {s : Sp.Sky} {k : Nat} (hk : k < s.bodies.length) (h : Sp.bodyOk (bd s.bodies k) = false) : Sp.skyOk s = false := by
  have hm : bd s.bodies k ∈ s.bodies := by
    unfold bd
    rw [List.getD_eq_getElem?_getD, List.getElem?_eq_getElem hk]
    exact List.getElem_mem hk
  have ha : s.bodies.all Sp.bodyOk = false := by
    rw [List.all_eq_false]
    exact ⟨_, hm, by rw [h]; simp⟩
  simp [Sp.skyOk, ha]
theorem bodies_take_succ {l : List Sp.Body} {k : Nat} (hk : k < l.length) (h : (l.take k).all Sp.bodyOk = true) (hb : Sp.bodyOk (bd l k) = true) : (l.take (k + 1)).all Sp.bodyOk = true := by
  have e : bd l k = l[k] := by
    unfold bd
    rw [List.getD_eq_getElem?_getD, List.getElem?_eq_getElem hk]
    rfl
  rw [List.take_succ_eq_append_getElem hk, List.all_append, h, ← e]
  simp [hb]
theorem road_no {l : List Int} {k : Nat} (hk : k < l.length) (h : Sp.inR (rd l k) (-600) 600 = false) : Sp.roadOk l = false := by
  have e : rd l k = l[k] := by
    unfold Sp.rd
    rw [List.getD_eq_getElem?_getD, List.getElem?_eq_getElem hk]
    rfl
  unfold Sp.roadOk
  rw [List.all_eq_false]
  exact ⟨_, List.getElem_mem hk, by rw [← e, h]; simp⟩
theorem road_take_succ {l : List Int} {k : Nat} (hk : k < l.length) (h : Sp.roadOk (l.take k) = true) (hb : Sp.inR (rd l k) (-600) 600 = true) : Sp.roadOk (l.take (k + 1)) = true := by
  have e : rd l k = l[k] := by
    unfold Sp.rd
    rw [List.getD_eq_getElem?_getD, List.getElem?_eq_getElem hk]
    rfl
  unfold Sp.roadOk at h ⊢
  rw [List.take_succ_eq_append_getElem hk, List.all_append, h, ← e]
  simp [hb]
set_option maxRecDepth 100000 in
set_option maxHeartbeats 1000000 in
theorem r_Sky_any (s : Sp.Sky) (A : Option Addr) (c : Nat) (w : World) (hm : Bodies w A s.bodies) (hl : Short s.bodies) :
    Calls Tryz.prog 7 #[.agg #[.slice A s.bodies.length c, .int .i64 s.nnum, .int .i64 s.nden, .int .i64 s.nstart]] w fun e w' => e = .returned (.bool (Sp.skyOk s)) ∧ Ext w w' := by
  have hl1 := hl.1
  have HL := Lib.hid hl
  have HM := Lib.hid hm
  clear hm hl
  go_enter Tryz.func7, Tryz.ntmps7
  go_wp2_with fail
  have hr0 := Row.new w 28 #[.slice A s.bodies.length c, .int .i64 s.nnum, .int .i64 s.nden, .int .i64 s.nstart]
  have hE0 : Ext w (w.alloc (.cells #[.slice A s.bodies.length c, .int .i64 s.nnum, .int .i64 s.nden, .int .i64 s.nstart] 28)) := (Ext.refl w).alloc _
  generalize w.alloc (.cells #[.slice A s.bodies.length c, .int .i64 s.nnum, .int .i64 s.nden, .int .i64 s.nstart] 28) = w1 at *
  go_loopw [3] (fun i wr => ∃ k : Nat, k ≤ s.bodies.length ∧ i = .int .i64 k ∧ (s.bodies.take k).all Sp.bodyOk = true ∧ Ext w1 wr) (fun i _ => s.bodies.length - (intOf i).toNat)
  case atStart => exact ⟨0, Nat.zero_le _, rfl, rfl, Ext.refl _⟩
  case round =>
    obtain ⟨k, hk, rfl, hall, hE⟩ := hrel
    have b0 := (hr0.ext hE).cell
    have HE := Lib.hid hE
    by_cases hlt : k < s.bodies.length
    · obtain ⟨b, o, rfl, hB⟩ := HM.out (by omega)
      have HB := (hB k hlt).ext (hE0.trans hE)
      have HNX := Lib.hid (fun h => bodies_take_succ hlt hall h)
      have HNO := Lib.hid (fun h => skyOk_no (s := s) hlt h)
      have hrl := HL.out.2 k hlt
      clear hall hE hB
      generalize bd s.bodies k = B at *
      obtain ⟨A1, r1, hr1, I1⟩ := HB.road
      have HI := Lib.hid I1
      have q0 := HB.num
      have q1 := HB.den
      have q2 := HB.start
      have hbo : (0 : Int) ≤ (k : Int) ∧ (k : Int) < (s.bodies.length : Int) := by omega
      clear HB I1
      go_wp2_with fail
      have hrb := Row.new wr 72 #[.int .i64 B.num, .int .i64 B.den, .int .i64 B.start, .slice A1 B.road.length r1]
      refine (r_period_any _ _ _).mono ?_
      rintro e w3 ⟨rfl, hE3⟩
      have rB := hrb.ext hE3
      have cB := rB.cell
      have I3 := Lib.hid (HI.out.ext (((Ext.refl wr).alloc _).trans hE3))
      have HE3 := Lib.hid (HE.out.trans (((Ext.refl wr).alloc _).trans hE3))
      clear hE3 hrb q0 q1 q2 hr1 b0
      cases p1 : Sp.period B.num B.den
      · have HN := Lib.hid (HNO.out (by simp [Sp.bodyOk, p1]))
        go_wp2_with fail
        go_ret
        exact ⟨ret_bool HN.out.symm, hE0.trans HE3.out⟩
      · cases p2 : Sp.spot B.start
        · have HN := Lib.hid (HNO.out (by simp [Sp.bodyOk, p2]))
          go_wp2_with (go_at_call 32; refine (r_Spot_any _ _).mono ?_; rintro e w' ⟨rfl, rfl⟩)
          go_ret
          exact ⟨ret_bool HN.out.symm, hE0.trans HE3.out⟩
        · cases p3 : Sp.inR (B.road.length : Int) 1 8
          · have HN := Lib.hid (HNO.out (by simp [Sp.bodyOk, p3]))
            go_wp2_with (first | (go_at_call 32; refine (r_Spot_any _ _).mono ?_; rintro e w' ⟨rfl, rfl⟩) | (go_at_call 33; refine (r_in_any _ _ _ _).mono ?_; rintro e w' ⟨rfl, rfl⟩))
            go_ret
            exact ⟨ret_bool HN.out.symm, hE0.trans HE3.out⟩
          · have HBK : Hid (Sp.bodyOk B = Sp.roadOk B.road) := Lib.hid (by simp [Sp.bodyOk, p1, p2, p3])
            go_wp2_with (first | (go_at_call 32; refine (r_Spot_any _ _).mono ?_; rintro e w' ⟨rfl, rfl⟩) | (go_at_call 33; refine (r_in_any _ _ _ _).mono ?_; rintro e w' ⟨rfl, rfl⟩))
            clear cB p1 p2 p3
            go_loopw [5] (fun j ws => ∃ m : Nat, m ≤ B.road.length ∧ j = .int .i64 m ∧ Sp.roadOk (B.road.take m) = true ∧ Ext w3 ws) (fun j _ => B.road.length - (intOf j).toNat)
            case atStart => exact ⟨0, Nat.zero_le _, rfl, rfl, Ext.refl _⟩
            case round =>
              obtain ⟨m, hmm, rfl, hal2, hEs⟩ := hrel
              have cB := (rB.ext hEs).cell
              by_cases hlt2 : m < B.road.length
              · obtain ⟨g, q, rfl, hI⟩ := I3.out (by omega)
                have x1 := hEs.cell (hI m hlt2)
                have HX := Lib.hid (fun h => road_take_succ hlt2 hal2 h)
                have HY := Lib.hid (fun h => road_no hlt2 h)
                have HES := Lib.hid hEs
                clear hal2 hEs hI
                cases p4 : Sp.inR (rd B.road m) (-600) 600
                · have HN := Lib.hid (HNO.out (by rw [HBK.out]; exact HY.out p4))
                  go_wp2_with (go_at_call 33; refine (r_in_any _ _ _ _).mono ?_; rintro e w' ⟨rfl, rfl⟩)
                  go_ret
                  exact ⟨ret_bool HN.out.symm, hE0.trans (HE3.out.trans HES.out)⟩
                · have HN := Lib.hid (HX.out p4)
                  go_wp2_with (go_at_call 33; refine (r_in_any _ _ _ _).mono ?_; rintro e w' ⟨rfl, rfl⟩)
                  refine ⟨⟨m + 1, by omega, by go_num, HN.out, HES.out⟩, by simp [intOf]; omega⟩
              · obtain rfl : m = B.road.length := by omega
                rw [List.take_length] at hal2
                have HN := Lib.hid (HNX.out (by rw [HBK.out]; exact hal2))
                have HES := Lib.hid (HE3.out.trans hEs)
                clear hal2 hEs
                go_wp2_with fail
                refine ⟨⟨k + 1, by omega, by go_num, HN.out, HES.out⟩, by simp [intOf]; omega⟩
    · obtain rfl : k = s.bodies.length := by omega
      rw [List.take_length] at hall
      have HSO : Hid (Sp.skyOk s = (Sp.inR s.bodies.length 2 4 && (Sp.period s.nnum s.nden && Sp.spot s.nstart))) := Lib.hid (by simp [Sp.skyOk, hall])
      clear hall hE
      cases p1 : Sp.inR (s.bodies.length : Int) 2 4
      · go_wp2_with (go_at_call 33; refine (r_in_any _ _ _ _).mono ?_; rintro e w' ⟨rfl, rfl⟩)
        go_ret
        exact ⟨ret_bool (by rw [HSO.out]; simp_all), hE0.trans HE.out⟩
      · cases p2 : Sp.period s.nnum s.nden
        · go_wp2_with (first | (go_at_call 33; refine (r_in_any _ _ _ _).mono ?_; rintro e w' ⟨rfl, rfl⟩) | (go_at_call 31; refine (r_period_any _ _ _).mono ?_; rintro e w3 ⟨rfl, hE3⟩; have b3 := (hr0.ext (HE.out.trans hE3)).cell))
          go_ret
          exact ⟨ret_bool (by rw [HSO.out]; simp_all), hE0.trans (HE.out.trans ‹_›)⟩
        · go_wp2_with (first | (go_at_call 33; refine (r_in_any _ _ _ _).mono ?_; rintro e w' ⟨rfl, rfl⟩) | (go_at_call 31; refine (r_period_any _ _ _).mono ?_; rintro e w3 ⟨rfl, hE3⟩; have b3 := (hr0.ext (HE.out.trans hE3)).cell) | (go_at_call 32; refine (r_Spot_any _ _).mono ?_; rintro e w' ⟨rfl, rfl⟩))
          go_ret
          exact ⟨ret_bool (by rw [HSO.out]; simp_all), hE0.trans (HE.out.trans ‹_›)⟩
end Go.Proofs.YtimkmokomohgjaaGreat
namespace Go.Proofs.YtimkmokomohgjaaGreat
open Go.RowKit
open Sp (rd)
theorem ngcd_step (x y : Nat) : Nat.gcd x y = Nat.gcd y (x % y) := by rw [Nat.gcd_comm, Nat.gcd_rec, Nat.gcd_comm]
set_option maxRecDepth 100000 in
theorem r_gcd_any (x y : Nat) (w : World) (hx : x ≤ 1000000000) (hy : y ≤ 1000000000) :
    Calls Tryz.prog 128 #[.int .i64 (x : Int), .int .i64 (y : Int)] w fun e w' => e = .returned (.int .i64 (Nat.gcd x y : Int)) ∧ Ext w w' := by
  go_enter Tryz.func128, Tryz.ntmps128
  go_wp2_with fail
  go_loopw [0, 1] (fun a b wr => ∃ p q : Nat, a = .int .i64 (p : Int) ∧ b = .int .i64 (q : Int) ∧ Nat.gcd x y = Nat.gcd p q ∧ p ≤ 1000000000 ∧ q ≤ 1000000000 ∧ Ext w wr) (fun _ b _ => (intOf b).toNat)
  case atStart => exact ⟨x, y, rfl, rfl, rfl, hx, hy, Ext.refl _⟩
  case round =>
    obtain ⟨p, q, rfl, rfl, hg, hp, hq, hE⟩ := hrel
    have HG := Lib.hid hg
    have HE := Lib.hid hE
    clear hg hE
    by_cases h0 : 0 < q
    · have hm : (p : Int).tmod (q : Int) = ((p % q : Nat) : Int) := by rw [Int.tmod_eq_emod_of_nonneg (by omega)]; rfl
      have hlt := Nat.mod_lt p h0
      go_wp2_with fail
      go_quiet (fail)
      go_wp2_with fail
      refine ⟨⟨q, p % q, rfl, by go_num, by rw [HG.out, ngcd_step], hq, by omega, HE.out.drewN _⟩, by simp [intOf]; omega⟩
    · obtain rfl : q = 0 := by omega
      go_wp2_with fail
      go_ret
      exact ⟨by rw [HG.out, Nat.gcd_zero_right]; rfl, HE.out⟩
set_option maxRecDepth 100000 in
set_option maxHeartbeats 1000000 in
theorem r_Month_ok (s : Sp.Sky) (A : Option Addr) (c : Nat) (w : World) (hs : SkyOk s) (hm : Bodies w A s.bodies) (h : Sp.isMonth s = true) :
    Calls Tryz.prog 75 #[.agg #[.slice A s.bodies.length c, .int .i64 s.nnum, .int .i64 s.nden, .int .i64 s.nstart]] w fun e w' => e = .returned (.tuple #[.int .i64 (Sp.monthNum s / monthG s), .int .i64 (Sp.monthDen s / monthG s), .bool true]) ∧ Ext w w' := by
  have hmb := month_bounds hs h
  have hgb := monthG_bounds hs h
  have n2 := hs.n2
  obtain ⟨b, o, rfl, hc⟩ := hm (by omega)
  have e0 := hc 0 (by omega)
  have e1 := hc 1 (by omega)
  have b0 : bd s.bodies 0 = Sp.body s 0 := rfl
  have b1 : bd s.bodies 1 = Sp.body s 1 := rfl
  rw [b0] at e0
  rw [b1] at e1
  obtain ⟨p0, p1, _, _⟩ := e0
  obtain ⟨p2, p3, _, _⟩ := e1
  simp only [Nat.zero_mul, Nat.one_mul, Nat.add_zero] at p0 p1 p2 p3
  have n0 := lts (lt_of_cell p0)
  clear hc
  have q := (Row.new w 28 #[.slice (some ⟨b, o, none⟩) s.bodies.length c, .int .i64 s.nnum, .int .i64 s.nden, .int .i64 s.nstart]).cell 0
  simp only [List.getElem?_toArray, List.getElem?_cons_zero] at q
  have hE : Ext w (w.alloc (.cells #[.slice (some ⟨b, o, none⟩) s.bodies.length c, .int .i64 s.nnum, .int .i64 s.nden, .int .i64 s.nstart] 28)) := (Ext.refl w).alloc _
  replace p0 := hE.cell p0
  replace p1 := hE.cell p1
  replace p2 := hE.cell p2
  replace p3 := hE.cell p3
  go_enter Tryz.func75, Tryz.ntmps75
  go_wp2_with fail
  obtain ⟨W, hW⟩ : ∃ W, w.alloc (.cells #[.slice (some ⟨b, o, none⟩) s.bodies.length c, .int .i64 s.nnum, .int .i64 s.nden, .int .i64 s.nstart] 28) = W := ⟨_, rfl⟩
  have hz : W.heap.size = w.heap.size + 1 := by rw [← hW]; simp
  rw [hW] at q p0 p1 p2 p3 hE ⊢
  clear hW n0
  have m0 := World.new_ne W _ q
  have m1 := World.new_ne W _ p0
  have k0 := lts (lt_of_cell q)
  have k1 := lts (lt_of_cell p0)
  simp only at m0 m1 k0 k1
  have h01 : (0 : Int) < s.bodies.length := by omega
  have h11 : (1 : Int) < s.bodies.length := by omega
  have h00 : 0 < s.bodies.length := by omega
  refine Code.wp_mono (Q := fun e a' w' => e = .normal ∧ ∃ b4 b5, w.heap.size < b4 ∧ w.heap.size < b5 ∧ b4 ≠ b5 ∧ Ext W w' ∧ Row w' b4 23 #[.int .i64 (Sp.body s 0).num, .int .i64 (Sp.body s 0).den] ∧ Row w' b5 23 #[.int .i64 (Sp.body s 1).num, .int .i64 (Sp.body s 1).den] ∧ a' = (⟨#[.agg #[.slice (some ⟨b, o, none⟩) s.bodies.length c, .int .i64 s.nnum, .int .i64 s.nden, .int .i64 s.nstart], .pointer (some ⟨w.heap.size, 0, none⟩), .int .i64 0, .int .i64 0, .bool false, .pointer (some ⟨b4, 0, none⟩), .pointer (some ⟨b5, 0, none⟩), undef, undef, undef, .pointer (some ⟨w.heap.size, 0, none⟩), .slice (some ⟨b, o, none⟩) s.bodies.length c, .pointer (some ⟨b, o, none⟩), .pointer (some ⟨b, o, none⟩), .agg #[.int .i64 (Sp.body s 0).num, .int .i64 (Sp.body s 0).den], .pointer (some ⟨w.heap.size, 0, none⟩), .slice (some ⟨b, o, none⟩) s.bodies.length c, .pointer (some ⟨b, o + 4, none⟩), .pointer (some ⟨b, o + 4, none⟩), .agg #[.int .i64 (Sp.body s 1).num, .int .i64 (Sp.body s 1).den], undef, undef, undef, undef, undef, undef, undef, undef, undef, undef, undef, undef, undef, undef, undef, undef, undef, undef, undef, undef, undef, undef, undef, undef, undef, undef, undef], []⟩ : Act)) ?hq ?hr
  case hr =>
    go_region_held3 (fun w' => w'.cell? ⟨w.heap.size, 0, none⟩ = some (.slice (some ⟨b, o, none⟩) s.bodies.length c) ∧ w'.cell? ⟨b, o, none⟩ = some (.int .i64 (Sp.body s 0).num) ∧ w'.cell? ⟨b, o + 1, none⟩ = some (.int .i64 (Sp.body s 0).den) ∧ w'.cell? ⟨b, o + 4, none⟩ = some (.int .i64 (Sp.body s 1).num) ∧ w'.cell? ⟨b, o + 4 + 1, none⟩ = some (.int .i64 (Sp.body s 1).den)) (go_keep) (fail)
    · have hE3 : Ext W ((W.alloc (.cells #[.int .i64 (Sp.body s 0).num, .int .i64 (Sp.body s 0).den] 23)).alloc (.cells #[.int .i64 (Sp.body s 1).num, .int .i64 (Sp.body s 1).den] 23)).drew := (((Ext.refl W).alloc _).alloc _).drew
      exact ⟨rfl, w.heap.size + 1, w.heap.size + 1 + 1, by omega, by omega, by omega, hE3, by rw [← hz]; exact (blocks2 W _ _).1, by rw [← hz]; exact (blocks2 W _ _).2, rfl⟩
    · have hE3 : Ext W ((W.alloc (.cells #[.int .i64 (Sp.body s 1).num, .int .i64 (Sp.body s 1).den] 23)).alloc (.cells #[.int .i64 (Sp.body s 0).num, .int .i64 (Sp.body s 0).den] 23)).drew := (((Ext.refl W).alloc _).alloc _).drew
      exact ⟨rfl, w.heap.size + 1 + 1, w.heap.size + 1, by omega, by omega, by omega, hE3, by rw [← hz]; exact (blocks2 W _ _).2, by rw [← hz]; exact (blocks2 W _ _).1, rfl⟩
  case hq =>
    rintro e a' w1 ⟨rfl, b4, b5, hb4, hb5, hne, hE1, r4, r5, rfl⟩
    have c4 := r4.cell
    have c5 := r5.cell
    have g0 := hs.all 0 (by omega)
    have g1 := hs.all 1 (by omega)
    rw [b0] at g0
    rw [b1] at g1
    obtain ⟨n0, hn0⟩ : ∃ n0, (Sp.body s 0).num = n0 := ⟨_, rfl⟩
    obtain ⟨x0, hx0⟩ : ∃ x0, (Sp.body s 0).den = x0 := ⟨_, rfl⟩
    obtain ⟨n1, hn1⟩ : ∃ n1, (Sp.body s 1).num = n1 := ⟨_, rfl⟩
    obtain ⟨x1, hx1⟩ : ∃ x1, (Sp.body s 1).den = x1 := ⟨_, rfl⟩
    obtain ⟨u1, u2, u3, u4, _, _, _, _, _⟩ := g0
    obtain ⟨v1, v2, v3, v4, _, _, _, _, _⟩ := g1
    simp only [hn0, hx0] at u1 u2 u3 u4 c4 ⊢
    simp only [hn1, hx1] at v1 v2 v3 v4 c5 ⊢
    have t1 := mul_bounds (a := n1) (b := n0) (A := 10000) (B := 10000) (by omega) (by omega) (by omega) (by omega)
    have t2 := mul_bounds (a := x1) (b := n0) (A := 10000) (B := 10000) (by omega) (by omega) (by omega) (by omega)
    have t3 := mul_bounds (a := x0) (b := n1) (A := 10000) (B := 10000) (by omega) (by omega) (by omega) (by omega)
    have hnum : Sp.monthNum s = n1 * n0 := by simp only [Sp.monthNum, hn1, hn0]
    have hd : Sp.monthDen s = x1 * n0 - x0 * n1 := by simp only [Sp.monthDen, hn1, hn0, hx0, hx1]
    have hG : monthG s = (Nat.gcd (n1 * n0).toNat (x1 * n0 - x0 * n1).toNat : Int) := by
      unfold monthG
      rw [hnum, hd]
      rw [hnum, hd] at hmb
      unfold Int.gcd
      congr 2 <;> omega
    rw [hnum, hd] at hmb
    rw [hG] at hgb
    obtain ⟨N, hN⟩ : ∃ N : Nat, n1 * n0 = N := ⟨(n1 * n0).toNat, by omega⟩
    obtain ⟨D, hD⟩ : ∃ D : Nat, x1 * n0 - x0 * n1 = D := ⟨(x1 * n0 - x0 * n1).toNat, by omega⟩
    have HFIN : Hid (Ending.returned (.tuple #[.int .i64 (Sp.monthNum s / monthG s), .int .i64 (Sp.monthDen s / monthG s), .bool true]) = .returned (.tuple #[.int .i64 ((N : Int) / (Nat.gcd N D : Int)), .int .i64 ((D : Int) / (Nat.gcd N D : Int)), .bool true])) := Lib.hid (by
      rw [hG, hnum, hd, hN, hD]
      rfl)
    have HE := Lib.hid (hE.trans hE1)
    rw [hN, hD] at hmb hgb
    simp only [Int.toNat_natCast] at hgb
    have HN := Lib.hid hN
    have HD := Lib.hid hD
    clear hnum hd hn0 hx0 hn1 hx1 hE hE1 b0 b1 h hG
    go_wp2
    go_quiet (fail)
    go_wp2_with fail
    skip
    refine (r_gcd_any N D _ (by omega) (by omega)).mono ?_
    rintro e w2 ⟨rfl, hE2⟩
    have HE2 := Lib.hid ((HE.out.drewN _).trans hE2)
    clear hE2 c4 c5 hN hD
    have hq1 : (N : Int).tdiv (Nat.gcd N D : Int) = (N : Int) / (Nat.gcd N D : Int) := Int.tdiv_eq_ediv_of_nonneg (by omega)
    have hq2 : (D : Int).tdiv (Nat.gcd N D : Int) = (D : Int) / (Nat.gcd N D : Int) := Int.tdiv_eq_ediv_of_nonneg (by omega)
    have z1 : 0 ≤ (N : Int) / (Nat.gcd N D : Int) := Int.ediv_nonneg (by omega) (by omega)
    have z2 : (N : Int) / (Nat.gcd N D : Int) ≤ N := Int.ediv_le_self _ (by omega)
    have z3 : 0 ≤ (D : Int) / (Nat.gcd N D : Int) := Int.ediv_nonneg (by omega) (by omega)
    have z4 : (D : Int) / (Nat.gcd N D : Int) ≤ D := Int.ediv_le_self _ (by omega)
    go_wp2
    go_quiet (fail)
    go_wp2
    go_ret3
    exact ⟨HFIN.out.symm, HE2.out.drewN _⟩
set_option maxRecDepth 100000 in
set_option maxHeartbeats 1000000 in
theorem r_Month_no (s : Sp.Sky) (A : Option Addr) (c : Nat) (w : World) (hs : SkyOk s) (hm : Bodies w A s.bodies) (h : Sp.isMonth s = false) :
    Calls Tryz.prog 75 #[.agg #[.slice A s.bodies.length c, .int .i64 s.nnum, .int .i64 s.nden, .int .i64 s.nstart]] w fun e w' => e = .returned (.tuple #[.int .i64 0, .int .i64 0, .bool false]) ∧ Ext w w' := by
  skip
  have n2 := hs.n2
  obtain ⟨b, o, rfl, hc⟩ := hm (by omega)
  have e0 := hc 0 (by omega)
  have e1 := hc 1 (by omega)
  have b0 : bd s.bodies 0 = Sp.body s 0 := rfl
  have b1 : bd s.bodies 1 = Sp.body s 1 := rfl
  rw [b0] at e0
  rw [b1] at e1
  obtain ⟨p0, p1, _, _⟩ := e0
  obtain ⟨p2, p3, _, _⟩ := e1
  simp only [Nat.zero_mul, Nat.one_mul, Nat.add_zero] at p0 p1 p2 p3
  have n0 := lts (lt_of_cell p0)
  clear hc
  have q := (Row.new w 28 #[.slice (some ⟨b, o, none⟩) s.bodies.length c, .int .i64 s.nnum, .int .i64 s.nden, .int .i64 s.nstart]).cell 0
  simp only [List.getElem?_toArray, List.getElem?_cons_zero] at q
  have hE : Ext w (w.alloc (.cells #[.slice (some ⟨b, o, none⟩) s.bodies.length c, .int .i64 s.nnum, .int .i64 s.nden, .int .i64 s.nstart] 28)) := (Ext.refl w).alloc _
  replace p0 := hE.cell p0
  replace p1 := hE.cell p1
  replace p2 := hE.cell p2
  replace p3 := hE.cell p3
  go_enter Tryz.func75, Tryz.ntmps75
  go_wp2_with fail
  obtain ⟨W, hW⟩ : ∃ W, w.alloc (.cells #[.slice (some ⟨b, o, none⟩) s.bodies.length c, .int .i64 s.nnum, .int .i64 s.nden, .int .i64 s.nstart] 28) = W := ⟨_, rfl⟩
  have hz : W.heap.size = w.heap.size + 1 := by rw [← hW]; simp
  rw [hW] at q p0 p1 p2 p3 hE ⊢
  clear hW n0
  have m0 := World.new_ne W _ q
  have m1 := World.new_ne W _ p0
  have k0 := lts (lt_of_cell q)
  have k1 := lts (lt_of_cell p0)
  simp only at m0 m1 k0 k1
  have h01 : (0 : Int) < s.bodies.length := by omega
  have h11 : (1 : Int) < s.bodies.length := by omega
  have h00 : 0 < s.bodies.length := by omega
  refine Code.wp_mono (Q := fun e a' w' => e = .normal ∧ ∃ b4 b5, w.heap.size < b4 ∧ w.heap.size < b5 ∧ b4 ≠ b5 ∧ Ext W w' ∧ Row w' b4 23 #[.int .i64 (Sp.body s 0).num, .int .i64 (Sp.body s 0).den] ∧ Row w' b5 23 #[.int .i64 (Sp.body s 1).num, .int .i64 (Sp.body s 1).den] ∧ a' = (⟨#[.agg #[.slice (some ⟨b, o, none⟩) s.bodies.length c, .int .i64 s.nnum, .int .i64 s.nden, .int .i64 s.nstart], .pointer (some ⟨w.heap.size, 0, none⟩), .int .i64 0, .int .i64 0, .bool false, .pointer (some ⟨b4, 0, none⟩), .pointer (some ⟨b5, 0, none⟩), undef, undef, undef, .pointer (some ⟨w.heap.size, 0, none⟩), .slice (some ⟨b, o, none⟩) s.bodies.length c, .pointer (some ⟨b, o, none⟩), .pointer (some ⟨b, o, none⟩), .agg #[.int .i64 (Sp.body s 0).num, .int .i64 (Sp.body s 0).den], .pointer (some ⟨w.heap.size, 0, none⟩), .slice (some ⟨b, o, none⟩) s.bodies.length c, .pointer (some ⟨b, o + 4, none⟩), .pointer (some ⟨b, o + 4, none⟩), .agg #[.int .i64 (Sp.body s 1).num, .int .i64 (Sp.body s 1).den], undef, undef, undef, undef, undef, undef, undef, undef, undef, undef, undef, undef, undef, undef, undef, undef, undef, undef, undef, undef, undef, undef, undef, undef, undef, undef, undef], []⟩ : Act)) ?hq ?hr
  case hr =>
    go_region_held3 (fun w' => w'.cell? ⟨w.heap.size, 0, none⟩ = some (.slice (some ⟨b, o, none⟩) s.bodies.length c) ∧ w'.cell? ⟨b, o, none⟩ = some (.int .i64 (Sp.body s 0).num) ∧ w'.cell? ⟨b, o + 1, none⟩ = some (.int .i64 (Sp.body s 0).den) ∧ w'.cell? ⟨b, o + 4, none⟩ = some (.int .i64 (Sp.body s 1).num) ∧ w'.cell? ⟨b, o + 4 + 1, none⟩ = some (.int .i64 (Sp.body s 1).den)) (go_keep) (fail)
    · have hE3 : Ext W ((W.alloc (.cells #[.int .i64 (Sp.body s 0).num, .int .i64 (Sp.body s 0).den] 23)).alloc (.cells #[.int .i64 (Sp.body s 1).num, .int .i64 (Sp.body s 1).den] 23)).drew := (((Ext.refl W).alloc _).alloc _).drew
      exact ⟨rfl, w.heap.size + 1, w.heap.size + 1 + 1, by omega, by omega, by omega, hE3, by rw [← hz]; exact (blocks2 W _ _).1, by rw [← hz]; exact (blocks2 W _ _).2, rfl⟩
    · have hE3 : Ext W ((W.alloc (.cells #[.int .i64 (Sp.body s 1).num, .int .i64 (Sp.body s 1).den] 23)).alloc (.cells #[.int .i64 (Sp.body s 0).num, .int .i64 (Sp.body s 0).den] 23)).drew := (((Ext.refl W).alloc _).alloc _).drew
      exact ⟨rfl, w.heap.size + 1 + 1, w.heap.size + 1, by omega, by omega, by omega, hE3, by rw [← hz]; exact (blocks2 W _ _).2, by rw [← hz]; exact (blocks2 W _ _).1, rfl⟩
  case hq =>
    rintro e a' w1 ⟨rfl, b4, b5, hb4, hb5, hne, hE1, r4, r5, rfl⟩
    have c4 := r4.cell
    have c5 := r5.cell
    have g0 := hs.all 0 (by omega)
    have g1 := hs.all 1 (by omega)
    rw [b0] at g0
    rw [b1] at g1
    obtain ⟨n0, hn0⟩ : ∃ n0, (Sp.body s 0).num = n0 := ⟨_, rfl⟩
    obtain ⟨x0, hx0⟩ : ∃ x0, (Sp.body s 0).den = x0 := ⟨_, rfl⟩
    obtain ⟨n1, hn1⟩ : ∃ n1, (Sp.body s 1).num = n1 := ⟨_, rfl⟩
    obtain ⟨x1, hx1⟩ : ∃ x1, (Sp.body s 1).den = x1 := ⟨_, rfl⟩
    obtain ⟨u1, u2, u3, u4, _, _, _, _, _⟩ := g0
    obtain ⟨v1, v2, v3, v4, _, _, _, _, _⟩ := g1
    simp only [hn0, hx0] at u1 u2 u3 u4 c4 ⊢
    simp only [hn1, hx1] at v1 v2 v3 v4 c5 ⊢
    have t1 := mul_bounds (a := n1) (b := n0) (A := 10000) (B := 10000) (by omega) (by omega) (by omega) (by omega)
    have t2 := mul_bounds (a := x1) (b := n0) (A := 10000) (B := 10000) (by omega) (by omega) (by omega) (by omega)
    have t3 := mul_bounds (a := x0) (b := n1) (A := 10000) (B := 10000) (by omega) (by omega) (by omega) (by omega)
    have hnum : Sp.monthNum s = n1 * n0 := by simp only [Sp.monthNum, hn1, hn0]
    have hd : Sp.monthDen s = x1 * n0 - x0 * n1 := by simp only [Sp.monthDen, hn1, hn0, hx0, hx1]
    have hden : x1 * n0 - x0 * n1 ≤ 0 := by
      have h' : ¬ 0 < Sp.monthDen s := of_decide_eq_false h
      omega
    have HE := Lib.hid (hE.trans hE1)
    clear hnum hd hn0 hx0 hn1 hx1 hE hE1 b0 b1 h
    go_wp2
    go_quiet (fail)
    go_wp2
    go_ret3
    exact ⟨rfl, HE.out.drewN _⟩
end Go.Proofs.YtimkmokomohgjaaGreat
namespace Go.Proofs.YtimkmokomohgjaaGreat
open Go.RowKit
open Sp (rd)
set_option maxRecDepth 100000
set_option maxHeartbeats 2000000
set_option linter.unusedVariables false
theorem r1_in_any (x lo hi : Int) (w : World) : Calls Tryz.prog 72 #[.int .i64 x, .int .i64 lo, .int .i64 hi] w fun e w' => e = .returned (.bool (Sp.inR x lo hi)) ∧ w = w' := by
  by_cases h1 : lo ≤ x <;> by_cases h2 : x ≤ hi <;>
  · go_enter Tryz.func72, Tryz.ntmps72
    go_wp2_with fail
    all_goals
      go_ret
      exact ⟨ret_bool (by simp [Sp.inR, h1, h2]), rfl⟩
theorem r1_in_ext (x lo hi : Int) (w : World) : Calls Tryz.prog 72 #[.int .i64 x, .int .i64 lo, .int .i64 hi] w fun e w' => e = .returned (.bool (Sp.inR x lo hi)) ∧ Ext w w' := by
  refine (r1_in_any x lo hi w).mono ?_
  rintro e w' ⟨rfl, rfl⟩
  exact ⟨rfl, Ext.refl _⟩
theorem r7_in_any (x lo hi : Int) (w : World) : Calls Tryz.prog 76 #[.int .i64 x, .int .i64 lo, .int .i64 hi] w fun e w' => e = .returned (.bool (Sp.inR x lo hi)) ∧ w = w' := by
  by_cases h1 : lo ≤ x <;> by_cases h2 : x ≤ hi <;>
  · go_enter Tryz.func76, Tryz.ntmps76
    go_wp2_with fail
    all_goals
      go_ret
      exact ⟨ret_bool (by simp [Sp.inR, h1, h2]), rfl⟩
theorem r1_Teeth_any (n : Int) (w : World) : Calls Tryz.prog 71 #[.int .i64 n] w fun e w' => e = .returned (.bool (Ec.isTeeth n)) ∧ w = w' := by
  go_enter Tryz.func71, Tryz.ntmps71
  go_wp2_with fail
  refine (r1_in_any n 4 60 _).mono ?_
  rintro e w' ⟨rfl, rfl⟩
  go_wp2_with fail
  go_ret
  exact ⟨rfl, rfl⟩
theorem r7_Day_any (n : Int) (w : World) : Calls Tryz.prog 26 #[.int .i64 n] w fun e w' => e = .returned (.bool (Ec.isDay n)) ∧ w = w' := by
  go_enter Tryz.func26, Tryz.ntmps26
  go_wp2_with fail
  refine (r7_in_any n 0 9000 _).mono ?_
  rintro e w' ⟨rfl, rfl⟩
  go_wp2_with fail
  go_ret
  exact ⟨rfl, rfl⟩
theorem r7_Span_any (lo hi : Int) (w : World) : Calls Tryz.prog 27 #[.int .i64 lo, .int .i64 hi] w fun e w' => e = .returned (.bool (Ec.isSpan lo hi)) ∧ w = w' := by
  by_cases h1 : 1 ≤ lo ∧ lo ≤ 9000
  · obtain ⟨d1, d2⟩ := h1
    have h1' : Sp.inR lo 1 9000 = true := inR_iff.2 ⟨d1, d2⟩
    by_cases h2 : lo ≤ hi ∧ hi ≤ 9000
    · obtain ⟨d3, d4⟩ := h2
      have h2' : Sp.inR hi lo 9000 = true := inR_iff.2 ⟨d3, d4⟩
      go_enter Tryz.func27, Tryz.ntmps27
      go_wp2_with (go_at_call 76; refine (r7_in_any _ _ _ _).mono ?_; rintro e w' ⟨rfl, rfl⟩)
      all_goals
        go_ret
        exact ⟨ret_bool (by simp_all [Ec.isSpan]), rfl⟩
    · have h2' : Sp.inR hi lo 9000 = false := inR_no.2 h2
      clear h2
      go_enter Tryz.func27, Tryz.ntmps27
      go_wp2_with (go_at_call 76; refine (r7_in_any _ _ _ _).mono ?_; rintro e w' ⟨rfl, rfl⟩)
      all_goals
        go_ret
        exact ⟨ret_bool (by simp_all [Ec.isSpan]), rfl⟩
  · have h1' : Sp.inR lo 1 9000 = false := inR_no.2 h1
    clear h1
    go_enter Tryz.func27, Tryz.ntmps27
    go_wp2_with (go_at_call 76; refine (r7_in_any _ _ _ _).mono ?_; rintro e w' ⟨rfl, rfl⟩)
    all_goals
      go_ret
      exact ⟨ret_bool (by simp_all [Ec.isSpan]), rfl⟩
theorem r1_Feasts_any (A : Option Addr) (c : Nat) (l : List Int) (w : World) (hm : Ints w A l) (hl : l.length ≤ 100000) :
    Calls Tryz.prog 73 #[.slice A l.length c] w fun e w' => e = .returned (.bool (Ec.feastsOk l)) ∧ Ext w w' := by
  have HM := Lib.hid hm
  clear hm
  go_enter Tryz.func73, Tryz.ntmps73
  go_wp2_with fail
  go_loopw [3] (fun i wr => ∃ k : Nat, k ≤ l.length ∧ i = .int .i64 k ∧ Ec.risingN l 1 10000 k = true ∧ Ext w wr) (fun i _ => l.length - (intOf i).toNat)
  case atStart => exact ⟨0, Nat.zero_le _, rfl, rfl, Ext.refl _⟩
  case round =>
    obtain ⟨k, hk, rfl, hq, hE⟩ := hrel
    have HQ := Lib.hid hq
    have HE := Lib.hid hE
    clear hq
    by_cases hlt : k < l.length
    · obtain ⟨b, o, rfl, hc⟩ := HM.out (by omega)
      have ck := hE.cell (hc k hlt)
      cases hv : Sp.inR (rd l k) 1 10000
      · have HN := Lib.hid (rising_no (l := l) (lo := 1) (hi := 10000) hlt (by simp [Ec.risingN, hv]))
        clear hE hc
        go_wp2_with fail
        refine wp_region_later (by kernel_rfl) (by kernel_rfl) (fun W hW => ?_)
        subst hW
        have y0 := fun X : Later W => X.ext.cell ck
        clear ck
        repeat (go_big_quiet_step (fail))
        go_big_quiet_step ((go_at_call 72; exact Later.call (r1_in_ext _ _ _ _)))
        repeat (go_big_quiet_step (fail))
        refine wpQuiet_nil ?_
        rintro ⟨w3, hE3⟩
        dsimp only
        have HE3 := Lib.hid (HE.out.trans hE3)
        clear hE3 y0
        go_wp2_with fail
        go_ret
        exact ⟨ret_bool (by simp [Ec.feastsOk, HN.out]), HE3.out⟩
      · rcases Nat.eq_zero_or_pos k with h0 | h0
        · subst h0
          simp only [Nat.add_zero] at ck
          have HS : Hid (Ec.risingN l 1 10000 1 = true) := Lib.hid (by simp [Ec.risingN, hv])
          clear hE hc
          go_wp2_with fail
          refine wp_region_later (by kernel_rfl) (by kernel_rfl) (fun W hW => ?_)
          subst hW
          have y0 := fun X : Later W => X.ext.cell ck
          clear ck
          repeat (go_big_quiet_step (fail))
          go_big_quiet_step ((go_at_call 72; exact Later.call (r1_in_ext _ _ _ _)))
          repeat (go_big_quiet_step (fail))
          refine wpQuiet_nil ?_
          rintro ⟨w3, hE3⟩
          dsimp only
          have HE3 := Lib.hid (HE.out.trans hE3)
          clear hE3 y0
          go_wp2_with fail
          go_roundw
          case rel => exact ⟨1, by omega, rfl, HS.out, HE3.out⟩
          case measure => simp [intOf]; omega
        · have cp := hE.cell (hc (k - 1) (by omega))
          have hk0 : (0 : Int) < (k : Int) := by omega
          by_cases hle : rd l k ≤ rd l (k - 1)
          · have HN := Lib.hid (rising_no (l := l) (lo := 1) (hi := 10000) hlt (by simp [Ec.risingN]; intro _ _; exact ⟨by omega, hle⟩))
            clear hE hc
            go_wp2_with fail
            refine wp_region_later (by kernel_rfl) (by kernel_rfl) (fun W hW => ?_)
            subst hW
            have y0 := fun X : Later W => X.ext.cell ck
            have y1 := fun X : Later W => X.ext.cell cp
            clear ck cp
            repeat (go_big_quiet_step (fail))
            go_big_quiet_step ((go_at_call 72; exact Later.call (r1_in_ext _ _ _ _)))
            repeat (go_big_quiet_step (fail))
            refine wpQuiet_nil ?_
            rintro ⟨w3, hE3⟩
            dsimp only
            have HE3 := Lib.hid (HE.out.trans hE3)
            clear hE3 y0 y1
            go_wp2_with fail
            go_ret
            exact ⟨ret_bool (by simp [Ec.feastsOk, HN.out]), HE3.out⟩
          · have HS := Lib.hid (show Ec.risingN l 1 10000 (k + 1) = true by simp [Ec.risingN, HQ.out, hv]; right; omega)
            clear hE hc
            go_wp2_with fail
            refine wp_region_later (by kernel_rfl) (by kernel_rfl) (fun W hW => ?_)
            subst hW
            have y0 := fun X : Later W => X.ext.cell ck
            have y1 := fun X : Later W => X.ext.cell cp
            clear ck cp
            repeat (go_big_quiet_step (fail))
            go_big_quiet_step ((go_at_call 72; exact Later.call (r1_in_ext _ _ _ _)))
            repeat (go_big_quiet_step (fail))
            refine wpQuiet_nil ?_
            rintro ⟨w3, hE3⟩
            dsimp only
            have HE3 := Lib.hid (HE.out.trans hE3)
            clear hE3 y0 y1
            go_wp2_with fail
            go_roundw
            case rel => exact ⟨k + 1, by omega, by go_num, HS.out, HE3.out⟩
            case measure => simp [intOf]; omega
    · obtain rfl : k = l.length := by omega
      go_wp2_with fail
      go_ret
      exact ⟨ret_bool (by simp [Ec.feastsOk, Ec.rising, HQ.out]; omega), HE.out⟩
theorem r1_Set_any (B A : Option Addr) (n d c : Nat) (l : List Int) (w : World) (hn : n ≤ 100000) (hm : Ints w A l) (hl : l.length ≤ 100000) :
    Calls Tryz.prog 25 #[.slice B n d, .slice A l.length c] w fun e w' => e = .returned (.bool (Ec.rising l 0 ((n : Int) - 1))) ∧ Ext w w' := by
  have HM := Lib.hid hm
  clear hm
  go_enter Tryz.func25, Tryz.ntmps25
  go_wp2_with fail
  go_loopw [5] (fun i wr => ∃ k : Nat, k ≤ l.length ∧ i = .int .i64 k ∧ Ec.risingN l 0 (n - 1) k = true ∧ Ext w wr) (fun i _ => l.length - (intOf i).toNat)
  case atStart => exact ⟨0, Nat.zero_le _, rfl, rfl, Ext.refl _⟩
  case round =>
    obtain ⟨k, hk, rfl, hq, hE⟩ := hrel
    have HQ := Lib.hid hq
    have HE := Lib.hid hE
    clear hq
    by_cases hlt : k < l.length
    · obtain ⟨b, o, rfl, hc⟩ := HM.out (by omega)
      have ck := hE.cell (hc k hlt)
      cases hv : Sp.inR (rd l k) 0 (n - 1)
      · have HN := Lib.hid (rising_no (l := l) (lo := 0) (hi := (n - 1)) hlt (by simp [Ec.risingN, hv]))
        clear hE hc
        go_wp2_with fail
        refine wp_region_later (by kernel_rfl) (by kernel_rfl) (fun W hW => ?_)
        subst hW
        have y0 := fun X : Later W => X.ext.cell ck
        clear ck
        repeat (go_big_quiet_step (fail))
        go_big_quiet_step ((go_at_call 72; exact Later.call (r1_in_ext _ _ _ _)))
        repeat (go_big_quiet_step (fail))
        refine wpQuiet_nil ?_
        rintro ⟨w3, hE3⟩
        dsimp only
        have HE3 := Lib.hid (HE.out.trans hE3)
        clear hE3 y0
        go_wp2_with fail
        go_ret
        exact ⟨ret_bool (by rw [HN.out]), HE3.out⟩
      · rcases Nat.eq_zero_or_pos k with h0 | h0
        · subst h0
          simp only [Nat.add_zero] at ck
          have HS : Hid (Ec.risingN l 0 (n - 1) 1 = true) := Lib.hid (by simp [Ec.risingN, hv])
          clear hE hc
          go_wp2_with fail
          refine wp_region_later (by kernel_rfl) (by kernel_rfl) (fun W hW => ?_)
          subst hW
          have y0 := fun X : Later W => X.ext.cell ck
          clear ck
          repeat (go_big_quiet_step (fail))
          go_big_quiet_step ((go_at_call 72; exact Later.call (r1_in_ext _ _ _ _)))
          repeat (go_big_quiet_step (fail))
          refine wpQuiet_nil ?_
          rintro ⟨w3, hE3⟩
          dsimp only
          have HE3 := Lib.hid (HE.out.trans hE3)
          clear hE3 y0
          go_wp2_with fail
          go_roundw
          case rel => exact ⟨1, by omega, rfl, HS.out, HE3.out⟩
          case measure => simp [intOf]; omega
        · have cp := hE.cell (hc (k - 1) (by omega))
          have hk0 : (0 : Int) < (k : Int) := by omega
          by_cases hle : rd l k ≤ rd l (k - 1)
          · have HN := Lib.hid (rising_no (l := l) (lo := 0) (hi := (n - 1)) hlt (by simp [Ec.risingN]; intro _ _; exact ⟨by omega, hle⟩))
            clear hE hc
            go_wp2_with fail
            refine wp_region_later (by kernel_rfl) (by kernel_rfl) (fun W hW => ?_)
            subst hW
            have y0 := fun X : Later W => X.ext.cell ck
            have y1 := fun X : Later W => X.ext.cell cp
            clear ck cp
            repeat (go_big_quiet_step (fail))
            go_big_quiet_step ((go_at_call 72; exact Later.call (r1_in_ext _ _ _ _)))
            repeat (go_big_quiet_step (fail))
            refine wpQuiet_nil ?_
            rintro ⟨w3, hE3⟩
            dsimp only
            have HE3 := Lib.hid (HE.out.trans hE3)
            clear hE3 y0 y1
            go_wp2_with fail
            go_ret
            exact ⟨ret_bool (by rw [HN.out]), HE3.out⟩
          · have HS := Lib.hid (show Ec.risingN l 0 (n - 1) (k + 1) = true by simp [Ec.risingN, HQ.out, hv]; right; omega)
            clear hE hc
            go_wp2_with fail
            refine wp_region_later (by kernel_rfl) (by kernel_rfl) (fun W hW => ?_)
            subst hW
            have y0 := fun X : Later W => X.ext.cell ck
            have y1 := fun X : Later W => X.ext.cell cp
            clear ck cp
            repeat (go_big_quiet_step (fail))
            go_big_quiet_step ((go_at_call 72; exact Later.call (r1_in_ext _ _ _ _)))
            repeat (go_big_quiet_step (fail))
            refine wpQuiet_nil ?_
            rintro ⟨w3, hE3⟩
            dsimp only
            have HE3 := Lib.hid (HE.out.trans hE3)
            clear hE3 y0 y1
            go_wp2_with fail
            go_roundw
            case rel => exact ⟨k + 1, by omega, by go_num, HS.out, HE3.out⟩
            case measure => simp [intOf]; omega
    · obtain rfl : k = l.length := by omega
      go_wp2_with fail
      go_ret
      exact ⟨ret_bool (by rw [Ec.rising, HQ.out]), HE.out⟩
theorem train_no {l : List Ec.Pair} {k : Nat} (hk : k < l.length) (h : Ec.pairOk (pd l k) = false) : Ec.trainOk l = false := by
  cases hr : Ec.trainOk l
  · rfl
  · simp only [Ec.trainOk, Bool.and_eq_true, List.all_eq_true] at hr
    have := hr.2 (pd l k) (by unfold pd; rw [List.getD_eq_getElem?_getD, List.getElem?_eq_getElem hk]; exact List.getElem_mem hk)
    rw [h] at this
    exact absurd this (by simp)
theorem train_take {l : List Ec.Pair} {k : Nat} (hk : k < l.length) (h : (l.take k).all Ec.pairOk = true) (hb : Ec.pairOk (pd l k) = true) : (l.take (k + 1)).all Ec.pairOk = true := by
  rw [List.take_succ_eq_append_getElem hk, List.all_append, h]
  unfold pd at hb
  rw [List.getD_eq_getElem?_getD, List.getElem?_eq_getElem hk] at hb
  simpa using hb
theorem r1_Train_any (A : Option Addr) (c : Nat) (l : List Ec.Pair) (w : World) (hm : Pairs w A l) (hl : l.length ≤ 100000) :
    Calls Tryz.prog 23 #[.slice A l.length c] w fun e w' => e = .returned (.bool (Ec.trainOk l)) ∧ w = w' := by
  have HM := Lib.hid hm
  clear hm
  go_enter Tryz.func23, Tryz.ntmps23
  go_wp2_with fail
  go_loop [3] (fun i => ∃ k : Nat, k ≤ l.length ∧ i = .int .i64 k ∧ (l.take k).all Ec.pairOk = true) (fun i => l.length - (intOf i).toNat)
  case atStart => exact ⟨0, Nat.zero_le _, rfl, rfl⟩
  case round =>
    obtain ⟨k, hk, rfl, hq⟩ := hrel
    have HQ := Lib.hid hq
    clear hq
    by_cases hlt : k < l.length
    · obtain ⟨b, o, rfl, hc⟩ := HM.out (by omega)
      obtain ⟨c1, c2⟩ := hc k hlt
      have HNO := Lib.hid (fun h => train_no hlt h)
      have HYE := Lib.hid (fun h => train_take hlt HQ.out h)
      obtain ⟨m, hm⟩ : ∃ m, pd l k = m := ⟨_, rfl⟩
      rw [hm] at c1 c2 HNO HYE
      obtain ⟨x, y⟩ := m
      simp only at c1 c2
      clear hc hm
      cases hx : Ec.isTeeth x
      · have HN := Lib.hid (HNO.out (by simp [Ec.pairOk, hx]))
        clear HNO HYE
        go_wp2_with fail
        refine (r1_Teeth_any _ _).mono ?_
        rintro e w' ⟨rfl, rfl⟩
        rw [hx]
        go_wp2_with fail
        go_ret
        exact ⟨ret_bool (by rw [HN.out]), rfl⟩
      · cases hy : Ec.isTeeth y
        · have HN := Lib.hid (HNO.out (by simp [Ec.pairOk, hy]))
          clear HNO HYE
          go_wp2_with fail
          refine (r1_Teeth_any _ _).mono ?_
          rintro e w' ⟨rfl, rfl⟩
          rw [hx]
          go_wp2_with fail
          refine (r1_Teeth_any _ _).mono ?_
          rintro e w' ⟨rfl, rfl⟩
          rw [hy]
          go_wp2_with fail
          go_ret
          exact ⟨ret_bool (by rw [HN.out]), rfl⟩
        · have HS := Lib.hid (HYE.out (by simp [Ec.pairOk, hx, hy]))
          clear HNO HYE
          go_wp2_with fail
          refine (r1_Teeth_any _ _).mono ?_
          rintro e w' ⟨rfl, rfl⟩
          rw [hx]
          go_wp2_with fail
          refine (r1_Teeth_any _ _).mono ?_
          rintro e w' ⟨rfl, rfl⟩
          rw [hy]
          go_wp2_with fail
          go_round
          case rel => exact ⟨k + 1, by omega, by go_num, HS.out⟩
          case measure => simp [intOf]; omega
    · obtain rfl : k = l.length := by omega
      have HA : Hid (l.all Ec.pairOk = true) := Lib.hid (by have := HQ.out; rwa [List.take_length] at this)
      go_wp2_with fail
      refine (r1_in_any _ _ _ _).mono ?_
      rintro e w' ⟨rfl, rfl⟩
      go_wp2_with fail
      go_ret
      exact ⟨ret_bool (by simp [Ec.trainOk, HA.out]), rfl⟩
end Go.Proofs.YtimkmokomohgjaaGreat
namespace Go.Proofs.YtimkmokomohgjaaGreat
open Sp (rd)
set_option linter.unusedSimpArgs false
set_option linter.unusedVariables false
namespace Ec
/-- By how many minutes a hand is off after some turns, times a denominator. -/
def offN (l : List Pair) (num den turns : Int) : Int := (turnsN l * den - num * turnsD l) * turns * 21600
def within (l : List Pair) (num den limit turns : Int) : Bool := decide (max (offN l num den turns) (-offN l num den turns) ≤ limit * (turnsD l * den))
def prevF (feasts set : List Int) (k : Nat) : Int := if k = 0 then 0 else feastOf feasts set (k - 1)
/-- Is a hand kept, from a setting on? -/
def keepsGo (l : List Pair) (num den limit : Int) (feasts set : List Int) (until_ : Int) (k : Nat) : Nat → Bool
  | 0 => within l num den limit (until_ - prevF feasts set k)
  | n + 1 => if feastOf feasts set k < until_ then within l num den limit (feastOf feasts set k - prevF feasts set k) && keepsGo l num den limit feasts set until_ (k + 1) n else within l num den limit (until_ - prevF feasts set k)
def keeps (l : List Pair) (num den limit : Int) (feasts set : List Int) (until_ : Int) : Bool := keepsGo l num den limit feasts set until_ 0 set.length
theorem set_at {feasts set : List Int} (h : setOk feasts set = true) {k : Nat} (hk : k < set.length) : 0 ≤ rd set k ∧ (rd set k).toNat < feasts.length := by
  have := (rising_at h k hk).1
  omega
/-- Where a hand is told to be, and where it should be, in whole minutes from the start on. -/
theorem shown_far (l : List Pair) (num den limit turn la : Int) (hd : 0 < den) (hD : 0 < turnsD l) (h : within l num den limit (turn - la) = true) :
    ∃ n : Int, -limit ≤ n ∧ n ≤ limit ∧ ((num * la * turnsD l + turnsN l * (turn - la) * den) % (turnsD l * den) * 21600 / (turnsD l * den) - turn * 21600 * num / den - n) % 21600 = 0 := by
  obtain ⟨W, hW⟩ : ∃ W, turnsD l * den = W := ⟨_, rfl⟩
  obtain ⟨A, hA⟩ : ∃ A, num * la * turnsD l + turnsN l * (turn - la) * den = A := ⟨_, rfl⟩
  have hW0 : 0 < W := by rw [← hW]; exact Int.mul_pos hD hd
  simp only [within, decide_eq_true_eq] at h
  rw [hW] at h
  have hoff : offN l num den (turn - la) = A * 21600 - turn * 21600 * num * turnsD l := by
    unfold offN; rw [← hA]; grind
  rw [hoff] at h
  have e1 : A % W * 21600 / W = A * 21600 / W - 21600 * (A / W) := by
    have := Int.emod_add_mul_ediv A W
    have e : A * 21600 = A % W * 21600 + W * (21600 * (A / W)) := by
      have e0 : A * 21600 = (A % W + W * (A / W)) * 21600 := by rw [this]
      rw [e0]; grind
    rw [e, Int.add_mul_ediv_left _ _ (by omega)]
    omega
  have e2 : turn * 21600 * num / den = turn * 21600 * num * turnsD l / W := by
    rw [← hW, Int.mul_comm (turn * 21600 * num) (turnsD l), Int.mul_ediv_mul_of_pos _ _ hD]
  obtain ⟨Q, hQ⟩ : ∃ Q, turn * 21600 * num * turnsD l = Q := ⟨_, rfl⟩
  rw [hW, hA, e1, e2, hQ]
  rw [hQ] at h
  refine ⟨A * 21600 / W - Q / W, ?_, ?_, by omega⟩
  · have h1 : Q ≤ A * 21600 + limit * W := by omega
    have h2 := Int.ediv_le_ediv hW0 h1
    rw [Int.add_mul_ediv_right _ _ (by omega)] at h2
    omega
  · have h1 : A * 21600 ≤ Q + limit * W := by omega
    have h2 := Int.ediv_le_ediv hW0 h1
    rw [Int.add_mul_ediv_right _ _ (by omega)] at h2
    omega
theorem near_of {x n limit : Int} (h1 : -limit ≤ n) (h2 : n ≤ limit) (hl : limit ≤ 10800) (h : (x - n) % 21600 = 0) : -limit ≤ near x ∧ near x ≤ limit := by
  unfold near; omega
/-- By how much hands are off. -/
def sunOff (e : Engine) (set : List Int) (day : Int) : Int := near (sunAt e set day - Sp.mean (Sp.body e.sky 0) day % 21600)
def moonOff (e : Engine) (set : List Int) (day : Int) : Int := near (moonAt e set day - Sp.mean (Sp.body e.sky 1) day % 21600)
def nodeOff (e : Engine) (set : List Int) (day : Int) : Int := near (nodeAt e set day - Sp.node e.sky day)
theorem body_off {l : List Pair} {b : Sp.Body} {limit day : Int} {feasts set : List Int} (hb : 0 < b.num) (hD : 0 < turnsD l) (hl : limit ≤ 10800) (h : within l b.den b.num limit (day - last feasts set day) = true) :
    -limit ≤ near ((b.start + shown l b.den b.num feasts set day) % 21600 - Sp.mean b day % 21600) ∧ near ((b.start + shown l b.den b.num feasts set day) % 21600 - Sp.mean b day % 21600) ≤ limit := by
  obtain ⟨n, h1, h2, h3⟩ := shown_far l b.den b.num limit day _ hb hD h
  refine near_of h1 h2 hl ?_
  unfold shown Sp.mean Sp.gone
  omega
theorem node_off {l : List Pair} {s : Sp.Sky} {limit day : Int} {feasts set : List Int} (hb : 0 < s.nnum) (hD : 0 < turnsD l) (hl : limit ≤ 10800) (h : within l s.nden s.nnum limit (day - last feasts set day) = true) :
    -limit ≤ near ((s.nstart - shown l s.nden s.nnum feasts set day) % 21600 - Sp.node s day) ∧ near ((s.nstart - shown l s.nden s.nnum feasts set day) % 21600 - Sp.node s day) ≤ limit := by
  obtain ⟨n, h1, h2, h3⟩ := shown_far l s.nden s.nnum limit day _ hb hD h
  refine near_of (n := -n) (by omega) (by omega) hl ?_
  unfold shown Sp.node Sp.gone
  omega
end Ec
end Go.Proofs.YtimkmokomohgjaaGreat
namespace Go.Proofs.YtimkmokomohgjaaGreat
open Sp (rd)
set_option linter.unusedSimpArgs false
set_option linter.unusedVariables false
namespace Ec
theorem gone_lt {num den a b : Int} (h : 1 ≤ num) : num * (Sp.gone num den b - Sp.gone num den a) < (b - a) * 21600 * den + num ∧ (b - a) * 21600 * den - num < num * (Sp.gone num den b - Sp.gone num den a) := by
  unfold Sp.gone
  have e : (b - a) * 21600 * den = b * 21600 * den - a * 21600 * den := by grind
  rw [e, Int.mul_sub]
  have h1 := Int.mul_ediv_add_emod (a * 21600 * den) num
  have h2 := Int.mul_ediv_add_emod (b * 21600 * den) num
  have := Int.emod_nonneg (a * 21600 * den) (show num ≠ 0 by omega)
  have := Int.emod_nonneg (b * 21600 * den) (show num ≠ 0 by omega)
  have := Int.emod_lt_of_pos (a * 21600 * den) (show 0 < num by omega)
  have := Int.emod_lt_of_pos (b * 21600 * den) (show 0 < num by omega)
  constructor <;> omega
/-- How far a body goes in some days. -/
theorem gone_days {num den a b : Int} (h : 1 ≤ num) (hab : a ≤ b) : Sp.gone num den b - Sp.gone num den a ≤ (b - a) * (21600 * den / num + 1) + 1 ∧ (0 ≤ den → -1 ≤ Sp.gone num den b - Sp.gone num den a) := by
  obtain ⟨h1, h2⟩ := gone_lt (den := den) (a := a) (b := b) h
  generalize Sp.gone num den b - Sp.gone num den a = g at *
  have h3 := Int.mul_ediv_add_emod (21600 * den) num
  have h4 := Int.emod_lt_of_pos (21600 * den) (show 0 < num by omega)
  constructor
  · have h5 : (b - a) * (21600 * den) ≤ (b - a) * (num * (21600 * den / num + 1)) := Int.mul_le_mul_of_nonneg_left (by rw [Int.mul_add]; omega) (by omega)
    have h6 : (b - a) * (num * (21600 * den / num + 1)) = num * ((b - a) * (21600 * den / num + 1)) := by grind
    have h7 : num * g < num * ((b - a) * (21600 * den / num + 1) + 1) := by
      rw [Int.mul_add num, ← h6, Int.mul_one]
      have : (b - a) * 21600 * den = (b - a) * (21600 * den) := Int.mul_assoc ..
      omega
    have := Int.lt_of_mul_lt_mul_left h7 (by omega)
    omega
  · intro hd
    have h5 : 0 ≤ (b - a) * 21600 * den := Int.mul_nonneg (Int.mul_nonneg (by omega) (by omega)) hd
    have h7 : num * (-1) < num * g + 1 := by omega
    have h8 : num * (-2) < num * g := by omega
    have := Int.lt_of_mul_lt_mul_left h8 (by omega)
    omega
def evenB (s : Sp.Sky) : Bool := ((Sp.body s 0).road.all fun n => n == 0) && ((Sp.body s 1).road.all fun n => n == 0)
theorem rd_zero {l : List Int} (h : (l.all fun n => n == 0) = true) (i : Nat) : rd l i = 0 := by
  unfold Sp.rd
  rw [List.getD_eq_getElem?_getD]
  cases hi : l[i]? with
  | none => rfl
  | some x =>
    have := List.all_eq_true.1 h x (List.mem_of_getElem? hi)
    simpa using this
theorem way_even {b : Sp.Body} (h : (b.road.all fun n => n == 0) = true) (d : Int) : Sp.way b d = Sp.mean b d := by
  unfold Sp.way Sp.errOf
  simp only [rd_zero h]
  simp
/-- The engine's lead, and the way of its moon from its node, not wrapped. -/
def leadOn (e : Engine) (set : List Int) (d : Int) : Int := Sp.mean (Sp.body e.sky 1) d + moonOff e set d - (Sp.mean (Sp.body e.sky 0) d + sunOff e set d)
theorem near_mod (x : Int) : (x - near x) % 21600 = 0 := by unfold near; omega
theorem leadAt_on (e : Engine) (set : List Int) (d : Int) : leadAt e set d = leadOn e set d % 21600 := by
  have h1 := near_mod (moonAt e set d - Sp.mean (Sp.body e.sky 1) d % 21600)
  have h2 := near_mod (sunAt e set d - Sp.mean (Sp.body e.sky 0) d % 21600)
  unfold leadAt leadOn moonOff sunOff
  omega
def nodeOn (e : Engine) (set : List Int) (d : Int) : Int := Sp.mean (Sp.body e.sky 1) d + moonOff e set d - (e.sky.nstart - Sp.gone e.sky.nnum e.sky.nden d + nodeOff e set d)
theorem farAt_on (e : Engine) (set : List Int) (d : Int) : farAt e set d = min (nodeOn e set d % 10800) (10800 - nodeOn e set d % 10800) := by
  have h1 := near_mod (moonAt e set d - Sp.mean (Sp.body e.sky 1) d % 21600)
  have h2 := near_mod (nodeAt e set d - Sp.node e.sky d)
  have : (moonAt e set d - nodeAt e set d) % 21600 % 10800 = nodeOn e set d % 10800 := by
    unfold nodeOn moonOff nodeOff
    have h3 : (Sp.node e.sky d - (e.sky.nstart - Sp.gone e.sky.nnum e.sky.nden d)) % 21600 = 0 := by unfold Sp.node; omega
    omega
  unfold farAt
  dsimp only
  rw [this]
theorem far_on (s : Sp.Sky) (h : ((Sp.body s 1).road.all fun n => n == 0) = true) (d : Int) : Sp.far s d = min ((Sp.mean (Sp.body s 1) d - (s.nstart - Sp.gone s.nnum s.nden d)) % 10800) (10800 - (Sp.mean (Sp.body s 1) d - (s.nstart - Sp.gone s.nnum s.nden d)) % 10800) := by
  unfold Sp.far
  dsimp only
  rw [way_even h]
  have : (Sp.mean (Sp.body s 1) d - Sp.node s d) % 10800 = (Sp.mean (Sp.body s 1) d - (s.nstart - Sp.gone s.nnum s.nden d)) % 10800 := by unfold Sp.node; omega
  rw [this]
end Ec
end Go.Proofs.YtimkmokomohgjaaGreat
namespace Go.Proofs.YtimkmokomohgjaaGreat
open Sp (rd)
set_option linter.unusedSimpArgs false
set_option linter.unusedVariables false
namespace Ec
theorem pair_pos {p : Pair} (h : pairOk p = true) : 1 ≤ p.drives ∧ 1 ≤ p.driven := by
  simp only [pairOk, isTeeth, Sp.inR, Bool.and_eq_true, decide_eq_true_eq] at h
  omega
theorem driven_pos {l : List Pair} (h : (l.all pairOk) = true) : 1 ≤ drivenP l := by
  have : ∀ (l : List Pair) (n : Int), 1 ≤ n → (l.all pairOk) = true → 1 ≤ l.foldl (fun n p => n * p.driven) n := fun l => by
    induction l with
    | nil => intro n hn _; exact hn
    | cons p l ih =>
      intro n hn h
      rw [List.all_cons, Bool.and_eq_true] at h
      rw [List.foldl_cons]
      have := pair_pos h.1
      have := Int.mul_pos (show 0 < n by omega) (show 0 < p.driven by omega)
      exact ih _ (by omega) h.2
  exact this l 1 (Int.le_refl _) h
theorem turns_pos {l : List Pair} (h : trainOk l = true) : 0 < turnsD l := by
  rw [trainOk, Bool.and_eq_true] at h
  have h1 := driven_pos h.2
  unfold turnsD turnsG
  have hd : ((Int.gcd (drivesP l) (drivenP l) : Nat) : Int) ∣ drivenP l := Int.gcd_dvd_right ..
  have hg : 0 < ((Int.gcd (drivesP l) (drivenP l) : Nat) : Int) := by
    have := Int.gcd_pos_of_ne_zero_right (drivesP l) (show drivenP l ≠ 0 by omega)
    omega
  exact Int.ediv_pos_of_pos_of_dvd (by omega) (by omega) hd
end Ec
end Go.Proofs.YtimkmokomohgjaaGreat
namespace Go.Proofs.YtimkmokomohgjaaGreat
open Sp (rd)
set_option linter.unusedSimpArgs false
set_option linter.unusedVariables false
namespace Ec
/-- What an engine as defined grants. -/
structure EngOk (e : Engine) : Prop where
  sun : 0 < turnsD e.sun
  moon : 0 < turnsD e.moon
  node : 0 < turnsD e.node
  feasts : feastsOk e.feasts = true
  n0 : 1 ≤ (Sp.body e.sky 0).num
  n1 : 1 ≤ (Sp.body e.sky 1).num
  n2 : 1 ≤ e.sky.nnum
theorem engine_ok {e : Engine} (he : engineOk e = true) : EngOk e := by
  simp only [engineOk, Bool.and_eq_true] at he
  obtain ⟨⟨t0, t1, t2⟩, ⟨hsky, hm⟩, hf, b1, b2, b3⟩ := he
  have hk := skyOk_iff.1 hsky
  have hb0 := hk.body (i := 0) (by omega) (by have := hk.n2; omega)
  have hb1 := hk.body (i := 1) (by omega) (by have := hk.n2; omega)
  exact ⟨turns_pos t0, turns_pos t1, turns_pos t2, hf, hb0.num1, hb1.num1, hk.num1⟩
end Ec
end Go.Proofs.YtimkmokomohgjaaGreat
namespace Go.Proofs.YtimkmokomohgjaaGreat
open Sp (rd)
set_option linter.unusedSimpArgs false
set_option linter.unusedVariables false
namespace Ec
/-- A train turns by just num by den. -/
def Just (l : List Pair) (num den : Int) : Prop := turnsN l * den = num * turnsD l
theorem just_within {l : List Pair} {num den t : Int} (h : Just l num den) : within l num den 0 t = true := by
  have h0 : offN l num den t = 0 := by unfold offN; rw [h]; simp
  unfold within
  rw [h0]
  simp
structure RightE (e : Engine) : Prop where
  sun : Just e.sun (Sp.body e.sky 0).den (Sp.body e.sky 0).num
  moon : Just e.moon (Sp.body e.sky 1).den (Sp.body e.sky 1).num
  node : Just e.node e.sky.nden e.sky.nnum
theorem right_off {e : Engine} (he : engineOk e = true) (hr : RightE e) (set : List Int) (day : Int) : sunOff e set day = 0 ∧ moonOff e set day = 0 ∧ nodeOff e set day = 0 := by
  have q := engine_ok he
  have m0 := q.n0
  have m1 := q.n1
  have m2 := q.n2
  have a := body_off (b := Sp.body e.sky 0) (day := day) (feasts := e.feasts) (set := set) (limit := 0) (by omega) q.sun (by omega) (just_within hr.sun)
  have b := body_off (b := Sp.body e.sky 1) (day := day) (feasts := e.feasts) (set := set) (limit := 0) (by omega) q.moon (by omega) (just_within hr.moon)
  have c := node_off (s := e.sky) (day := day) (feasts := e.feasts) (set := set) (limit := 0) (by omega) q.node (by omega) (just_within hr.node)
  unfold sunOff moonOff nodeOff sunAt moonAt nodeAt
  omega
theorem cross_iff {a b : Int} (full : Bool) (h1 : -10800 ≤ b - a) (h2 : b - a < 10800) : crossB (a % 21600) (b % 21600) full = Sp.passes (a - Sp.halfOf full) (b - Sp.halfOf full) := by
  have hn : near (b % 21600 - a % 21600) = b - a := by unfold near; omega
  unfold crossB Sp.passes
  rw [hn, Bool.eq_iff_iff, Bool.and_eq_true, decide_eq_true_eq, decide_eq_true_eq, decide_eq_true_eq]
  generalize Sp.halfOf full = H at *
  omega
/-- What is foretold is what the sky has. -/
theorem right_fore {e : Engine} (he : engineOk e = true) (hr : RightE e) (hw : e.wide = 0) (hev : evenB e.sky = true) (set : List Int) (d : Int) (full : Bool) :
    foreB e set d full = true ↔ Sp.moonB e.sky d full = true ∧ Sp.far e.sky d ≤ limitOf e full := by
  obtain ⟨o1, o2, o3⟩ := right_off he hr set d
  obtain ⟨p1, p2, p3⟩ := right_off he hr set (d - 1)
  simp only [engineOk, Bool.and_eq_true] at he
  obtain ⟨_, ⟨hsky, hm⟩, _⟩ := he
  have hk := skyOk_iff.1 hsky
  have hb0 := hk.body (i := 0) (by omega) (by have := hk.n2; omega)
  have hb1 := hk.body (i := 1) (by omega) (by have := hk.n2; omega)
  rw [evenB, Bool.and_eq_true] at hev
  have hL : ∀ t, sunOff e set t = 0 → moonOff e set t = 0 → leadAt e set t = (Sp.mean (Sp.body e.sky 1) t - Sp.mean (Sp.body e.sky 0) t) % 21600 := fun t a b => by
    rw [leadAt_on, leadOn, a, b]; simp
  have hF : farAt e set d = Sp.far e.sky d := by
    rw [farAt_on, far_on e.sky hev.2, nodeOn, o2, o3]; simp
  have c1 := gone_step (Sp.body e.sky 1).num (Sp.body e.sky 1).den (d - 1) hb1.num1 hb1.den1 hb1.four
  have c0 := gone_step (Sp.body e.sky 0).num (Sp.body e.sky 0).den (d - 1) hb0.num1 hb0.den1 hb0.four
  rw [Int.sub_add_cancel] at c0 c1
  have f1 := (gone_days (den := (Sp.body e.sky 1).den) hb1.num1 (show d - 1 ≤ d by omega)).2 (by have := hb1.den1; omega)
  have f0 := (gone_days (den := (Sp.body e.sky 0).den) hb0.num1 (show d - 1 ≤ d by omega)).2 (by have := hb0.den1; omega)
  unfold foreB hasB
  rw [Bool.and_eq_true, decide_eq_true_eq, hL d o1 o2, hL (d - 1) p1 p2, hF, hw, Int.add_zero]
  rw [cross_iff full (by unfold Sp.mean; omega) (by unfold Sp.mean; omega)]
  unfold Sp.moonB Sp.ahead
  rw [way_even hev.1, way_even hev.2, way_even hev.1, way_even hev.2]
theorem right_missed {e : Engine} (he : engineOk e = true) (hr : RightE e) (hw : e.wide = 0) (hev : evenB e.sky = true) (set : List Int) (lo hi : Int) (h0 : 1 ≤ lo) : missedL e set lo hi 0 = [] := by
  rw [List.eq_nil_iff_forall_not_mem]
  intro x hx
  obtain ⟨h1, h2⟩ := (missed_mem ..).1 hx
  obtain ⟨a1, a2, a3, a4, a5⟩ := (ecls_mem ..).1 h1
  have ht : toldB e set x 0 = true := (told_iff ..).2 ⟨x.day, by omega, by omega, by omega, (right_fore he hr hw hev set x.day x.full).2 ⟨a3, by unfold limitOf; exact a5⟩⟩
  rw [h2] at ht
  cases ht
theorem right_empty {e : Engine} (he : engineOk e = true) (hr : RightE e) (hw : e.wide = 0) (hev : evenB e.sky = true) (set : List Int) (lo hi : Int) (h0 : 1 ≤ lo) : emptyL e set lo hi 0 = [] := by
  rw [List.eq_nil_iff_forall_not_mem]
  intro x hx
  obtain ⟨h1, h2⟩ := List.mem_filter.1 hx
  obtain ⟨a1, a2, a3, a4⟩ := (foreL_mem ..).1 h1
  obtain ⟨m1, m2⟩ := (right_fore he hr hw hev set x.day x.full).1 a3
  have hb : beside (realL e (max 1 (lo - 0)) (hi + 0)) x 0 = true := (beside_iff ..).2
    ⟨⟨x.day, x.full, Sp.far e.sky x.day⟩, (ecls_mem ..).2 ⟨by simp only []; omega, by simp only []; omega, m1, rfl, by have := m2; unfold limitOf at this; exact this⟩, rfl, by simp only []; omega, by simp only []; omega⟩
  rw [hb] at h2
  cases h2
end Ec
end Go.Proofs.YtimkmokomohgjaaGreat
namespace Go.Proofs.YtimkmokomohgjaaGreat
open Go.RowKit
open Sp (rd)
set_option maxRecDepth 100000
set_option maxHeartbeats 1000000
/-- What each operation of the region 'x, no := asked(e, set, ok)' yields: the engine read, the settings, the engine asked, its parts, the new block. -/
def AskTup (p : EP) (e : Ec.Engine) (set : List Int) (w0 : World) (v : Value) (w : World) : Prop := ∃ M, v = .tuple #[.agg #[.slice p.Ab e.sky.bodies.length p.cb, .int .i64 e.sky.nnum, .int .i64 e.sky.nden, .int .i64 e.sky.nstart, .slice p.As e.sun.length p.cs, .slice p.Am e.moon.length p.cm, .slice p.An e.node.length p.cn, .slice p.Af e.feasts.length p.cf, .int .i64 e.nw, .int .i64 e.fl, .int .i64 e.wide, .slice p.At set.length p.ct, .map (some M)], .int .i64 0] ∧ w0.heap.size ≤ M ∧ Seen e set M w
def AskAgg (p : EP) (e : Ec.Engine) (set : List Int) (w0 : World) (v : Value) (w : World) : Prop := ∃ M, v = .agg #[.slice p.Ab e.sky.bodies.length p.cb, .int .i64 e.sky.nnum, .int .i64 e.sky.nden, .int .i64 e.sky.nstart, .slice p.As e.sun.length p.cs, .slice p.Am e.moon.length p.cm, .slice p.An e.node.length p.cn, .slice p.Af e.feasts.length p.cf, .int .i64 e.nw, .int .i64 e.fl, .int .i64 e.wide, .slice p.At set.length p.ct, .map (some M)] ∧ w0.heap.size ≤ M ∧ Seen e set M w
def AskNew (w0 : World) (v : Value) (w : World) : Prop := ∃ b, v = .pointer (some ⟨b, 0, none⟩) ∧ w0.heap.size ≤ b ∧ Row w b 144 zeroEng
theorem AskTup.ext {p : EP} {e : Ec.Engine} {set : List Int} {w0 w w' : World} {v : Value} (h : AskTup p e set w0 v w) (he : Ext w w') : AskTup p e set w0 v w' := let ⟨M, h1, h2, h3⟩ := h; ⟨M, h1, h2, h3.ext he⟩
theorem AskAgg.ext {p : EP} {e : Ec.Engine} {set : List Int} {w0 w w' : World} {v : Value} (h : AskAgg p e set w0 v w) (he : Ext w w') : AskAgg p e set w0 v w' := let ⟨M, h1, h2, h3⟩ := h; ⟨M, h1, h2, h3.ext he⟩
theorem AskNew.ext {w0 w w' : World} {v : Value} (h : AskNew w0 v w) (he : Ext w w') : AskNew w0 v w' := let ⟨b, h1, h2, h3⟩ := h; ⟨b, h1, h2, h3.ext he⟩
end Go.Proofs.YtimkmokomohgjaaGreat
namespace Go.Proofs.YtimkmokomohgjaaGreat
open Go.RowKit
open Sp (rd)
set_option maxRecDepth 100000
set_option maxHeartbeats 1000000
def offΦ (p : EP) (e : Ec.Engine) (set : List Int) (day : Int) (w0 : World) (i : Nat) (v : Value) (w : World) : Prop :=
  match i with
  | 0 => v = .agg #[.slice p.Ab e.sky.bodies.length p.cb, .int .i64 e.sky.nnum, .int .i64 e.sky.nden, .int .i64 e.sky.nstart, .slice p.As e.sun.length p.cs, .slice p.Am e.moon.length p.cm, .slice p.An e.node.length p.cn, .slice p.Af e.feasts.length p.cf, .int .i64 e.nw, .int .i64 e.fl, .int .i64 e.wide]
  | 1 => v = .slice p.At set.length p.ct
  | 2 => v = .int .i64 day
  | 3 => v = .bool true
  | 4 => AskTup p e set w0 v w
  | 5 => AskTup p e set w0 v w
  | 6 => AskAgg p e set w0 v w
  | 7 => v = .int .i64 0
  | _ => AskNew w0 v w
theorem offΦ_mono {p : EP} {e : Ec.Engine} {set : List Int} {day : Int} {w0 : World} (i : Nat) (v : Value) (w w' : World) (h : offΦ p e set day w0 i v w) (he : Ext w w') : offΦ p e set day w0 i v w' := by
  unfold offΦ at h ⊢
  split at h <;> first
    | exact h
    | exact AskTup.ext h he
    | exact AskAgg.ext h he
    | exact AskNew.ext h he
theorem e_Off_ok (p : EP) (e : Ec.Engine) (set : List Int) (day : Int) (w : World) (hm : EngSet w p e set) (hl : EngShort e) (hs : set.length ≤ 100000) (c0 : Ec.engineOk e = true) (c1 : Ec.setOk e.feasts set = true) (c2 : Ec.isDay day = true) :
    Calls Tryz.prog 28 #[.agg #[.slice p.Ab e.sky.bodies.length p.cb, .int .i64 e.sky.nnum, .int .i64 e.sky.nden, .int .i64 e.sky.nstart, .slice p.As e.sun.length p.cs, .slice p.Am e.moon.length p.cm, .slice p.An e.node.length p.cn, .slice p.Af e.feasts.length p.cf, .int .i64 e.nw, .int .i64 e.fl, .int .i64 e.wide], .slice p.At set.length p.ct, .int .i64 day] w fun r w' => r = .returned (.tuple #[.agg #[.int .i64 (Ec.sunOff e set day), .int .i64 (Ec.moonOff e set day), .int .i64 (Ec.nodeOff e set day)], .int .i64 0]) ∧ Ext w w' := by
  have HM := Lib.hid hm
  have HL := Lib.hid hl
  have HR0 : Hid (Row ((w.alloc (.cells #[.slice p.Ab e.sky.bodies.length p.cb, .int .i64 e.sky.nnum, .int .i64 e.sky.nden, .int .i64 e.sky.nstart, .slice p.As e.sun.length p.cs, .slice p.Am e.moon.length p.cm, .slice p.An e.node.length p.cn, .slice p.Af e.feasts.length p.cf, .int .i64 e.nw, .int .i64 e.fl, .int .i64 e.wide] 83)).alloc (.cells #[.int .i64 0, .int .i64 0, .int .i64 0] 89)) w.heap.size 83 #[.slice p.Ab e.sky.bodies.length p.cb, .int .i64 e.sky.nnum, .int .i64 e.sky.nden, .int .i64 e.sky.nstart, .slice p.As e.sun.length p.cs, .slice p.Am e.moon.length p.cm, .slice p.An e.node.length p.cn, .slice p.Af e.feasts.length p.cf, .int .i64 e.nw, .int .i64 e.fl, .int .i64 e.wide]) := Lib.hid ((Row.new w _ _).alloc _)
  have hd : 0 ≤ day ∧ day ≤ 9000 := by
    simp only [Ec.isDay, Sp.inR, Bool.and_eq_true, decide_eq_true_eq] at c2
    omega
  have hK : Fine e set := ⟨c0, c1⟩
  have hn2 := hK.sky.n2
  have b0 : Sp.isBody e.sky 0 = true := by simp only [Sp.isBody, Sp.inR, Bool.and_eq_true, decide_eq_true_eq]; omega
  have b1 : Sp.isBody e.sky 1 = true := by simp only [Sp.isBody, Sp.inR, Bool.and_eq_true, decide_eq_true_eq]; omega
  have bd : Sp.isDay day = true := by simp only [Sp.isDay, Sp.inR, Bool.and_eq_true, decide_eq_true_eq]; omega
  have bs := (engineOk_parts c0).2.1.1
  obtain ⟨⟨s1, s2⟩, ⟨m1, m2⟩, ⟨n1, n2⟩⟩ := hand_bounds (e := e) (set := set) day
  have v1 := emod_bounds (Sp.mean (Sp.body e.sky 0) day) 21600 (by omega)
  have v2 := emod_bounds (Sp.mean (Sp.body e.sky 1) day) 21600 (by omega)
  have v3 : 0 ≤ Sp.node e.sky day ∧ Sp.node e.sky day < 21600 := emod_bounds _ 21600 (by omega)
  have HR1 : Hid (Row ((w.alloc (.cells #[.slice p.Ab e.sky.bodies.length p.cb, .int .i64 e.sky.nnum, .int .i64 e.sky.nden, .int .i64 e.sky.nstart, .slice p.As e.sun.length p.cs, .slice p.Am e.moon.length p.cm, .slice p.An e.node.length p.cn, .slice p.Af e.feasts.length p.cf, .int .i64 e.nw, .int .i64 e.fl, .int .i64 e.wide] 83)).alloc (.cells #[.int .i64 0, .int .i64 0, .int .i64 0] 89)) (w.heap.size + 1) 89 #[.int .i64 0, .int .i64 0, .int .i64 0]) := Lib.hid (by
    have := Row.new (w.alloc (.cells #[.slice p.Ab e.sky.bodies.length p.cb, .int .i64 e.sky.nnum, .int .i64 e.sky.nden, .int .i64 e.sky.nstart, .slice p.As e.sun.length p.cs, .slice p.Am e.moon.length p.cm, .slice p.An e.node.length p.cn, .slice p.Af e.feasts.length p.cf, .int .i64 e.nw, .int .i64 e.fl, .int .i64 e.wide] 83)) 89 #[.int .i64 0, .int .i64 0, .int .i64 0]
    simpa using this)
  have HE0 := Lib.hid (((Ext.refl w).alloc (.cells #[.slice p.Ab e.sky.bodies.length p.cb, .int .i64 e.sky.nnum, .int .i64 e.sky.nden, .int .i64 e.sky.nstart, .slice p.As e.sun.length p.cs, .slice p.Am e.moon.length p.cm, .slice p.An e.node.length p.cn, .slice p.Af e.feasts.length p.cf, .int .i64 e.nw, .int .i64 e.fl, .int .i64 e.wide] 83)).alloc (.cells #[.int .i64 0, .int .i64 0, .int .i64 0] 89))
  clear hm hl
  go_enter Tryz.func28, Tryz.ntmps28
  go_wp2_with fail
  obtain ⟨W, hW⟩ : ∃ W, (w.alloc (.cells #[.slice p.Ab e.sky.bodies.length p.cb, .int .i64 e.sky.nnum, .int .i64 e.sky.nden, .int .i64 e.sky.nstart, .slice p.As e.sun.length p.cs, .slice p.Am e.moon.length p.cm, .slice p.An e.node.length p.cn, .slice p.Af e.feasts.length p.cf, .int .i64 e.nw, .int .i64 e.fl, .int .i64 e.wide] 83)).alloc (.cells #[.int .i64 0, .int .i64 0, .int .i64 0] 89) = W := ⟨_, rfl⟩
  rw [hW] at HR0 HR1 HE0 ⊢
  clear hW
  refine Code.wp_mono (Q := fun e' a' w' => e' = .normal ∧ ∃ M4 M5 M b, W.heap.size ≤ b ∧ W.heap.size ≤ M ∧ Ext W w' ∧ Row w' b 144 #[.slice p.Ab e.sky.bodies.length p.cb, .int .i64 e.sky.nnum, .int .i64 e.sky.nden, .int .i64 e.sky.nstart, .slice p.As e.sun.length p.cs, .slice p.Am e.moon.length p.cm, .slice p.An e.node.length p.cn, .slice p.Af e.feasts.length p.cf, .int .i64 e.nw, .int .i64 e.fl, .int .i64 e.wide, .slice p.At set.length p.ct, .map (some M)] ∧ Seen e set M w' ∧ a' = (⟨#[.agg #[.slice p.Ab e.sky.bodies.length p.cb, .int .i64 e.sky.nnum, .int .i64 e.sky.nden, .int .i64 e.sky.nstart, .slice p.As e.sun.length p.cs, .slice p.Am e.moon.length p.cm, .slice p.An e.node.length p.cn, .slice p.Af e.feasts.length p.cf, .int .i64 e.nw, .int .i64 e.fl, .int .i64 e.wide], .slice p.At set.length p.ct, .int .i64 day, .pointer (some ⟨w.heap.size, 0, none⟩), undef, undef, .pointer (some ⟨w.heap.size + 1, 0, none⟩), .int .i64 0, .pointer (some ⟨b, 0, none⟩), .int .i64 0, undef, undef, undef, undef, undef, undef, undef, .tuple #[.agg #[.slice p.Ab e.sky.bodies.length p.cb, .int .i64 e.sky.nnum, .int .i64 e.sky.nden, .int .i64 e.sky.nstart, .slice p.As e.sun.length p.cs, .slice p.Am e.moon.length p.cm, .slice p.An e.node.length p.cn, .slice p.Af e.feasts.length p.cf, .int .i64 e.nw, .int .i64 e.fl, .int .i64 e.wide, .slice p.At set.length p.ct, .map (some M5)], .int .i64 0], .agg #[.slice p.Ab e.sky.bodies.length p.cb, .int .i64 e.sky.nnum, .int .i64 e.sky.nden, .int .i64 e.sky.nstart, .slice p.As e.sun.length p.cs, .slice p.Am e.moon.length p.cm, .slice p.An e.node.length p.cn, .slice p.Af e.feasts.length p.cf, .int .i64 e.nw, .int .i64 e.fl, .int .i64 e.wide], .slice p.At set.length p.ct, .int .i64 day, .bool true, .tuple #[.agg #[.slice p.Ab e.sky.bodies.length p.cb, .int .i64 e.sky.nnum, .int .i64 e.sky.nden, .int .i64 e.sky.nstart, .slice p.As e.sun.length p.cs, .slice p.Am e.moon.length p.cm, .slice p.An e.node.length p.cn, .slice p.Af e.feasts.length p.cf, .int .i64 e.nw, .int .i64 e.fl, .int .i64 e.wide, .slice p.At set.length p.ct, .map (some M4)], .int .i64 0], .agg #[.slice p.Ab e.sky.bodies.length p.cb, .int .i64 e.sky.nnum, .int .i64 e.sky.nden, .int .i64 e.sky.nstart, .slice p.As e.sun.length p.cs, .slice p.Am e.moon.length p.cm, .slice p.An e.node.length p.cn, .slice p.Af e.feasts.length p.cf, .int .i64 e.nw, .int .i64 e.fl, .int .i64 e.wide, .slice p.At set.length p.ct, .map (some M)], .int .i64 0, undef, undef, undef, undef, undef, undef, undef, undef, undef, undef, undef, undef, undef, undef, undef, undef, undef, undef, undef, undef, undef, undef, undef, undef, undef, undef, undef, undef, undef, undef, undef, undef, undef, undef, undef, undef, undef, undef, undef, undef, undef, undef, undef, undef], []⟩ : Act)) ?hq (wp_region_free_tail 9 7 (offΦ p e set day W) (by kernel_rfl) (by simp) (by kernel_rfl) (by kernel_rfl) (by kernel_rfl) (by kernel_rfl) offΦ_mono ?hob ?hQ ?hZ)
  case hob =>
    intro i o hi ho a wa hE hF
    match i, hi with
    | 0, _ =>
      obtain rfl := Option.some.inj ho
      have h0 : a.tmps[3]?.getD undef = .pointer (some ⟨w.heap.size, 0, none⟩) := evalD (hF.old 3 (by decide))
      have q := (HR0.out.ext hE).cell
      refine Ran.value rfl (v := .agg #[.slice p.Ab e.sky.bodies.length p.cb, .int .i64 e.sky.nnum, .int .i64 e.sky.nden, .int .i64 e.sky.nstart, .slice p.As e.sun.length p.cs, .slice p.Am e.moon.length p.cm, .slice p.An e.node.length p.cn, .slice p.Af e.feasts.length p.cf, .int .i64 e.nw, .int .i64 e.fl, .int .i64 e.wide]) (w1 := wa) ?_ ⟨rfl, Ext.refl _⟩
      go_simp
    | 1, _ =>
      obtain rfl := Option.some.inj ho
      have h0 : a.tmps[1]?.getD undef = .slice p.At set.length p.ct := evalD (hF.old 1 (by decide))
      refine Ran.value rfl (v := .slice p.At set.length p.ct) (w1 := wa) ?_ ⟨rfl, Ext.refl _⟩
      go_simp
    | 2, _ =>
      obtain rfl := Option.some.inj ho
      have h0 : a.tmps[2]?.getD undef = .int .i64 day := evalD (hF.old 2 (by decide))
      refine Ran.value rfl (v := .int .i64 day) (w1 := wa) ?_ ⟨rfl, Ext.refl _⟩
      go_simp
    | 3, _ =>
      obtain rfl := Option.some.inj ho
      have h0 : a.tmps[20]?.getD undef = .int .i64 day := evalD (hF.from_ 2 20 rfl (by decide))
      refine Ran.enter rfl (f := 78) (args := #[.int .i64 day]) (w1 := wa) ?_ ?_
      · go_simp
      · refine (e_isDay_any day _).mono ?_
        rintro r w1 ⟨rfl, rfl⟩
        exact ⟨_, rfl, by rw [c2]; rfl, Ext.refl _⟩
    | 4, _ =>
      obtain rfl := Option.some.inj ho
      have h0 : a.tmps[18]?.getD undef = .agg #[.slice p.Ab e.sky.bodies.length p.cb, .int .i64 e.sky.nnum, .int .i64 e.sky.nden, .int .i64 e.sky.nstart, .slice p.As e.sun.length p.cs, .slice p.Am e.moon.length p.cm, .slice p.An e.node.length p.cn, .slice p.Af e.feasts.length p.cf, .int .i64 e.nw, .int .i64 e.fl, .int .i64 e.wide] := evalD (hF.from_ 0 18 rfl (by decide))
      have h1 : a.tmps[19]?.getD undef = .slice p.At set.length p.ct := evalD (hF.from_ 1 19 rfl (by decide))
      have h2 : a.tmps[21]?.getD undef = .bool true := evalD (hF.from_ 3 21 rfl (by decide))
      refine Ran.enter rfl (f := 77) (args := #[.agg #[.slice p.Ab e.sky.bodies.length p.cb, .int .i64 e.sky.nnum, .int .i64 e.sky.nden, .int .i64 e.sky.nstart, .slice p.As e.sun.length p.cs, .slice p.Am e.moon.length p.cm, .slice p.An e.node.length p.cn, .slice p.Af e.feasts.length p.cf, .int .i64 e.nw, .int .i64 e.fl, .int .i64 e.wide], .slice p.At set.length p.ct, .bool true]) (w1 := wa) ?_ ?_
      · go_simp
      · refine (e_asked_ok p e set wa (HM.out.ext (HE0.out.trans hE)) HL.out hs c0 c1).mono ?_
        rintro r w1 ⟨M, rfl, hM, hC, hX⟩
        exact ⟨_, rfl, ⟨M, rfl, Nat.le_trans hE.size hM, hC⟩, hX⟩
    | 5, _ =>
      obtain rfl := Option.some.inj ho
      obtain ⟨M, h0, hM, hC⟩ : AskTup p e set W (a.eval (.tmp 22)) wa := hF.from_ 4 22 rfl (by decide)
      replace h0 := evalD h0
      refine Ran.value rfl (w1 := wa) (v := .tuple #[.agg #[.slice p.Ab e.sky.bodies.length p.cb, .int .i64 e.sky.nnum, .int .i64 e.sky.nden, .int .i64 e.sky.nstart, .slice p.As e.sun.length p.cs, .slice p.Am e.moon.length p.cm, .slice p.An e.node.length p.cn, .slice p.Af e.feasts.length p.cf, .int .i64 e.nw, .int .i64 e.fl, .int .i64 e.wide, .slice p.At set.length p.ct, .map (some M)], .int .i64 0]) ?_ ⟨⟨M, rfl, hM, hC⟩, Ext.refl _⟩
      go_simp
    | 6, _ =>
      obtain rfl := Option.some.inj ho
      obtain ⟨M, h0, hM, hC⟩ : AskTup p e set W (a.eval (.tmp 17)) wa := hF.from_ 5 17 rfl (by decide)
      replace h0 := evalD h0
      refine Ran.value rfl (w1 := wa) (v := .agg #[.slice p.Ab e.sky.bodies.length p.cb, .int .i64 e.sky.nnum, .int .i64 e.sky.nden, .int .i64 e.sky.nstart, .slice p.As e.sun.length p.cs, .slice p.Am e.moon.length p.cm, .slice p.An e.node.length p.cn, .slice p.Af e.feasts.length p.cf, .int .i64 e.nw, .int .i64 e.fl, .int .i64 e.wide, .slice p.At set.length p.ct, .map (some M)]) ?_ ⟨⟨M, rfl, hM, hC⟩, Ext.refl _⟩
      go_simp
    | 7, _ =>
      obtain rfl := Option.some.inj ho
      obtain ⟨M, h0, hM, hC⟩ : AskTup p e set W (a.eval (.tmp 17)) wa := hF.from_ 5 17 rfl (by decide)
      replace h0 := evalD h0
      refine Ran.value rfl (w1 := wa) (v := .int .i64 0) ?_ ⟨rfl, Ext.refl _⟩
      go_simp
    | 8, _ =>
      obtain rfl := Option.some.inj ho
      refine Ran.value rfl (w1 := wa.alloc (.cells zeroEng 144)) (v := .pointer (some ⟨wa.heap.size, 0, none⟩)) (by kernel_rfl) ⟨⟨wa.heap.size, rfl, hE.size, Row.new _ _ _⟩, (Ext.refl _).alloc _⟩
    | k + 9, hi => omega
  case hQ =>
    intro vs w2 hE hΦ
    have f0 : vs 0 = .agg #[.slice p.Ab e.sky.bodies.length p.cb, .int .i64 e.sky.nnum, .int .i64 e.sky.nden, .int .i64 e.sky.nstart, .slice p.As e.sun.length p.cs, .slice p.Am e.moon.length p.cm, .slice p.An e.node.length p.cn, .slice p.Af e.feasts.length p.cf, .int .i64 e.nw, .int .i64 e.fl, .int .i64 e.wide] := hΦ 0 (by omega)
    have f1 : vs 1 = .slice p.At set.length p.ct := hΦ 1 (by omega)
    have f2 : vs 2 = .int .i64 day := hΦ 2 (by omega)
    have f3 : vs 3 = .bool true := hΦ 3 (by omega)
    obtain ⟨M4, f4, _, _⟩ : AskTup p e set W (vs 4) w2 := hΦ 4 (by omega)
    obtain ⟨M5, f5, _, _⟩ : AskTup p e set W (vs 5) w2 := hΦ 5 (by omega)
    obtain ⟨M, f6, hM, hC⟩ : AskAgg p e set W (vs 6) w2 := hΦ 6 (by omega)
    have f7 : vs 7 = .int .i64 0 := hΦ 7 (by omega)
    obtain ⟨b, f8, hb, hr⟩ : AskNew W (vs 8) w2 := hΦ 8 (by omega)
    have hrg : List.range 9 = [0, 1, 2, 3, 4, 5, 6, 7, 8] := rfl
    unfold putAll putS
    simp only [List.length_cons, List.length_nil, List.take_succ_cons, List.take_zero, List.drop_succ_cons, List.drop_zero, Nat.reduceAdd, hrg, List.foldl_cons, List.foldl_nil, dstOf, List.getElem?_cons_succ, List.getElem?_cons_zero, Option.bind_some]
    clear hrg
    rw [f0, f1, f2, f3, f4, f5, f6, f7, f8]
    have c := hr.cell
    simp only [zeroEng] at c
    have fz := hr.free
    have hne : b ≠ M := fun h => (hC.not_row hr) h
    go_wp2
    clear c fz
    obtain ⟨W3, hW3⟩ : ∃ W3, setsAt w2 b 0 [.slice p.Ab e.sky.bodies.length p.cb, .int .i64 e.sky.nnum, .int .i64 e.sky.nden, .int .i64 e.sky.nstart, .slice p.As e.sun.length p.cs, .slice p.Am e.moon.length p.cm, .slice p.An e.node.length p.cn, .slice p.Af e.feasts.length p.cf, .int .i64 e.nw, .int .i64 e.fl, .int .i64 e.wide, .slice p.At set.length p.ct, .map (some M)] = W3 := ⟨_, rfl⟩
    have hR3 : Row W3 b 144 #[.slice p.Ab e.sky.bodies.length p.cb, .int .i64 e.sky.nnum, .int .i64 e.sky.nden, .int .i64 e.sky.nstart, .slice p.As e.sun.length p.cs, .slice p.Am e.moon.length p.cm, .slice p.An e.node.length p.cn, .slice p.Af e.feasts.length p.cf, .int .i64 e.nw, .int .i64 e.fl, .int .i64 e.wide, .slice p.At set.length p.ct, .map (some M)] := by rw [← hW3]; exact Row.sets (cs := [.slice none 0 0, .int .i64 0, .int .i64 0, .int .i64 0, .slice none 0 0, .slice none 0 0, .slice none 0 0, .slice none 0 0, .int .i64 0, .int .i64 0, .int .i64 0, .slice none 0 0, .map none]) hr _ rfl
    have hE3 : Ext W W3 := by rw [← hW3]; exact Ext.sets hb _ _ _ hE
    have hC3 : Seen e set M W3 := by rw [← hW3]; exact Cache.sets hne _ _ _ hC
    simp only [setsAt, Nat.reduceAdd] at hW3
    try rw [hW3]
    exact ⟨M4, M5, M, b, hb, hM, hE3, hR3, hC3, by simp⟩
  case hZ =>
    intro _ vs w2 hE hΦ on oz hon hoz
    obtain rfl := Option.some.inj hon
    obtain rfl := Option.some.inj hoz
    have f0 : vs 0 = .agg #[.slice p.Ab e.sky.bodies.length p.cb, .int .i64 e.sky.nnum, .int .i64 e.sky.nden, .int .i64 e.sky.nstart, .slice p.As e.sun.length p.cs, .slice p.Am e.moon.length p.cm, .slice p.An e.node.length p.cn, .slice p.Af e.feasts.length p.cf, .int .i64 e.nw, .int .i64 e.fl, .int .i64 e.wide] := hΦ 0 (by omega) (by omega)
    have f1 : vs 1 = .slice p.At set.length p.ct := hΦ 1 (by omega) (by omega)
    have f2 : vs 2 = .int .i64 day := hΦ 2 (by omega) (by omega)
    have f3 : vs 3 = .bool true := hΦ 3 (by omega) (by omega)
    obtain ⟨M4, f4, _, _⟩ : AskTup p e set W (vs 4) w2 := hΦ 4 (by omega) (by omega)
    obtain ⟨M5, f5, _, _⟩ : AskTup p e set W (vs 5) w2 := hΦ 5 (by omega) (by omega)
    obtain ⟨M, f6, hM, hC⟩ : AskAgg p e set W (vs 6) w2 := hΦ 6 (by omega) (by omega)
    obtain ⟨b, f8, hb, hr⟩ : AskNew W (vs 8) w2 := hΦ 8 (by omega) (by omega)
    have hrg : (List.range 9).filter (· ≠ 7) = [0, 1, 2, 3, 4, 5, 6, 8] := by decide
    rw [hrg]
    unfold putS
    simp only [List.take_succ_cons, List.take_zero, List.drop_succ_cons, List.drop_zero, Nat.reduceAdd, List.foldl_cons, List.foldl_nil, dstOf, List.getElem?_cons_succ, List.getElem?_cons_zero, Option.bind_some]
    clear hrg
    rw [f0, f1, f2, f3, f4, f5, f6, f8]
    have c := hr.cell
    simp only [zeroEng] at c
    have fz := hr.free
    have hne : b ≠ M := fun h => (hC.not_row hr) h
    go_wp2
    clear c fz
    obtain ⟨W3, hW3⟩ : ∃ W3, setsAt w2 b 0 [.slice p.Ab e.sky.bodies.length p.cb, .int .i64 e.sky.nnum, .int .i64 e.sky.nden, .int .i64 e.sky.nstart, .slice p.As e.sun.length p.cs, .slice p.Am e.moon.length p.cm, .slice p.An e.node.length p.cn, .slice p.Af e.feasts.length p.cf, .int .i64 e.nw, .int .i64 e.fl, .int .i64 e.wide, .slice p.At set.length p.ct, .map (some M)] = W3 := ⟨_, rfl⟩
    have hR3 : Row W3 b 144 #[.slice p.Ab e.sky.bodies.length p.cb, .int .i64 e.sky.nnum, .int .i64 e.sky.nden, .int .i64 e.sky.nstart, .slice p.As e.sun.length p.cs, .slice p.Am e.moon.length p.cm, .slice p.An e.node.length p.cn, .slice p.Af e.feasts.length p.cf, .int .i64 e.nw, .int .i64 e.fl, .int .i64 e.wide, .slice p.At set.length p.ct, .map (some M)] := by rw [← hW3]; exact Row.sets (cs := [.slice none 0 0, .int .i64 0, .int .i64 0, .int .i64 0, .slice none 0 0, .slice none 0 0, .slice none 0 0, .slice none 0 0, .int .i64 0, .int .i64 0, .int .i64 0, .slice none 0 0, .map none]) hr _ rfl
    have hE3 : Ext W W3 := by rw [← hW3]; exact Ext.sets hb _ _ _ hE
    have hC3 : Seen e set M W3 := by rw [← hW3]; exact Cache.sets hne _ _ _ hC
    simp only [setsAt, Nat.reduceAdd] at hW3
    try rw [hW3]
    exact ⟨M4, M5, M, b, hb, hM, hE3, hR3, hC3, by simp⟩
  case hq =>
    rintro e' a' w3 ⟨rfl, M4, M5, M, b, hb, hM, hE3, hR3, hC3, rfl⟩
    have c := hR3.cell
    go_wp2_with fail
    refine (e_at_any p e set M day _ hK (HM.out.ext (HE0.out.trans hE3)) hC3 hd.1 (by omega)).mono ?_
    rintro r w4 ⟨rfl, hmv⟩
    obtain ⟨sA, hsA⟩ : ∃ x, Ec.sunAt e set day = x := ⟨_, rfl⟩
    obtain ⟨mA, hmA⟩ : ∃ x, Ec.moonAt e set day = x := ⟨_, rfl⟩
    obtain ⟨nA, hnA⟩ : ∃ x, Ec.nodeAt e set day = x := ⟨_, rfl⟩
    obtain ⟨sB, hsB⟩ : ∃ x, Sp.mean (Sp.body e.sky 0) day % 21600 = x := ⟨_, rfl⟩
    obtain ⟨mB, hmB⟩ : ∃ x, Sp.mean (Sp.body e.sky 1) day % 21600 = x := ⟨_, rfl⟩
    obtain ⟨nB, hnB⟩ : ∃ x, Sp.node e.sky day = x := ⟨_, rfl⟩
    have e1 : Ec.sunOff e set day = Ec.near (sA - sB) := by rw [Ec.sunOff, hsA, hsB]
    have e2 : Ec.moonOff e set day = Ec.near (mA - mB) := by rw [Ec.moonOff, hmA, hmB]
    have e3 : Ec.nodeOff e set day = Ec.near (nA - nB) := by rw [Ec.nodeOff, hnA, hnB]
    rw [hsA] at s1 s2 ⊢
    rw [hmA] at m1 m2 ⊢
    rw [hnA] at n1 n2 ⊢
    rw [hsB] at v1
    rw [hmB] at v2
    rw [hnB] at v3
    have HS := Lib.hid hsB
    have HT := Lib.hid hmB
    have HN := Lib.hid hnB
    have HQ := Lib.hid (And.intro e1 (And.intro e2 e3))
    clear hsA hmA hnA hsB hmB hnB e1 e2 e3 c
    have HX4 := Lib.hid ((hmv.row hC3 (HR0.out.ext hE3)).alloc (.cells #[.int .i64 sA, .int .i64 mA, .int .i64 nA] 89))
    have HR4 := Lib.hid ((hmv.row hC3 (HR1.out.ext hE3)).alloc (.cells #[.int .i64 sA, .int .i64 mA, .int .i64 nA] 89))
    have HH4 := Lib.hid (Row.new w4 89 #[.int .i64 sA, .int .i64 mA, .int .i64 nA])
    have HE4 := Lib.hid (((HE0.out.trans hE3).trans' (hmv.below (Nat.le_trans HE0.out.size hM) (HE0.out.trans hE3).size)).alloc (.cells #[.int .i64 sA, .int .i64 mA, .int .i64 nA] 89))
    have c := HX4.out.cell
    clear hmv hC3 hR3 hE3
    go_wp2_with fail
    refine (Mean_ok e.sky p.Ab p.cb 0 day _ (HM.out.ext HE4.out).eng.bodies HL.out.sky bs b0 bd).mono ?_
    rintro r w5 ⟨rfl, hE5⟩
    rw [HS.out]
    have c := (HX4.out.ext hE5).cell
    go_wp2_with fail
    refine (Mean_ok e.sky p.Ab p.cb 1 day _ (HM.out.ext (HE4.out.trans hE5)).eng.bodies HL.out.sky bs b1 bd).mono ?_
    rintro r w6 ⟨rfl, hE6⟩
    rw [HT.out]
    have HE6 := Lib.hid (hE5.trans hE6)
    clear hE5 hE6
    have c := (HX4.out.ext HE6.out).cell
    go_wp2_with fail
    refine (Node_ok e.sky p.Ab p.cb day _ (HM.out.ext (HE4.out.trans HE6.out)).eng.bodies HL.out.sky bs bd).mono ?_
    rintro r w7 ⟨rfl, hE7⟩
    rw [HN.out]
    have HE7 := Lib.hid (HE6.out.trans hE7)
    clear hE7
    go_wp2_with fail
    refine wp_region_later_tail 16 (by kernel_rfl) (by kernel_rfl) (fun WW hWW => ?_)
    have HEW : Hid (Ext _ WW) := Lib.hid (by rw [hWW]; exact HE7.out)
    clear hWW
    have q := fun (x : Later WW) => ((HH4.out.ext HEW.out).ext x.ext).cell
    simp only [List.take_succ_cons, List.take_zero, List.drop_succ_cons, List.drop_zero]
    repeat (go_big_quiet_step ((go_at_call 82; exact Later.call ((e_signed_any _ _ (by omega) (by omega)).mono fun _ _ ⟨a, b⟩ => ⟨a, b ▸ Ext.refl _⟩))))
    refine wpQuiet_nil ?_
    rintro ⟨w8, hE8⟩
    dsimp only
    have HE8 := Lib.hid (HEW.out.trans hE8)
    have hr4 := HR4.out.ext HE8.out
    have hE4 := HE4.out.trans HE8.out
    clear hE8
    have k := hr4.cell
    have fz := hr4.free
    go_wp2_with fail
    refine bodyPost_ret (v := .tuple #[.agg #[.int .i64 (Ec.near (sA - sB)), .int .i64 (Ec.near (mA - mB)), .int .i64 (Ec.near (nA - nB))], .int .i64 0]) (by simp [results, Tryz.results28, asAddr, go_sem, k]) rfl ⟨by rw [HQ.out.1, HQ.out.2.1, HQ.out.2.2], ?_⟩
    exact ((hE4.setCell (p := ⟨w.heap.size + 1, 0, none⟩) (Nat.le_succ _) _).setCell (p := ⟨w.heap.size + 1, 1, none⟩) (Nat.le_succ _) _).setCell (p := ⟨w.heap.size + 1, 2, none⟩) (Nat.le_succ _) _
end Go.Proofs.YtimkmokomohgjaaGreat
namespace Go.Proofs.YtimkmokomohgjaaGreat
open Go.RowKit Go.Shelf
open Sp (rd)
attribute [local go_sem] Oper.semAt_some
set_option maxRecDepth 100000
set_option maxHeartbeats 1000000
/-- An eclipse that can be foretold. -/
abbrev Ecl1 := { x : Sp.Ecl // (1 ≤ x.day ∧ x.day ≤ 9030) ∧ (0 ≤ x.far ∧ x.far ≤ 5400) }
def eclV (x : Sp.Ecl) : Value := .agg #[.int .i64 x.day, .bool x.full, .int .i64 x.far]
/-- What a round must keep. -/
def KeepsEng (n0 bT bX M : Nat) (W W' : World) : Prop := Below n0 W W' ∧ W'.heap[bT]? = W.heap[bT]? ∧ W'.heap[bX]? = W.heap[bX]? ∧ W'.heap[M]? = W.heap[M]?
theorem keepsEng_t {n0 bT bX M : Nat} {A B C : World} (h : KeepsEng n0 bT bX M A B) (k : KeepsEng n0 bT bX M B C) : KeepsEng n0 bT bX M A C :=
  ⟨h.1.trans k.1, k.2.1.trans h.2.1, k.2.2.1.trans h.2.2.1, k.2.2.2.trans h.2.2.2⟩
theorem keepsEng_b {n0 bT bX M B : Nat} (h0 : n0 ≤ B) (h1 : bT < B) (h2 : bX < B) (h3 : M < B) (W : World) (l : Nat) (o o' : Obj) (hl : B ≤ l) (hW : W.heap[l]? = some o) (_ : o.isCells = false) (_ : o.isWalk = false) : KeepsEng n0 bT bX M W (W.putObj l o') :=
  ⟨(Below.refl n0 W).grown (grownBy_putObj' W l o') (by have := (Array.getElem?_eq_some_iff.1 hW).1; omega) (fun k e => by cases e; omega), World.putObj_heap_other (by omega), World.putObj_heap_other (by omega), World.putObj_heap_other (by omega)⟩
/-- What the iterator finds in every round. -/
structure ForeIn (w0 : World) (p : EP) (e : Ec.Engine) (set : List Int) (M bT bX : Nat) (hi : Int) (W : World) : Prop where
  ext : Ext w0 W
  cache : Seen e set M W
  to : Row W bT 3 #[.int .i64 hi]
  x : Row W bX 144 #[.slice p.Ab e.sky.bodies.length p.cb, .int .i64 e.sky.nnum, .int .i64 e.sky.nden, .int .i64 e.sky.nstart, .slice p.As e.sun.length p.cs, .slice p.Am e.moon.length p.cm, .slice p.An e.node.length p.cn, .slice p.Af e.feasts.length p.cf, .int .i64 e.nw, .int .i64 e.fl, .int .i64 e.wide, .slice p.At set.length p.ct, .map (some M)]
theorem ForeIn.move {w0 : World} {p : EP} {e : Ec.Engine} {set : List Int} {M bT bX : Nat} {hi : Int} {W W' : World} (h : ForeIn w0 p e set M bT bX hi W) (hM : w0.heap.size ≤ M) (hm : Move e set M W W') : ForeIn w0 p e set M bT bX hi W' :=
  ⟨h.ext.trans' (hm.below hM h.ext.size), hm.cache, hm.row h.cache h.to, hm.row h.cache h.x⟩
theorem ForeIn.keep {w0 : World} {p : EP} {e : Ec.Engine} {set : List Int} {M bT bX : Nat} {hi : Int} {W W' : World} (h : ForeIn w0 p e set M bT bX hi W) (hk : KeepsEng w0.heap.size bT bX M W W') : ForeIn w0 p e set M bT bX hi W' :=
  ⟨h.ext.trans' hk.1, h.cache.of_block hk.2.2.2, hk.2.1.trans h.to, hk.2.2.1.trans h.x⟩
def ForeAll (e : Ec.Engine) (set : List Int) (lo hi : Int) (xs : List Ecl1) : Prop := xs.map Subtype.val = Ec.foreL e set (max 1 lo) hi
def ForeSome (e : Ec.Engine) (set : List Int) (lo hi : Int) (pre : List Ecl1) : Prop := ∃ rest, pre.map Subtype.val ++ rest = Ec.foreL e set (max 1 lo) hi
/-- What has been foretold when k days and j kinds of the next one are over. -/
def forePart (e : Ec.Engine) (set : List Int) (d : Int) : Nat → List Sp.Ecl
  | 0 => []
  | 1 => if Ec.foreB e set d false then [⟨d, false, Ec.farAt e set d⟩] else []
  | _ => Ec.foreD e set d
theorem foreL_split (e : Ec.Engine) (set : List Int) (lo hi : Int) (k : Nat) (hk : k < (hi + 1 - lo).toNat) (j : Nat) (hj : j ≤ 2) : ∃ rest, Ec.foreN e set lo k ++ forePart e set (lo + (k : Nat)) j ++ rest = Ec.foreL e set lo hi := by
  have h1 : ∀ n, k + 1 ≤ n → ∃ rest, Ec.foreN e set lo (k + 1) ++ rest = Ec.foreN e set lo n := by
    intro n
    induction n with
    | zero => intro h; omega
    | succ n ih =>
      intro h
      rcases Nat.eq_or_lt_of_le h with h' | h'
      · exact ⟨[], by rw [List.append_nil, h']⟩
      · obtain ⟨r, hr⟩ := ih (by omega)
        exact ⟨r ++ Ec.foreD e set (lo + (n : Nat)), by rw [← List.append_assoc, hr]; rfl⟩
  obtain ⟨r, hr⟩ := h1 _ hk
  have h2 : ∃ r2, forePart e set (lo + (k : Nat)) j ++ r2 = Ec.foreD e set (lo + (k : Nat)) := by
    rcases (show j = 0 ∨ j = 1 ∨ j = 2 by omega) with rfl | rfl | rfl
    · exact ⟨_, rfl⟩
    · exact ⟨_, rfl⟩
    · exact ⟨[], List.append_nil _⟩
  obtain ⟨r2, hr2⟩ := h2
  refine ⟨r2 ++ r, ?_⟩
  rw [List.append_assoc, ← List.append_assoc _ r2, hr2, ← List.append_assoc]
  exact hr
/-- The world behind the call of foretold. -/
def foreW (p : EP) (e : Ec.Engine) (set : List Int) (M : Nat) (lo hi : Int) (w : World) : World :=
  ((w.alloc (.cells #[.slice p.Ab e.sky.bodies.length p.cb, .int .i64 e.sky.nnum, .int .i64 e.sky.nden, .int .i64 e.sky.nstart, .slice p.As e.sun.length p.cs, .slice p.Am e.moon.length p.cm, .slice p.An e.node.length p.cn, .slice p.Af e.feasts.length p.cf, .int .i64 e.nw, .int .i64 e.fl, .int .i64 e.wide, .slice p.At set.length p.ct, .map (some M)] 144)).alloc (.cells #[.int .i64 lo] 3)).alloc (.cells #[.int .i64 hi] 3)
theorem foreW_size (p : EP) (e : Ec.Engine) (set : List Int) (M : Nat) (lo hi : Int) (w : World) : (foreW p e set M lo hi w).heap.size = w.heap.size + 3 := by simp [foreW]
theorem foreW_ext (p : EP) (e : Ec.Engine) (set : List Int) (M : Nat) (lo hi : Int) (w : World) : Ext w (foreW p e set M lo hi w) := (((Ext.refl w).alloc _).alloc _).alloc _
theorem foreW_X (p : EP) (e : Ec.Engine) (set : List Int) (M : Nat) (lo hi : Int) (w : World) : Row (foreW p e set M lo hi w) w.heap.size 144 #[.slice p.Ab e.sky.bodies.length p.cb, .int .i64 e.sky.nnum, .int .i64 e.sky.nden, .int .i64 e.sky.nstart, .slice p.As e.sun.length p.cs, .slice p.Am e.moon.length p.cm, .slice p.An e.node.length p.cn, .slice p.Af e.feasts.length p.cf, .int .i64 e.nw, .int .i64 e.fl, .int .i64 e.wide, .slice p.At set.length p.ct, .map (some M)] := (blocks3 w _ _ _).1
theorem foreW_F (p : EP) (e : Ec.Engine) (set : List Int) (M : Nat) (lo hi : Int) (w : World) : Row (foreW p e set M lo hi w) (w.heap.size + 1) 3 #[.int .i64 lo] := (blocks3 w _ _ _).2.1
theorem foreW_T (p : EP) (e : Ec.Engine) (set : List Int) (M : Nat) (lo hi : Int) (w : World) : Row (foreW p e set M lo hi w) (w.heap.size + 2) 3 #[.int .i64 hi] := (blocks3 w _ _ _).2.2
attribute [irreducible] foreW
def foreV (b : Nat) : Value := .func (.func 141) #[] #[.pointer (some ⟨b + 1, 0, none⟩), .pointer (some ⟨b + 2, 0, none⟩), .pointer (some ⟨b, 0, none⟩)]
theorem e_foretold_any (p : EP) (e : Ec.Engine) (set : List Int) (M : Nat) (lo hi : Int) (w : World) :
    Calls Tryz.prog 87 #[.agg #[.slice p.Ab e.sky.bodies.length p.cb, .int .i64 e.sky.nnum, .int .i64 e.sky.nden, .int .i64 e.sky.nstart, .slice p.As e.sun.length p.cs, .slice p.Am e.moon.length p.cm, .slice p.An e.node.length p.cn, .slice p.Af e.feasts.length p.cf, .int .i64 e.nw, .int .i64 e.fl, .int .i64 e.wide, .slice p.At set.length p.ct, .map (some M)], .int .i64 lo, .int .i64 hi] w fun r w' => r = .returned (foreV w.heap.size) ∧ w' = foreW p e set M lo hi w := by
  have hmf : ∀ (fn : Fn) (first cap : Array Value) (w : World), (Instr.makeFunc fn first cap).run Tryz.prog w = .ok (.func fn first cap) w := fun _ _ _ _ => rfl
  go_enter Tryz.func87, Tryz.ntmps87
  go_wp2_with fail
  go_ret
  exact ⟨rfl, by unfold foreW; rfl⟩
theorem pickP0 (x0 x1 : Value) (w : World) : (Instr.index 210 (.agg #[x0, x1]) (.int .i64 0)).run Tryz.prog w = .ok x0 w := by kernel_rfl
theorem pickP1 (x0 x1 : Value) (w : World) : (Instr.index 210 (.agg #[x0, x1]) (.int .i64 1)).run Tryz.prog w = .ok x1 w := by kernel_rfl
end Go.Proofs.YtimkmokomohgjaaGreat
