/- Volume 3 of the texts that the laws of this seat use: EcFree4 TpPhase TpWide TpPath TpPath1 EcTurns2 EcEng EcCells EcSets EcSets2 EcCmp EcRan EcBalls EcShades TpRuled TpOwn TpWideF: walks of the program's functions, and plain laws. -/
import Derived.Carry
import Derived.BigQuiet
import Derived.Deep.DrawnRows
import Derived.Deep.RegionHeld3
import Derived.RangeFuncNested
import Derived.Laws.EntriesVeiled
import Derived.Outline
import Derived.Below
import Derived.Test.YtimkmokomohgjaaGreatP01
import Derived.Test.YtimkmokomohgjaaGreatP02
namespace Go.Proofs.YtimkmokomohgjaaGreat
open Go.RowKit
/-- The tail's first (n) waits for j, or for one of the head that does. -/
def awaits (m : List Oper) (n : Nat) : Nat → Nat → Bool
  | 0, _ => false
  | f + 1, j => Region.waitsFor .any m.toArray n j || (List.range n).any fun q => Region.waitsFor .any m.toArray q j && awaits m n f q
def closedB (m : List Oper) (n : Nat) : Bool :=
  ((List.range n).all fun j => awaits m n (n + 1) j) && ((List.range m.length).all fun t => decide (t ≤ n) || Region.waitsFor .any m.toArray t (t - 1))
theorem waits_conv {m : List Oper} {t q : Nat} {o : Oper} (ho : m[t]? = some o) (hw : Region.waitsFor .any m.toArray t q = true) : ∃ e ∈ o.after, Region.binds .any e = true ∧ e.on = q := by
  obtain ⟨oj, hoj, hh⟩ := Region.waitsFor_spec hw
  have : oj = o := by
    simp only [List.getElem?_toArray] at hoj
    rw [ho] at hoj
    exact (Option.some.inj hoj).symm
  rw [this] at hh
  exact hh
theorem awaits_in {m : List Oper} {n : Nat} {S : List Nat} (hd : ∀ q, q < n → (∀ o, m[n]? = some o → ∃ e ∈ o.after, Region.binds .any e = true ∧ e.on = q) → q ∈ S)
    (hcl : ∀ i ∈ S, ∀ o, m[i]? = some o → ∀ e ∈ o.after, Region.binds .any e = true → e.on < n → e.on ∈ S) : ∀ (f j : Nat), j < n → awaits m n f j = true → j ∈ S := by
  intro f
  induction f with
  | zero => intro j _ h; cases h
  | succ f ih =>
    intro j hj h
    rw [awaits, Bool.or_eq_true] at h
    rcases h with h | h
    · exact hd j hj fun o ho => waits_conv ho h
    · obtain ⟨q, hq, h⟩ := List.any_eq_true.1 h
      rw [Bool.and_eq_true] at h
      have hqS := ih q (List.mem_range.1 hq) h.2
      obtain ⟨o, ho, _⟩ := Region.waitsFor_spec h.1
      obtain ⟨e, he, hb, hon⟩ := waits_conv (m := m) (by simpa using ho) h.1
      have := hcl q hqS o (by simpa using ho) e he hb (by omega)
      rwa [hon] at this
theorem closedB_spec {m : List Oper} {n : Nat} (h : closedB m n = true) {t : Nat} (ht : n ≤ t) (htm : t < m.length) :
    (n = t ∧ ∀ q, q < n → awaits m n (n + 1) q = true) ∨ (n < t ∧ ∀ o, m[t]? = some o → ∃ e ∈ o.after, Region.binds .any e = true ∧ e.on = t - 1) := by
  simp only [closedB, Bool.and_eq_true, List.all_eq_true, List.mem_range, Bool.or_eq_true, decide_eq_true_eq] at h
  rcases Nat.eq_or_lt_of_le ht with rfl | hlt
  · exact .inl ⟨rfl, h.1⟩
  · refine .inr ⟨hlt, fun o ho => ?_⟩
    rcases h.2 t htm with h1 | h1
    · omega
    · exact waits_conv ho h1
theorem wp_region_free_closed {P : Program} {id : Nat} {Q : Exit → Act → World → Prop} {a0 : Act} {w0 : World} {m : List Oper} (n : Nat) (Φ : Nat → Value → World → Prop) (hm : P.follows .mixedOrders = true) (hn : n ≤ m.length) (hB : freeB (m.take n) a0.tmps.size = true)
    (hT : closedB m n = true) (hS : Region.seqB .any m.toArray (m.length - n) n (headTail n m.length) = true)
    (hmono : ∀ i v w w', Φ i v w → Ext w w' → Φ i v w')
    (hob : ∀ i o, i < n → m[i]? = some o → ∀ a w, Ext w0 w → Finds (m.take n) Φ a0 o a w → Ran P m.toArray o a w (fun v w' => Φ i v w' ∧ Ext w w'))
    (hQ : ∀ vs : Nat → Value, ∀ w, Ext w0 w → (∀ i, i < n → Φ i (vs i) w) → wpList P m.toArray Q (m.drop n) (putAll (m.take n) vs a0) w) : (Code.region id m.toArray true).wp P Q a0 w0 := by
  refine wp_region_any hm ?_
  obtain ⟨l, hl⟩ : ∃ l, m.take n = l := ⟨_, rfl⟩
  have hln : l.length = n := by rw [← hl, List.length_take]; omega
  have hget : ∀ i, i < n → m[i]? = l[i]? := fun i hi => by rw [← hl, List.getElem?_take]; simp [hi]
  rw [hl] at hB hob hQ
  have key : ∀ (f : Nat) (S : List Nat) (vs : Nat → Value) (listed : Array Bool) (w : World), Ext w0 w → S.Nodup → (∀ i, i ∈ S ↔ i < l.length ∧ listed.getD i false = true) → listed.size = m.length ∧ (∀ i, l.length ≤ i → listed.getD i false = false) → S.length + f = l.length →
      (∀ i ∈ S, Φ i (vs i) w) → (∀ i ∈ S, ∀ o, m[i]? = some o → ∀ e ∈ o.after, Region.binds .any e = true → e.on < n → e.on ∈ S) → wpAny P .any m.toArray Q (f + (m.length - n)) listed (putS l vs S a0) w := by
    intro f
    induction f with
    | zero =>
      intro S vs listed w hE hd hmem hsz hlen hΦ hcl
      have hall : ∀ i, i < l.length → i ∈ S := by
        intro i hi
        rcases Classical.em (i ∈ S) with h | h
        · exact h
        · have h1 := nodup_le' (S := i :: S) (N := l.length) (by simp [h, hd]) (by
            intro x hx
            rcases List.mem_cons.1 hx with rfl | hx
            · exact hi
            · exact ((hmem x).1 hx).1)
          simp at h1
          omega
      have hp : S.Perm (List.range l.length) := (List.perm_ext_iff_of_nodup hd List.nodup_range).2 fun i => ⟨fun h => List.mem_range.2 ((hmem i).1 h).1, fun h => hall i (List.mem_range.1 h)⟩
      have he : putS l vs S a0 = putAll l vs a0 := putS_perm hB hp fun x hx => ((hmem x).1 hx).1
      rw [he, Nat.zero_add]
      have hs1 := hsz.1
      have hlist : listed = headTail n m.length := by
        refine Array.ext_getElem? fun i => ?_
        rcases Nat.lt_or_ge i m.length with hi | hi
        · have h1 : listed[i]? = some (listed.getD i false) := by
            have : i < listed.size := by omega
            simp [Array.getD, this]
          rw [h1]
          rcases Nat.lt_or_ge i n with h2 | h2
          · rw [((hmem i).1 (hall i (by omega))).2]
            simp [headTail, List.getElem?_append, h2]
          · rw [hsz.2 i (by omega)]
            simp only [headTail, List.getElem?_toArray, List.getElem?_append, List.length_replicate, Nat.not_lt.2 h2, if_false, List.getElem?_replicate]
            rw [if_pos (by omega)]
        · rw [Array.getElem?_eq_none (by omega)]
          simp [headTail]
          omega
      rw [hlist]
      have hdl : (m.drop n).length = m.length - n := by simp
      have := wpAny_of_seq (md := .any) (Q' := Q) (m.drop n) n (headTail n m.length) _ w (fun j => by simp [List.getElem?_drop]) (by rw [hdl]; exact hS) (hQ vs w hE fun i hi => hΦ i (hall i (by omega)))
      rwa [hdl] at this
    | succ f ih =>
      intro S vs listed w hE hd hmem hsz hlen hΦ hcl
      rw [Nat.add_right_comm]
      have hex : ∃ i, i < l.length ∧ i ∉ S := by
        rcases Classical.em (∃ i, i < l.length ∧ i ∉ S) with h | h
        · exact h
        · have hsub : (List.range l.length).length ≤ S.length := nodup_sub_le _ _ List.nodup_range fun i hi => by
            rcases Classical.em (i ∈ S) with h2 | h2
            · exact h2
            · exact absurd ⟨i, List.mem_range.1 hi, h2⟩ h
          simp at hsub
          omega
      refine ⟨fun hr => ?_, fun i hi => ?_⟩
      · -- some operation is still to come: the first of them is ready
        exfalso
        have hmin : ∀ (k i : Nat), i ≤ k → i < l.length → i ∉ S → False := by
          intro k
          induction k with
          | zero =>
            intro i hik hi hiS
            obtain rfl : i = 0 := by omega
            have ho : l[0]? = some l[0] := List.getElem?_eq_getElem hi
            have hfr := freeB_spec hB ho
            have : 0 ∈ Region.ready .any m.toArray listed := mem_ready.2 ⟨getD_in (by have := hsz.1; omega) (by
              cases hh : listed.getD 0 false
              · rfl
              · exact absurd ((hmem 0).2 ⟨hi, hh⟩) hiS), l[0], by rw [List.getElem?_toArray, hget 0 (by omega)]; simp, fun e he hbi => absurd (hfr.back e he hbi) (by omega)⟩
            rw [hr] at this
            cases this
          | succ k ihk =>
            intro i hik hi hiS
            have ho : l[i]? = some l[i] := List.getElem?_eq_getElem hi
            have hfr := freeB_spec hB ho
            have : i ∈ Region.ready .any m.toArray listed := mem_ready.2 ⟨getD_in (by have := hsz.1; omega) (by
              cases hh : listed.getD i false
              · rfl
              · exact absurd ((hmem i).2 ⟨hi, hh⟩) hiS), l[i], by rw [List.getElem?_toArray, hget i (by omega)]; simp, fun e he hbi => by
                have hlt := hfr.back e he hbi
                rcases Classical.em (e.on ∈ S) with h | h
                · exact ((hmem _).1 h).2
                · exact (ihk e.on (by omega) (by omega) h).elim⟩
            rw [hr] at this
            cases this
        obtain ⟨i, hi, hiS⟩ := hex
        exact hmin i i (Nat.le_refl _) hi hiS
      · obtain ⟨hun, o, ho, hall⟩ := mem_ready.1 hi
        have hin : i < n := by
          rcases Nat.lt_or_ge i n with h | h
          · exact h
          · exfalso
            obtain ⟨q, hq, hqS⟩ := hex
            rcases closedB_spec hT h (by simpa using (Array.getElem?_eq_some_iff.1 ho).1) with ⟨rfl, hw⟩ | ⟨hlt, hw⟩
            · exact hqS (awaits_in (S := S) (fun q hq hwq => by
                obtain ⟨e, he, hb, hon⟩ := hwq o (by simpa using ho)
                have h1 := hall e he hb
                rw [hon] at h1
                exact (hmem q).2 ⟨by omega, h1⟩) hcl _ q (by omega) (hw q (by omega)))
            · obtain ⟨e, he, hb, hon⟩ := hw o (by simpa using ho)
              have h1 := hall e he hb
              rw [hon, hsz.2 (i - 1) (by omega)] at h1
              cases h1
        have ho' : l[i]? = some o := by rw [← hget i hin]; simpa using ho
        have hil : i < l.length := (List.getElem?_eq_some_iff.1 ho').1
        have hiS : i ∉ S := fun h => by
          have := ((hmem i).1 h).2
          rw [getD_both hun] at this
          cases this
        have hfr := freeB_spec hB ho'
        have hF : Finds l Φ a0 o (putS l vs S a0) w := by
          constructor
          · intro j d hjd hlook
            have hj : j < l.length := by
              rcases Nat.lt_or_ge j l.length with h | h
              · exact h
              · simp [dstOf, List.getElem?_eq_none h] at hjd
            by_cases hji : j = i
            · subst hji
              have hod : o.dst = some d := by simpa [dstOf, ho'] using hjd
              exact absurd hlook (hfr.own d hod).2
            · obtain ⟨e, he, hb, hon⟩ := (hfr.apart j d hj hji hjd).2 hlook
              have hjS : j ∈ S := (hmem j).2 ⟨hj, by rw [← hon]; exact hall e he hb⟩
              have hoj : l[j]? = some l[j] := List.getElem?_eq_getElem hj
              have hsize : d < a0.tmps.size := ((freeB_spec hB hoj).own d (by simpa [dstOf, hoj] using hjd)).1
              rw [putS_on hjd S a0 hsize (fun k hk hkd => by
                rcases Classical.em (k = j) with h | h
                · exact h
                · exact absurd (by simpa [dstOf, hoj] using hjd) ((freeB_spec hB hoj).apart k d ((hmem k).1 hk).1 h hkd).1) hjS]
              exact hΦ j hjS
          · intro d hno
            exact putS_off S a0 fun k hk => hno k ((hmem k).1 hk).1
        have hw := hob i o hin (by rw [hget i hin]; exact ho') (putS l vs S a0) w hE hF
        have next : ∀ v w', (Φ i v w' ∧ Ext w w') → wpAny P .any m.toArray Q (f + (m.length - n)) (listed.setIfInBounds i true) ((putS l vs S a0).put o.dst v) w' := by
          rintro v w' ⟨hv, hE'⟩
          have hdo : dstOf l i = o.dst := by simp [dstOf, ho']
          have hvs : (putS l vs S a0).put o.dst v = putS l (fun k => if k = i then v else vs k) (S ++ [i]) a0 := by
            unfold putS
            rw [List.foldl_append]
            simp only [List.foldl_cons, List.foldl_nil, if_true, hdo]
            congr 1
            exact putS_congr S a0 fun k hk => by
              have : k ≠ i := fun e => hiS (e ▸ hk)
              simp [this]
          rw [hvs]
          refine ih (S ++ [i]) _ _ w' (hE.trans hE') ?_ ?_ ⟨by simpa using hsz.1, fun k hk => ?_⟩ (by simp; omega) ?_ ?_
          · rw [List.nodup_append]
            exact ⟨hd, by simp, fun x hx y hy e => by simp at hy; subst hy; exact hiS (e ▸ hx)⟩
          · intro k
            simp only [List.mem_append, List.mem_singleton, hmem k]
            by_cases hki : k = i
            · subst hki
              have := hsz.1
              simp [hil, show k < listed.size by omega]
            · have : (listed.setIfInBounds i true).getD k false = listed.getD k false := getD_set_ne false (Ne.symm hki)
              rw [this]
              simp [hki]
          · have : (listed.setIfInBounds i true).getD k false = listed.getD k false := getD_set_ne false (by omega)
            rw [this]
            exact hsz.2 k hk
          · intro k hk
            by_cases hki : k = i
            · subst hki; simpa using hv
            · rw [if_neg hki]
              rcases List.mem_append.1 hk with h | h
              · exact hmono _ _ _ _ (hΦ k h) hE'
              · exact absurd (by simpa using h) hki
          · intro k hk ok hok e he hb hen
            rcases List.mem_append.1 hk with h | h
            · exact List.mem_append.2 (.inl (hcl k h ok hok e he hb hen))
            · obtain rfl : k = i := by simpa using h
              obtain rfl : ok = o := Option.some.inj (hok.symm.trans (by simpa using ho))
              exact List.mem_append.2 (.inl ((hmem _).2 ⟨by omega, hall e he hb⟩))
        unfold wpOp
        rw [ho]
        simp only []
        unfold Ran at hw
        split
        · rename_i hwd
          rw [if_pos hwd] at hw
          refine .inl ?_
          have hw2 : Oper.wp P o (putS l vs S a0) w (fun a' w' => ∃ v, a' = (putS l vs S a0).put o.dst v ∧ Φ i v w' ∧ Ext w w') Q := by
            unfold Oper.wp at hw ⊢
            generalize (execOp (putS l vs S a0).eval o).run P w = r at *
            cases r with
            | ok x w' =>
              cases x <;> simp only [Oper.upon] at hw ⊢
              all_goals first
                | exact hw
                | exact Calls.mono hw (fun e w'' he => by cases e <;> first | exact he | exact (he : False).elim | (obtain ⟨_, _, hh⟩ := he; exact hh.elim))
                | exact Rows.mono hw (fun _ _ he => he)
            | halt x w' => cases x <;> simp only [Oper.upon] at hw
          refine Oper.wp_mono ?_ hw2
          rintro a' w' ⟨v, rfl, hv⟩
          exact next v w' hv
        · rename_i hwd
          rw [if_neg hwd] at hw
          exact next undef w hw
  have := key n [] (fun _ => undef) (Array.replicate m.toArray.size false) _ ((Ext.refl w0).drew) (by simp) (by
    intro i
    have h0 := getD_replicate_false m.toArray.size i
    simp only [h0]
    simp) ⟨by simp, by
    intro i hi
    exact getD_replicate_false _ _⟩ (by simp; omega) (by simp) (by simp)
  rw [show n + (m.length - n) = m.toArray.size by simp; omega] at this
  exact this
end Go.Proofs.YtimkmokomohgjaaGreat
namespace Go.Proofs.YtimkmokomohgjaaGreat
open Go.RowKit
set_option maxRecDepth 100000
set_option linter.unusedVariables false
section
variable {P : Program} {ops : Array Oper} {Q : Exit → Act → World → Prop} {md : Region.Mode} {st : Nat} {S : Bool → World → Prop}
/-- Whatever order is picked from here on; S false holds till number st has come up, S true from then on. -/
def Tp.anyP (P : Program) (md : Region.Mode) (ops : Array Oper) (Q : Exit → Act → World → Prop) (st : Nat) (S : Bool → World → Prop) : Nat → Array Bool → Act → World → Prop
  | 0, listed, a, w => Region.ready md ops listed = [] ∧ Q .normal a w
  | fuel + 1, listed, a, w =>
    (Region.ready md ops listed = [] → Q .normal a w) ∧
    ∀ i ∈ Region.ready md ops listed, wpOp P ops Q i (fun a' w' => S ((listed.setIfInBounds i true).getD st true) w' ∧ Tp.anyP P md ops Q st S fuel (listed.setIfInBounds i true) a' w') a w
theorem Tp.anyP_any : ∀ (fuel : Nat) (listed : Array Bool) (a : Act) (w : World), Tp.anyP P md ops Q st S fuel listed a w → wpAny P md ops Q fuel listed a w
  | 0, _, _, _, h => h
  | fuel + 1, _, _, _, h => ⟨h.1, fun i hi => wpOp_mono (fun a' w' h' => Tp.anyP_any fuel _ a' w' h'.2) (h.2 i hi)⟩
theorem Tp.anyP_first {i : Nat} {oi : Oper} {v : Value} (hi : ops[i]? = some oi) (hsel : ∀ (j : Nat) (o : Oper) cs b, ops[j]? = some o → o.op ≠ .select cs b)
    (hQ : ∀ c a w, Q (.panic c) (a.put oi.dst v) w → Q (.panic c) a w) (hst : ∃ os, ops[st]? = some os ∧ ∃ e ∈ os.after, Region.binds md e = true ∧ e.on = i) :
    ∀ (fuel : Nat) (listed : Array Bool) (a : Act) (w : World),
      (∀ j oj, ops[j]? = some oj → j ≠ i → listed.getD j true = false → (∀ e ∈ oj.after, Region.binds md e = true → e.on ≠ i) → oi.apart ops oj = true) →
      i ∈ Region.ready md ops listed → YieldsIf P ops (S false) oi v a → S false w → listed.getD st true = false →
      Tp.anyP P md ops Q st S fuel (listed.setIfInBounds i true) (a.put oi.dst v) w → Tp.anyP P md ops Q st S (fuel + 1) listed a w := by
  obtain ⟨os, hos, e0, he0, hb0, he1⟩ := hst
  have un : ∀ {listed : Array Bool} {j : Nat}, i ∈ Region.ready md ops listed → j ∈ Region.ready md ops listed → ∀ oj, ops[j]? = some oj → ∀ e ∈ oj.after, Region.binds md e = true → e.on ≠ i := fun {listed j} hr hj oj hoj e he hb heq => by
    obtain ⟨_, oj', hoj', hall⟩ := mem_ready.1 hj
    rw [hoj] at hoj'; cases hoj'
    have h1 := hall e he hb
    have h0 := (mem_ready.1 hr).1
    rw [heq] at h1
    rcases Nat.lt_or_ge i listed.size with h' | h'
    · simp [h'] at h0 h1; rw [h0] at h1; cases h1
    · simp [Array.getElem?_eq_none h'] at h1
  have ns : ∀ {listed : Array Bool} {j : Nat}, i ∈ Region.ready md ops listed → j ∈ Region.ready md ops listed → j ≠ st := fun hr hj e => by
    subst e
    exact un hr hj os hos e0 he0 hb0 he1
  intro fuel
  induction fuel with
  | zero =>
    intro listed a w _ hr hy hS hl H
    refine ⟨fun h => (by rw [h] at hr; cases hr), fun j hj => ?_⟩
    by_cases hji : j = i
    · subst hji; exact hy.wpOp hi hS ⟨by rw [getD_set_ne true (ns hr hr), hl]; exact hS, H⟩
    · have := ready_mono hj hji
      rw [H.1] at this
      cases this
  | succ fuel ih =>
    intro listed a w hfree hr hy hS hl H
    refine ⟨fun h => (by rw [h] at hr; cases hr), fun j hj => ?_⟩
    by_cases hji : j = i
    · subst hji; exact hy.wpOp hi hS ⟨by rw [getD_set_ne true (ns hr hr), hl]; exact hS, H⟩
    · have h1 := H.2 j (ready_mono hj hji)
      obtain ⟨hjun, oj, hoj, hall⟩ := mem_ready.1 hj
      have hnot := un hr hj oj hoj
      have hjs := ns hr hj
      have h2 := wpOp_putIf hoj (hfree j oj hoj hji hjun hnot) (fun cs b => hsel i oi cs b hi) (fun cs b => hsel j oj cs b hoj) hQ hy h1
      have hfree' : ∀ k ok, ops[k]? = some ok → k ≠ i → (listed.setIfInBounds j true).getD k true = false →
          (∀ e ∈ ok.after, Region.binds md e = true → e.on ≠ i) → oi.apart ops ok = true := fun k ok hk hki hun hno => by
        refine hfree k ok hk hki ?_ hno
        by_cases hjk : j = k
        · subst hjk; exact hjun
        · rw [getD_set_ne true hjk] at hun; exact hun
      have hl2 : (listed.setIfInBounds j true).getD st true = false := by rw [getD_set_ne true hjs]; exact hl
      refine wpOp_mono (fun a' w' h3 => ?_) h2
      have hT : S false w' := by
        have := h3.2.1
        rwa [getD_set_ne true hjs, getD_set_ne true (ns hr hr), hl] at this
      refine ⟨by rw [hl2]; exact hT, ih (listed.setIfInBounds j true) a' w' hfree' (ready_mono hr (Ne.symm hji)) h3.1 hT hl2 ?_⟩
      rw [Array.setIfInBounds_comm _ _ hji]
      exact h3.2.2
/-- The same for what yields whether st has come up or not. -/
theorem Tp.anyP_firstU {i : Nat} {oi : Oper} {v : Value} {U : World → Prop} (hU : ∀ b w, S b w → U w) (his : i ≠ st) (hi : ops[i]? = some oi) (hsel : ∀ (j : Nat) (o : Oper) cs b, ops[j]? = some o → o.op ≠ .select cs b)
    (hQ : ∀ c a w, Q (.panic c) (a.put oi.dst v) w → Q (.panic c) a w) :
    ∀ (fuel : Nat) (listed : Array Bool) (a : Act) (w : World),
      (∀ j oj, ops[j]? = some oj → j ≠ i → listed.getD j true = false → (∀ e ∈ oj.after, Region.binds md e = true → e.on ≠ i) → oi.apart ops oj = true) →
      i ∈ Region.ready md ops listed → YieldsIf P ops U oi v a → S (listed.getD st true) w →
      Tp.anyP P md ops Q st S fuel (listed.setIfInBounds i true) (a.put oi.dst v) w → Tp.anyP P md ops Q st S (fuel + 1) listed a w := by
  intro fuel
  induction fuel with
  | zero =>
    intro listed a w _ hr hy hS H
    refine ⟨fun h => (by rw [h] at hr; cases hr), fun j hj => ?_⟩
    by_cases hji : j = i
    · subst hji; exact hy.wpOp hi (hU _ _ hS) ⟨by rw [getD_set_ne true his]; exact hS, H⟩
    · have := ready_mono hj hji
      rw [H.1] at this
      cases this
  | succ fuel ih =>
    intro listed a w hfree hr hy hS H
    refine ⟨fun h => (by rw [h] at hr; cases hr), fun j hj => ?_⟩
    by_cases hji : j = i
    · subst hji; exact hy.wpOp hi (hU _ _ hS) ⟨by rw [getD_set_ne true his]; exact hS, H⟩
    · have h1 := H.2 j (ready_mono hj hji)
      obtain ⟨hjun, oj, hoj, hall⟩ := mem_ready.1 hj
      have hnot : ∀ e ∈ oj.after, Region.binds md e = true → e.on ≠ i := fun e he hb heq => by
        have h1 := hall e he hb
        have h0 := (mem_ready.1 hr).1
        rw [heq] at h1
        rcases Nat.lt_or_ge i listed.size with h' | h'
        · simp [h'] at h0 h1; rw [h0] at h1; cases h1
        · simp [Array.getElem?_eq_none h'] at h1
      have h2 := wpOp_putIf hoj (hfree j oj hoj hji hjun hnot) (fun cs b => hsel i oi cs b hi) (fun cs b => hsel j oj cs b hoj) hQ hy h1
      have hfree' : ∀ k ok, ops[k]? = some ok → k ≠ i → (listed.setIfInBounds j true).getD k true = false →
          (∀ e ∈ ok.after, Region.binds md e = true → e.on ≠ i) → oi.apart ops ok = true := fun k ok hk hki hun hno => by
        refine hfree k ok hk hki ?_ hno
        by_cases hjk : j = k
        · subst hjk; exact hjun
        · rw [getD_set_ne true hjk] at hun; exact hun
      refine wpOp_mono (fun a' w' h3 => ?_) h2
      have hT : S ((listed.setIfInBounds j true).getD st true) w' := by
        have := h3.2.1
        rwa [Array.setIfInBounds_comm _ _ (Ne.symm hji), getD_set_ne true his] at this
      refine ⟨hT, ih (listed.setIfInBounds j true) a' w' hfree' (ready_mono hr (Ne.symm hji)) h3.1 hT ?_⟩
      rw [Array.setIfInBounds_comm _ _ hji]
      exact h3.2.2
theorem Tp.anyP_takeU {i : Nat} {oi : Oper} {v : Value} {fuel : Nat} {listed : Array Bool} {a : Act} {w : World} (U : World → Prop) (hU : ∀ b w, S b w → U w) (his : i ≠ st) (hi : ops[i]? = some oi)
    (hs : Region.noSelect ops = true) (hf : Region.free md ops listed i = true) (hr : (Region.ready md ops listed).contains i = true)
    (hQ : ∀ c a w, Q (.panic c) (a.put oi.dst v) w → Q (.panic c) a w) (hy : YieldsIf P ops U oi v a) (hT : S (listed.getD st true) w)
    (h : Tp.anyP P md ops Q st S fuel (listed.setIfInBounds i true) (a.put oi.dst v) w) : Tp.anyP P md ops Q st S (fuel + 1) listed a w :=
  Tp.anyP_firstU hU his hi (Region.noSelect_spec hs) hQ fuel listed a w (Region.free_spec hi hf) (by simpa using hr) hy hT h
/-- A load (or whatever else yields wherever T holds) may be taken first. -/
theorem Tp.anyP_take {i : Nat} {oi : Oper} {v : Value} {fuel : Nat} {listed : Array Bool} {a : Act} {w : World} (hi : ops[i]? = some oi)
    (hs : Region.noSelect ops = true) (hf : Region.free md ops listed i = true) (hr : (Region.ready md ops listed).contains i = true) (hst : ∃ os, ops[st]? = some os ∧ ∃ e ∈ os.after, Region.binds md e = true ∧ e.on = i)
    (hQ : ∀ c a w, Q (.panic c) (a.put oi.dst v) w → Q (.panic c) a w) (hy : YieldsIf P ops (S false) oi v a) (hT : S false w) (hl : listed.getD st true = false)
    (h : Tp.anyP P md ops Q st S fuel (listed.setIfInBounds i true) (a.put oi.dst v) w) : Tp.anyP P md ops Q st S (fuel + 1) listed a w :=
  Tp.anyP_first hi (Region.noSelect_spec hs) hQ hst fuel listed a w (Region.free_spec hi hf) (by simpa using hr) hy hT hl h
theorem waits_one {os : Oper} {i : Nat} (h : (os.after.any fun e => Region.binds md e && e.on == i) = true) : ∃ e ∈ os.after, Region.binds md e = true ∧ e.on = i := by
  rw [Array.any_eq_true'] at h
  obtain ⟨e, he, h2⟩ := h
  simp only [Bool.and_eq_true, beq_iff_eq] at h2
  exact ⟨e, he, h2.1, h2.2⟩
/-- One operation alone comes next. -/
theorem Tp.anyP_one {i : Nat} {o : Oper} {fuel : Nat} {listed : Array Bool} {a : Act} {w : World} (hr : Region.ready md ops listed = [i]) (ho : ops[i]? = some o)
    (h : ∀ K : Act → World → Prop, Shut (∀ a w, S ((listed.setIfInBounds i true).getD st true) w → Tp.anyP P md ops Q st S fuel (listed.setIfInBounds i true) a w → K a w) → if Region.wanted o (yielded ops a.tmps) = true then Oper.wp P o a w K Q else K (a.put o.dst undef) w) :
    Tp.anyP P md ops Q st S (fuel + 1) listed a w :=
  ⟨fun h0 => (by rw [hr] at h0; cases h0), fun j hj => by
    rw [hr] at hj
    obtain rfl : j = i := by simpa using hj
    exact wpOp_step ho (fun K' hK => h K' (fun a w h1 h2 => hK a w ⟨h1, h2⟩))⟩
/-- One of two operations comes next. -/
theorem Tp.anyP_two {i j : Nat} {oi oj : Oper} {fuel : Nat} {listed : Array Bool} {a : Act} {w : World} (hr : Region.ready md ops listed = [i, j]) (hoi : ops[i]? = some oi) (hoj : ops[j]? = some oj)
    (h : ∀ K : Act → World → Prop, Shut (∀ a w, S ((listed.setIfInBounds i true).getD st true) w → Tp.anyP P md ops Q st S fuel (listed.setIfInBounds i true) a w → K a w) → if Region.wanted oi (yielded ops a.tmps) = true then Oper.wp P oi a w K Q else K (a.put oi.dst undef) w)
    (h2 : ∀ K : Act → World → Prop, Shut (∀ a w, S ((listed.setIfInBounds j true).getD st true) w → Tp.anyP P md ops Q st S fuel (listed.setIfInBounds j true) a w → K a w) → if Region.wanted oj (yielded ops a.tmps) = true then Oper.wp P oj a w K Q else K (a.put oj.dst undef) w) :
    Tp.anyP P md ops Q st S (fuel + 1) listed a w :=
  ⟨fun h0 => (by rw [hr] at h0; cases h0), fun k hk => by
    rw [hr] at hk
    simp only [List.mem_cons, List.not_mem_nil, or_false] at hk
    rcases hk with rfl | rfl
    · exact wpOp_step hoi (fun K' hK => h K' (fun a w h1 h2 => hK a w ⟨h1, h2⟩))
    · exact wpOp_step hoj (fun K' hK => h2 K' (fun a w h1 h2 => hK a w ⟨h1, h2⟩))⟩
theorem Tp.region_phase {id : Nat} {a : Act} {w : World} (st : Nat) (S : Bool → World → Prop) (hm : P.follows .mixedOrders = true) (h : Tp.anyP P .any ops Q st S ops.size (Array.replicate ops.size false) a w.drew) : (Code.region id ops true).wp P Q a w :=
  wp_region_any hm (Tp.anyP_any _ _ _ _ h)
end
end Go.Proofs.YtimkmokomohgjaaGreat
namespace Go.Proofs.YtimkmokomohgjaaGreat
open Go.RowKit
set_option maxRecDepth 100000
set_option linter.unusedVariables false
section
variable {P : Program} {ops : Array Oper} {Q : Exit → Act → World → Prop} {md : Region.Mode} {S : World → Prop} {n : Nat}
theorem Tp.yieldW {i : Nat} {o : Oper} {v : Value} {a : Act} (hi : ops[i]? = some o) (hy : YieldsIf P ops S o v a) {K : Act → World → Prop} {w : World} (hS : S w) (h : K (a.put o.dst v) w) : wpOpIn Fence.wide n P ops Q i K a w := by
  unfold wpOpIn
  simp only [hi]
  rcases hy with ⟨hw, hv⟩ | ⟨hw, rfl⟩
  · simp only [hw, if_true]
    refine ⟨fun _ _ => trivial, ?_⟩
    rw [show Fence.wide.round = none from rfl, Oper.semAt_none, hv w hS]
    exact h
  · simp only [hw, Bool.false_eq_true, if_false]
    exact ⟨fun _ _ => trivial, h⟩
theorem Tp.putW {j : Nat} {oi oj : Oper} {v : Value} (hj : ops[j]? = some oj) (hap : oi.apart ops oj = true)
    (hsi : ∀ cs b, oi.op ≠ .select cs b) (hsj : ∀ cs b, oj.op ≠ .select cs b)
    (hQ : ∀ c a w, Q (.panic c) (a.put oi.dst v) w → Q (.panic c) a w) {K : Act → World → Prop} {a : Act} {w : World}
    (hy : YieldsIf P ops S oi v a) (h : wpOpIn Fence.wide n P ops Q j K (a.put oi.dst v) w) :
    wpOpIn Fence.wide n P ops Q j (fun a' w' => YieldsIf P ops S oi v a' ∧ K (a'.put oi.dst v) w') a w := by
  obtain ⟨h1, h2, h3⟩ := Oper.apart_spec hap
  have keep : ∀ (a : Act), YieldsIf P ops S oi v a → ∀ u, YieldsIf P ops S oi v (a.put oj.dst u) := fun a hy u =>
    hy.of_same (execOp_put oi hsi a oj.dst u h3) (wanted_put oi a oj.dst u h3)
  have keepD : ∀ d, YieldsIf P ops S oi v { a with defers := d :: a.defers } := fun d => hy.of_same rfl rfl
  unfold wpOpIn at *
  simp only [hj] at *
  rw [wanted_put oj a oi.dst v h1] at h
  split
  · rename_i hw
    simp only [hw, if_true] at h
    refine ⟨fun _ _ => trivial, ?_⟩
    have h := h.2
    rw [show Fence.wide.round = none from rfl, Oper.semAt_none] at h ⊢
    rw [execOp_put oj hsj a oi.dst v h1] at h
    generalize (execOp a.eval oj).run P w = r at *
    cases r with
    | ok x w' =>
      cases x <;> simp only [Oper.uponIn] at h ⊢
      case value u => exact ⟨keep a hy u, by rw [← Act.put_comm a v u h2]; exact h⟩
      case skip => exact ⟨keep a hy _, by rw [← Act.put_comm a v undef h2]; exact h⟩
      case defer d =>
        refine ⟨keep _ (keepD d) _, ?_⟩
        rw [← Act.put_comm _ v undef h2, ← Act.put_defers]
        exact h
      case enter f args =>
        refine ⟨h.1, CallsIn.mono h.2 fun e w'' he => ?_⟩
        cases e with
        | returned u => exact ⟨keep a hy u, by rw [← Act.put_comm a v u h2]; exact he⟩
        | panicked c => exact hQ _ _ _ he
        | outgrown => exact he
      case row row args => exact ⟨h.1, RowsIn.mono h.2 fun u w'' he => ⟨keep a hy u, by rw [← Act.put_comm a v u h2]; exact he⟩⟩
      case round l f tmps assign body =>
        refine ⟨h.1, RoundIn.mono h.2 fun e w'' he => ?_⟩
        cases e with
        | returned u => exact ⟨keep a hy u, by rw [← Act.put_comm a v u h2]; exact he⟩
        | panicked c => exact hQ _ _ _ he
        | outgrown => exact he
    | halt x w' =>
      cases x <;> simp only [Oper.uponIn] at h ⊢
      case panic u => exact hQ _ _ _ h
  · rename_i hw
    simp only [hw] at h
    exact ⟨fun _ _ => trivial, keep a hy _, by rw [← Act.put_comm a v undef h2]; exact h.2⟩
/-- Whatever order is picked from here on; S holds behind each operation. -/
def Tp.anyW (n : Nat) (P : Program) (md : Region.Mode) (ops : Array Oper) (Q : Exit → Act → World → Prop) (S : World → Prop) : Nat → Array Bool → Act → World → Prop
  | 0, listed, a, w => Region.ready md ops listed = [] ∧ Q .normal a w
  | fuel + 1, listed, a, w =>
    (Region.ready md ops listed = [] → Q .normal a w) ∧
    ∀ i ∈ Region.ready md ops listed, wpOpIn Fence.wide n P ops Q i (fun a' w' => S w' ∧ Tp.anyW n P md ops Q S fuel (listed.setIfInBounds i true) a' w') a w
theorem Tp.anyW_any : ∀ (fuel : Nat) (listed : Array Bool) (a : Act) (w : World), Tp.anyW n P md ops Q S fuel listed a w → wpAnyIn Fence.wide n P md ops Q fuel listed a w
  | 0, _, _, _, h => h
  | fuel + 1, _, _, _, h => ⟨h.1, fun i hi => wpOpIn_mono (fun a' w' h' => Tp.anyW_any fuel _ a' w' h'.2) (h.2 i hi)⟩
theorem Tp.anyW_first {i : Nat} {oi : Oper} {v : Value} (hi : ops[i]? = some oi) (hsel : ∀ (j : Nat) (o : Oper) cs b, ops[j]? = some o → o.op ≠ .select cs b)
    (hQ : ∀ c a w, Q (.panic c) (a.put oi.dst v) w → Q (.panic c) a w) :
    ∀ (fuel : Nat) (listed : Array Bool) (a : Act) (w : World),
      (∀ j oj, ops[j]? = some oj → j ≠ i → listed.getD j true = false → (∀ e ∈ oj.after, Region.binds md e = true → e.on ≠ i) → oi.apart ops oj = true) →
      i ∈ Region.ready md ops listed → YieldsIf P ops S oi v a → S w →
      Tp.anyW n P md ops Q S fuel (listed.setIfInBounds i true) (a.put oi.dst v) w → Tp.anyW n P md ops Q S (fuel + 1) listed a w := by
  intro fuel
  induction fuel with
  | zero =>
    intro listed a w _ hr hy hS H
    refine ⟨fun h => (by rw [h] at hr; cases hr), fun j hj => ?_⟩
    by_cases hji : j = i
    · subst hji; exact Tp.yieldW hi hy hS ⟨hS, H⟩
    · have := ready_mono hj hji
      rw [H.1] at this
      cases this
  | succ fuel ih =>
    intro listed a w hfree hr hy hS H
    refine ⟨fun h => (by rw [h] at hr; cases hr), fun j hj => ?_⟩
    by_cases hji : j = i
    · subst hji; exact Tp.yieldW hi hy hS ⟨hS, H⟩
    · have h1 := H.2 j (ready_mono hj hji)
      obtain ⟨hjun, oj, hoj, hall⟩ := mem_ready.1 hj
      have hnot : ∀ e ∈ oj.after, Region.binds md e = true → e.on ≠ i := fun e he hb heq => by
        have h1 := hall e he hb
        have h0 := (mem_ready.1 hr).1
        rw [heq] at h1
        rcases Nat.lt_or_ge i listed.size with h' | h'
        · simp [h'] at h0 h1; rw [h0] at h1; cases h1
        · simp [Array.getElem?_eq_none h'] at h1
      have h2 := Tp.putW hoj (hfree j oj hoj hji hjun hnot) (fun cs b => hsel i oi cs b hi) (fun cs b => hsel j oj cs b hoj) hQ hy h1
      have hfree' : ∀ k ok, ops[k]? = some ok → k ≠ i → (listed.setIfInBounds j true).getD k true = false →
          (∀ e ∈ ok.after, Region.binds md e = true → e.on ≠ i) → oi.apart ops ok = true := fun k ok hk hki hun hno => by
        refine hfree k ok hk hki ?_ hno
        by_cases hjk : j = k
        · subst hjk; exact hjun
        · rw [getD_set_ne true hjk] at hun; exact hun
      refine wpOpIn_mono (fun a' w' h3 => ⟨h3.2.1, ih (listed.setIfInBounds j true) a' w' hfree' (ready_mono hr (Ne.symm hji)) h3.1 h3.2.1 ?_⟩) h2
      rw [Array.setIfInBounds_comm _ _ hji]
      exact h3.2.2
theorem Tp.anyW_take {i : Nat} {oi : Oper} {v : Value} {fuel : Nat} {listed : Array Bool} {a : Act} {w : World} (hi : ops[i]? = some oi)
    (hs : Region.noSelect ops = true) (hf : Region.free md ops listed i = true) (hr : (Region.ready md ops listed).contains i = true)
    (hQ : ∀ c a w, Q (.panic c) (a.put oi.dst v) w → Q (.panic c) a w) (hy : YieldsIf P ops S oi v a) (hS : S w)
    (h : Tp.anyW n P md ops Q S fuel (listed.setIfInBounds i true) (a.put oi.dst v) w) : Tp.anyW n P md ops Q S (fuel + 1) listed a w :=
  Tp.anyW_first hi (Region.noSelect_spec hs) hQ fuel listed a w (Region.free_spec hi hf) (by simpa using hr) hy hS h
/-- One operation alone comes next. -/
theorem Tp.anyW_one {i : Nat} {o : Oper} {fuel : Nat} {listed : Array Bool} {a : Act} {w : World} (hr : Region.ready md ops listed = [i]) (ho : ops[i]? = some o)
    (h : ∀ K : Act → World → Prop, Shut (∀ a w, S w → Tp.anyW n P md ops Q S fuel (listed.setIfInBounds i true) a w → K a w) → (if Region.wanted o (yielded ops a.tmps) then o.wpIn Fence.wide n P a w K Q else (∀ f, o.about P w a.eval = some f → Fence.wide.fn f) ∧ K (a.put o.dst undef) w)) :
    Tp.anyW n P md ops Q S (fuel + 1) listed a w :=
  ⟨fun h0 => (by rw [hr] at h0; cases h0), fun j hj => by
    rw [hr] at hj
    obtain rfl : j = i := by simpa using hj
    unfold wpOpIn
    rw [ho]
    exact h _ (fun a w h1 h2 => ⟨h1, h2⟩)⟩
theorem Tp.region_wide {id : Nat} {a : Act} {w : World} (S : World → Prop) (hm : P.follows .mixedOrders = true) (h : Tp.anyW n P .any ops Q S ops.size (Array.replicate ops.size false) a w.drew) : (Code.region id ops true).wpIn Fence.wide n P Q a w :=
  wpIn_region_any hm (Tp.anyW_any _ _ _ _ h)
end
end Go.Proofs.YtimkmokomohgjaaGreat
namespace Go.Proofs.YtimkmokomohgjaaGreat
open Go.RowKit
open Sp (rd)
set_option maxRecDepth 100000
set_option maxHeartbeats 2000000
set_option linter.unusedVariables false
theorem sh_path_any (A : Option Addr) (n c : Nat) (arbor : Int) (w : World) :
    Calls Tryz.prog 127 #[.slice A n c, .int .i64 arbor] w fun e w' => ∃ g h, e = .returned (.func (.func 178) #[] #[.pointer (some ⟨g, 0, none⟩), .pointer (some ⟨h, 0, none⟩)]) ∧ w.heap.size ≤ g ∧ g < h ∧ Row w' g 47 #[.slice A n c] ∧ Row w' h 3 #[.int .i64 arbor] ∧ Ext w w' := by
  go_enter Tryz.func127, Tryz.ntmps127
  go_wp2_with fail
  have r := blocks2 w (.cells #[.slice A n c] 47) (.cells #[.int .i64 arbor] 3)
  go_ret
  exact ⟨_, _, rfl, Nat.le_refl _, Nat.lt_succ_self _, r.1, r.2, ((Ext.refl w).alloc _).alloc _⟩
theorem t_products_any (a b p s : Int) (V T : Value) (n : Int) (w : World) :
    Calls Tryz.prog 150 #[.agg #[.int .i64 a, .int .i64 b, .int .i64 p, .int .i64 s, V, T], .int .i64 n] w fun e w' => ∃ g h, e = .returned (.func (.func 187) #[] #[.pointer (some ⟨g, 0, none⟩), .pointer (some ⟨h, 0, none⟩)]) ∧ w.heap.size ≤ g ∧ g < h ∧ Row w' g 161 #[.int .i64 a, .int .i64 b, .int .i64 p, .int .i64 s, V, T] ∧ Row w' h 3 #[.int .i64 n] ∧ Ext w w' := by
  go_enter Tryz.func150, Tryz.ntmps150
  go_wp2_with fail
  have r := blocks2 w (.cells #[.int .i64 a, .int .i64 b, .int .i64 p, .int .i64 s, V, T] 161) (.cells #[.int .i64 n] 3)
  go_ret
  exact ⟨_, _, rfl, Nat.le_refl _, Nat.lt_succ_self _, r.1, r.2, ((Ext.refl w).alloc _).alloc _⟩
theorem sh_badHand_any (x : Int) (g : Nat) (A : Option Addr) (n c : Nat) (V : Value) (w : World) (hr : Row w g 50 #[.slice A n c, V]) :
    Calls Tryz.prog 124 #[.int .i64 x, .pointer (some ⟨g, 0, none⟩)] w fun e w' => e = .returned (.bool (!Sp.inR x 1 (n : Int))) ∧ w = w' := by
  have HI := Lib.hid (fun W => sh_in_any x 1 (n : Int) W)
  have a0 := hr.cell
  clear hr
  obtain ⟨v, hv⟩ : ∃ v, Sp.inR x 1 (n : Int) = v := ⟨_, rfl⟩
  rw [hv] at HI ⊢
  clear hv
  go_enter Tryz.func124, Tryz.ntmps124
  go_wp2_with fail
  refine (HI.out _).mono ?_
  rintro e w1 ⟨rfl, rfl⟩
  dsimp only
  go_wp2_with fail
  go_ret
  exact ⟨rfl, rfl⟩
end Go.Proofs.YtimkmokomohgjaaGreat
namespace Go.Proofs.YtimkmokomohgjaaGreat
open Go.RowKit Go.Shelf
open Sp (rd)
attribute [local go_sem] Oper.semAt_some
set_option maxRecDepth 100000
set_option maxHeartbeats 4000000
set_option linter.unusedVariables false
set_option linter.unusedSimpArgs false
/-- The links to an arbor, from the crank's on. -/
def Tp.pathF (fr : Nat → Nat) : Nat → Nat → List Nat
  | 0, _ => []
  | k + 1, a => if a = 0 then [] else Tp.pathF fr k (fr (a - 1)) ++ [a - 1]
theorem Tp.pathF_fuel {fr : Nat → Nat} (hf : ∀ i, fr i ≤ i) : ∀ (k k' a : Nat), a ≤ k → a ≤ k' → Tp.pathF fr k a = Tp.pathF fr k' a := by
  intro k
  induction k with
  | zero =>
    intro k' a h h'
    obtain rfl : a = 0 := by omega
    cases k' <;> simp [Tp.pathF]
  | succ k ih =>
    intro k' a h h'
    cases k' with
    | zero =>
      obtain rfl : a = 0 := by omega
      simp [Tp.pathF]
    | succ k' =>
      rw [Tp.pathF, Tp.pathF]
      split
      · rfl
      · have := hf (a - 1)
        rw [ih k' (fr (a - 1)) (by omega) (by omega)]
def Tp.path (fr : Nat → Nat) (a : Nat) : List Nat := Tp.pathF fr a a
theorem Tp.path_succ {fr : Nat → Nat} (hf : ∀ i, fr i ≤ i) (a : Nat) : Tp.path fr (a + 1) = Tp.path fr (fr a) ++ [a] := by
  unfold Tp.path
  rw [Tp.pathF, if_neg (by omega)]
  simp only [Nat.add_sub_cancel]
  rw [Tp.pathF_fuel hf a (fr a) (fr a) (hf a) (Nat.le_refl _)]
/-- Where a link's arbor hangs. -/
def Tp.frm (links : List (Int × Ec.Pair)) (i : Nat) : Nat := (links.getD i (0, Ec.noPair)).1.toNat
/-- Each link comes from an arbor that is there already. -/
def Tp.LinksOk (links : List (Int × Ec.Pair)) : Prop := ∀ i, 0 ≤ (links.getD i (0, Ec.noPair)).1 ∧ (links.getD i (0, Ec.noPair)).1 ≤ (i : Int)
theorem Tp.LinksOk.frm {links : List (Int × Ec.Pair)} (h : Tp.LinksOk links) (i : Nat) : Tp.frm links i ≤ i ∧ (links.getD i (0, Ec.noPair)).1 = (Tp.frm links i : Int) := by
  have := h i
  unfold Tp.frm
  omega
abbrev Tp.Idx (n : Nat) := { i : Nat // i < n }
theorem sh_path2_any (x y : TypeId) (hxy : (86 ≠ x ∧ 86 ≠ y) ∧ (47 ≠ x ∧ 47 ≠ y)) (l : Nat) (gw gl gy : Nat) (A : Option Addr) (c : Nat) (links : List (Int × Ec.Pair)) (N : Nat) (J : List (Tp.Idx links.length) → World → Prop) (w0 : World) (hm : Tp.Links w0 A links) (hok : Tp.LinksOk links) (hl : links.length ≤ 1000)
    (hJ : ∀ s A B, J s A → Ext A B → J s B)
    (hY : ∀ m pre x' A, J pre A → pre.length < N → YieldAt Fence.wide m Tryz.prog l #[.int .i64 (x'.1 : Int)] A fun r B => r = .returned (.bool true) ∧ J (pre ++ [x']) B ∧ Tp.KP w0.heap.size x y A B) :
    ∀ (k a n : Nat) (pre : List (Tp.Idx links.length)) (W : World), a ≤ k → a ≤ links.length → pre.length + (Tp.path (Tp.frm links) a).length ≤ N → Ext w0 W →
      Row W gw 86 #[.func (.func 179) #[] #[.pointer (some ⟨gw, 0, none⟩), .pointer (some ⟨gl, 0, none⟩), .pointer (some ⟨gy, 0, none⟩)]] → Row W gl 47 #[.slice A links.length c] → Row W gy 86 #[.func (.yield l) #[] #[]] → J pre W →
      CallsIn Fence.wide n Tryz.prog 179 #[.int .i64 (a : Int), .pointer (some ⟨gw, 0, none⟩), .pointer (some ⟨gl, 0, none⟩), .pointer (some ⟨gy, 0, none⟩)] W fun e W' => e = .returned (.bool true) ∧ (∃ q : List (Tp.Idx links.length), q.map Subtype.val = Tp.path (Tp.frm links) a ∧ J (pre ++ q) W') ∧ Tp.KP w0.heap.size x y W W' := by
  intro k
  have HM := Lib.hid hm
  have HOK := Lib.hid hok
  have HJ := Lib.hid hJ
  have HY := Lib.hid hY
  have hfr := fun i => (hok.frm i).1
  have HPS := Lib.hid (fun a => Tp.path_succ hfr a)
  clear hm hok hJ hY hfr
  induction k with
  | zero =>
    intro a n pre W ha hal hN hE hw hlb hy hJ0
    obtain rfl : a = 0 := by omega
    have h0 : (((0 : Nat) : Int) == 0) = true := rfl
    refine callsIn_of_wp Tryz.func179 rfl trivial ?_ rfl
    simp only [Tryz.ntmps179, List.size_toArray, List.length_cons, List.length_nil, Nat.reduceAdd, Nat.reduceSub, Array.replicate_succ, Array.replicate_zero, List.push_toArray, List.append_toArray, List.nil_append, List.cons_append]
    clear hw hlb hy hE
    gi_wp2
    go_ret
    exact ⟨rfl, ⟨[], rfl, by simpa using hJ0⟩, Tp.KP.refl _ _ _ _⟩
  | succ k ih =>
    intro a n pre W ha hal hN hE hw hlb hy hJ0
    rcases Nat.eq_zero_or_pos a with rfl | hpos
    · exact ih 0 n pre W (by omega) (by omega) hN hE hw hlb hy hJ0
    · obtain ⟨b, rfl⟩ : ∃ b, a = b + 1 := ⟨a - 1, by omega⟩
      obtain ⟨ari, hari⟩ : ∃ ari : Int, ((b + 1 : Nat) : Int) = ari := ⟨_, rfl⟩
      have h0 : (ari == 0) = false := by rw [beq_eq_false_iff_ne]; omega
      have h1 : ari - 1 = (b : Int) := by omega
      have h2 : 1 ≤ ari ∧ ari ≤ 1000 := by omega
      have hbl : (b : Int) < (links.length : Int) := by omega
      have hbn : b < links.length := by omega
      obtain ⟨bb, o, rfl, hc⟩ := HM.out (by omega)
      have hcl := (hc b (by omega)).1
      have hfb := HOK.out.frm b
      rw [hfb.2] at hcl
      have hpb := HPS.out b
      obtain ⟨f, hf⟩ : ∃ f, Tp.frm links b = f := ⟨_, rfl⟩
      rw [hf] at hcl hfb hpb
      have HCL := Lib.hid hcl
      have cl := hE.cell hcl
      have HIH := Lib.hid (ih f (n - 1) pre W.drew (by omega) (by omega) (by rw [hpb, List.length_append] at hN; omega) hE.drew (hw.ext (Ext.refl W).drew) (hlb.ext (Ext.refl W).drew) (hy.ext (Ext.refl W).drew) (HJ.out _ _ _ hJ0 (Ext.refl W).drew))
      have HPB := Lib.hid hpb
      have HN := Lib.hid hN
      have HW := Lib.hid hw
      have HL := Lib.hid hlb
      have HYB := Lib.hid hy
      have HE := Lib.hid hE
      have c1 := hw.cell 0
      have c2 := hlb.cell 0
      have c3 := hy.cell 0
      have hS0 : W.drew.cell? ⟨gw, 0, none⟩ = some (.func (.func 179) #[] #[.pointer (some ⟨gw, 0, none⟩), .pointer (some ⟨gl, 0, none⟩), .pointer (some ⟨gy, 0, none⟩)]) ∧ W.drew.cell? ⟨gl, 0, none⟩ = some (.slice (some ⟨bb, o, none⟩) links.length c) ∧ W.drew.cell? ⟨bb, o + b * 3, none⟩ = some (.int .i64 (f : Int)) ∧ W.drew.cell? ⟨gy, 0, none⟩ = some (.func (.yield l) #[] #[]) := ⟨c1, c2, cl, c3⟩
      clear hc hf hpb hN hw hlb hy hE ih hfb hcl
      refine callsIn_of_wp Tryz.func179 rfl trivial ?_ rfl
      rw [hari]
      simp only [Tryz.ntmps179, List.size_toArray, List.length_cons, List.length_nil, Nat.reduceAdd, Nat.reduceSub, Array.replicate_succ, Array.replicate_zero, List.push_toArray, List.append_toArray, List.nil_append, List.cons_append]
      gi_wp2
      clear c1 c2 c3
      refine Tp.region_wide (fun w' => w'.cell? ⟨gw, 0, none⟩ = some (.func (.func 179) #[] #[.pointer (some ⟨gw, 0, none⟩), .pointer (some ⟨gl, 0, none⟩), .pointer (some ⟨gy, 0, none⟩)]) ∧ w'.cell? ⟨gl, 0, none⟩ = some (.slice (some ⟨bb, o, none⟩) links.length c) ∧ w'.cell? ⟨bb, o + b * 3, none⟩ = some (.int .i64 (f : Int)) ∧ w'.cell? ⟨gy, 0, none⟩ = some (.func (.yield l) #[] #[])) (by kernel_rfl) ?_
      refine Tp.anyW_take (i := 0) (v := (.func (.func 179) #[] #[.pointer (some ⟨gw, 0, none⟩), .pointer (some ⟨gl, 0, none⟩), .pointer (some ⟨gy, 0, none⟩)])) rfl (by kernel_rfl) (by kernel_rfl) (by kernel_rfl) (fun _ _ _ h => h) (Or.inl ⟨by rfl, fun w hw => ?_⟩) hS0 ?_
      · obtain ⟨e1, e2, e3, e4⟩ := hw
        go_simp
        all_goals (first | (rw [IntKind.wrap_i64]; omega) | rfl)
      try simp only [Act.put, List.getElem_toArray, List.getElem_cons_succ, List.getElem_cons_zero, List.setIfInBounds_toArray, List.set_cons_zero, List.set_cons_succ]
      refine Tp.anyW_take (i := 1) (v := (.slice (some ⟨bb, o, none⟩) links.length c)) rfl (by kernel_rfl) (by kernel_rfl) (by kernel_rfl) (fun _ _ _ h => h) (Or.inl ⟨by rfl, fun w hw => ?_⟩) hS0 ?_
      · obtain ⟨e1, e2, e3, e4⟩ := hw
        go_simp
        all_goals (first | (rw [IntKind.wrap_i64]; omega) | rfl)
      try simp only [Act.put, List.getElem_toArray, List.getElem_cons_succ, List.getElem_cons_zero, List.setIfInBounds_toArray, List.set_cons_zero, List.set_cons_succ]
      refine Tp.anyW_take (i := 2) (v := (.int .i64 ari)) rfl (by kernel_rfl) (by kernel_rfl) (by kernel_rfl) (fun _ _ _ h => h) (Or.inl ⟨by rfl, fun w hw => ?_⟩) hS0 ?_
      · obtain ⟨e1, e2, e3, e4⟩ := hw
        go_simp
        all_goals (first | (rw [IntKind.wrap_i64]; omega) | rfl)
      try simp only [Act.put, List.getElem_toArray, List.getElem_cons_succ, List.getElem_cons_zero, List.setIfInBounds_toArray, List.set_cons_zero, List.set_cons_succ]
      refine Tp.anyW_take (i := 3) (v := (.int .i64 (b : Int))) rfl (by kernel_rfl) (by kernel_rfl) (by kernel_rfl) (fun _ _ _ h => h) (Or.inl ⟨by rfl, fun w hw => ?_⟩) hS0 ?_
      · obtain ⟨e1, e2, e3, e4⟩ := hw
        go_simp
        all_goals (first | (rw [IntKind.wrap_i64]; omega) | rfl)
      try simp only [Act.put, List.getElem_toArray, List.getElem_cons_succ, List.getElem_cons_zero, List.setIfInBounds_toArray, List.set_cons_zero, List.set_cons_succ]
      refine Tp.anyW_take (i := 4) (v := (.pointer (some ⟨bb, o + b * 3, none⟩))) rfl (by kernel_rfl) (by kernel_rfl) (by kernel_rfl) (fun _ _ _ h => h) (Or.inl ⟨by rfl, fun w hw => ?_⟩) hS0 ?_
      · obtain ⟨e1, e2, e3, e4⟩ := hw
        go_simp
        all_goals (first | (rw [IntKind.wrap_i64]; omega) | rfl)
      try simp only [Act.put, List.getElem_toArray, List.getElem_cons_succ, List.getElem_cons_zero, List.setIfInBounds_toArray, List.set_cons_zero, List.set_cons_succ]
      refine Tp.anyW_take (i := 5) (v := (.pointer (some ⟨bb, o + b * 3, none⟩))) rfl (by kernel_rfl) (by kernel_rfl) (by kernel_rfl) (fun _ _ _ h => h) (Or.inl ⟨by rfl, fun w hw => ?_⟩) hS0 ?_
      · obtain ⟨e1, e2, e3, e4⟩ := hw
        go_simp
        all_goals (first | (rw [IntKind.wrap_i64]; omega) | rfl)
      try simp only [Act.put, List.getElem_toArray, List.getElem_cons_succ, List.getElem_cons_zero, List.setIfInBounds_toArray, List.set_cons_zero, List.set_cons_succ]
      refine Tp.anyW_take (i := 6) (v := (.int .i64 (f : Int))) rfl (by kernel_rfl) (by kernel_rfl) (by kernel_rfl) (fun _ _ _ h => h) (Or.inl ⟨by rfl, fun w hw => ?_⟩) hS0 ?_
      · obtain ⟨e1, e2, e3, e4⟩ := hw
        go_simp
        all_goals (first | (rw [IntKind.wrap_i64]; omega) | rfl)
      try simp only [Act.put, List.getElem_toArray, List.getElem_cons_succ, List.getElem_cons_zero, List.setIfInBounds_toArray, List.set_cons_zero, List.set_cons_succ]
      refine Tp.anyW_one (i := 7) (by kernel_rfl) rfl (fun K hK => ?_)
      rw [if_pos (by rfl)]
      gi_wp2
      refine ⟨trivial, fun hh => by simp [Fence.wide] at hh, HIH.out.mono ?_⟩
      rintro e W1 ⟨rfl, ⟨q, hq, hJ1⟩, hk1⟩
      have hz1 : w0.heap.size ≤ W.heap.size := HE.out.size
      have hE1 : Ext w0 W1 := hk1.ext (Nat.le_refl _) HE.out.drew
      have rw1 := hk1.2 _ _ _ hxy.1.1 hxy.1.2 (HW.out.ext (Ext.refl W).drew)
      have rl1 := hk1.2 _ _ _ hxy.2.1 hxy.2.2 (HL.out.ext (Ext.refl W).drew)
      have ry1 := hk1.2 _ _ _ hxy.1.1 hxy.1.2 (HYB.out.ext (Ext.refl W).drew)
      have hS1 : W1.cell? ⟨gw, 0, none⟩ = some (.func (.func 179) #[] #[.pointer (some ⟨gw, 0, none⟩), .pointer (some ⟨gl, 0, none⟩), .pointer (some ⟨gy, 0, none⟩)]) ∧ W1.cell? ⟨gl, 0, none⟩ = some (.slice (some ⟨bb, o, none⟩) links.length c) ∧ W1.cell? ⟨bb, o + b * 3, none⟩ = some (.int .i64 (f : Int)) ∧ W1.cell? ⟨gy, 0, none⟩ = some (.func (.yield l) #[] #[]) := ⟨rw1.cell 0, rl1.cell 0, hE1.cell HCL.out, ry1.cell 0⟩
      obtain ⟨fn, tmps, assign, body, hyv, hR⟩ := HY.out (n - 1) (pre ++ q) ⟨b, hbn⟩ W1 hJ1 (by
        have h9 := HN.out
        have h8 : q.length = (Tp.path (Tp.frm links) f).length := by rw [← hq, List.length_map]
        rw [HPB.out, List.length_append] at h9
        simp only [List.length_cons, List.length_nil] at h9
        rw [List.length_append]
        omega)
      dsimp only at hyv
      have HR := Lib.hid hR
      have HQ := Lib.hid hq
      have HK1 := Lib.hid hk1
      refine hK.out _ _ hS1 ?_
      clear hK K hR hq hJ1 hk1 rw1 rl1 ry1
      try simp only [Act.put, List.getElem_toArray, List.getElem_cons_succ, List.getElem_cons_zero, List.setIfInBounds_toArray, List.set_cons_zero, List.set_cons_succ]
      refine Tp.anyW_take (i := 8) (v := (.bool true)) rfl (by kernel_rfl) (by kernel_rfl) (by kernel_rfl) (fun _ _ _ h => h) (Or.inl ⟨by rfl, fun w hw => ?_⟩) hS1 ?_
      · obtain ⟨e1, e2, e3, e4⟩ := hw
        go_simp
        all_goals (first | (rw [IntKind.wrap_i64]; omega) | rfl)
      try simp only [Act.put, List.getElem_toArray, List.getElem_cons_succ, List.getElem_cons_zero, List.setIfInBounds_toArray, List.set_cons_zero, List.set_cons_succ]
      refine Tp.anyW_take (i := 9) (v := (.func (.yield l) #[] #[])) rfl (by kernel_rfl) (by kernel_rfl) (by kernel_rfl) (fun _ _ _ h => h) (Or.inl ⟨by rfl, fun w hw => ?_⟩) hS1 ?_
      · obtain ⟨e1, e2, e3, e4⟩ := hw
        go_simp
        all_goals (first | (rw [IntKind.wrap_i64]; omega) | rfl)
      try simp only [Act.put, List.getElem_toArray, List.getElem_cons_succ, List.getElem_cons_zero, List.setIfInBounds_toArray, List.set_cons_zero, List.set_cons_succ]
      refine Tp.anyW_take (i := 10) (v := (.int .i64 ari)) rfl (by kernel_rfl) (by kernel_rfl) (by kernel_rfl) (fun _ _ _ h => h) (Or.inl ⟨by rfl, fun w hw => ?_⟩) hS1 ?_
      · obtain ⟨e1, e2, e3, e4⟩ := hw
        go_simp
        all_goals (first | (rw [IntKind.wrap_i64]; omega) | rfl)
      try simp only [Act.put, List.getElem_toArray, List.getElem_cons_succ, List.getElem_cons_zero, List.setIfInBounds_toArray, List.set_cons_zero, List.set_cons_succ]
      refine Tp.anyW_take (i := 11) (v := (.int .i64 (b : Int))) rfl (by kernel_rfl) (by kernel_rfl) (by kernel_rfl) (fun _ _ _ h => h) (Or.inl ⟨by rfl, fun w hw => ?_⟩) hS1 ?_
      · obtain ⟨e1, e2, e3, e4⟩ := hw
        go_simp
        all_goals (first | (rw [IntKind.wrap_i64]; omega) | rfl)
      try simp only [Act.put, List.getElem_toArray, List.getElem_cons_succ, List.getElem_cons_zero, List.setIfInBounds_toArray, List.set_cons_zero, List.set_cons_succ]
      refine Tp.anyW_one (i := 12) (by kernel_rfl) rfl (fun K hK => ?_)
      rw [if_pos (by rfl)]
      gi_wp2
      refine ⟨fun hh => by simp [Fence.wide] at hh, HR.out.mono ?_⟩
      rintro e W2 ⟨rfl, hJ2, hk2⟩
      have HK2 := Lib.hid (((Tp.KP.of_ext ((Ext.refl W).drew) hz1).trans HK1.out).trans hk2)
      have hE2 : Ext w0 W2 := hk2.ext (Nat.le_refl _) hE1
      have rw2 := HK2.out.2 _ _ _ hxy.1.1 hxy.1.2 HW.out
      have rl2 := HK2.out.2 _ _ _ hxy.2.1 hxy.2.2 HL.out
      have ry2 := HK2.out.2 _ _ _ hxy.1.1 hxy.1.2 HYB.out
      have hS2 : W2.cell? ⟨gw, 0, none⟩ = some (.func (.func 179) #[] #[.pointer (some ⟨gw, 0, none⟩), .pointer (some ⟨gl, 0, none⟩), .pointer (some ⟨gy, 0, none⟩)]) ∧ W2.cell? ⟨gl, 0, none⟩ = some (.slice (some ⟨bb, o, none⟩) links.length c) ∧ W2.cell? ⟨bb, o + b * 3, none⟩ = some (.int .i64 (f : Int)) ∧ W2.cell? ⟨gy, 0, none⟩ = some (.func (.yield l) #[] #[]) := ⟨rw2.cell 0, rl2.cell 0, hE2.cell HCL.out, ry2.cell 0⟩
      have HJ2 := Lib.hid hJ2
      refine hK.out _ _ hS2 ?_
      clear hK K hJ2 hk2 rw2 rl2 ry2 hyv
      try simp only [Act.put, List.getElem_toArray, List.getElem_cons_succ, List.getElem_cons_zero, List.setIfInBounds_toArray, List.set_cons_zero, List.set_cons_succ]
      refine Tp.anyW_take (i := 13) (v := (.bool true)) rfl (by kernel_rfl) (by kernel_rfl) (by kernel_rfl) (fun _ _ _ h => h) (Or.inl ⟨by rfl, fun w hw => ?_⟩) hS2 ?_
      · obtain ⟨e1, e2, e3, e4⟩ := hw
        go_simp
        all_goals (first | (rw [IntKind.wrap_i64]; omega) | rfl)
      try simp only [Act.put, List.getElem_toArray, List.getElem_cons_succ, List.getElem_cons_zero, List.setIfInBounds_toArray, List.set_cons_zero, List.set_cons_succ]
      refine Tp.anyW_take (i := 14) (v := (.bool true)) rfl (by kernel_rfl) (by kernel_rfl) (by kernel_rfl) (fun _ _ _ h => h) (Or.inl ⟨by rfl, fun w hw => ?_⟩) hS2 ?_
      · obtain ⟨e1, e2, e3, e4⟩ := hw
        go_simp
        all_goals (first | (rw [IntKind.wrap_i64]; omega) | rfl)
      try simp only [Act.put, List.getElem_toArray, List.getElem_cons_succ, List.getElem_cons_zero, List.setIfInBounds_toArray, List.set_cons_zero, List.set_cons_succ]
      have hres : ∃ q' : List (Tp.Idx links.length), q'.map Subtype.val = Tp.path (Tp.frm links) (b + 1) ∧ J (pre ++ q') W2 := ⟨q ++ [⟨b, hbn⟩], by simp only [List.map_append, HQ.out, HPB.out, List.map_cons, List.map_nil], by rw [← List.append_assoc]; exact HJ2.out⟩
      have HRES := Lib.hid hres
      clear hres
      refine ⟨by kernel_rfl, ?_⟩
      gi_wp2
      go_ret
      exact ⟨by first | rfl | simp, HRES.out, HK2.out⟩
theorem sh_path1_any (x y : TypeId) (hxy : (86 ≠ x ∧ 86 ≠ y) ∧ (47 ≠ x ∧ 47 ≠ y)) (n l gl ga : Nat) (A : Option Addr) (c : Nat) (links : List (Int × Ec.Pair)) (a : Nat) (J : List (Tp.Idx links.length) → World → Prop) (w0 : World) (hm : Tp.Links w0 A links) (hok : Tp.LinksOk links) (hl : links.length ≤ 1000) (ha : a ≤ links.length)
    (hJ : ∀ s A B, J s A → Ext A B → J s B)
    (hY : ∀ pre x' A, J pre A → pre.length < (Tp.path (Tp.frm links) a).length → YieldAt Fence.wide (n - 1) Tryz.prog l #[.int .i64 (x'.1 : Int)] A fun r B => r = .returned (.bool true) ∧ J (pre ++ [x']) B ∧ Tp.KP w0.heap.size x y A B)
    (W : World) (hE : Ext w0 W) (hlb : Row W gl 47 #[.slice A links.length c]) (har : Row W ga 3 #[.int .i64 (a : Int)]) (h0 : J [] W) :
    CallsIn Fence.wide n Tryz.prog 178 #[.func (.yield l) #[] #[], .pointer (some ⟨gl, 0, none⟩), .pointer (some ⟨ga, 0, none⟩)] W fun e B => (∃ v, e = .returned v) ∧ ∃ xs : List (Tp.Idx links.length), xs.map Subtype.val = Tp.path (Tp.frm links) a ∧ J xs B := by
  have hmf : ∀ fn first cap w, (Instr.makeFunc fn first cap).run Tryz.prog w = .ok (.func fn first cap) w := fun _ _ _ _ => rfl
  have HS := Lib.hid (sh_path2_any x y hxy l (W.heap.size + 1) gl W.heap.size A c links (Tp.path (Tp.frm links) a).length J w0 hm hok hl hJ (fun m pre x' A h1 h2 => Tp.yieldAny rfl m (hY pre x' A h1 h2)) a a)
  have r0 := blocks2 W (.cells #[.func (.yield l) #[] #[]] 86) (.cells #[.func (.func 179) #[] #[.pointer (some ⟨W.heap.size + 1, 0, none⟩), .pointer (some ⟨gl, 0, none⟩), .pointer (some ⟨W.heap.size, 0, none⟩)]] 86)
  have HRY := Lib.hid (show Row _ _ _ _ from r0.1)
  have HRF := Lib.hid (show Row _ _ _ _ from r0.2)
  have HX0 : Hid (Ext W ((W.alloc (.cells #[.func (.yield l) #[] #[]] 86)).alloc (.cells #[.func (.func 179) #[] #[.pointer (some ⟨W.heap.size + 1, 0, none⟩), .pointer (some ⟨gl, 0, none⟩), .pointer (some ⟨W.heap.size, 0, none⟩)]] 86))) := Lib.hid (((Ext.refl W).alloc _).alloc _)
  have HJ := Lib.hid hJ
  have H0 := Lib.hid h0
  have HE := Lib.hid hE
  have HL := Lib.hid hlb
  have c0 := HRF.out.cell
  have c1 := (har.ext HX0.out).cell
  clear hm hok hJ hY h0 hE hlb har r0
  refine callsIn_of_wp Tryz.func178 rfl trivial ?_ rfl
  simp only [Tryz.ntmps178, List.size_toArray, List.length_cons, List.length_nil, Nat.reduceAdd, Nat.reduceSub, Array.replicate_succ, Array.replicate_zero, List.push_toArray, List.append_toArray, List.nil_append, List.cons_append]
  gi_wp2
  refine ⟨trivial, fun hh => by simp [Fence.wide] at hh, (HS.out (n - 1) [] _ (Nat.le_refl _) ha (by simp) (HE.out.trans HX0.out) HRF.out (HL.out.ext HX0.out) HRY.out (HJ.out _ _ _ H0.out HX0.out)).mono ?_⟩
  rintro e W' ⟨rfl, ⟨q, hq, hJ'⟩, hk'⟩
  gi_wp2
  go_end0
  exact ⟨⟨_, rfl⟩, q, hq, by simpa using hJ'⟩
theorem sh_path_seq (x y : TypeId) (hxy : (86 ≠ x ∧ 86 ≠ y) ∧ (47 ≠ x ∧ 47 ≠ y)) (n gl ga : Nat) (A : Option Addr) (c : Nat) (links : List (Int × Ec.Pair)) (a : Nat) (w0 : World) (hm : Tp.Links w0 A links) (hok : Tp.LinksOk links) (hl : links.length ≤ 1000) (ha : a ≤ links.length)
    (W : World) (hE : Ext w0 W) (hlb : Row W gl 47 #[.slice A links.length c]) (har : Row W ga 3 #[.int .i64 (a : Int)]) (W' : World) (hX : Ext W W') :
    Tp.SeqAll Fence.wide n Tryz.prog 178 #[.pointer (some ⟨gl, 0, none⟩), .pointer (some ⟨ga, 0, none⟩)] (fun x' : Tp.Idx links.length => #[.int .i64 (x'.1 : Int)]) (Tp.KP w0.heap.size x y) Ext (fun xs => xs.map Subtype.val = Tp.path (Tp.frm links) a) (Tp.path (Tp.frm links) a).length W' := fun l J hJ hY h0 =>
  sh_path1_any x y hxy n l gl ga A c links a J w0 hm hok hl ha hJ hY W' (hE.trans hX) (hlb.ext hX) (har.ext hX) h0
end Go.Proofs.YtimkmokomohgjaaGreat
namespace Go.Proofs.YtimkmokomohgjaaGreat
open Go.RowKit
open Sp (rd)
attribute [local go_sem ↓] Go.wp_at_zero Go.wp_at_succ
theorem Ints.of_own {w : World} {base : Nat} {v : Value} {α : Type} {l : List α} {f : α → Int} (h : w.ownsRow base 3 1 v l.length (l.map fun x => .int .i64 (f x))) : ∃ A c, v = .slice A l.length c ∧ Ints w A (l.map f) := by
  rcases h.2 with ⟨rfl, h0⟩ | ⟨g, cap, cur, hv, _⟩
  · refine ⟨none, 0, by rw [h0], fun hh => ?_⟩
    rw [List.length_map] at hh
    omega
  · refine ⟨some ⟨g, 0, none⟩, cap, hv, fun _ => ⟨g, 0, rfl, fun k hk => ?_⟩⟩
    rw [List.length_map] at hk
    have hc := h.cells (g := g) (by rw [hv]; rfl)
    have h1 := hc k (.int .i64 (rd (l.map f) k)) (by simp [rd, hk])
    rw [add0] at h1
    simpa using h1
theorem mapAll {α : Type} (l : List α) (f : α → Int) {lo hi : Int} (h : ∀ x ∈ l, lo ≤ f x ∧ f x ≤ hi) : ∀ j, j < (l.map f).length → lo ≤ rd (l.map f) j ∧ rd (l.map f) j ≤ hi := by
  intro j hj
  rw [List.length_map] at hj
  have := h l[j] (List.getElem_mem hj)
  simpa [rd, hj] using this
theorem news1 {W : World} {o : Obj} {b : Nat} (h : W.heap.size = b) : (W.alloc o).heap[b]? = some o := by subst h; exact heap_alloc_new W o
theorem news1d {W : World} {o : Obj} {b : Nat} (h : W.heap.size = b) : (W.alloc o).drew.heap[b]? = some o := news1 h
theorem news2 {W : World} {o o2 : Obj} {b : Nat} (h : W.heap.size = b) : ((W.alloc o).alloc o2).heap[b]? = some o := by subst h; exact (Below.heap_alloc _ _ _ (by simp)).trans (heap_alloc_new W o)
theorem news2d {W : World} {o o2 : Obj} {b : Nat} (h : W.heap.size = b) : ((W.alloc o).alloc o2).drew.heap[b]? = some o := news2 h
set_option maxRecDepth 100000 in
set_option maxHeartbeats 1000000 in
theorem t_turns_any (A : Option Addr) (c : Nat) (l : List Ec.Pair) (w : World) (hm : Pairs w A l) (hK : TrainOk l) :
    Calls Tryz.prog 126 #[.slice A l.length c] w fun e w' => e = .returned (.agg #[.int .i64 (Ec.turnsN l), .int .i64 (Ec.turnsD l)]) ∧ Ext w w' := by
  have hn3 := hK.n3
  have HM := Lib.hid hm
  have HK := Lib.hid hK
  clear hm hK
  obtain ⟨i0, hi0, hz0, hz1, hz2⟩ := info_parts info_int
  go_enter Tryz.func126, Tryz.ntmps126
  go_wp2_with fail
  go_loopw [3, 4, 6, 9] (fun v1 v2 _ i wr => ∃ k : Nat, k ≤ l.length ∧ i = .int .i64 k ∧ Two (w.heap.size + 1) wr v1 v2 (l.take k) ∧ Ext (w.alloc (.cells #[.int .i64 0, .int .i64 0] 69)) wr) (fun _ _ _ i _ => l.length - (intOf i).toNat)
  case atStart => exact ⟨0, Nat.zero_le _, rfl, ⟨by simp [World.ownsRow], by simp [World.ownsRow], by simp [Value.ownBlock]⟩, Ext.refl _⟩
  case round =>
    obtain ⟨k, hk, rfl, hT, hE⟩ := hrel
    have hz := hE.size
    rw [World.size_alloc] at hz
    by_cases hlt : k < l.length
    · obtain ⟨b, o, rfl, hc⟩ := HM.out (by omega)
      obtain ⟨c0, c1⟩ := hc k hlt
      replace c0 := hE.cell (((Ext.refl w).alloc _).cell c0)
      replace c1 := hE.cell (((Ext.refl w).alloc _).cell c1)
      have hlen : (l.take k).length = k := by rw [List.length_take]; omega
      have HT := Lib.hid hT
      have HE := Lib.hid hE
      clear hc hT hE
      have htk : l.take (k + 1) = l.take k ++ [⟨(pd l k).drives, (pd l k).driven⟩] := by
        rw [List.take_succ_eq_append_getElem hlt]
        congr 1
        unfold pd
        rw [List.getD_eq_getElem?_getD, List.getElem?_eq_getElem hlt]
        rfl
      generalize (pd l k).drives = x at *
      generalize (pd l k).driven = y at *
      obtain ⟨m, hm⟩ : ∃ m, l.take k = m := ⟨_, rfl⟩
      rw [hm] at HT hlen htk
      have HTK := Lib.hid htk
      clear htk
      have HN1 : Hid (u3.ownBlock ≠ some wr.heap.size) := Lib.hid fun e => by have := (HT.out.one.lt _ e).2; omega
      have HN2 : Hid (u4.ownBlock ≠ some wr.heap.size) := Lib.hid fun e => by have := (HT.out.two.lt _ e).2; omega
      have HLN := Lib.hid hlen
      have hm2 : m.length ≤ 2 := by omega
      clear hm hlen
      go_wp2_with fail
      go_region_held3 (fun w' => w'.cell? ⟨wr.heap.size, 0, none⟩ = some (.int .i64 x) ∧ w'.cell? ⟨wr.heap.size, 1, none⟩ = some (.int .i64 y))
        (first | go_keep | (go_split_ands; refine ⟨?_, ?_⟩ <;> (first | (rw [hgrow2.cell_far _ (by have := hgrow1.size; simp at this; simp; omega) (Ne.symm HN2.out)]; assumption) | (rw [hgrow1.cell_far _ (by simp; omega) (Ne.symm HN1.out)]; assumption))))
        (first
          | ((refine step_append_lies _ (by rfl) (Operand.tmp 13) (Operand.tmp 16) _ (by rfl) (w.heap.size + 1) 3 i0 _ 1 8 Tryz.underlying48 hi0 hz0 hz1 hz2 rfl (by omega) u3 m.length (m.map fun p => .int .i64 p.drives) (by rfl)
                (own_ext HT.out.one (by first | exact ((((Ext.refl _).alloc _).alloc _).alloc _).drew | exact (((Ext.refl _).alloc _).alloc _).drew)) _ 1 1 [.int .i64 x] (by rfl) (by rfl)
                (World.news_of_block (cs := #[.int .i64 x]) (t := 3) (fr := (0, 0)) (by first | exact news1d (by simp) | exact news2d (by simp) | exact news1 (by simp) | exact news2 (by simp))) (by simp [Value.oneCell'])
                (by omega) (by unfold maxLen; omega) (by omega) (by simp; omega) _ (by rfl) ?_; intro g1 cap1 w1 hown1 hgrow1 hat1 hlt1))
          | ((refine step_append_lies _ (by rfl) (Operand.tmp 18) (Operand.tmp 21) _ (by rfl) (w.heap.size + 1) 3 i0 _ 1 8 Tryz.underlying48 hi0 hz0 hz1 hz2 rfl (by omega) u4 m.length (m.map fun p => .int .i64 p.driven) (by rfl)
                (by first | exact HT.out.own2 (by first | exact ((((Ext.refl _).alloc _).alloc _).alloc _).drew | exact (((Ext.refl _).alloc _).alloc _).drew) hgrow1 | exact (HT.out.own2 (by first | exact ((((Ext.refl _).alloc _).alloc _).alloc _).drew | exact (((Ext.refl _).alloc _).alloc _).drew) hgrow1).alloc _) _ 1 1 [.int .i64 y] (by rfl) (by rfl)
                (World.news_of_block (cs := #[.int .i64 y]) (t := 3) (fr := (0, 0)) (by first | exact news1 rfl | exact (hgrow1.block _ (by simp) (fun e => by have := (HT.out.one.lt _ e.symm).2; (try simp only [World.size_alloc] at this); omega)).trans (by first | exact news1d (by simp) | exact news2d (by simp)))) (by simp [Value.oneCell'])
                (by omega) (by unfold maxLen; omega) (by omega) (by have := hgrow1.size; simp at this; simp; omega) _ (by rfl) ?_; intro g2 cap2 w2 hown2 hgrow2 hat2 hlt2)))
      all_goals
        have hS := Lib.hid (HT.out.step (y := y) (by first | exact ((((Ext.refl _).alloc _).alloc _).alloc _).drew | exact (((Ext.refl _).alloc _).alloc _).drew) hgrow1 hown1 hat1 hlt1 (by first | exact Ext.refl _ | exact (Ext.refl _).alloc _) hgrow2 hown2 hat2 HE.out (Nat.le_of_eq (World.size_alloc _ _)))
        clear hown1 hown2 hgrow1 hgrow2 hat1 hat2
        go_wp2
        go_roundw
        case rel => exact ⟨k + 1, by omega, by go_num, by rw [HTK.out]; exact hS.out.1, hS.out.2⟩
        case measure => simp [intOf]; omega
    · obtain rfl : k = l.length := by omega
      rw [List.take_length] at hT
      obtain ⟨A1, c1, rfl, h1⟩ := Ints.of_own hT.one
      obtain ⟨A2, c2, rfl, h2⟩ := Ints.of_own hT.two
      have HT1 := Lib.hid h1
      have HT2 := Lib.hid h2
      have HE := Lib.hid hE
      have hr := (Row.new w 69 #[.int .i64 0, .int .i64 0]).ext hE
      have b0 := hr.cell
      have f0 := hr.free
      have HR := Lib.hid hr
      have hD : Hid (prodL (l.map (·.drives)) = Ec.drivesP l) := Lib.hid (by unfold prodL Ec.drivesP; rw [List.foldl_map])
      have hN : Hid (prodL (l.map (·.driven)) = Ec.drivenP l) := Lib.hid (by unfold prodL Ec.drivenP; rw [List.foldl_map])
      obtain ⟨⟨a1, a2⟩, d1, d2⟩ := HK.out.prods
      have HA1 : Hid (∀ j, j < (l.map (·.drives)).length → 4 ≤ rd (l.map (·.drives)) j ∧ rd (l.map (·.drives)) j ≤ 60) := Lib.hid (mapAll l _ fun p hp => (HK.out.mem p hp).1)
      have HA2 : Hid (∀ j, j < (l.map (·.driven)).length → 4 ≤ rd (l.map (·.driven)) j ∧ rd (l.map (·.driven)) j ≤ 60) := Lib.hid (mapAll l _ fun p hp => (HK.out.mem p hp).2)
      have hl1 : (l.map (·.drives)).length = l.length := List.length_map _
      have hl2 : (l.map (·.driven)).length = l.length := List.length_map _
      clear hT h1 h2 hE hr
      go_wp2_with fail
      have p1 := t_product_any A1 c1 (l.map (·.drives)) wr HT1.out (by omega) HA1.out
      rw [hl1, hD.out] at p1
      refine p1.mono ?_
      rintro r w1 ⟨rfl, rfl⟩
      clear p1
      go_wp2_with fail
      have p2 := t_product_any A2 c2 (l.map (·.driven)) wr HT2.out (by omega) HA2.out
      rw [hl2, hN.out] at p2
      refine p2.mono ?_
      rintro r w1 ⟨rfl, rfl⟩
      clear p2
      go_wp2_with fail
      refine (t_reduced_any _ _ _ a1 (by omega) d1 (by omega)).mono ?_
      rintro r w1 ⟨rfl, hE1⟩
      have hr1 := HR.out.ext hE1
      have b1 := hr1.cell
      have f1 := hr1.free
      clear b0 f0
      go_wp2_with fail
      have hEE := ((((Ext.refl w).alloc _).trans HE.out).trans hE1)
      exact bodyPost_ret (v := .agg #[.int .i64 (Ec.turnsN l), .int .i64 (Ec.turnsD l)]) (by simp [results, Tryz.results126, go_sem, b1, Ec.turnsN, Ec.turnsD, Ec.turnsG]) rfl ⟨rfl, (hEE.setCell (p := ⟨w.heap.size, 0, none⟩) (Nat.le_refl _) _).setCell (p := ⟨w.heap.size, 1, none⟩) (Nat.le_refl _) _⟩
end Go.Proofs.YtimkmokomohgjaaGreat
namespace Go.Proofs.YtimkmokomohgjaaGreat
open Go.RowKit
open Sp (rd)
/-- Where the lists of an engine and its settings lie. -/
structure EP where
  Ab : Option Addr
  cb : Nat
  As : Option Addr
  cs : Nat
  Am : Option Addr
  cm : Nat
  An : Option Addr
  cn : Nat
  Af : Option Addr
  cf : Nat
  At : Option Addr
  ct : Nat
/-- What is there stays there. -/
def Stays (w w' : World) : Prop := ∀ p v, w.cell? p = some v → w'.cell? p = some v
theorem Ext.stays {w w' : World} (h : Ext w w') : Stays w w' := fun _ _ hc => h.cell hc
theorem Step.stays {P : Program} {kt : TypeId} {f : Int → Value} {M : Nat} {w w' : World} (h : Step P kt f M w w') (hc : Cache P kt f M w) : Stays w w' := fun _ _ hp => h.cell hc hp
theorem Ints.stay {w w' : World} {A : Option Addr} {l : List Int} (h : Ints w A l) (he : Stays w w') : Ints w' A l := fun h0 =>
  let ⟨b, o, e, hc⟩ := h h0
  ⟨b, o, e, fun k hk => he _ _ (hc k hk)⟩
theorem Pairs.stay {w w' : World} {A : Option Addr} {l : List Ec.Pair} (h : Pairs w A l) (he : Stays w w') : Pairs w' A l := fun h0 =>
  let ⟨b, o, e, hc⟩ := h h0
  ⟨b, o, e, fun k hk => ⟨he _ _ (hc k hk).1, he _ _ (hc k hk).2⟩⟩
theorem Bodies.stay {w w' : World} {A : Option Addr} {l : List Sp.Body} (h : Bodies w A l) (he : Stays w w') : Bodies w' A l := fun h0 =>
  let ⟨b, o, e, hc⟩ := h h0
  ⟨b, o, e, fun k hk => let hb := hc k hk
    let ⟨R, c, h1, h2⟩ := hb.road
    ⟨he _ _ hb.num, he _ _ hb.den, he _ _ hb.start, R, c, he _ _ h1, h2.stay he⟩⟩
/-- An engine's lists in memory. -/
structure EngAt (w : World) (p : EP) (e : Ec.Engine) : Prop where
  bodies : Bodies w p.Ab e.sky.bodies
  sun : Pairs w p.As e.sun
  moon : Pairs w p.Am e.moon
  node : Pairs w p.An e.node
  feasts : Ints w p.Af e.feasts
/-- .. with settings. -/
structure EngSet (w : World) (p : EP) (e : Ec.Engine) (set : List Int) : Prop where
  eng : EngAt w p e
  set : Ints w p.At set
theorem EngAt.stay {w w' : World} {p : EP} {e : Ec.Engine} (h : EngAt w p e) (he : Stays w w') : EngAt w' p e := ⟨h.bodies.stay he, h.sun.stay he, h.moon.stay he, h.node.stay he, h.feasts.stay he⟩
theorem EngAt.ext {w w' : World} {p : EP} {e : Ec.Engine} (h : EngAt w p e) (he : Ext w w') : EngAt w' p e := h.stay he.stays
theorem EngSet.stay {w w' : World} {p : EP} {e : Ec.Engine} {set : List Int} (h : EngSet w p e set) (he : Stays w w') : EngSet w' p e set := ⟨h.eng.stay he, h.set.stay he⟩
theorem EngSet.ext {w w' : World} {p : EP} {e : Ec.Engine} {set : List Int} (h : EngSet w p e set) (he : Ext w w') : EngSet w' p e set := h.stay he.stays
/-- An engine and settings as defined. -/
structure Fine (e : Ec.Engine) (set : List Int) : Prop where
  eng : Ec.engineOk e = true
  set : Ec.setOk e.feasts set = true
theorem engineOk_parts {e : Ec.Engine} (h : Ec.engineOk e = true) : (Ec.trainOk e.sun = true ∧ Ec.trainOk e.moon = true ∧ Ec.trainOk e.node = true) ∧ (Sp.skyOk e.sky = true ∧ Sp.isMonth e.sky = true) ∧ Ec.feastsOk e.feasts = true ∧
    (Sp.isLimit e.nw = true ∧ Sp.isLimit e.fl = true ∧ Sp.isLimit e.wide = true) := by
  simp only [Ec.engineOk, Bool.and_eq_true] at h
  exact h
theorem Fine.sky {e : Ec.Engine} {set : List Int} (h : Fine e set) : SkyOk e.sky := skyOk_iff.1 (engineOk_parts h.eng).2.1.1
theorem Fine.feasts {e : Ec.Engine} {set : List Int} (h : Fine e set) : Ec.feastsOk e.feasts = true := (engineOk_parts h.eng).2.2.1
end Go.Proofs.YtimkmokomohgjaaGreat
namespace Go.Proofs.YtimkmokomohgjaaGreat
open Go.RowKit
/-- Values stored one behind the other into a block. -/
def setsAt (W : World) (g : Nat) : Nat → List Value → World
  | _, [] => W
  | i, v :: vs => setsAt (W.setCell ⟨g, i, none⟩ v) g (i + 1) vs
theorem Row.sets_ {g : Nat} {t : TypeId} : ∀ (vs pre rest : List Value) (W : World), Row W g t (pre ++ rest).toArray → rest.length = vs.length → Row (setsAt W g pre.length vs) g t (pre ++ vs).toArray
  | [], pre, rest, W, h, hl => by
    obtain rfl : rest = [] := List.eq_nil_of_length_eq_zero (by simpa using hl)
    exact h
  | _ :: _, _, [], _, _, hl => by simp at hl
  | v :: vs, pre, x :: rest, W, h, hl => by
    have h1 := h.set_ pre.length v
    have h2 : ((pre ++ x :: rest).toArray.setIfInBounds pre.length v) = ((pre ++ [v]) ++ rest).toArray := by simp
    rw [h2] at h1
    have := Row.sets_ vs (pre ++ [v]) rest _ h1 (by simpa using hl)
    simp only [List.length_append, List.length_cons, List.length_nil, List.append_assoc, List.cons_append, List.nil_append] at this
    exact this
theorem Row.sets {g : Nat} {t : TypeId} {W : World} {cs : List Value} (h : Row W g t cs.toArray) (vs : List Value) (hl : cs.length = vs.length) : Row (setsAt W g 0 vs) g t vs.toArray := Row.sets_ vs [] cs W h hl
theorem Ext.sets {w : World} {g : Nat} (hg : w.heap.size ≤ g) : ∀ (vs : List Value) (i : Nat) (W : World), Ext w W → Ext w (setsAt W g i vs)
  | [], _, _, h => h
  | v :: vs, i, _, h => Ext.sets hg vs (i + 1) _ (h.setCell (p := ⟨g, i, none⟩) hg v)
theorem Cache.sets {P : Program} {kt : TypeId} {f : Int → Value} {M g : Nat} (hg : g ≠ M) : ∀ (vs : List Value) (i : Nat) (W : World), Cache P kt f M W → Cache P kt f M (setsAt W g i vs)
  | [], _, _, h => h
  | v :: vs, i, _, h => Cache.sets hg vs (i + 1) _ (h.far ⟨g, i, none⟩ v hg)
end Go.Proofs.YtimkmokomohgjaaGreat
namespace Go.Proofs.YtimkmokomohgjaaGreat
open Sp (rd)
set_option linter.unusedSimpArgs false
set_option linter.unusedVariables false
namespace Ec
/-- Numbers from k on, below n, that increase. -/
def Incr (n : Int) : Int → List Int → Prop
  | _, [] => True
  | k, x :: l => k ≤ x ∧ x < n ∧ Incr n (x + 1) l
theorem Incr.mono {n k k' : Int} {l : List Int} (h : k' ≤ k) (hi : Incr n k l) : Incr n k' l := by
  cases l with
  | nil => trivial
  | cons x l => exact ⟨by have := hi.1; omega, hi.2⟩
end Ec
end Go.Proofs.YtimkmokomohgjaaGreat
namespace Go.Proofs.YtimkmokomohgjaaGreat
open Sp (rd)
set_option linter.unusedSimpArgs false
set_option linter.unusedVariables false
namespace Ec
theorem Incr.len {n : Int} : ∀ {l : List Int} {k : Int}, Incr n k l → l.length ≤ (n - k).toNat
  | [], _, _ => Nat.zero_le _
  | x :: l, k, ⟨h1, h2, h3⟩ => by
    have := Incr.len h3
    simp only [List.length_cons]
    omega
end Ec
end Go.Proofs.YtimkmokomohgjaaGreat
namespace Go.Proofs.YtimkmokomohgjaaGreat
open Go.RowKit
open Sp (rd)
set_option maxRecDepth 100000
set_option maxHeartbeats 1000000
def cmpI (a b : Int) : Int := if a < b then -1 else if b < a then 1 else 0
theorem c_isNaN_any (x : Int) (w : World) : Calls Tryz.prog 205 #[.int .i64 x] w fun e w' => e = .returned (.bool false) ∧ w = w' := by
  go_enter Tryz.func205, Tryz.ntmps205
  go_wp2_with fail
  go_ret
  exact ⟨by simp, rfl⟩
theorem c_Compare_any (a b : Int) (w : World) : Calls Tryz.prog 192 #[.int .i64 a, .int .i64 b] w fun e w' => e = .returned (.int .i64 (cmpI a b)) ∧ w = w' := by
  rcases (show a < b ∨ a = b ∨ b < a by omega) with h | rfl | h
  · have hc : cmpI a b = -1 := by unfold cmpI; rw [if_pos h]
    rw [hc]
    clear hc
    go_enter Tryz.func192, Tryz.ntmps192
    go_wp2_with fail
    refine (c_isNaN_any _ _).mono ?_
    rintro e w1 ⟨rfl, rfl⟩
    go_wp2_with fail
    refine (c_isNaN_any _ _).mono ?_
    rintro e w1 ⟨rfl, rfl⟩
    go_wp2_with fail
    go_ret
    exact ⟨rfl, rfl⟩
  · have hc : cmpI a a = 0 := by unfold cmpI; simp
    rw [hc]
    clear hc
    go_enter Tryz.func192, Tryz.ntmps192
    go_wp2_with fail
    refine (c_isNaN_any _ _).mono ?_
    rintro e w1 ⟨rfl, rfl⟩
    go_wp2_with fail
    refine (c_isNaN_any _ _).mono ?_
    rintro e w1 ⟨rfl, rfl⟩
    go_wp2_with fail
    go_ret
    exact ⟨rfl, rfl⟩
  · have hc : cmpI a b = 1 := by unfold cmpI; rw [if_neg (by omega), if_pos h]
    rw [hc]
    clear hc
    go_enter Tryz.func192, Tryz.ntmps192
    go_wp2_with fail
    refine (c_isNaN_any _ _).mono ?_
    rintro e w1 ⟨rfl, rfl⟩
    go_wp2_with fail
    refine (c_isNaN_any _ _).mono ?_
    rintro e w1 ⟨rfl, rfl⟩
    go_wp2_with fail
    go_ret
    exact ⟨rfl, rfl⟩
/-- A slice value that holds lists of integers. -/
def ListsAt (w : World) (A : Option Addr) (ls : List (List Int)) : Prop := 0 < ls.length → ∃ b o, A = some ⟨b, o, none⟩ ∧ ∀ k, (hk : k < ls.length) → ∃ B d, w.cell? ⟨b, o + k, none⟩ = some (.slice B (ls[k]).length d) ∧ Ints w B ls[k]
theorem ListsAt.ext {w w' : World} {A : Option Addr} {ls : List (List Int)} (h : ListsAt w A ls) (he : Ext w w') : ListsAt w' A ls := fun h0 =>
  let ⟨b, o, e, hk⟩ := h h0
  ⟨b, o, e, fun k hk' => let ⟨B, d, h1, h2⟩ := hk k hk'; ⟨B, d, he.cell h1, h2.ext he⟩⟩
end Go.Proofs.YtimkmokomohgjaaGreat
namespace Go.Proofs.YtimkmokomohgjaaGreat
open Go.RowKit
theorem Ran.value {P : Program} {ops : Array Oper} {o : Oper} {a : Act} {w w1 : World} {v : Value} {G : Value → World → Prop} (hg : o.guard = none) (hx : (execOp a.eval o).run P w = .ok (.value v) w1) (h : G v w1) : Ran P ops o a w G := by
  refine Ran.plain hg ?_
  unfold Oper.wp
  rw [hx, Oper.upon_value]
  exact ⟨v, rfl, h⟩
theorem Ran.enter {P : Program} {ops : Array Oper} {o : Oper} {a : Act} {w w1 : World} {f : FuncId} {args : Array Value} {G : Value → World → Prop} (hg : o.guard = none) (hx : (execOp a.eval o).run P w = .ok (.enter f args) w1)
    (h : Calls P f args w1 fun r w' => ∃ v, r = .returned v ∧ G v w') : Ran P ops o a w G := by
  refine Ran.plain hg ?_
  unfold Oper.wp
  rw [hx, Oper.upon_enter]
  exact h.mono fun r w' ⟨v, hr, hG⟩ => by subst hr; exact ⟨v, rfl, hG⟩
theorem evalD {a : Act} {d : Tmp} {v : Value} (h : a.eval (.tmp d) = v) : a.tmps[d]?.getD undef = v := by
  rw [← h]
  simp [Act.eval, Array.getD_eq_getD_getElem?]
end Go.Proofs.YtimkmokomohgjaaGreat
namespace Go.Proofs.YtimkmokomohgjaaGreat
namespace Ec
structure Ball where
  x : Int
  y : Int
  r : Int
def apart (a b : Ball) : Bool := decide ((a.r + b.r) * (a.r + b.r) < (a.x - b.x) * (a.x - b.x) + (a.y - b.y) * (a.y - b.y))
/-- Squares. -/
theorem sq_le {a b : Int} (h0 : 0 ≤ a) (h : a ≤ b) : a * a ≤ b * b := Int.mul_le_mul h h h0 (by omega)
theorem sq_lt {a b : Int} (h0 : 0 ≤ a) (h : a < b) : a * a < b * b := by
  have h1 : a * a ≤ a * b := Int.mul_le_mul_of_nonneg_left (by omega) h0
  have h2 : a * b < b * b := Int.mul_lt_mul_of_pos_right h (by omega)
  omega
theorem le_of_sq {a b : Int} (h0 : 0 ≤ b) (h : a * a ≤ b * b) : a ≤ b := by
  rcases Int.lt_or_le b a with h1 | h1
  · have := sq_lt h0 h1; omega
  · exact h1
theorem lt_of_sq {a b : Int} (h0 : 0 ≤ b) (h : a * a < b * b) : a < b := by
  rcases Int.lt_or_le a b with h1 | h1
  · exact h1
  · have := sq_le h0 h1; omega
theorem sq_nonneg (a : Int) : 0 ≤ a * a := by
  rcases Int.le_total 0 a with h | h
  · exact Int.mul_nonneg h h
  · exact Int.mul_nonneg_of_nonpos_of_nonpos h h
/-- 'U - Y is not less than the root of Z', by squares. -/
theorem root_le (U Y Z : Int) (hU : 0 ≤ U) (hZ : 0 < Z) (hK : 0 ≤ U * U - Y * Y - Z) (hK2 : 4 * (Y * Y) * Z ≤ (U * U - Y * Y - Z) * (U * U - Y * Y - Z)) : 0 < U - Y ∧ Z ≤ (U - Y) * (U - Y) := by
  have h1 : Y < U := lt_of_sq hU (by omega)
  refine ⟨by omega, ?_⟩
  have e : (U - Y) * (U - Y) = U * U - Y * Y - Z + 2 * (Y * Y) + Z - 2 * (U * Y) := by grind
  rcases Int.le_total Y 0 with h | h
  · have h2 : U * Y ≤ 0 := Int.mul_nonpos_of_nonneg_of_nonpos hU h
    have := sq_nonneg Y
    omega
  · have h2 : 2 * (U * Y) ≤ U * U - Y * Y - Z + 2 * (Y * Y) := by
      apply le_of_sq (by have := sq_nonneg Y; omega)
      have e2 : (U * U - Y * Y - Z + 2 * (Y * Y)) * (U * U - Y * Y - Z + 2 * (Y * Y)) - 2 * (U * Y) * (2 * (U * Y)) = (U * U - Y * Y - Z) * (U * U - Y * Y - Z) - 4 * (Y * Y) * Z := by grind
      omega
    omega
/-- What is used of two balls of which the first makes the second one dark. -/
structure Dark (A m s t ra rb ab : Int) : Prop where
  hA : A = s + ra * ra
  hm : m = t + rb * rb
  s0 : 0 < s
  t0 : 0 < t
  ra0 : 0 < ra
  rb0 : 0 < rb
  wide : rb * rb * A ≤ ra * ra * m
  D0 : ra * rb ≤ ab
  D2 : s * t ≤ (ab - ra * rb) * (ab - ra * rb)
theorem Dark.wide' {A m s t ra rb ab : Int} (h : Dark A m s t ra rb ab) : rb * rb * s ≤ ra * ra * t := by
  have := h.wide
  rw [h.hA, h.hm] at this
  grind
theorem Dark.p1 {A m s t ra rb ab : Int} (h : Dark A m s t ra rb ab) : s * rb ≤ ra * (ab - ra * rb) := by
  have hD : 0 ≤ ab - ra * rb := by have := h.D0; omega
  apply le_of_sq (Int.mul_nonneg (by have := h.ra0; omega) hD)
  have a1 : ra * ra * (s * t) ≤ ra * ra * ((ab - ra * rb) * (ab - ra * rb)) := Int.mul_le_mul_of_nonneg_left h.D2 (sq_nonneg ra)
  have a2 : s * (rb * rb * s) ≤ s * (ra * ra * t) := Int.mul_le_mul_of_nonneg_left h.wide' (by have := h.s0; omega)
  grind
theorem mul_pos_left {m x : Int} (hm : 0 < m) (h : 0 < m * x) : 0 < x := by
  rcases Int.lt_or_le 0 x with h1 | h1
  · exact h1
  · have := Int.mul_nonpos_of_nonneg_of_nonpos (Int.le_of_lt hm) h1; omega
theorem mul_le_left {m x y : Int} (hm : 0 < m) (h : m * x ≤ m * y) : x ≤ y := Int.le_of_mul_le_mul_left h hm
/-- Dark from dark. -/
theorem Dark.trans {A m C s t u ra rb rc ab bc ac X Y : Int} (h : Dark A m s t ra rb ab) (k : Dark m C t u rb rc bc) (hX : X * X = A * m - ab * ab) (hY : Y * Y = m * C - bc * bc) (hac : m * ac = ab * bc - X * Y) : Dark A C s u ra rc ac := by
  have hm : 0 < m := by have := h.hm; have := h.t0; have := sq_nonneg rb; omega
  have hA : 0 < A := by have := h.hA; have := h.s0; have := sq_nonneg ra; omega
  have hC : 0 < C := by have := k.hm; have := k.t0; have := sq_nonneg rc; omega
  have p1 := h.p1
  have p2 := k.p1
  have d1 := h.D2
  have d2 := k.D2
  have hab : 0 < ab := by have := h.D0; have := Int.mul_pos h.ra0 h.rb0; omega
  have hbc : 0 < bc := by have := k.D0; have := Int.mul_pos k.ra0 k.rb0; omega
  have r2 : rc * bc ≤ rb * C := by
    apply le_of_sq (Int.mul_nonneg (by have := h.rb0; omega) (by omega))
    have a1 : (rc * rc) * (bc * bc) ≤ (rc * rc) * (m * C) := Int.mul_le_mul_of_nonneg_left (by have := sq_nonneg Y; omega) (sq_nonneg rc)
    have a2 : C * (rc * rc * m) ≤ C * (rb * rb * C) := Int.mul_le_mul_of_nonneg_left k.wide (by omega)
    grind
  have hW : 0 ≤ ab * bc - m * (ra * rc) := by
    have e : rb * (ab * bc - m * (ra * rc)) = ab * (rb * (bc - rb * rc) - t * rc) + m * (rc * (ab - ra * rb)) := by rw [h.hm]; grind
    have q1 : 0 ≤ ab * (rb * (bc - rb * rc) - t * rc) := Int.mul_nonneg (by omega) (by omega)
    have q2 : 0 ≤ m * (rc * (ab - ra * rb)) := Int.mul_nonneg (by omega) (Int.mul_nonneg (by have := k.rb0; omega) (by have := h.D0; omega))
    exact mul_le_left h.rb0 (by rw [Int.mul_zero, e]; omega)
  obtain ⟨g1, hg1⟩ : ∃ g, (ab - ra * rb) * (ab - ra * rb) - s * t = g := ⟨_, rfl⟩
  obtain ⟨g2, hg2⟩ : ∃ g, (bc - rb * rc) * (bc - rb * rc) - t * u = g := ⟨_, rfl⟩
  obtain ⟨e1, he1⟩ : ∃ e, ra * (ab - ra * rb) - s * rb = e := ⟨_, rfl⟩
  obtain ⟨e2, he2⟩ : ∃ e, rb * C - rc * bc = e := ⟨_, rfl⟩
  have f1 : 0 ≤ g1 := by omega
  have f2 : 0 ≤ g2 := by omega
  have f3 : 0 ≤ e1 := by omega
  have f4 : 0 ≤ e2 := by omega
  have i1 : e1 * e1 = s * (X * X) + A * g1 := by rw [← he1, ← hg1, hX, h.hA, h.hm]; grind
  have i2 : e2 * e2 = u * (Y * Y) + C * g2 := by rw [← he2, ← hg2, hY, k.hA, k.hm]; grind
  have hK : (ab * bc - m * (ra * rc)) * (ab * bc - m * (ra * rc)) - X * Y * (X * Y) - m * m * (s * u) = m * (A * g2 + C * g1 + 2 * (e1 * e2)) := by
    have q : X * Y * (X * Y) = (A * m - ab * ab) * (m * C - bc * bc) := by rw [← hX, ← hY]; grind
    rw [q, ← hg1, ← hg2, ← he1, ← he2, h.hA, k.hm, h.hm]; grind
  have n1 : 0 ≤ A * g2 := Int.mul_nonneg (by omega) f2
  have n2 : 0 ≤ C * g1 := Int.mul_nonneg (by omega) f1
  have n3 : 0 ≤ e1 * e2 := Int.mul_nonneg f3 f4
  have hsu : 0 < s * u := Int.mul_pos h.s0 k.t0
  have hr := root_le (ab * bc - m * (ra * rc)) (X * Y) (m * m * (s * u)) hW (Int.mul_pos (Int.mul_pos hm hm) hsu) (by rw [hK]; exact Int.mul_nonneg (by omega) (by omega)) (by
    rw [hK]
    have b1 : (2 * (e1 * e2)) * (2 * (e1 * e2)) ≤ (A * g2 + C * g1 + 2 * (e1 * e2)) * (A * g2 + C * g1 + 2 * (e1 * e2)) := sq_le (by omega) (by omega)
    have b2 : (s * (X * X)) * (u * (Y * Y)) ≤ (e1 * e1) * (e2 * e2) := by
      have c1 : s * (X * X) ≤ e1 * e1 := by have := Int.mul_nonneg (Int.le_of_lt hA) f1; omega
      have c2 : u * (Y * Y) ≤ e2 * e2 := by have := Int.mul_nonneg (Int.le_of_lt hC) f2; omega
      exact Int.mul_le_mul c1 c2 (Int.mul_nonneg (by have := k.t0; omega) (sq_nonneg _)) (sq_nonneg _)
    have b3 : (m * m) * ((2 * (e1 * e2)) * (2 * (e1 * e2))) ≤ (m * m) * ((A * g2 + C * g1 + 2 * (e1 * e2)) * (A * g2 + C * g1 + 2 * (e1 * e2))) := Int.mul_le_mul_of_nonneg_left b1 (sq_nonneg m)
    have b4 : (m * m) * ((s * (X * X)) * (u * (Y * Y))) ≤ (m * m) * ((e1 * e1) * (e2 * e2)) := Int.mul_le_mul_of_nonneg_left b2 (sq_nonneg m)
    grind)
  have hE : ab * bc - m * (ra * rc) - X * Y = m * (ac - ra * rc) := by grind
  rw [hE] at hr
  refine ⟨h.hA, k.hm, h.s0, k.t0, h.ra0, k.rb0, ?_, by have := mul_pos_left hm hr.1; omega, ?_⟩
  · apply mul_le_left hm
    have a1 : C * (rb * rb * A) ≤ C * (ra * ra * m) := Int.mul_le_mul_of_nonneg_left h.wide (by omega)
    have a2 : A * (rc * rc * m) ≤ A * (rb * rb * C) := Int.mul_le_mul_of_nonneg_left k.wide (by omega)
    grind
  · apply mul_le_left (Int.mul_pos hm hm)
    have := hr.2
    grind
set_option linter.unusedVariables false
end Ec
end Go.Proofs.YtimkmokomohgjaaGreat
namespace Go.Proofs.YtimkmokomohgjaaGreat
open Go.RowKit
open Sp (rd)
set_option maxRecDepth 100000
set_option maxHeartbeats 2000000
set_option linter.unusedVariables false
/-- A slice that the region itself makes. -/
def MkAt (w0 : World) (v : Value) (w : World) (t : TypeId) (n : Nat) (cs : Array Value) : Prop := ∃ b, v = .slice (some ⟨b, 0, none⟩) n n ∧ w0.heap.size ≤ b ∧ Row w b t cs
theorem MkAt.ext {w0 w w' : World} {v : Value} {t : TypeId} {n : Nat} {cs : Array Value} (h : MkAt w0 v w t n cs) (he : Ext w w') : MkAt w0 v w' t n cs := let ⟨b, h1, h2, h3⟩ := h; ⟨b, h1, h2, h3.ext he⟩
end Go.Proofs.YtimkmokomohgjaaGreat
namespace Go.Proofs.YtimkmokomohgjaaGreat
open Go.RowKit
open Sp (rd)
set_option maxRecDepth 100000
set_option maxHeartbeats 4000000
set_option linter.unusedVariables false
/-- The numbers of teeth of a rule: from a on, the first k, but those that are never cut. -/
def Tp.teethN (a : Int) (l : List Int) : Nat → List Int
  | 0 => []
  | k + 1 => Tp.teethN a l k ++ (if (l.any fun n => a + (k : Int) == n) = true then [] else [a + (k : Int)])
theorem Tp.teethN_len (a : Int) (l : List Int) : ∀ k, (Tp.teethN a l k).length ≤ k
  | 0 => Nat.le_refl _
  | k + 1 => by
    rw [Tp.teethN, List.length_append]
    have := Tp.teethN_len a l k
    split <;> simp <;> omega
theorem Tp.ints_own {w : World} {base n d : Nat} {B : Option Addr} {L : List Int} (h : w.ownsRow base 3 1 (.slice B n d) L.length (L.map fun x => .int .i64 x)) : Ints w B L ∧ n = L.length := by
  obtain ⟨A, c, e, hI⟩ := Ints.of_own (f := fun x : Int => x) (l := L) (by exact h)
  have e2 : (L.map fun x => x) = L := List.map_id' L
  rw [e2] at hI
  simp at e
  obtain ⟨rfl, rfl, rfl⟩ := e
  exact ⟨hI, rfl⟩
theorem Tp.own_slice {w : World} {base size n : Nat} {e : TypeId} {v : Value} {xs : List Value} (h : w.ownsRow base e size v n xs) : ∃ B d, v = .slice B n d := by
  rcases h.2 with ⟨rfl, h0⟩ | ⟨g, cap, cur, hv, _⟩
  · exact ⟨none, 0, by rw [h0]⟩
  · exact ⟨_, _, hv⟩
theorem Tp.grown_far {W W' : World} {g : Nat} {t : TypeId} {cs : Array Value} {row : Option Nat} (h : Row W g t cs) (hg : W.grownBy W' row) (hne : some g ≠ row) : Row W' g t cs := (hg.block g h.lt hne).trans h
theorem Tp.own_ne {w : World} {base : Nat} {e : TypeId} {size : Nat} {v : Value} {n : Nat} {xs : List Value} (h : w.ownsRow base e size v n xs) {g : Nat} (hg : g < base) : some g ≠ v.ownBlock := fun he => by
  have := (h.lt g he.symm).1
  omega
theorem t_ruled_any (a b p s : Int) (A : Option Addr) (c : Nat) (l : List Int) (N : Nat) (w : World) (hm : Ints w A l) (hl : l.length ≤ 100000) (hN : (N : Int) = b + 1 - a) (h1 : 0 ≤ a ∧ a ≤ 1000) (h2 : b ≤ 1000) :
    Calls Tryz.prog 92 #[.agg #[.int .i64 a, .int .i64 b, .int .i64 p, .int .i64 s, .slice A l.length c]] w fun e w' => ∃ B d, e = .returned (.agg #[.int .i64 a, .int .i64 b, .int .i64 p, .int .i64 s, .slice A l.length c, .slice B (Tp.teethN a l N).length d]) ∧ Ints w' B (Tp.teethN a l N) ∧ Ext w w' := by
  have HM := Lib.hid hm
  have HNN := Lib.hid hN
  have h3 : N ≤ 1001 := by omega
  obtain ⟨i0, hi0, hi1, hi2, hi3⟩ := info_parts info_int
  clear hm
  have HR1 := Lib.hid (Row.new w 101 #[.int .i64 a, .int .i64 b, .int .i64 p, .int .i64 s, .slice A l.length c])
  have a1 := HR1.out.cell
  have HA0 : Hid (Row (((w.alloc (.cells #[.int .i64 a, .int .i64 b, .int .i64 p, .int .i64 s, .slice A l.length c] 101)).alloc (.cells #[.int .i64 0, .int .i64 0, .int .i64 0, .int .i64 0, .slice none 0 0, .slice none 0 0] 161)).alloc (.cells #[.int .i64 a, .int .i64 b, .int .i64 p, .int .i64 s, .slice A l.length c, .slice none 0 0] 161)) w.heap.size 101 #[.int .i64 a, .int .i64 b, .int .i64 p, .int .i64 s, .slice A l.length c]) := Lib.hid (blocks3 w _ _ _).1
  have HB0 : Hid (Row (((w.alloc (.cells #[.int .i64 a, .int .i64 b, .int .i64 p, .int .i64 s, .slice A l.length c] 101)).alloc (.cells #[.int .i64 0, .int .i64 0, .int .i64 0, .int .i64 0, .slice none 0 0, .slice none 0 0] 161)).alloc (.cells #[.int .i64 a, .int .i64 b, .int .i64 p, .int .i64 s, .slice A l.length c, .slice none 0 0] 161)) (w.heap.size + 1) 161 #[.int .i64 0, .int .i64 0, .int .i64 0, .int .i64 0, .slice none 0 0, .slice none 0 0]) := Lib.hid (blocks3 w _ _ _).2.1
  have HC0 : Hid (Row (((w.alloc (.cells #[.int .i64 a, .int .i64 b, .int .i64 p, .int .i64 s, .slice A l.length c] 101)).alloc (.cells #[.int .i64 0, .int .i64 0, .int .i64 0, .int .i64 0, .slice none 0 0, .slice none 0 0] 161)).alloc (.cells #[.int .i64 a, .int .i64 b, .int .i64 p, .int .i64 s, .slice A l.length c, .slice none 0 0] 161)) (w.heap.size + 1 + 1) 161 #[.int .i64 a, .int .i64 b, .int .i64 p, .int .i64 s, .slice A l.length c, .slice none 0 0]) := Lib.hid (blocks3 w _ _ _).2.2
  have HE0 : Hid (Ext w (((w.alloc (.cells #[.int .i64 a, .int .i64 b, .int .i64 p, .int .i64 s, .slice A l.length c] 101)).alloc (.cells #[.int .i64 0, .int .i64 0, .int .i64 0, .int .i64 0, .slice none 0 0, .slice none 0 0] 161)).alloc (.cells #[.int .i64 a, .int .i64 b, .int .i64 p, .int .i64 s, .slice A l.length c, .slice none 0 0] 161))) := Lib.hid ((((Ext.refl w).alloc _).alloc _).alloc _)
  have HS0 : Hid ((((w.alloc (.cells #[.int .i64 a, .int .i64 b, .int .i64 p, .int .i64 s, .slice A l.length c] 101)).alloc (.cells #[.int .i64 0, .int .i64 0, .int .i64 0, .int .i64 0, .slice none 0 0, .slice none 0 0] 161)).alloc (.cells #[.int .i64 a, .int .i64 b, .int .i64 p, .int .i64 s, .slice A l.length c, .slice none 0 0] 161)).heap.size = w.heap.size + 3) := Lib.hid (by simp)
  go_enter Tryz.func92, Tryz.ntmps92
  go_wp2_with fail
  clear a1 HR1
  obtain ⟨W0, hW0⟩ : ∃ W, ((w.alloc (.cells #[.int .i64 a, .int .i64 b, .int .i64 p, .int .i64 s, .slice A l.length c] 101)).alloc (.cells #[.int .i64 0, .int .i64 0, .int .i64 0, .int .i64 0, .slice none 0 0, .slice none 0 0] 161)).alloc (.cells #[.int .i64 a, .int .i64 b, .int .i64 p, .int .i64 s, .slice A l.length c, .slice none 0 0] 161) = W := ⟨_, rfl⟩
  rw [hW0] at HA0 HB0 HC0 HE0 HS0 ⊢
  clear hW0
  go_loopw [4] (fun i wr => ∃ (k : Nat) (v : Value), k ≤ N ∧ i = .int .i64 (a + (k : Int)) ∧ Row wr w.heap.size 101 #[.int .i64 a, .int .i64 b, .int .i64 p, .int .i64 s, .slice A l.length c] ∧ Row wr (w.heap.size + 1) 161 #[.int .i64 0, .int .i64 0, .int .i64 0, .int .i64 0, .slice none 0 0, .slice none 0 0] ∧ Row wr (w.heap.size + 1 + 1) 161 #[.int .i64 a, .int .i64 b, .int .i64 p, .int .i64 s, .slice A l.length c, v] ∧ wr.ownsRow (w.heap.size + 3) 3 1 v (Tp.teethN a l k).length ((Tp.teethN a l k).map fun x => .int .i64 x) ∧ Ext w wr) (fun i _ => N - (intOf i - a).toNat)
  case atStart => exact ⟨0, .slice none 0 0, Nat.zero_le _, by simp, HA0.out, HB0.out, HC0.out, by simp [Tp.teethN, World.ownsRow], HE0.out⟩
  case round =>
    obtain ⟨k, v, hk, rfl, hA, hB, hC, hO, hX⟩ := hrel
    have hz := hX.size
    have hlen := Tp.teethN_len a l k
    have HA := Lib.hid hA
    have HB := Lib.hid hB
    have HC := Lib.hid hC
    have HO := Lib.hid hO
    have HX := Lib.hid hX
    have hN := HNN.out
    have j0 := lts hC.lt
    by_cases hlt : k < N
    · have HSC := Lib.hid (show Tp.teethN a l (k + 1) = Tp.teethN a l k ++ (if (l.any fun n => a + (k : Int) == n) = true then [] else [a + (k : Int)]) from rfl)
      have hle : a + (k : Int) ≤ b := by omega
      have HCT := Lib.hid (s_contains_any A c l (a + (k : Int)) wr (HM.out.ext hX) hl)
      obtain ⟨q, hq⟩ : ∃ q, (l.any fun n => a + (k : Int) == n) = q := ⟨_, rfl⟩
      rw [hq] at HSC HCT
      have c0 := hA.cell
      obtain ⟨L, hL⟩ : ∃ L, Tp.teethN a l k = L := ⟨_, rfl⟩
      rw [hL] at HO HSC hlen
      clear hq hA hB hC hO hX hL
      go_wp2_with fail
      refine HCT.out.mono ?_
      rintro e w1 ⟨rfl, hE1⟩
      have HA1 := Lib.hid (HA.out.ext hE1)
      have HB1 := Lib.hid (HB.out.ext hE1)
      have HC1 := Lib.hid (HC.out.ext hE1)
      have HO1 := Lib.hid (own_ext HO.out hE1)
      have HX1 := Lib.hid (HX.out.trans hE1)
      have hz1 := HX1.out.size
      have j1 := lts HC1.out.lt
      clear c0 hE1
      cases q with
      | true =>
        go_wp2_with fail
        go_roundw
        case rel => exact ⟨k + 1, v, by omega, by go_num, HA1.out, HB1.out, HC1.out, by rw [HSC.out]; simpa using HO1.out, HX1.out⟩
        case measure => simp [intOf]; omega
      | false =>
        have c1 := HC1.out.cell
        have hown4 := HO1.out.alloc (.cells #[.int .i64 (a + (k : Int))] 3)
        have HO4 := Lib.hid hown4
        go_wp2_with (at_builtin; refine wpList_append_lies _ rfl _ _ 48 rfl (w.heap.size + 3) 3 i0 _ 1 8 Tryz.underlying48 hi0 hi1 hi2 hi3 rfl (by decide) _ L.length (L.map fun x => .int .i64 x) rfl hown4 ⟨w1.heap.size, 0, none⟩ 1 1 [.int .i64 (a + (k : Int))] rfl rfl (World.news_of_block (cs := #[.int .i64 (a + (k : Int))]) (t := 3) (fr := (0, 0)) (heap_alloc_new _ _)) (by simp [Value.oneCell']) (by omega) (by simp only [maxLen]; omega) (by omega) (by simp; omega) _ rfl ?_; intro gg cap w5 hown5 hgrow hat hlt5; have HO5 := Lib.hid hown5; have HC5 := Lib.hid (Tp.grown_far (HC1.out.alloc (.cells #[.int .i64 (a + (k : Int))] 3)) hgrow (Tp.own_ne hown4 (by omega))); have HB5 := Lib.hid (Tp.grown_far (HB1.out.alloc (.cells #[.int .i64 (a + (k : Int))] 3)) hgrow (Tp.own_ne hown4 (by omega))); have HA5 := Lib.hid (Tp.grown_far (HA1.out.alloc (.cells #[.int .i64 (a + (k : Int))] 3)) hgrow (Tp.own_ne hown4 (by omega))); have HX5 := Lib.hid ((HX1.out.alloc (.cells #[.int .i64 (a + (k : Int))] 3)).grown hgrow (fun g hg => by have := (HO4.out.lt g hg).1; omega)); have c5 := HC5.out.cell; have f5 := HC5.out.free; have j5 := lts HC5.out.lt; clear hown5 hgrow c1)
        go_roundw
        case rel =>
          obtain ⟨v', hv'⟩ : ∃ v' : Value, .slice (some ⟨gg, 0, none⟩) (L.length + 1) cap = v' := ⟨_, rfl⟩
          rw [hv'] at HO5 ⊢
          refine ⟨k + 1, v', by omega, by go_num, HA5.out.far (p := ⟨w.heap.size + 1 + 1, 5, none⟩) (by simp; omega) v', HB5.out.far (p := ⟨w.heap.size + 1 + 1, 5, none⟩) (by simp) v', HC5.out.set_ 5 v', ?_, HX5.out.setCell (p := ⟨w.heap.size + 1 + 1, 5, none⟩) (by simp; omega) v'⟩
          refine ownsRow_setCell_below ?_ (by simp) _
          rw [HSC.out]
          simpa using HO5.out
        case measure => simp [intOf]; omega
    · obtain rfl : k = N := by omega
      have hle : ¬ (a + (k : Int) ≤ b) := by omega
      obtain ⟨B, d, rfl⟩ := Tp.own_slice hO
      have c0 := hA.cell
      have c1 := hC.cell
      have c2 := hB.cell
      have f2 := hB.free
      clear hA hB hC hO hX
      go_wp2_with fail
      have r2 := ((((((HB.out.set_ 0 (.int .i64 a)).set_ 1 (.int .i64 b)).set_ 2 (.int .i64 p)).set_ 3 (.int .i64 s)).set_ 4 (.slice A l.length c)).set_ 5 (.slice B (Tp.teethN a l k).length d))
      have hI2 := (Tp.ints_own (ownsRow_setCell_below (ownsRow_setCell_below (ownsRow_setCell_below (ownsRow_setCell_below (ownsRow_setCell_below (ownsRow_setCell_below HO.out (a := ⟨w.heap.size + 1, 0, none⟩) (by simp) (.int .i64 a)) (a := ⟨w.heap.size + 1, 1, none⟩) (by simp) (.int .i64 b)) (a := ⟨w.heap.size + 1, 2, none⟩) (by simp) (.int .i64 p)) (a := ⟨w.heap.size + 1, 3, none⟩) (by simp) (.int .i64 s)) (a := ⟨w.heap.size + 1, 4, none⟩) (by simp) (.slice A l.length c)) (a := ⟨w.heap.size + 1, 5, none⟩) (by simp) (.slice B (Tp.teethN a l k).length d))).1
      have c3 := r2.cell
      refine bodyPost_ret (v := .agg #[.int .i64 a, .int .i64 b, .int .i64 p, .int .i64 s, .slice A l.length c, .slice B (Tp.teethN a l k).length d]) (by simp [results, Tryz.results92, go_sem, c3]) rfl ⟨B, ⟨d, rfl⟩, hI2, ((((((HX.out.setCell (p := ⟨w.heap.size + 1, 0, none⟩) (by simp) (.int .i64 a)).setCell (p := ⟨w.heap.size + 1, 1, none⟩) (by simp) (.int .i64 b)).setCell (p := ⟨w.heap.size + 1, 2, none⟩) (by simp) (.int .i64 p)).setCell (p := ⟨w.heap.size + 1, 3, none⟩) (by simp) (.int .i64 s)).setCell (p := ⟨w.heap.size + 1, 4, none⟩) (by simp) (.slice A l.length c)).setCell (p := ⟨w.heap.size + 1, 5, none⟩) (by simp) (.slice B (Tp.teethN a l k).length d))⟩
end Go.Proofs.YtimkmokomohgjaaGreat
namespace Go.Proofs.YtimkmokomohgjaaGreat
open Go.RowKit
open Sp (rd)
set_option maxRecDepth 100000
set_option maxHeartbeats 2000000
set_option linter.unusedVariables false
theorem Tp.info_fr : (Tryz.prog.info? 69).map (fun i => (i.zero, i.size, i.bytes)) = some (some (.agg #[.int .i64 0, .int .i64 0]), 2, 16) := by kernel_rfl
theorem Tp.info_pair : (Tryz.prog.info? 125).map (fun i => (i.zero, i.size, i.bytes)) = some (some (.agg #[.int .i64 0, .int .i64 0]), 2, 16) := by kernel_rfl
def Tp.pc (l : List Ec.Pair) : List Value := l.flatMap fun m => [.int .i64 m.drives, .int .i64 m.driven]
theorem Tp.pc_append (l m : List Ec.Pair) : Tp.pc (l ++ m) = Tp.pc l ++ Tp.pc m := by simp [Tp.pc]
theorem Tp.pc_len (l : List Ec.Pair) : (Tp.pc l).length = l.length * 2 := by
  induction l with
  | nil => rfl
  | cons m l ih => simp only [Tp.pc, List.flatMap_cons, List.length_append, List.length_cons, List.length_nil] at ih ⊢; omega
theorem Tp.pc_get (l : List Ec.Pair) : ∀ k (hk : k < l.length), (Tp.pc l)[k * 2]? = some (.int .i64 (pd l k).drives) ∧ (Tp.pc l)[k * 2 + 1]? = some (.int .i64 (pd l k).driven) := by
  induction l with
  | nil => intro k hk; simp at hk
  | cons m l ih =>
    intro k hk
    cases k with
    | zero => simp [Tp.pc, pd]
    | succ k =>
      have := ih k (by simpa using hk)
      have e : Tp.pc (m :: l) = [.int .i64 m.drives, .int .i64 m.driven] ++ Tp.pc l := by simp [Tp.pc]
      have e2 : pd (m :: l) (k + 1) = pd l k := by simp [pd]
      rw [e, e2, show (k + 1) * 2 = (k * 2) + 2 by omega, show (k * 2) + 2 + 1 = (k * 2 + 1) + 2 by omega]
      simpa using this
theorem Tp.pairs_own {w : World} {base : Nat} {t : TypeId} {v : Value} {l : List Ec.Pair} (h : w.ownsRow base t 2 v l.length (Tp.pc l)) : ∃ A c, v = .slice A l.length c ∧ Pairs w A l := by
  rcases h.2 with ⟨rfl, h0⟩ | ⟨g, cap, cur, hv, hb, _⟩
  · exact ⟨none, 0, by rw [h0], fun hh => by omega⟩
  · refine ⟨some ⟨g, 0, none⟩, cap, hv, fun _ => ⟨g, 0, rfl, fun k hk' => ?_⟩⟩
    have hc := h.cells (g := g) (by rw [hv]; rfl)
    have h1 := hc _ _ (Tp.pc_get l k hk').1
    have h2 := hc _ _ (Tp.pc_get l k hk').2
    rw [add0] at h1 h2
    exact ⟨by simpa using h1, by simpa using h2⟩
/-- The frame gets a name. -/
theorem Tp.wp_named {c : Code} {P : Program} {Q : Exit → Act → World → Prop} {a : Act} {w : World} (h : ∀ a0, a0 = a → c.wp P Q a0 w) : c.wp P Q a w := h a rfl
/-- A store into an own block that is none of the list's. -/
theorem Tp.own_set {w : World} {base : Nat} {e : TypeId} {size : Nat} {v : Value} {n : Nat} {xs : List Value} (h : w.ownsRow base e size v n xs) {a : Addr} (ha : a.block < base) (u : Value) : (w.setCell a u).ownsRow base e size v n xs := ownsRow_setCell_below h ha u
end Go.Proofs.YtimkmokomohgjaaGreat
namespace Go.Proofs.YtimkmokomohgjaaGreat
open Go.RowKit
set_option maxRecDepth 100000
set_option linter.unusedVariables false
section
variable {P : Program} {ops : Array Oper} {Q : Exit → Act → World → Prop} {md : Region.Mode} {S : World → Prop} {n : Nat} {F : Fence}
def Tp.noDefer (ops : Array Oper) : Bool := ops.all fun o => match o.op with | .defer _ => false | _ => true
theorem Tp.noDefer_spec (h : Tp.noDefer ops = true) {j : Nat} {o : Oper} (ho : ops[j]? = some o) (c : Call) : o.op ≠ .defer c := by
  intro e
  have h1 := (Array.all_eq_true'.1 h) o (Array.mem_of_getElem? ho)
  rw [e] at h1
  cases h1
theorem Tp.yieldF (hF : ∀ f, F.fn f) (hnd : Tp.noDefer ops = true) {i : Nat} {o : Oper} {v : Value} {a : Act} (hi : ops[i]? = some o) (hy : YieldsIf P ops S o v a) {K : Act → World → Prop} {w : World} (hS : S w) (h : K (a.put o.dst v) w) : wpOpIn F n P ops Q i K a w := by
  unfold wpOpIn
  simp only [hi]
  rcases hy with ⟨hw, hv⟩ | ⟨hw, rfl⟩
  · simp only [hw, if_true]
    refine ⟨fun f _ => hF f, ?_⟩
    rw [Oper.semAt_eq _ _ _ (Tp.noDefer_spec hnd hi), hv w hS]
    exact h
  · simp only [hw, Bool.false_eq_true, if_false]
    exact ⟨fun f _ => hF f, h⟩
theorem Tp.putF (hF : ∀ f, F.fn f) (hnd : Tp.noDefer ops = true) {j : Nat} {oi oj : Oper} {v : Value} (hj : ops[j]? = some oj) (hap : oi.apart ops oj = true)
    (hsi : ∀ cs b, oi.op ≠ .select cs b) (hsj : ∀ cs b, oj.op ≠ .select cs b)
    (hQ : ∀ c a w, Q (.panic c) (a.put oi.dst v) w → Q (.panic c) a w) {K : Act → World → Prop} {a : Act} {w : World}
    (hy : YieldsIf P ops S oi v a) (h : wpOpIn F n P ops Q j K (a.put oi.dst v) w) :
    wpOpIn F n P ops Q j (fun a' w' => YieldsIf P ops S oi v a' ∧ K (a'.put oi.dst v) w') a w := by
  obtain ⟨h1, h2, h3⟩ := Oper.apart_spec hap
  have HJJ := Lib.hid (fun c => Tp.noDefer_spec hnd hj c)
  have keep : ∀ (a : Act), YieldsIf P ops S oi v a → ∀ u, YieldsIf P ops S oi v (a.put oj.dst u) := fun a hy u =>
    hy.of_same (execOp_put oi hsi a oj.dst u h3) (wanted_put oi a oj.dst u h3)
  have keepD : ∀ d, YieldsIf P ops S oi v { a with defers := d :: a.defers } := fun d => hy.of_same rfl rfl
  unfold wpOpIn at *
  simp only [hj] at *
  rw [wanted_put oj a oi.dst v h1] at h
  split
  · rename_i hw
    simp only [hw, if_true] at h
    refine ⟨fun f _ => hF f, ?_⟩
    have h := h.2
    rw [Oper.semAt_eq _ _ _ HJJ.out] at h
    rw [Oper.semAt_eq _ _ _ HJJ.out]
    rw [execOp_put oj hsj a oi.dst v h1] at h
    generalize (execOp a.eval oj).run P w = r at *
    cases r with
    | ok x w' =>
      cases x <;> simp only [Oper.uponIn] at h ⊢
      case value u => exact ⟨keep a hy u, by rw [← Act.put_comm a v u h2]; exact h⟩
      case skip => exact ⟨keep a hy _, by rw [← Act.put_comm a v undef h2]; exact h⟩
      case defer d =>
        refine ⟨keep _ (keepD d) _, ?_⟩
        rw [← Act.put_comm _ v undef h2, ← Act.put_defers]
        exact h
      case enter f args =>
        refine ⟨h.1, CallsIn.mono h.2 fun e w'' he => ?_⟩
        cases e with
        | returned u => exact ⟨keep a hy u, by rw [← Act.put_comm a v u h2]; exact he⟩
        | panicked c => exact hQ _ _ _ he
        | outgrown => exact he
      case row row args => exact ⟨h.1, RowsIn.mono h.2 fun u w'' he => ⟨keep a hy u, by rw [← Act.put_comm a v u h2]; exact he⟩⟩
      case round l f tmps assign body =>
        refine ⟨h.1, RoundIn.mono h.2 fun e w'' he => ?_⟩
        cases e with
        | returned u => exact ⟨keep a hy u, by rw [← Act.put_comm a v u h2]; exact he⟩
        | panicked c => exact hQ _ _ _ he
        | outgrown => exact he
    | halt x w' =>
      cases x <;> simp only [Oper.uponIn] at h ⊢
      case panic u => exact hQ _ _ _ h
  · rename_i hw
    simp only [hw] at h
    exact ⟨fun f _ => hF f, keep a hy _, by rw [← Act.put_comm a v undef h2]; exact h.2⟩
/-- Whatever order is picked from here on; S holds behind each operation. -/
def Tp.anyF (F : Fence) (n : Nat) (P : Program) (md : Region.Mode) (ops : Array Oper) (Q : Exit → Act → World → Prop) (S : World → Prop) : Nat → Array Bool → Act → World → Prop
  | 0, listed, a, w => Region.ready md ops listed = [] ∧ Q .normal a w
  | fuel + 1, listed, a, w =>
    (Region.ready md ops listed = [] → Q .normal a w) ∧
    ∀ i ∈ Region.ready md ops listed, wpOpIn F n P ops Q i (fun a' w' => S w' ∧ Tp.anyF F n P md ops Q S fuel (listed.setIfInBounds i true) a' w') a w
theorem Tp.anyF_any : ∀ (fuel : Nat) (listed : Array Bool) (a : Act) (w : World), Tp.anyF F n P md ops Q S fuel listed a w → wpAnyIn F n P md ops Q fuel listed a w
  | 0, _, _, _, h => h
  | fuel + 1, _, _, _, h => ⟨h.1, fun i hi => wpOpIn_mono (fun a' w' h' => Tp.anyF_any fuel _ a' w' h'.2) (h.2 i hi)⟩
theorem Tp.anyF_first (hF : ∀ f, F.fn f) (hnd : Tp.noDefer ops = true) {i : Nat} {oi : Oper} {v : Value} (hi : ops[i]? = some oi) (hsel : ∀ (j : Nat) (o : Oper) cs b, ops[j]? = some o → o.op ≠ .select cs b)
    (hQ : ∀ c a w, Q (.panic c) (a.put oi.dst v) w → Q (.panic c) a w) :
    ∀ (fuel : Nat) (listed : Array Bool) (a : Act) (w : World),
      (∀ j oj, ops[j]? = some oj → j ≠ i → listed.getD j true = false → (∀ e ∈ oj.after, Region.binds md e = true → e.on ≠ i) → oi.apart ops oj = true) →
      i ∈ Region.ready md ops listed → YieldsIf P ops S oi v a → S w →
      Tp.anyF F n P md ops Q S fuel (listed.setIfInBounds i true) (a.put oi.dst v) w → Tp.anyF F n P md ops Q S (fuel + 1) listed a w := by
  intro fuel
  induction fuel with
  | zero =>
    intro listed a w _ hr hy hS H
    refine ⟨fun h => (by rw [h] at hr; cases hr), fun j hj => ?_⟩
    by_cases hji : j = i
    · subst hji; exact Tp.yieldF hF hnd hi hy hS ⟨hS, H⟩
    · have := ready_mono hj hji
      rw [H.1] at this
      cases this
  | succ fuel ih =>
    intro listed a w hfree hr hy hS H
    refine ⟨fun h => (by rw [h] at hr; cases hr), fun j hj => ?_⟩
    by_cases hji : j = i
    · subst hji; exact Tp.yieldF hF hnd hi hy hS ⟨hS, H⟩
    · have h1 := H.2 j (ready_mono hj hji)
      obtain ⟨hjun, oj, hoj, hall⟩ := mem_ready.1 hj
      have hnot : ∀ e ∈ oj.after, Region.binds md e = true → e.on ≠ i := fun e he hb heq => by
        have h1 := hall e he hb
        have h0 := (mem_ready.1 hr).1
        rw [heq] at h1
        rcases Nat.lt_or_ge i listed.size with h' | h'
        · simp [h'] at h0 h1; rw [h0] at h1; cases h1
        · simp [Array.getElem?_eq_none h'] at h1
      have h2 := Tp.putF hF hnd hoj (hfree j oj hoj hji hjun hnot) (fun cs b => hsel i oi cs b hi) (fun cs b => hsel j oj cs b hoj) hQ hy h1
      have hfree' : ∀ k ok, ops[k]? = some ok → k ≠ i → (listed.setIfInBounds j true).getD k true = false →
          (∀ e ∈ ok.after, Region.binds md e = true → e.on ≠ i) → oi.apart ops ok = true := fun k ok hk hki hun hno => by
        refine hfree k ok hk hki ?_ hno
        by_cases hjk : j = k
        · subst hjk; exact hjun
        · rw [getD_set_ne true hjk] at hun; exact hun
      refine wpOpIn_mono (fun a' w' h3 => ⟨h3.2.1, ih (listed.setIfInBounds j true) a' w' hfree' (ready_mono hr (Ne.symm hji)) h3.1 h3.2.1 ?_⟩) h2
      rw [Array.setIfInBounds_comm _ _ hji]
      exact h3.2.2
theorem Tp.anyF_take (hF : ∀ f, F.fn f) (hnd : Tp.noDefer ops = true) {i : Nat} {oi : Oper} {v : Value} {fuel : Nat} {listed : Array Bool} {a : Act} {w : World} (hi : ops[i]? = some oi)
    (hs : Region.noSelect ops = true) (hf : Region.free md ops listed i = true) (hr : (Region.ready md ops listed).contains i = true)
    (hQ : ∀ c a w, Q (.panic c) (a.put oi.dst v) w → Q (.panic c) a w) (hy : YieldsIf P ops S oi v a) (hS : S w)
    (h : Tp.anyF F n P md ops Q S fuel (listed.setIfInBounds i true) (a.put oi.dst v) w) : Tp.anyF F n P md ops Q S (fuel + 1) listed a w :=
  Tp.anyF_first hF hnd hi (Region.noSelect_spec hs) hQ fuel listed a w (Region.free_spec hi hf) (by simpa using hr) hy hS h
/-- One operation alone comes next. -/
theorem Tp.anyF_one {i : Nat} {o : Oper} {fuel : Nat} {listed : Array Bool} {a : Act} {w : World} (hr : Region.ready md ops listed = [i]) (ho : ops[i]? = some o)
    (h : ∀ K : Act → World → Prop, Shut (∀ a w, S w → Tp.anyF F n P md ops Q S fuel (listed.setIfInBounds i true) a w → K a w) → (if Region.wanted o (yielded ops a.tmps) then o.wpIn F n P a w K Q else (∀ f, o.about P w a.eval = some f → F.fn f) ∧ K (a.put o.dst undef) w)) :
    Tp.anyF F n P md ops Q S (fuel + 1) listed a w :=
  ⟨fun h0 => (by rw [hr] at h0; cases h0), fun j hj => by
    rw [hr] at hj
    obtain rfl : j = i := by simpa using hj
    unfold wpOpIn
    rw [ho]
    exact h _ (fun a w h1 h2 => ⟨h1, h2⟩)⟩
/-- One of two operations comes next. -/
theorem Tp.anyF_two {i j : Nat} {oi oj : Oper} {fuel : Nat} {listed : Array Bool} {a : Act} {w : World} (hr : Region.ready md ops listed = [i, j]) (hoi : ops[i]? = some oi) (hoj : ops[j]? = some oj)
    (h : ∀ K : Act → World → Prop, Shut (∀ a w, S w → Tp.anyF F n P md ops Q S fuel (listed.setIfInBounds i true) a w → K a w) → (if Region.wanted oi (yielded ops a.tmps) then oi.wpIn F n P a w K Q else (∀ f, oi.about P w a.eval = some f → F.fn f) ∧ K (a.put oi.dst undef) w))
    (h2 : ∀ K : Act → World → Prop, Shut (∀ a w, S w → Tp.anyF F n P md ops Q S fuel (listed.setIfInBounds j true) a w → K a w) → (if Region.wanted oj (yielded ops a.tmps) then oj.wpIn F n P a w K Q else (∀ f, oj.about P w a.eval = some f → F.fn f) ∧ K (a.put oj.dst undef) w)) :
    Tp.anyF F n P md ops Q S (fuel + 1) listed a w :=
  ⟨fun h0 => (by rw [hr] at h0; cases h0), fun k hk => by
    rw [hr] at hk
    simp only [List.mem_cons, List.not_mem_nil, or_false] at hk
    unfold wpOpIn
    rcases hk with rfl | rfl
    · rw [hoi]
      exact h _ (fun a w h1 h2 => ⟨h1, h2⟩)
    · rw [hoj]
      exact h2 _ (fun a w h1 h2 => ⟨h1, h2⟩)⟩
theorem Tp.region_fence {id : Nat} {a : Act} {w : World} (S : World → Prop) (hm : P.follows .mixedOrders = true) (h : Tp.anyF F n P .any ops Q S ops.size (Array.replicate ops.size false) a w.drew) : (Code.region id ops true).wpIn F n P Q a w :=
  wpIn_region_any hm (Tp.anyF_any _ _ _ _ h)
end
end Go.Proofs.YtimkmokomohgjaaGreat
