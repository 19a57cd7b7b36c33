/- Volume 4 of the texts that the laws of this seat use: EcFree2 EcFree4 TpPhase TpWide TpPath TpPath1 EcTurns2 EcShown EcEng EcAsked: walks of the program's functions, and plain laws. -/
import Derived.Carry
import Derived.BigQuiet
import Derived.Deep.DrawnRows
import Derived.Deep.RegionHeld3
import Derived.RangeFuncNested
import Derived.Laws.EntriesVeiled
import Derived.Test.YtimkmokomohgjaaGreatR02
import Derived.Test.YtimkmokomohgjaaGreatR03
namespace Go.Proofs.YtimkmokomohgjaaGreat
open Go.RowKit
def headTail (n m : Nat) : Array Bool := (List.replicate n true ++ List.replicate (m - n) false).toArray
/-- The tail waits for the whole head, and each of it for the one before. -/
def tailB (m : List Oper) (n z : Nat) : Bool :=
  ((List.range n).all fun j => decide (n = m.length) || decide (j = z) || Region.waitsFor .any m.toArray n j) && ((List.range m.length).all fun t => decide (t ≤ n) || Region.waitsFor .any m.toArray t (t - 1))
theorem tailB_spec {m : List Oper} {n z : Nat} (h : tailB m n z = true) {t : Nat} (ht : n ≤ t) (htm : t < m.length) :
    (n = t ∧ ∀ q, q < n → q ≠ z → ∀ o, m[t]? = some o → ∃ e ∈ o.after, Region.binds .any e = true ∧ e.on = q) ∨ (n < t ∧ ∀ o, m[t]? = some o → ∃ e ∈ o.after, Region.binds .any e = true ∧ e.on = t - 1) := by
  simp only [tailB, Bool.and_eq_true, List.all_eq_true, List.mem_range, Bool.or_eq_true, decide_eq_true_eq] at h
  have conv : ∀ q o, m[t]? = some o → Region.waitsFor .any m.toArray t q = true → ∃ e ∈ o.after, Region.binds .any e = true ∧ e.on = q := by
    intro q o ho hw
    obtain ⟨oj, hoj, hh⟩ := Region.waitsFor_spec hw
    have : oj = o := by
      simp only [List.getElem?_toArray] at hoj
      rw [ho] at hoj
      exact (Option.some.inj hoj).symm
    rw [this] at hh
    exact hh
  rcases Nat.eq_or_lt_of_le ht with rfl | hlt
  · refine .inl ⟨rfl, fun q hq hqz o ho => ?_⟩
    rcases h.1 q hq with (h1 | h1) | h1
    · omega
    · exact absurd h1 hqz
    · exact conv q o ho h1
  · refine .inr ⟨hlt, fun o ho => ?_⟩
    rcases h.2 t htm with h1 | h1
    · omega
    · exact conv _ o ho h1
/-- The head but for z, and the first of the tail. -/
def lazyTail (n z m : Nat) : Array Bool := ((List.range m).map fun i => decide (i ≤ n) && decide (i ≠ z)).toArray
/-- Where the tail's first is taken ahead of z: z comes next, and then the tail's rest. -/
def lazyB (m : List Oper) (n z : Nat) : Bool :=
  decide (n ≤ z) || (decide (n < m.length) && decide (Region.ready .any m.toArray (lazyTail n z m.length) = [z]) && Region.seqB .any m.toArray (m.length - (n + 1)) (n + 1) (headTail (n + 1) m.length))
theorem putS_perm {l : List Oper} {vs : Nat → Value} {S S' : List Nat} {a : Act} (hB : freeB l a.tmps.size = true) (hp : S.Perm S') (hS : ∀ x ∈ S, x < l.length) : putS l vs S a = putS l vs S' a := by
  refine hp.foldl_eq' (fun x hx y hy z => ?_) a
  by_cases hxy : x = y
  · rw [hxy]
  · refine Act.put_comm z (vs x) (vs y) fun d hdx hdy => ?_
    have hx' := hS x hx
    have hy' := hS y hy
    have hox : l[x]? = some l[x] := List.getElem?_eq_getElem hx'
    have := (freeB_spec hB hox).apart y d hy' (Ne.symm hxy) hdy
    exact this.1 (by simpa [dstOf, hox] using hdx)
/-- The same over any relation of worlds that is handed on, in the place of Ext. -/
theorem wp_region_free_tailR {P : Program} {id : Nat} {Q : Exit → Act → World → Prop} {a0 : Act} {w0 : World} {m : List Oper} (R : World → World → Prop) (hR0 : R w0 w0.drew) (hRt : ∀ {x y z : World}, R x y → R y z → R x z) (n z : Nat) (Φ : Nat → Value → World → Prop) (hm : P.follows .mixedOrders = true) (hn : n ≤ m.length) (hB : freeB (m.take n) a0.tmps.size = true)
    (hT : tailB m n z = true) (hL : lazyB m n z = true) (hS : Region.seqB .any m.toArray (m.length - n) n (headTail n m.length) = true)
    (hmono : ∀ i v w w', Φ i v w → R w w' → Φ i v w')
    (hob : ∀ i o, i < n → m[i]? = some o → ∀ a w, R w0 w → Finds (m.take n) Φ a0 o a w → Ran P m.toArray o a w (fun v w' => Φ i v w' ∧ R w w'))
    (hQ : ∀ vs : Nat → Value, ∀ w, R w0 w → (∀ i, i < n → Φ i (vs i) w) → wpList P m.toArray Q (m.drop n) (putAll (m.take n) vs a0) w)
    (hZ : z < n → ∀ vs : Nat → Value, ∀ w, R w0 w → (∀ i, i < n → i ≠ z → Φ i (vs i) w) → ∀ on oz, m[n]? = some on → m[z]? = some oz → wpList P m.toArray Q (on :: oz :: m.drop (n + 1)) (putS (m.take n) vs ((List.range n).filter (· ≠ z)) a0) w) : (Code.region id m.toArray true).wp P Q a0 w0 := by
  refine wp_region_any hm ?_
  obtain ⟨l, hl⟩ : ∃ l, m.take n = l := ⟨_, rfl⟩
  have hln : l.length = n := by rw [← hl, List.length_take]; omega
  have hget : ∀ i, i < n → m[i]? = l[i]? := fun i hi => by rw [← hl, List.getElem?_take]; simp [hi]
  rw [hl] at hB hob hQ hZ
  have key : ∀ (f : Nat) (S : List Nat) (vs : Nat → Value) (listed : Array Bool) (w : World), R w0 w → S.Nodup → (∀ i, i ∈ S ↔ i < l.length ∧ listed.getD i false = true) → listed.size = m.length ∧ (∀ i, l.length ≤ i → listed.getD i false = false) → S.length + f = l.length →
      (∀ i ∈ S, Φ i (vs i) w) → wpAny P .any m.toArray Q (f + (m.length - n)) listed (putS l vs S a0) w := by
    intro f
    induction f with
    | zero =>
      intro S vs listed w hE hd hmem hsz hlen hΦ
      have hall : ∀ i, i < l.length → i ∈ S := by
        intro i hi
        rcases Classical.em (i ∈ S) with h | h
        · exact h
        · have h1 := nodup_le' (S := i :: S) (N := l.length) (by simp [h, hd]) (by
            intro x hx
            rcases List.mem_cons.1 hx with rfl | hx
            · exact hi
            · exact ((hmem x).1 hx).1)
          simp at h1
          omega
      have hp : S.Perm (List.range l.length) := (List.perm_ext_iff_of_nodup hd List.nodup_range).2 fun i => ⟨fun h => List.mem_range.2 ((hmem i).1 h).1, fun h => hall i (List.mem_range.1 h)⟩
      have he : putS l vs S a0 = putAll l vs a0 := putS_perm hB hp fun x hx => ((hmem x).1 hx).1
      rw [he, Nat.zero_add]
      have hs1 := hsz.1
      have hlist : listed = headTail n m.length := by
        refine Array.ext_getElem? fun i => ?_
        rcases Nat.lt_or_ge i m.length with hi | hi
        · have h1 : listed[i]? = some (listed.getD i false) := by
            have : i < listed.size := by omega
            simp [Array.getD, this]
          rw [h1]
          rcases Nat.lt_or_ge i n with h2 | h2
          · rw [((hmem i).1 (hall i (by omega))).2]
            simp [headTail, List.getElem?_append, h2]
          · rw [hsz.2 i (by omega)]
            simp only [headTail, List.getElem?_toArray, List.getElem?_append, List.length_replicate, Nat.not_lt.2 h2, if_false, List.getElem?_replicate]
            rw [if_pos (by omega)]
        · rw [Array.getElem?_eq_none (by omega)]
          simp [headTail]
          omega
      rw [hlist]
      have hdl : (m.drop n).length = m.length - n := by simp
      have := wpAny_of_seq (md := .any) (Q' := Q) (m.drop n) n (headTail n m.length) _ w (fun j => by simp [List.getElem?_drop]) (by rw [hdl]; exact hS) (hQ vs w hE fun i hi => hΦ i (hall i (by omega)))
      rwa [hdl] at this
    | succ f ih =>
      intro S vs listed w hE hd hmem hsz hlen hΦ
      rw [Nat.add_right_comm]
      have hex : ∃ i, i < l.length ∧ i ∉ S := by
        rcases Classical.em (∃ i, i < l.length ∧ i ∉ S) with h | h
        · exact h
        · have hsub : (List.range l.length).length ≤ S.length := nodup_sub_le _ _ List.nodup_range fun i hi => by
            rcases Classical.em (i ∈ S) with h2 | h2
            · exact h2
            · exact absurd ⟨i, List.mem_range.1 hi, h2⟩ h
          simp at hsub
          omega
      refine ⟨fun hr => ?_, fun i hi => ?_⟩
      · -- some operation is still to come: the first of them is ready
        exfalso
        have hmin : ∀ (k i : Nat), i ≤ k → i < l.length → i ∉ S → False := by
          intro k
          induction k with
          | zero =>
            intro i hik hi hiS
            obtain rfl : i = 0 := by omega
            have ho : l[0]? = some l[0] := List.getElem?_eq_getElem hi
            have hfr := freeB_spec hB ho
            have : 0 ∈ Region.ready .any m.toArray listed := mem_ready.2 ⟨getD_in (by have := hsz.1; omega) (by
              cases hh : listed.getD 0 false
              · rfl
              · exact absurd ((hmem 0).2 ⟨hi, hh⟩) hiS), l[0], by rw [List.getElem?_toArray, hget 0 (by omega)]; simp, fun e he hbi => absurd (hfr.back e he hbi) (by omega)⟩
            rw [hr] at this
            cases this
          | succ k ihk =>
            intro i hik hi hiS
            have ho : l[i]? = some l[i] := List.getElem?_eq_getElem hi
            have hfr := freeB_spec hB ho
            have : i ∈ Region.ready .any m.toArray listed := mem_ready.2 ⟨getD_in (by have := hsz.1; omega) (by
              cases hh : listed.getD i false
              · rfl
              · exact absurd ((hmem i).2 ⟨hi, hh⟩) hiS), l[i], by rw [List.getElem?_toArray, hget i (by omega)]; simp, fun e he hbi => by
                have hlt := hfr.back e he hbi
                rcases Classical.em (e.on ∈ S) with h | h
                · exact ((hmem _).1 h).2
                · exact (ihk e.on (by omega) (by omega) h).elim⟩
            rw [hr] at this
            cases this
        obtain ⟨i, hi, hiS⟩ := hex
        exact hmin i i (Nat.le_refl _) hi hiS
      · obtain ⟨hun, o, ho, hall⟩ := mem_ready.1 hi
        have hcase : i < n ∨ (i = n ∧ z < n ∧ z ∉ S ∧ ∀ q, q < n → q ≠ z → q ∈ S) := by
          rcases Nat.lt_or_ge i n with h | h
          · exact .inl h
          · refine .inr ?_
            obtain ⟨q, hq, hqS⟩ := hex
            rcases tailB_spec hT h (by simpa using (Array.getElem?_eq_some_iff.1 ho).1) with ⟨rfl, hw⟩ | ⟨hlt, hw⟩
            · have hall2 : ∀ q, q < n → q ≠ z → q ∈ S := by
                intro q hq hqz
                obtain ⟨e, he, hb, hon⟩ := hw q hq hqz o (by simpa using ho)
                have h1 := hall e he hb
                rw [hon] at h1
                exact (hmem q).2 ⟨by omega, h1⟩
              have hqz : q = z := by
                rcases Classical.em (q = z) with h3 | h3
                · exact h3
                · exact absurd (hall2 q (by omega) h3) hqS
              exact ⟨rfl, by omega, hqz ▸ hqS, hall2⟩
            · obtain ⟨e, he, hb, hon⟩ := hw o (by simpa using ho)
              have h1 := hall e he hb
              rw [hon, hsz.2 (i - 1) (by omega)] at h1
              cases h1
        rcases hcase with hin | ⟨rfl, hzn, hzS, hall2⟩
        case inr =>
          have hperm : S.Perm ((List.range i).filter (· ≠ z)) := (List.perm_ext_iff_of_nodup hd ((List.Pairwise.filter _ List.nodup_range))).2 fun q => by
            simp only [List.mem_filter, List.mem_range, decide_eq_true_eq]
            exact ⟨fun h => ⟨by have := ((hmem q).1 h).1; omega, fun e => hzS (e ▸ h)⟩, fun h => hall2 q h.1 h.2⟩
          have hf0 : f = 0 := by
            have h1 := hperm.length_eq
            have h2 : ((List.range i).filter (· ≠ z)).length + 1 = i := by
              have h3 := nodup_sub_le (List.range i) (z :: (List.range i).filter (· ≠ z)) List.nodup_range fun q hq => by
                rcases Classical.em (q = z) with h4 | h4
                · simp [h4]
                · simp [h4, List.mem_range.1 hq]
              have h5 := nodup_sub_le (z :: (List.range i).filter (· ≠ z)) (List.range i) (by
                rw [List.nodup_cons]
                exact ⟨by simp, (List.Pairwise.filter _ List.nodup_range)⟩) fun q hq => by
                rcases List.mem_cons.1 hq with rfl | h4
                · exact List.mem_range.2 hzn
                · exact (List.mem_filter.1 h4).1
              simp only [List.length_cons, List.length_range] at h3 h5
              omega
            omega
          subst hf0
          have him : i < m.length := by simpa using (Array.getElem?_eq_some_iff.1 ho).1
          simp only [lazyB, Bool.or_eq_true, decide_eq_true_eq, Bool.and_eq_true] at hL
          obtain ⟨⟨_, hrz⟩, hsq⟩ := hL.resolve_left (by omega)
          have hs1 := hsz.1
          have hset : listed.setIfInBounds i true = lazyTail i z m.length := by
            refine Array.ext_getElem? fun k => ?_
            rcases Nat.lt_or_ge k m.length with hk | hk
            · have h1 : (listed.setIfInBounds i true)[k]? = some ((listed.setIfInBounds i true).getD k false) := by
                have hk2 : k < listed.size := by omega
                simp [Array.getD, hk2]
              rw [h1]
              have h2 : (lazyTail i z m.length)[k]? = some (decide (k ≤ i) && decide (k ≠ z)) := by simp [lazyTail, hk]
              rw [h2]
              congr 1
              by_cases hki : k = i
              · subst hki
                have : (listed.setIfInBounds k true).getD k false = true := by simp [show k < listed.size by omega]
                rw [this]
                simp
                omega
              · have : (listed.setIfInBounds i true).getD k false = listed.getD k false := getD_set_ne false (Ne.symm hki)
                rw [this]
                rcases Nat.lt_or_ge k i with h3 | h3
                · by_cases hkz : k = z
                  · subst hkz
                    have : listed.getD k false = false := by
                      cases hh : listed.getD k false
                      · rfl
                      · exact absurd ((hmem k).2 ⟨by omega, hh⟩) hzS
                    rw [this]
                    simp
                  · rw [((hmem k).1 (hall2 k h3 hkz)).2]
                    simp [hkz]
                    omega
                · rw [hsz.2 k (by omega)]
                  simp
                  omega
            · exact (Array.getElem?_eq_none (by simp; omega)).trans (Array.getElem?_eq_none (by simp [lazyTail]; omega)).symm
          have hzm : z < m.length := by omega
          have hoz : m[z]? = some m[z] := List.getElem?_eq_getElem hzm
          have hon : m[i]? = some o := by simpa using ho
          have hall3 := hZ hzn vs w hE (fun q hq hqz => hΦ q (hall2 q hq hqz)) o m[z] hon hoz
          rw [← putS_perm hB hperm fun x hx => ((hmem x).1 hx).1] at hall3
          have hw : wpOp P m.toArray Q i (wpList P m.toArray Q (m[z] :: m.drop (i + 1))) (putS l vs S a0) w := by
            unfold wpOp
            simp only [ho]
            exact hall3
          refine wpOp_mono (fun a' w' h' => ?_) hw
          rw [hset]
          have hlen2 : 0 + (m.length - i) = (m.length - (i + 1)) + 1 := by omega
          rw [hlen2]
          refine ⟨fun h1 => (by rw [hrz] at h1; cases h1), fun k hk => ?_⟩
          rw [hrz] at hk
          obtain rfl : k = z := by simpa using hk
          have hw2 : wpOp P m.toArray Q k (wpList P m.toArray Q (m.drop (i + 1))) a' w' := by
            unfold wpOp
            simp only [List.getElem?_toArray, hoz]
            exact h'
          refine wpOp_mono (fun a2 w2 h2 => ?_) hw2
          have hset2 : (lazyTail i k m.length).setIfInBounds k true = headTail (i + 1) m.length := by
            refine Array.ext_getElem? fun j => ?_
            rcases Nat.lt_or_ge j m.length with hj | hj
            · by_cases hjk : j = k
              · subst hjk
                rw [Array.getElem?_setIfInBounds_self_of_lt (by simp [lazyTail]; omega)]
                simp [headTail, List.getElem?_append, show j < i + 1 by omega]
              · rw [Array.getElem?_setIfInBounds_ne (Ne.symm hjk)]
                simp only [lazyTail, headTail, List.getElem?_toArray, List.getElem?_map, List.getElem?_range hj, Option.map_some]
                rcases Nat.lt_or_ge j (i + 1) with h3 | h3
                · simp [List.getElem?_append, h3, hjk]
                  omega
                · simp [List.getElem?_append, Nat.not_lt.2 h3, List.getElem?_replicate]
                  omega
            · exact (Array.getElem?_eq_none (by simp [lazyTail]; omega)).trans (Array.getElem?_eq_none (by simp [headTail]; omega)).symm
          rw [hset2]
          have hdl : (m.drop (i + 1)).length = m.length - (i + 1) := by simp
          have := wpAny_of_seq (md := .any) (Q' := Q) (m.drop (i + 1)) (i + 1) (headTail (i + 1) m.length) a2 w2 (fun j => by simp [List.getElem?_drop]) (by rw [hdl]; exact hsq) h2
          rwa [hdl] at this
        have ho' : l[i]? = some o := by rw [← hget i hin]; simpa using ho
        have hil : i < l.length := (List.getElem?_eq_some_iff.1 ho').1
        have hiS : i ∉ S := fun h => by
          have := ((hmem i).1 h).2
          rw [getD_both hun] at this
          cases this
        have hfr := freeB_spec hB ho'
        have hF : Finds l Φ a0 o (putS l vs S a0) w := by
          constructor
          · intro j d hjd hlook
            have hj : j < l.length := by
              rcases Nat.lt_or_ge j l.length with h | h
              · exact h
              · simp [dstOf, List.getElem?_eq_none h] at hjd
            by_cases hji : j = i
            · subst hji
              have hod : o.dst = some d := by simpa [dstOf, ho'] using hjd
              exact absurd hlook (hfr.own d hod).2
            · obtain ⟨e, he, hb, hon⟩ := (hfr.apart j d hj hji hjd).2 hlook
              have hjS : j ∈ S := (hmem j).2 ⟨hj, by rw [← hon]; exact hall e he hb⟩
              have hoj : l[j]? = some l[j] := List.getElem?_eq_getElem hj
              have hsize : d < a0.tmps.size := ((freeB_spec hB hoj).own d (by simpa [dstOf, hoj] using hjd)).1
              rw [putS_on hjd S a0 hsize (fun k hk hkd => by
                rcases Classical.em (k = j) with h | h
                · exact h
                · exact absurd (by simpa [dstOf, hoj] using hjd) ((freeB_spec hB hoj).apart k d ((hmem k).1 hk).1 h hkd).1) hjS]
              exact hΦ j hjS
          · intro d hno
            exact putS_off S a0 fun k hk => hno k ((hmem k).1 hk).1
        have hw := hob i o hin (by rw [hget i hin]; exact ho') (putS l vs S a0) w hE hF
        have next : ∀ v w', (Φ i v w' ∧ R w w') → wpAny P .any m.toArray Q (f + (m.length - n)) (listed.setIfInBounds i true) ((putS l vs S a0).put o.dst v) w' := by
          rintro v w' ⟨hv, hE'⟩
          have hdo : dstOf l i = o.dst := by simp [dstOf, ho']
          have hvs : (putS l vs S a0).put o.dst v = putS l (fun k => if k = i then v else vs k) (S ++ [i]) a0 := by
            unfold putS
            rw [List.foldl_append]
            simp only [List.foldl_cons, List.foldl_nil, if_true, hdo]
            congr 1
            exact putS_congr S a0 fun k hk => by
              have : k ≠ i := fun e => hiS (e ▸ hk)
              simp [this]
          rw [hvs]
          refine ih (S ++ [i]) _ _ w' (hRt hE hE') ?_ ?_ ⟨by simpa using hsz.1, fun k hk => ?_⟩ (by simp; omega) ?_
          · rw [List.nodup_append]
            exact ⟨hd, by simp, fun x hx y hy e => by simp at hy; subst hy; exact hiS (e ▸ hx)⟩
          · intro k
            simp only [List.mem_append, List.mem_singleton, hmem k]
            by_cases hki : k = i
            · subst hki
              have := hsz.1
              simp [hil, show k < listed.size by omega]
            · have : (listed.setIfInBounds i true).getD k false = listed.getD k false := getD_set_ne false (Ne.symm hki)
              rw [this]
              simp [hki]
          · have : (listed.setIfInBounds i true).getD k false = listed.getD k false := getD_set_ne false (by omega)
            rw [this]
            exact hsz.2 k hk
          · intro k hk
            by_cases hki : k = i
            · subst hki; simpa using hv
            · rw [if_neg hki]
              rcases List.mem_append.1 hk with h | h
              · exact hmono _ _ _ _ (hΦ k h) hE'
              · exact absurd (by simpa using h) hki
        unfold wpOp
        rw [ho]
        simp only []
        unfold Ran at hw
        split
        · rename_i hwd
          rw [if_pos hwd] at hw
          refine .inl ?_
          have hw2 : Oper.wp P o (putS l vs S a0) w (fun a' w' => ∃ v, a' = (putS l vs S a0).put o.dst v ∧ Φ i v w' ∧ R w w') Q := by
            unfold Oper.wp at hw ⊢
            generalize (execOp (putS l vs S a0).eval o).run P w = r at *
            cases r with
            | ok x w' =>
              cases x <;> simp only [Oper.upon] at hw ⊢
              all_goals first
                | exact hw
                | exact Calls.mono hw (fun e w'' he => by cases e <;> first | exact he | exact (he : False).elim | (obtain ⟨_, _, hh⟩ := he; exact hh.elim))
                | exact Rows.mono hw (fun _ _ he => he)
            | halt x w' => cases x <;> simp only [Oper.upon] at hw
          refine Oper.wp_mono ?_ hw2
          rintro a' w' ⟨v, rfl, hv⟩
          exact next v w' hv
        · rename_i hwd
          rw [if_neg hwd] at hw
          exact next undef w hw
  have := key n [] (fun _ => undef) (Array.replicate m.toArray.size false) _ hR0 (by simp) (by
    intro i
    have h0 := getD_replicate_false m.toArray.size i
    simp only [h0]
    simp) ⟨by simp, by
    intro i hi
    exact getD_replicate_false _ _⟩ (by simp; omega) (by simp)
  rw [show n + (m.length - n) = m.toArray.size by simp; omega] at this
  exact this
theorem wp_region_free_tail {P : Program} {id : Nat} {Q : Exit → Act → World → Prop} {a0 : Act} {w0 : World} {m : List Oper} (n z : Nat) (Φ : Nat → Value → World → Prop) (hm : P.follows .mixedOrders = true) (hn : n ≤ m.length) (hB : freeB (m.take n) a0.tmps.size = true)
    (hT : tailB m n z = true) (hL : lazyB m n z = true) (hS : Region.seqB .any m.toArray (m.length - n) n (headTail n m.length) = true)
    (hmono : ∀ i v w w', Φ i v w → Ext w w' → Φ i v w')
    (hob : ∀ i o, i < n → m[i]? = some o → ∀ a w, Ext w0 w → Finds (m.take n) Φ a0 o a w → Ran P m.toArray o a w (fun v w' => Φ i v w' ∧ Ext w w'))
    (hQ : ∀ vs : Nat → Value, ∀ w, Ext w0 w → (∀ i, i < n → Φ i (vs i) w) → wpList P m.toArray Q (m.drop n) (putAll (m.take n) vs a0) w)
    (hZ : z < n → ∀ vs : Nat → Value, ∀ w, Ext w0 w → (∀ i, i < n → i ≠ z → Φ i (vs i) w) → ∀ on oz, m[n]? = some on → m[z]? = some oz → wpList P m.toArray Q (on :: oz :: m.drop (n + 1)) (putS (m.take n) vs ((List.range n).filter (· ≠ z)) a0) w) : (Code.region id m.toArray true).wp P Q a0 w0 :=
  wp_region_free_tailR Ext ((Ext.refl w0).drew) (fun h k => h.trans k) n z Φ hm hn hB hT hL hS hmono hob hQ hZ
end Go.Proofs.YtimkmokomohgjaaGreat
namespace Go.Proofs.YtimkmokomohgjaaGreat
open Go.RowKit
/-- The tail's first (n) waits for j, or for one of the head that does. -/
def awaits (m : List Oper) (n : Nat) : Nat → Nat → Bool
  | 0, _ => false
  | f + 1, j => Region.waitsFor .any m.toArray n j || (List.range n).any fun q => Region.waitsFor .any m.toArray q j && awaits m n f q
def closedB (m : List Oper) (n : Nat) : Bool :=
  ((List.range n).all fun j => awaits m n (n + 1) j) && ((List.range m.length).all fun t => decide (t ≤ n) || Region.waitsFor .any m.toArray t (t - 1))
theorem waits_conv {m : List Oper} {t q : Nat} {o : Oper} (ho : m[t]? = some o) (hw : Region.waitsFor .any m.toArray t q = true) : ∃ e ∈ o.after, Region.binds .any e = true ∧ e.on = q := by
  obtain ⟨oj, hoj, hh⟩ := Region.waitsFor_spec hw
  have : oj = o := by
    simp only [List.getElem?_toArray] at hoj
    rw [ho] at hoj
    exact (Option.some.inj hoj).symm
  rw [this] at hh
  exact hh
theorem awaits_in {m : List Oper} {n : Nat} {S : List Nat} (hd : ∀ q, q < n → (∀ o, m[n]? = some o → ∃ e ∈ o.after, Region.binds .any e = true ∧ e.on = q) → q ∈ S)
    (hcl : ∀ i ∈ S, ∀ o, m[i]? = some o → ∀ e ∈ o.after, Region.binds .any e = true → e.on < n → e.on ∈ S) : ∀ (f j : Nat), j < n → awaits m n f j = true → j ∈ S := by
  intro f
  induction f with
  | zero => intro j _ h; cases h
  | succ f ih =>
    intro j hj h
    rw [awaits, Bool.or_eq_true] at h
    rcases h with h | h
    · exact hd j hj fun o ho => waits_conv ho h
    · obtain ⟨q, hq, h⟩ := List.any_eq_true.1 h
      rw [Bool.and_eq_true] at h
      have hqS := ih q (List.mem_range.1 hq) h.2
      obtain ⟨o, ho, _⟩ := Region.waitsFor_spec h.1
      obtain ⟨e, he, hb, hon⟩ := waits_conv (m := m) (by simpa using ho) h.1
      have := hcl q hqS o (by simpa using ho) e he hb (by omega)
      rwa [hon] at this
theorem closedB_spec {m : List Oper} {n : Nat} (h : closedB m n = true) {t : Nat} (ht : n ≤ t) (htm : t < m.length) :
    (n = t ∧ ∀ q, q < n → awaits m n (n + 1) q = true) ∨ (n < t ∧ ∀ o, m[t]? = some o → ∃ e ∈ o.after, Region.binds .any e = true ∧ e.on = t - 1) := by
  simp only [closedB, Bool.and_eq_true, List.all_eq_true, List.mem_range, Bool.or_eq_true, decide_eq_true_eq] at h
  rcases Nat.eq_or_lt_of_le ht with rfl | hlt
  · exact .inl ⟨rfl, h.1⟩
  · refine .inr ⟨hlt, fun o ho => ?_⟩
    rcases h.2 t htm with h1 | h1
    · omega
    · exact waits_conv ho h1
theorem wp_region_free_closed {P : Program} {id : Nat} {Q : Exit → Act → World → Prop} {a0 : Act} {w0 : World} {m : List Oper} (n : Nat) (Φ : Nat → Value → World → Prop) (hm : P.follows .mixedOrders = true) (hn : n ≤ m.length) (hB : freeB (m.take n) a0.tmps.size = true)
    (hT : closedB m n = true) (hS : Region.seqB .any m.toArray (m.length - n) n (headTail n m.length) = true)
    (hmono : ∀ i v w w', Φ i v w → Ext w w' → Φ i v w')
    (hob : ∀ i o, i < n → m[i]? = some o → ∀ a w, Ext w0 w → Finds (m.take n) Φ a0 o a w → Ran P m.toArray o a w (fun v w' => Φ i v w' ∧ Ext w w'))
    (hQ : ∀ vs : Nat → Value, ∀ w, Ext w0 w → (∀ i, i < n → Φ i (vs i) w) → wpList P m.toArray Q (m.drop n) (putAll (m.take n) vs a0) w) : (Code.region id m.toArray true).wp P Q a0 w0 := by
  refine wp_region_any hm ?_
  obtain ⟨l, hl⟩ : ∃ l, m.take n = l := ⟨_, rfl⟩
  have hln : l.length = n := by rw [← hl, List.length_take]; omega
  have hget : ∀ i, i < n → m[i]? = l[i]? := fun i hi => by rw [← hl, List.getElem?_take]; simp [hi]
  rw [hl] at hB hob hQ
  have key : ∀ (f : Nat) (S : List Nat) (vs : Nat → Value) (listed : Array Bool) (w : World), Ext w0 w → S.Nodup → (∀ i, i ∈ S ↔ i < l.length ∧ listed.getD i false = true) → listed.size = m.length ∧ (∀ i, l.length ≤ i → listed.getD i false = false) → S.length + f = l.length →
      (∀ i ∈ S, Φ i (vs i) w) → (∀ i ∈ S, ∀ o, m[i]? = some o → ∀ e ∈ o.after, Region.binds .any e = true → e.on < n → e.on ∈ S) → wpAny P .any m.toArray Q (f + (m.length - n)) listed (putS l vs S a0) w := by
    intro f
    induction f with
    | zero =>
      intro S vs listed w hE hd hmem hsz hlen hΦ hcl
      have hall : ∀ i, i < l.length → i ∈ S := by
        intro i hi
        rcases Classical.em (i ∈ S) with h | h
        · exact h
        · have h1 := nodup_le' (S := i :: S) (N := l.length) (by simp [h, hd]) (by
            intro x hx
            rcases List.mem_cons.1 hx with rfl | hx
            · exact hi
            · exact ((hmem x).1 hx).1)
          simp at h1
          omega
      have hp : S.Perm (List.range l.length) := (List.perm_ext_iff_of_nodup hd List.nodup_range).2 fun i => ⟨fun h => List.mem_range.2 ((hmem i).1 h).1, fun h => hall i (List.mem_range.1 h)⟩
      have he : putS l vs S a0 = putAll l vs a0 := putS_perm hB hp fun x hx => ((hmem x).1 hx).1
      rw [he, Nat.zero_add]
      have hs1 := hsz.1
      have hlist : listed = headTail n m.length := by
        refine Array.ext_getElem? fun i => ?_
        rcases Nat.lt_or_ge i m.length with hi | hi
        · have h1 : listed[i]? = some (listed.getD i false) := by
            have : i < listed.size := by omega
            simp [Array.getD, this]
          rw [h1]
          rcases Nat.lt_or_ge i n with h2 | h2
          · rw [((hmem i).1 (hall i (by omega))).2]
            simp [headTail, List.getElem?_append, h2]
          · rw [hsz.2 i (by omega)]
            simp only [headTail, List.getElem?_toArray, List.getElem?_append, List.length_replicate, Nat.not_lt.2 h2, if_false, List.getElem?_replicate]
            rw [if_pos (by omega)]
        · rw [Array.getElem?_eq_none (by omega)]
          simp [headTail]
          omega
      rw [hlist]
      have hdl : (m.drop n).length = m.length - n := by simp
      have := wpAny_of_seq (md := .any) (Q' := Q) (m.drop n) n (headTail n m.length) _ w (fun j => by simp [List.getElem?_drop]) (by rw [hdl]; exact hS) (hQ vs w hE fun i hi => hΦ i (hall i (by omega)))
      rwa [hdl] at this
    | succ f ih =>
      intro S vs listed w hE hd hmem hsz hlen hΦ hcl
      rw [Nat.add_right_comm]
      have hex : ∃ i, i < l.length ∧ i ∉ S := by
        rcases Classical.em (∃ i, i < l.length ∧ i ∉ S) with h | h
        · exact h
        · have hsub : (List.range l.length).length ≤ S.length := nodup_sub_le _ _ List.nodup_range fun i hi => by
            rcases Classical.em (i ∈ S) with h2 | h2
            · exact h2
            · exact absurd ⟨i, List.mem_range.1 hi, h2⟩ h
          simp at hsub
          omega
      refine ⟨fun hr => ?_, fun i hi => ?_⟩
      · -- some operation is still to come: the first of them is ready
        exfalso
        have hmin : ∀ (k i : Nat), i ≤ k → i < l.length → i ∉ S → False := by
          intro k
          induction k with
          | zero =>
            intro i hik hi hiS
            obtain rfl : i = 0 := by omega
            have ho : l[0]? = some l[0] := List.getElem?_eq_getElem hi
            have hfr := freeB_spec hB ho
            have : 0 ∈ Region.ready .any m.toArray listed := mem_ready.2 ⟨getD_in (by have := hsz.1; omega) (by
              cases hh : listed.getD 0 false
              · rfl
              · exact absurd ((hmem 0).2 ⟨hi, hh⟩) hiS), l[0], by rw [List.getElem?_toArray, hget 0 (by omega)]; simp, fun e he hbi => absurd (hfr.back e he hbi) (by omega)⟩
            rw [hr] at this
            cases this
          | succ k ihk =>
            intro i hik hi hiS
            have ho : l[i]? = some l[i] := List.getElem?_eq_getElem hi
            have hfr := freeB_spec hB ho
            have : i ∈ Region.ready .any m.toArray listed := mem_ready.2 ⟨getD_in (by have := hsz.1; omega) (by
              cases hh : listed.getD i false
              · rfl
              · exact absurd ((hmem i).2 ⟨hi, hh⟩) hiS), l[i], by rw [List.getElem?_toArray, hget i (by omega)]; simp, fun e he hbi => by
                have hlt := hfr.back e he hbi
                rcases Classical.em (e.on ∈ S) with h | h
                · exact ((hmem _).1 h).2
                · exact (ihk e.on (by omega) (by omega) h).elim⟩
            rw [hr] at this
            cases this
        obtain ⟨i, hi, hiS⟩ := hex
        exact hmin i i (Nat.le_refl _) hi hiS
      · obtain ⟨hun, o, ho, hall⟩ := mem_ready.1 hi
        have hin : i < n := by
          rcases Nat.lt_or_ge i n with h | h
          · exact h
          · exfalso
            obtain ⟨q, hq, hqS⟩ := hex
            rcases closedB_spec hT h (by simpa using (Array.getElem?_eq_some_iff.1 ho).1) with ⟨rfl, hw⟩ | ⟨hlt, hw⟩
            · exact hqS (awaits_in (S := S) (fun q hq hwq => by
                obtain ⟨e, he, hb, hon⟩ := hwq o (by simpa using ho)
                have h1 := hall e he hb
                rw [hon] at h1
                exact (hmem q).2 ⟨by omega, h1⟩) hcl _ q (by omega) (hw q (by omega)))
            · obtain ⟨e, he, hb, hon⟩ := hw o (by simpa using ho)
              have h1 := hall e he hb
              rw [hon, hsz.2 (i - 1) (by omega)] at h1
              cases h1
        have ho' : l[i]? = some o := by rw [← hget i hin]; simpa using ho
        have hil : i < l.length := (List.getElem?_eq_some_iff.1 ho').1
        have hiS : i ∉ S := fun h => by
          have := ((hmem i).1 h).2
          rw [getD_both hun] at this
          cases this
        have hfr := freeB_spec hB ho'
        have hF : Finds l Φ a0 o (putS l vs S a0) w := by
          constructor
          · intro j d hjd hlook
            have hj : j < l.length := by
              rcases Nat.lt_or_ge j l.length with h | h
              · exact h
              · simp [dstOf, List.getElem?_eq_none h] at hjd
            by_cases hji : j = i
            · subst hji
              have hod : o.dst = some d := by simpa [dstOf, ho'] using hjd
              exact absurd hlook (hfr.own d hod).2
            · obtain ⟨e, he, hb, hon⟩ := (hfr.apart j d hj hji hjd).2 hlook
              have hjS : j ∈ S := (hmem j).2 ⟨hj, by rw [← hon]; exact hall e he hb⟩
              have hoj : l[j]? = some l[j] := List.getElem?_eq_getElem hj
              have hsize : d < a0.tmps.size := ((freeB_spec hB hoj).own d (by simpa [dstOf, hoj] using hjd)).1
              rw [putS_on hjd S a0 hsize (fun k hk hkd => by
                rcases Classical.em (k = j) with h | h
                · exact h
                · exact absurd (by simpa [dstOf, hoj] using hjd) ((freeB_spec hB hoj).apart k d ((hmem k).1 hk).1 h hkd).1) hjS]
              exact hΦ j hjS
          · intro d hno
            exact putS_off S a0 fun k hk => hno k ((hmem k).1 hk).1
        have hw := hob i o hin (by rw [hget i hin]; exact ho') (putS l vs S a0) w hE hF
        have next : ∀ v w', (Φ i v w' ∧ Ext w w') → wpAny P .any m.toArray Q (f + (m.length - n)) (listed.setIfInBounds i true) ((putS l vs S a0).put o.dst v) w' := by
          rintro v w' ⟨hv, hE'⟩
          have hdo : dstOf l i = o.dst := by simp [dstOf, ho']
          have hvs : (putS l vs S a0).put o.dst v = putS l (fun k => if k = i then v else vs k) (S ++ [i]) a0 := by
            unfold putS
            rw [List.foldl_append]
            simp only [List.foldl_cons, List.foldl_nil, if_true, hdo]
            congr 1
            exact putS_congr S a0 fun k hk => by
              have : k ≠ i := fun e => hiS (e ▸ hk)
              simp [this]
          rw [hvs]
          refine ih (S ++ [i]) _ _ w' (hE.trans hE') ?_ ?_ ⟨by simpa using hsz.1, fun k hk => ?_⟩ (by simp; omega) ?_ ?_
          · rw [List.nodup_append]
            exact ⟨hd, by simp, fun x hx y hy e => by simp at hy; subst hy; exact hiS (e ▸ hx)⟩
          · intro k
            simp only [List.mem_append, List.mem_singleton, hmem k]
            by_cases hki : k = i
            · subst hki
              have := hsz.1
              simp [hil, show k < listed.size by omega]
            · have : (listed.setIfInBounds i true).getD k false = listed.getD k false := getD_set_ne false (Ne.symm hki)
              rw [this]
              simp [hki]
          · have : (listed.setIfInBounds i true).getD k false = listed.getD k false := getD_set_ne false (by omega)
            rw [this]
            exact hsz.2 k hk
          · intro k hk
            by_cases hki : k = i
            · subst hki; simpa using hv
            · rw [if_neg hki]
              rcases List.mem_append.1 hk with h | h
              · exact hmono _ _ _ _ (hΦ k h) hE'
              · exact absurd (by simpa using h) hki
          · intro k hk ok hok e he hb hen
            rcases List.mem_append.1 hk with h | h
            · exact List.mem_append.2 (.inl (hcl k h ok hok e he hb hen))
            · obtain rfl : k = i := by simpa using h
              obtain rfl : ok = o := Option.some.inj (hok.symm.trans (by simpa using ho))
              exact List.mem_append.2 (.inl ((hmem _).2 ⟨by omega, hall e he hb⟩))
        unfold wpOp
        rw [ho]
        simp only []
        unfold Ran at hw
        split
        · rename_i hwd
          rw [if_pos hwd] at hw
          refine .inl ?_
          have hw2 : Oper.wp P o (putS l vs S a0) w (fun a' w' => ∃ v, a' = (putS l vs S a0).put o.dst v ∧ Φ i v w' ∧ Ext w w') Q := by
            unfold Oper.wp at hw ⊢
            generalize (execOp (putS l vs S a0).eval o).run P w = r at *
            cases r with
            | ok x w' =>
              cases x <;> simp only [Oper.upon] at hw ⊢
              all_goals first
                | exact hw
                | exact Calls.mono hw (fun e w'' he => by cases e <;> first | exact he | exact (he : False).elim | (obtain ⟨_, _, hh⟩ := he; exact hh.elim))
                | exact Rows.mono hw (fun _ _ he => he)
            | halt x w' => cases x <;> simp only [Oper.upon] at hw
          refine Oper.wp_mono ?_ hw2
          rintro a' w' ⟨v, rfl, hv⟩
          exact next v w' hv
        · rename_i hwd
          rw [if_neg hwd] at hw
          exact next undef w hw
  have := key n [] (fun _ => undef) (Array.replicate m.toArray.size false) _ ((Ext.refl w0).drew) (by simp) (by
    intro i
    have h0 := getD_replicate_false m.toArray.size i
    simp only [h0]
    simp) ⟨by simp, by
    intro i hi
    exact getD_replicate_false _ _⟩ (by simp; omega) (by simp) (by simp)
  rw [show n + (m.length - n) = m.toArray.size by simp; omega] at this
  exact this
end Go.Proofs.YtimkmokomohgjaaGreat
namespace Go.Proofs.YtimkmokomohgjaaGreat
open Go.RowKit
set_option maxRecDepth 100000
set_option linter.unusedVariables false
section
variable {P : Program} {ops : Array Oper} {Q : Exit → Act → World → Prop} {md : Region.Mode} {st : Nat} {S : Bool → World → Prop}
/-- Whatever order is picked from here on; S false holds till number st has come up, S true from then on. -/
def Tp.anyP (P : Program) (md : Region.Mode) (ops : Array Oper) (Q : Exit → Act → World → Prop) (st : Nat) (S : Bool → World → Prop) : Nat → Array Bool → Act → World → Prop
  | 0, listed, a, w => Region.ready md ops listed = [] ∧ Q .normal a w
  | fuel + 1, listed, a, w =>
    (Region.ready md ops listed = [] → Q .normal a w) ∧
    ∀ i ∈ Region.ready md ops listed, wpOp P ops Q i (fun a' w' => S ((listed.setIfInBounds i true).getD st true) w' ∧ Tp.anyP P md ops Q st S fuel (listed.setIfInBounds i true) a' w') a w
theorem Tp.anyP_any : ∀ (fuel : Nat) (listed : Array Bool) (a : Act) (w : World), Tp.anyP P md ops Q st S fuel listed a w → wpAny P md ops Q fuel listed a w
  | 0, _, _, _, h => h
  | fuel + 1, _, _, _, h => ⟨h.1, fun i hi => wpOp_mono (fun a' w' h' => Tp.anyP_any fuel _ a' w' h'.2) (h.2 i hi)⟩
theorem Tp.anyP_first {i : Nat} {oi : Oper} {v : Value} (hi : ops[i]? = some oi) (hsel : ∀ (j : Nat) (o : Oper) cs b, ops[j]? = some o → o.op ≠ .select cs b)
    (hQ : ∀ c a w, Q (.panic c) (a.put oi.dst v) w → Q (.panic c) a w) (hst : ∃ os, ops[st]? = some os ∧ ∃ e ∈ os.after, Region.binds md e = true ∧ e.on = i) :
    ∀ (fuel : Nat) (listed : Array Bool) (a : Act) (w : World),
      (∀ j oj, ops[j]? = some oj → j ≠ i → listed.getD j true = false → (∀ e ∈ oj.after, Region.binds md e = true → e.on ≠ i) → oi.apart ops oj = true) →
      i ∈ Region.ready md ops listed → YieldsIf P ops (S false) oi v a → S false w → listed.getD st true = false →
      Tp.anyP P md ops Q st S fuel (listed.setIfInBounds i true) (a.put oi.dst v) w → Tp.anyP P md ops Q st S (fuel + 1) listed a w := by
  obtain ⟨os, hos, e0, he0, hb0, he1⟩ := hst
  have un : ∀ {listed : Array Bool} {j : Nat}, i ∈ Region.ready md ops listed → j ∈ Region.ready md ops listed → ∀ oj, ops[j]? = some oj → ∀ e ∈ oj.after, Region.binds md e = true → e.on ≠ i := fun {listed j} hr hj oj hoj e he hb heq => by
    obtain ⟨_, oj', hoj', hall⟩ := mem_ready.1 hj
    rw [hoj] at hoj'; cases hoj'
    have h1 := hall e he hb
    have h0 := (mem_ready.1 hr).1
    rw [heq] at h1
    rcases Nat.lt_or_ge i listed.size with h' | h'
    · simp [h'] at h0 h1; rw [h0] at h1; cases h1
    · simp [Array.getElem?_eq_none h'] at h1
  have ns : ∀ {listed : Array Bool} {j : Nat}, i ∈ Region.ready md ops listed → j ∈ Region.ready md ops listed → j ≠ st := fun hr hj e => by
    subst e
    exact un hr hj os hos e0 he0 hb0 he1
  intro fuel
  induction fuel with
  | zero =>
    intro listed a w _ hr hy hS hl H
    refine ⟨fun h => (by rw [h] at hr; cases hr), fun j hj => ?_⟩
    by_cases hji : j = i
    · subst hji; exact hy.wpOp hi hS ⟨by rw [getD_set_ne true (ns hr hr), hl]; exact hS, H⟩
    · have := ready_mono hj hji
      rw [H.1] at this
      cases this
  | succ fuel ih =>
    intro listed a w hfree hr hy hS hl H
    refine ⟨fun h => (by rw [h] at hr; cases hr), fun j hj => ?_⟩
    by_cases hji : j = i
    · subst hji; exact hy.wpOp hi hS ⟨by rw [getD_set_ne true (ns hr hr), hl]; exact hS, H⟩
    · have h1 := H.2 j (ready_mono hj hji)
      obtain ⟨hjun, oj, hoj, hall⟩ := mem_ready.1 hj
      have hnot := un hr hj oj hoj
      have hjs := ns hr hj
      have h2 := wpOp_putIf hoj (hfree j oj hoj hji hjun hnot) (fun cs b => hsel i oi cs b hi) (fun cs b => hsel j oj cs b hoj) hQ hy h1
      have hfree' : ∀ k ok, ops[k]? = some ok → k ≠ i → (listed.setIfInBounds j true).getD k true = false →
          (∀ e ∈ ok.after, Region.binds md e = true → e.on ≠ i) → oi.apart ops ok = true := fun k ok hk hki hun hno => by
        refine hfree k ok hk hki ?_ hno
        by_cases hjk : j = k
        · subst hjk; exact hjun
        · rw [getD_set_ne true hjk] at hun; exact hun
      have hl2 : (listed.setIfInBounds j true).getD st true = false := by rw [getD_set_ne true hjs]; exact hl
      refine wpOp_mono (fun a' w' h3 => ?_) h2
      have hT : S false w' := by
        have := h3.2.1
        rwa [getD_set_ne true hjs, getD_set_ne true (ns hr hr), hl] at this
      refine ⟨by rw [hl2]; exact hT, ih (listed.setIfInBounds j true) a' w' hfree' (ready_mono hr (Ne.symm hji)) h3.1 hT hl2 ?_⟩
      rw [Array.setIfInBounds_comm _ _ hji]
      exact h3.2.2
/-- The same for what yields whether st has come up or not. -/
theorem Tp.anyP_firstU {i : Nat} {oi : Oper} {v : Value} {U : World → Prop} (hU : ∀ b w, S b w → U w) (his : i ≠ st) (hi : ops[i]? = some oi) (hsel : ∀ (j : Nat) (o : Oper) cs b, ops[j]? = some o → o.op ≠ .select cs b)
    (hQ : ∀ c a w, Q (.panic c) (a.put oi.dst v) w → Q (.panic c) a w) :
    ∀ (fuel : Nat) (listed : Array Bool) (a : Act) (w : World),
      (∀ j oj, ops[j]? = some oj → j ≠ i → listed.getD j true = false → (∀ e ∈ oj.after, Region.binds md e = true → e.on ≠ i) → oi.apart ops oj = true) →
      i ∈ Region.ready md ops listed → YieldsIf P ops U oi v a → S (listed.getD st true) w →
      Tp.anyP P md ops Q st S fuel (listed.setIfInBounds i true) (a.put oi.dst v) w → Tp.anyP P md ops Q st S (fuel + 1) listed a w := by
  intro fuel
  induction fuel with
  | zero =>
    intro listed a w _ hr hy hS H
    refine ⟨fun h => (by rw [h] at hr; cases hr), fun j hj => ?_⟩
    by_cases hji : j = i
    · subst hji; exact hy.wpOp hi (hU _ _ hS) ⟨by rw [getD_set_ne true his]; exact hS, H⟩
    · have := ready_mono hj hji
      rw [H.1] at this
      cases this
  | succ fuel ih =>
    intro listed a w hfree hr hy hS H
    refine ⟨fun h => (by rw [h] at hr; cases hr), fun j hj => ?_⟩
    by_cases hji : j = i
    · subst hji; exact hy.wpOp hi (hU _ _ hS) ⟨by rw [getD_set_ne true his]; exact hS, H⟩
    · have h1 := H.2 j (ready_mono hj hji)
      obtain ⟨hjun, oj, hoj, hall⟩ := mem_ready.1 hj
      have hnot : ∀ e ∈ oj.after, Region.binds md e = true → e.on ≠ i := fun e he hb heq => by
        have h1 := hall e he hb
        have h0 := (mem_ready.1 hr).1
        rw [heq] at h1
        rcases Nat.lt_or_ge i listed.size with h' | h'
        · simp [h'] at h0 h1; rw [h0] at h1; cases h1
        · simp [Array.getElem?_eq_none h'] at h1
      have h2 := wpOp_putIf hoj (hfree j oj hoj hji hjun hnot) (fun cs b => hsel i oi cs b hi) (fun cs b => hsel j oj cs b hoj) hQ hy h1
      have hfree' : ∀ k ok, ops[k]? = some ok → k ≠ i → (listed.setIfInBounds j true).getD k true = false →
          (∀ e ∈ ok.after, Region.binds md e = true → e.on ≠ i) → oi.apart ops ok = true := fun k ok hk hki hun hno => by
        refine hfree k ok hk hki ?_ hno
        by_cases hjk : j = k
        · subst hjk; exact hjun
        · rw [getD_set_ne true hjk] at hun; exact hun
      refine wpOp_mono (fun a' w' h3 => ?_) h2
      have hT : S ((listed.setIfInBounds j true).getD st true) w' := by
        have := h3.2.1
        rwa [Array.setIfInBounds_comm _ _ (Ne.symm hji), getD_set_ne true his] at this
      refine ⟨hT, ih (listed.setIfInBounds j true) a' w' hfree' (ready_mono hr (Ne.symm hji)) h3.1 hT ?_⟩
      rw [Array.setIfInBounds_comm _ _ hji]
      exact h3.2.2
theorem Tp.anyP_takeU {i : Nat} {oi : Oper} {v : Value} {fuel : Nat} {listed : Array Bool} {a : Act} {w : World} (U : World → Prop) (hU : ∀ b w, S b w → U w) (his : i ≠ st) (hi : ops[i]? = some oi)
    (hs : Region.noSelect ops = true) (hf : Region.free md ops listed i = true) (hr : (Region.ready md ops listed).contains i = true)
    (hQ : ∀ c a w, Q (.panic c) (a.put oi.dst v) w → Q (.panic c) a w) (hy : YieldsIf P ops U oi v a) (hT : S (listed.getD st true) w)
    (h : Tp.anyP P md ops Q st S fuel (listed.setIfInBounds i true) (a.put oi.dst v) w) : Tp.anyP P md ops Q st S (fuel + 1) listed a w :=
  Tp.anyP_firstU hU his hi (Region.noSelect_spec hs) hQ fuel listed a w (Region.free_spec hi hf) (by simpa using hr) hy hT h
/-- A load (or whatever else yields wherever T holds) may be taken first. -/
theorem Tp.anyP_take {i : Nat} {oi : Oper} {v : Value} {fuel : Nat} {listed : Array Bool} {a : Act} {w : World} (hi : ops[i]? = some oi)
    (hs : Region.noSelect ops = true) (hf : Region.free md ops listed i = true) (hr : (Region.ready md ops listed).contains i = true) (hst : ∃ os, ops[st]? = some os ∧ ∃ e ∈ os.after, Region.binds md e = true ∧ e.on = i)
    (hQ : ∀ c a w, Q (.panic c) (a.put oi.dst v) w → Q (.panic c) a w) (hy : YieldsIf P ops (S false) oi v a) (hT : S false w) (hl : listed.getD st true = false)
    (h : Tp.anyP P md ops Q st S fuel (listed.setIfInBounds i true) (a.put oi.dst v) w) : Tp.anyP P md ops Q st S (fuel + 1) listed a w :=
  Tp.anyP_first hi (Region.noSelect_spec hs) hQ hst fuel listed a w (Region.free_spec hi hf) (by simpa using hr) hy hT hl h
theorem waits_one {os : Oper} {i : Nat} (h : (os.after.any fun e => Region.binds md e && e.on == i) = true) : ∃ e ∈ os.after, Region.binds md e = true ∧ e.on = i := by
  rw [Array.any_eq_true'] at h
  obtain ⟨e, he, h2⟩ := h
  simp only [Bool.and_eq_true, beq_iff_eq] at h2
  exact ⟨e, he, h2.1, h2.2⟩
/-- One operation alone comes next. -/
theorem Tp.anyP_one {i : Nat} {o : Oper} {fuel : Nat} {listed : Array Bool} {a : Act} {w : World} (hr : Region.ready md ops listed = [i]) (ho : ops[i]? = some o)
    (h : ∀ K : Act → World → Prop, Shut (∀ a w, S ((listed.setIfInBounds i true).getD st true) w → Tp.anyP P md ops Q st S fuel (listed.setIfInBounds i true) a w → K a w) → if Region.wanted o (yielded ops a.tmps) = true then Oper.wp P o a w K Q else K (a.put o.dst undef) w) :
    Tp.anyP P md ops Q st S (fuel + 1) listed a w :=
  ⟨fun h0 => (by rw [hr] at h0; cases h0), fun j hj => by
    rw [hr] at hj
    obtain rfl : j = i := by simpa using hj
    exact wpOp_step ho (fun K' hK => h K' (fun a w h1 h2 => hK a w ⟨h1, h2⟩))⟩
/-- One of two operations comes next. -/
theorem Tp.anyP_two {i j : Nat} {oi oj : Oper} {fuel : Nat} {listed : Array Bool} {a : Act} {w : World} (hr : Region.ready md ops listed = [i, j]) (hoi : ops[i]? = some oi) (hoj : ops[j]? = some oj)
    (h : ∀ K : Act → World → Prop, Shut (∀ a w, S ((listed.setIfInBounds i true).getD st true) w → Tp.anyP P md ops Q st S fuel (listed.setIfInBounds i true) a w → K a w) → if Region.wanted oi (yielded ops a.tmps) = true then Oper.wp P oi a w K Q else K (a.put oi.dst undef) w)
    (h2 : ∀ K : Act → World → Prop, Shut (∀ a w, S ((listed.setIfInBounds j true).getD st true) w → Tp.anyP P md ops Q st S fuel (listed.setIfInBounds j true) a w → K a w) → if Region.wanted oj (yielded ops a.tmps) = true then Oper.wp P oj a w K Q else K (a.put oj.dst undef) w) :
    Tp.anyP P md ops Q st S (fuel + 1) listed a w :=
  ⟨fun h0 => (by rw [hr] at h0; cases h0), fun k hk => by
    rw [hr] at hk
    simp only [List.mem_cons, List.not_mem_nil, or_false] at hk
    rcases hk with rfl | rfl
    · exact wpOp_step hoi (fun K' hK => h K' (fun a w h1 h2 => hK a w ⟨h1, h2⟩))
    · exact wpOp_step hoj (fun K' hK => h2 K' (fun a w h1 h2 => hK a w ⟨h1, h2⟩))⟩
theorem Tp.region_phase {id : Nat} {a : Act} {w : World} (st : Nat) (S : Bool → World → Prop) (hm : P.follows .mixedOrders = true) (h : Tp.anyP P .any ops Q st S ops.size (Array.replicate ops.size false) a w.drew) : (Code.region id ops true).wp P Q a w :=
  wp_region_any hm (Tp.anyP_any _ _ _ _ h)
end
end Go.Proofs.YtimkmokomohgjaaGreat
namespace Go.Proofs.YtimkmokomohgjaaGreat
open Go.RowKit
set_option maxRecDepth 100000
set_option linter.unusedVariables false
section
variable {P : Program} {ops : Array Oper} {Q : Exit → Act → World → Prop} {md : Region.Mode} {S : World → Prop} {n : Nat}
theorem Tp.yieldW {i : Nat} {o : Oper} {v : Value} {a : Act} (hi : ops[i]? = some o) (hy : YieldsIf P ops S o v a) {K : Act → World → Prop} {w : World} (hS : S w) (h : K (a.put o.dst v) w) : wpOpIn Fence.wide n P ops Q i K a w := by
  unfold wpOpIn
  simp only [hi]
  rcases hy with ⟨hw, hv⟩ | ⟨hw, rfl⟩
  · simp only [hw, if_true]
    refine ⟨fun _ _ => trivial, ?_⟩
    rw [show Fence.wide.round = none from rfl, Oper.semAt_none, hv w hS]
    exact h
  · simp only [hw, Bool.false_eq_true, if_false]
    exact ⟨fun _ _ => trivial, h⟩
theorem Tp.putW {j : Nat} {oi oj : Oper} {v : Value} (hj : ops[j]? = some oj) (hap : oi.apart ops oj = true)
    (hsi : ∀ cs b, oi.op ≠ .select cs b) (hsj : ∀ cs b, oj.op ≠ .select cs b)
    (hQ : ∀ c a w, Q (.panic c) (a.put oi.dst v) w → Q (.panic c) a w) {K : Act → World → Prop} {a : Act} {w : World}
    (hy : YieldsIf P ops S oi v a) (h : wpOpIn Fence.wide n P ops Q j K (a.put oi.dst v) w) :
    wpOpIn Fence.wide n P ops Q j (fun a' w' => YieldsIf P ops S oi v a' ∧ K (a'.put oi.dst v) w') a w := by
  obtain ⟨h1, h2, h3⟩ := Oper.apart_spec hap
  have keep : ∀ (a : Act), YieldsIf P ops S oi v a → ∀ u, YieldsIf P ops S oi v (a.put oj.dst u) := fun a hy u =>
    hy.of_same (execOp_put oi hsi a oj.dst u h3) (wanted_put oi a oj.dst u h3)
  have keepD : ∀ d, YieldsIf P ops S oi v { a with defers := d :: a.defers } := fun d => hy.of_same rfl rfl
  unfold wpOpIn at *
  simp only [hj] at *
  rw [wanted_put oj a oi.dst v h1] at h
  split
  · rename_i hw
    simp only [hw, if_true] at h
    refine ⟨fun _ _ => trivial, ?_⟩
    have h := h.2
    rw [show Fence.wide.round = none from rfl, Oper.semAt_none] at h ⊢
    rw [execOp_put oj hsj a oi.dst v h1] at h
    generalize (execOp a.eval oj).run P w = r at *
    cases r with
    | ok x w' =>
      cases x <;> simp only [Oper.uponIn] at h ⊢
      case value u => exact ⟨keep a hy u, by rw [← Act.put_comm a v u h2]; exact h⟩
      case skip => exact ⟨keep a hy _, by rw [← Act.put_comm a v undef h2]; exact h⟩
      case defer d =>
        refine ⟨keep _ (keepD d) _, ?_⟩
        rw [← Act.put_comm _ v undef h2, ← Act.put_defers]
        exact h
      case enter f args =>
        refine ⟨h.1, CallsIn.mono h.2 fun e w'' he => ?_⟩
        cases e with
        | returned u => exact ⟨keep a hy u, by rw [← Act.put_comm a v u h2]; exact he⟩
        | panicked c => exact hQ _ _ _ he
        | outgrown => exact he
      case row row args => exact ⟨h.1, RowsIn.mono h.2 fun u w'' he => ⟨keep a hy u, by rw [← Act.put_comm a v u h2]; exact he⟩⟩
      case round l f tmps assign body =>
        refine ⟨h.1, RoundIn.mono h.2 fun e w'' he => ?_⟩
        cases e with
        | returned u => exact ⟨keep a hy u, by rw [← Act.put_comm a v u h2]; exact he⟩
        | panicked c => exact hQ _ _ _ he
        | outgrown => exact he
    | halt x w' =>
      cases x <;> simp only [Oper.uponIn] at h ⊢
      case panic u => exact hQ _ _ _ h
  · rename_i hw
    simp only [hw] at h
    exact ⟨fun _ _ => trivial, keep a hy _, by rw [← Act.put_comm a v undef h2]; exact h.2⟩
/-- Whatever order is picked from here on; S holds behind each operation. -/
def Tp.anyW (n : Nat) (P : Program) (md : Region.Mode) (ops : Array Oper) (Q : Exit → Act → World → Prop) (S : World → Prop) : Nat → Array Bool → Act → World → Prop
  | 0, listed, a, w => Region.ready md ops listed = [] ∧ Q .normal a w
  | fuel + 1, listed, a, w =>
    (Region.ready md ops listed = [] → Q .normal a w) ∧
    ∀ i ∈ Region.ready md ops listed, wpOpIn Fence.wide n P ops Q i (fun a' w' => S w' ∧ Tp.anyW n P md ops Q S fuel (listed.setIfInBounds i true) a' w') a w
theorem Tp.anyW_any : ∀ (fuel : Nat) (listed : Array Bool) (a : Act) (w : World), Tp.anyW n P md ops Q S fuel listed a w → wpAnyIn Fence.wide n P md ops Q fuel listed a w
  | 0, _, _, _, h => h
  | fuel + 1, _, _, _, h => ⟨h.1, fun i hi => wpOpIn_mono (fun a' w' h' => Tp.anyW_any fuel _ a' w' h'.2) (h.2 i hi)⟩
theorem Tp.anyW_first {i : Nat} {oi : Oper} {v : Value} (hi : ops[i]? = some oi) (hsel : ∀ (j : Nat) (o : Oper) cs b, ops[j]? = some o → o.op ≠ .select cs b)
    (hQ : ∀ c a w, Q (.panic c) (a.put oi.dst v) w → Q (.panic c) a w) :
    ∀ (fuel : Nat) (listed : Array Bool) (a : Act) (w : World),
      (∀ j oj, ops[j]? = some oj → j ≠ i → listed.getD j true = false → (∀ e ∈ oj.after, Region.binds md e = true → e.on ≠ i) → oi.apart ops oj = true) →
      i ∈ Region.ready md ops listed → YieldsIf P ops S oi v a → S w →
      Tp.anyW n P md ops Q S fuel (listed.setIfInBounds i true) (a.put oi.dst v) w → Tp.anyW n P md ops Q S (fuel + 1) listed a w := by
  intro fuel
  induction fuel with
  | zero =>
    intro listed a w _ hr hy hS H
    refine ⟨fun h => (by rw [h] at hr; cases hr), fun j hj => ?_⟩
    by_cases hji : j = i
    · subst hji; exact Tp.yieldW hi hy hS ⟨hS, H⟩
    · have := ready_mono hj hji
      rw [H.1] at this
      cases this
  | succ fuel ih =>
    intro listed a w hfree hr hy hS H
    refine ⟨fun h => (by rw [h] at hr; cases hr), fun j hj => ?_⟩
    by_cases hji : j = i
    · subst hji; exact Tp.yieldW hi hy hS ⟨hS, H⟩
    · have h1 := H.2 j (ready_mono hj hji)
      obtain ⟨hjun, oj, hoj, hall⟩ := mem_ready.1 hj
      have hnot : ∀ e ∈ oj.after, Region.binds md e = true → e.on ≠ i := fun e he hb heq => by
        have h1 := hall e he hb
        have h0 := (mem_ready.1 hr).1
        rw [heq] at h1
        rcases Nat.lt_or_ge i listed.size with h' | h'
        · simp [h'] at h0 h1; rw [h0] at h1; cases h1
        · simp [Array.getElem?_eq_none h'] at h1
      have h2 := Tp.putW hoj (hfree j oj hoj hji hjun hnot) (fun cs b => hsel i oi cs b hi) (fun cs b => hsel j oj cs b hoj) hQ hy h1
      have hfree' : ∀ k ok, ops[k]? = some ok → k ≠ i → (listed.setIfInBounds j true).getD k true = false →
          (∀ e ∈ ok.after, Region.binds md e = true → e.on ≠ i) → oi.apart ops ok = true := fun k ok hk hki hun hno => by
        refine hfree k ok hk hki ?_ hno
        by_cases hjk : j = k
        · subst hjk; exact hjun
        · rw [getD_set_ne true hjk] at hun; exact hun
      refine wpOpIn_mono (fun a' w' h3 => ⟨h3.2.1, ih (listed.setIfInBounds j true) a' w' hfree' (ready_mono hr (Ne.symm hji)) h3.1 h3.2.1 ?_⟩) h2
      rw [Array.setIfInBounds_comm _ _ hji]
      exact h3.2.2
theorem Tp.anyW_take {i : Nat} {oi : Oper} {v : Value} {fuel : Nat} {listed : Array Bool} {a : Act} {w : World} (hi : ops[i]? = some oi)
    (hs : Region.noSelect ops = true) (hf : Region.free md ops listed i = true) (hr : (Region.ready md ops listed).contains i = true)
    (hQ : ∀ c a w, Q (.panic c) (a.put oi.dst v) w → Q (.panic c) a w) (hy : YieldsIf P ops S oi v a) (hS : S w)
    (h : Tp.anyW n P md ops Q S fuel (listed.setIfInBounds i true) (a.put oi.dst v) w) : Tp.anyW n P md ops Q S (fuel + 1) listed a w :=
  Tp.anyW_first hi (Region.noSelect_spec hs) hQ fuel listed a w (Region.free_spec hi hf) (by simpa using hr) hy hS h
/-- One operation alone comes next. -/
theorem Tp.anyW_one {i : Nat} {o : Oper} {fuel : Nat} {listed : Array Bool} {a : Act} {w : World} (hr : Region.ready md ops listed = [i]) (ho : ops[i]? = some o)
    (h : ∀ K : Act → World → Prop, Shut (∀ a w, S w → Tp.anyW n P md ops Q S fuel (listed.setIfInBounds i true) a w → K a w) → (if Region.wanted o (yielded ops a.tmps) then o.wpIn Fence.wide n P a w K Q else (∀ f, o.about P w a.eval = some f → Fence.wide.fn f) ∧ K (a.put o.dst undef) w)) :
    Tp.anyW n P md ops Q S (fuel + 1) listed a w :=
  ⟨fun h0 => (by rw [hr] at h0; cases h0), fun j hj => by
    rw [hr] at hj
    obtain rfl : j = i := by simpa using hj
    unfold wpOpIn
    rw [ho]
    exact h _ (fun a w h1 h2 => ⟨h1, h2⟩)⟩
theorem Tp.region_wide {id : Nat} {a : Act} {w : World} (S : World → Prop) (hm : P.follows .mixedOrders = true) (h : Tp.anyW n P .any ops Q S ops.size (Array.replicate ops.size false) a w.drew) : (Code.region id ops true).wpIn Fence.wide n P Q a w :=
  wpIn_region_any hm (Tp.anyW_any _ _ _ _ h)
end
end Go.Proofs.YtimkmokomohgjaaGreat
namespace Go.Proofs.YtimkmokomohgjaaGreat
open Go.RowKit
open Sp (rd)
set_option maxRecDepth 100000
set_option maxHeartbeats 2000000
set_option linter.unusedVariables false
theorem sh_path_any (A : Option Addr) (n c : Nat) (arbor : Int) (w : World) :
    Calls Tryz.prog 127 #[.slice A n c, .int .i64 arbor] w fun e w' => ∃ g h, e = .returned (.func (.func 178) #[] #[.pointer (some ⟨g, 0, none⟩), .pointer (some ⟨h, 0, none⟩)]) ∧ w.heap.size ≤ g ∧ g < h ∧ Row w' g 47 #[.slice A n c] ∧ Row w' h 3 #[.int .i64 arbor] ∧ Ext w w' := by
  go_enter Tryz.func127, Tryz.ntmps127
  go_wp2_with fail
  have r := blocks2 w (.cells #[.slice A n c] 47) (.cells #[.int .i64 arbor] 3)
  go_ret
  exact ⟨_, _, rfl, Nat.le_refl _, Nat.lt_succ_self _, r.1, r.2, ((Ext.refl w).alloc _).alloc _⟩
theorem t_products_any (a b p s : Int) (V T : Value) (n : Int) (w : World) :
    Calls Tryz.prog 150 #[.agg #[.int .i64 a, .int .i64 b, .int .i64 p, .int .i64 s, V, T], .int .i64 n] w fun e w' => ∃ g h, e = .returned (.func (.func 187) #[] #[.pointer (some ⟨g, 0, none⟩), .pointer (some ⟨h, 0, none⟩)]) ∧ w.heap.size ≤ g ∧ g < h ∧ Row w' g 161 #[.int .i64 a, .int .i64 b, .int .i64 p, .int .i64 s, V, T] ∧ Row w' h 3 #[.int .i64 n] ∧ Ext w w' := by
  go_enter Tryz.func150, Tryz.ntmps150
  go_wp2_with fail
  have r := blocks2 w (.cells #[.int .i64 a, .int .i64 b, .int .i64 p, .int .i64 s, V, T] 161) (.cells #[.int .i64 n] 3)
  go_ret
  exact ⟨_, _, rfl, Nat.le_refl _, Nat.lt_succ_self _, r.1, r.2, ((Ext.refl w).alloc _).alloc _⟩
theorem sh_badHand_any (x : Int) (g : Nat) (A : Option Addr) (n c : Nat) (V : Value) (w : World) (hr : Row w g 50 #[.slice A n c, V]) :
    Calls Tryz.prog 124 #[.int .i64 x, .pointer (some ⟨g, 0, none⟩)] w fun e w' => e = .returned (.bool (!Sp.inR x 1 (n : Int))) ∧ w = w' := by
  have HI := Lib.hid (fun W => sh_in_any x 1 (n : Int) W)
  have a0 := hr.cell
  clear hr
  obtain ⟨v, hv⟩ : ∃ v, Sp.inR x 1 (n : Int) = v := ⟨_, rfl⟩
  rw [hv] at HI ⊢
  clear hv
  go_enter Tryz.func124, Tryz.ntmps124
  go_wp2_with fail
  refine (HI.out _).mono ?_
  rintro e w1 ⟨rfl, rfl⟩
  dsimp only
  go_wp2_with fail
  go_ret
  exact ⟨rfl, rfl⟩
end Go.Proofs.YtimkmokomohgjaaGreat
namespace Go.Proofs.YtimkmokomohgjaaGreat
open Go.RowKit Go.Shelf
open Sp (rd)
attribute [local go_sem] Oper.semAt_some
set_option maxRecDepth 100000
set_option maxHeartbeats 4000000
set_option linter.unusedVariables false
set_option linter.unusedSimpArgs false
/-- The links to an arbor, from the crank's on. -/
def Tp.pathF (fr : Nat → Nat) : Nat → Nat → List Nat
  | 0, _ => []
  | k + 1, a => if a = 0 then [] else Tp.pathF fr k (fr (a - 1)) ++ [a - 1]
theorem Tp.pathF_fuel {fr : Nat → Nat} (hf : ∀ i, fr i ≤ i) : ∀ (k k' a : Nat), a ≤ k → a ≤ k' → Tp.pathF fr k a = Tp.pathF fr k' a := by
  intro k
  induction k with
  | zero =>
    intro k' a h h'
    obtain rfl : a = 0 := by omega
    cases k' <;> simp [Tp.pathF]
  | succ k ih =>
    intro k' a h h'
    cases k' with
    | zero =>
      obtain rfl : a = 0 := by omega
      simp [Tp.pathF]
    | succ k' =>
      rw [Tp.pathF, Tp.pathF]
      split
      · rfl
      · have := hf (a - 1)
        rw [ih k' (fr (a - 1)) (by omega) (by omega)]
def Tp.path (fr : Nat → Nat) (a : Nat) : List Nat := Tp.pathF fr a a
theorem Tp.path_succ {fr : Nat → Nat} (hf : ∀ i, fr i ≤ i) (a : Nat) : Tp.path fr (a + 1) = Tp.path fr (fr a) ++ [a] := by
  unfold Tp.path
  rw [Tp.pathF, if_neg (by omega)]
  simp only [Nat.add_sub_cancel]
  rw [Tp.pathF_fuel hf a (fr a) (fr a) (hf a) (Nat.le_refl _)]
/-- Where a link's arbor hangs. -/
def Tp.frm (links : List (Int × Ec.Pair)) (i : Nat) : Nat := (links.getD i (0, Ec.noPair)).1.toNat
/-- Each link comes from an arbor that is there already. -/
def Tp.LinksOk (links : List (Int × Ec.Pair)) : Prop := ∀ i, 0 ≤ (links.getD i (0, Ec.noPair)).1 ∧ (links.getD i (0, Ec.noPair)).1 ≤ (i : Int)
theorem Tp.LinksOk.frm {links : List (Int × Ec.Pair)} (h : Tp.LinksOk links) (i : Nat) : Tp.frm links i ≤ i ∧ (links.getD i (0, Ec.noPair)).1 = (Tp.frm links i : Int) := by
  have := h i
  unfold Tp.frm
  omega
abbrev Tp.Idx (n : Nat) := { i : Nat // i < n }
theorem sh_path2_any (x y : TypeId) (hxy : (86 ≠ x ∧ 86 ≠ y) ∧ (47 ≠ x ∧ 47 ≠ y)) (l : Nat) (gw gl gy : Nat) (A : Option Addr) (c : Nat) (links : List (Int × Ec.Pair)) (N : Nat) (J : List (Tp.Idx links.length) → World → Prop) (w0 : World) (hm : Tp.Links w0 A links) (hok : Tp.LinksOk links) (hl : links.length ≤ 1000)
    (hJ : ∀ s A B, J s A → Ext A B → J s B)
    (hY : ∀ m pre x' A, J pre A → pre.length < N → YieldAt Fence.wide m Tryz.prog l #[.int .i64 (x'.1 : Int)] A fun r B => r = .returned (.bool true) ∧ J (pre ++ [x']) B ∧ Tp.KP w0.heap.size x y A B) :
    ∀ (k a n : Nat) (pre : List (Tp.Idx links.length)) (W : World), a ≤ k → a ≤ links.length → pre.length + (Tp.path (Tp.frm links) a).length ≤ N → Ext w0 W →
      Row W gw 86 #[.func (.func 179) #[] #[.pointer (some ⟨gw, 0, none⟩), .pointer (some ⟨gl, 0, none⟩), .pointer (some ⟨gy, 0, none⟩)]] → Row W gl 47 #[.slice A links.length c] → Row W gy 86 #[.func (.yield l) #[] #[]] → J pre W →
      CallsIn Fence.wide n Tryz.prog 179 #[.int .i64 (a : Int), .pointer (some ⟨gw, 0, none⟩), .pointer (some ⟨gl, 0, none⟩), .pointer (some ⟨gy, 0, none⟩)] W fun e W' => e = .returned (.bool true) ∧ (∃ q : List (Tp.Idx links.length), q.map Subtype.val = Tp.path (Tp.frm links) a ∧ J (pre ++ q) W') ∧ Tp.KP w0.heap.size x y W W' := by
  intro k
  have HM := Lib.hid hm
  have HOK := Lib.hid hok
  have HJ := Lib.hid hJ
  have HY := Lib.hid hY
  have hfr := fun i => (hok.frm i).1
  have HPS := Lib.hid (fun a => Tp.path_succ hfr a)
  clear hm hok hJ hY hfr
  induction k with
  | zero =>
    intro a n pre W ha hal hN hE hw hlb hy hJ0
    obtain rfl : a = 0 := by omega
    have h0 : (((0 : Nat) : Int) == 0) = true := rfl
    refine callsIn_of_wp Tryz.func179 rfl trivial ?_ rfl
    simp only [Tryz.ntmps179, List.size_toArray, List.length_cons, List.length_nil, Nat.reduceAdd, Nat.reduceSub, Array.replicate_succ, Array.replicate_zero, List.push_toArray, List.append_toArray, List.nil_append, List.cons_append]
    clear hw hlb hy hE
    gi_wp2
    go_ret
    exact ⟨rfl, ⟨[], rfl, by simpa using hJ0⟩, Tp.KP.refl _ _ _ _⟩
  | succ k ih =>
    intro a n pre W ha hal hN hE hw hlb hy hJ0
    rcases Nat.eq_zero_or_pos a with rfl | hpos
    · exact ih 0 n pre W (by omega) (by omega) hN hE hw hlb hy hJ0
    · obtain ⟨b, rfl⟩ : ∃ b, a = b + 1 := ⟨a - 1, by omega⟩
      obtain ⟨ari, hari⟩ : ∃ ari : Int, ((b + 1 : Nat) : Int) = ari := ⟨_, rfl⟩
      have h0 : (ari == 0) = false := by rw [beq_eq_false_iff_ne]; omega
      have h1 : ari - 1 = (b : Int) := by omega
      have h2 : 1 ≤ ari ∧ ari ≤ 1000 := by omega
      have hbl : (b : Int) < (links.length : Int) := by omega
      have hbn : b < links.length := by omega
      obtain ⟨bb, o, rfl, hc⟩ := HM.out (by omega)
      have hcl := (hc b (by omega)).1
      have hfb := HOK.out.frm b
      rw [hfb.2] at hcl
      have hpb := HPS.out b
      obtain ⟨f, hf⟩ : ∃ f, Tp.frm links b = f := ⟨_, rfl⟩
      rw [hf] at hcl hfb hpb
      have HCL := Lib.hid hcl
      have cl := hE.cell hcl
      have HIH := Lib.hid (ih f (n - 1) pre W.drew (by omega) (by omega) (by rw [hpb, List.length_append] at hN; omega) hE.drew (hw.ext (Ext.refl W).drew) (hlb.ext (Ext.refl W).drew) (hy.ext (Ext.refl W).drew) (HJ.out _ _ _ hJ0 (Ext.refl W).drew))
      have HPB := Lib.hid hpb
      have HN := Lib.hid hN
      have HW := Lib.hid hw
      have HL := Lib.hid hlb
      have HYB := Lib.hid hy
      have HE := Lib.hid hE
      have c1 := hw.cell 0
      have c2 := hlb.cell 0
      have c3 := hy.cell 0
      have hS0 : W.drew.cell? ⟨gw, 0, none⟩ = some (.func (.func 179) #[] #[.pointer (some ⟨gw, 0, none⟩), .pointer (some ⟨gl, 0, none⟩), .pointer (some ⟨gy, 0, none⟩)]) ∧ W.drew.cell? ⟨gl, 0, none⟩ = some (.slice (some ⟨bb, o, none⟩) links.length c) ∧ W.drew.cell? ⟨bb, o + b * 3, none⟩ = some (.int .i64 (f : Int)) ∧ W.drew.cell? ⟨gy, 0, none⟩ = some (.func (.yield l) #[] #[]) := ⟨c1, c2, cl, c3⟩
      clear hc hf hpb hN hw hlb hy hE ih hfb hcl
      refine callsIn_of_wp Tryz.func179 rfl trivial ?_ rfl
      rw [hari]
      simp only [Tryz.ntmps179, List.size_toArray, List.length_cons, List.length_nil, Nat.reduceAdd, Nat.reduceSub, Array.replicate_succ, Array.replicate_zero, List.push_toArray, List.append_toArray, List.nil_append, List.cons_append]
      gi_wp2
      clear c1 c2 c3
      refine Tp.region_wide (fun w' => w'.cell? ⟨gw, 0, none⟩ = some (.func (.func 179) #[] #[.pointer (some ⟨gw, 0, none⟩), .pointer (some ⟨gl, 0, none⟩), .pointer (some ⟨gy, 0, none⟩)]) ∧ w'.cell? ⟨gl, 0, none⟩ = some (.slice (some ⟨bb, o, none⟩) links.length c) ∧ w'.cell? ⟨bb, o + b * 3, none⟩ = some (.int .i64 (f : Int)) ∧ w'.cell? ⟨gy, 0, none⟩ = some (.func (.yield l) #[] #[])) (by kernel_rfl) ?_
      refine Tp.anyW_take (i := 0) (v := (.func (.func 179) #[] #[.pointer (some ⟨gw, 0, none⟩), .pointer (some ⟨gl, 0, none⟩), .pointer (some ⟨gy, 0, none⟩)])) rfl (by kernel_rfl) (by kernel_rfl) (by kernel_rfl) (fun _ _ _ h => h) (Or.inl ⟨by rfl, fun w hw => ?_⟩) hS0 ?_
      · obtain ⟨e1, e2, e3, e4⟩ := hw
        go_simp
        all_goals (first | (rw [IntKind.wrap_i64]; omega) | rfl)
      try simp only [Act.put, List.getElem_toArray, List.getElem_cons_succ, List.getElem_cons_zero, List.setIfInBounds_toArray, List.set_cons_zero, List.set_cons_succ]
      refine Tp.anyW_take (i := 1) (v := (.slice (some ⟨bb, o, none⟩) links.length c)) rfl (by kernel_rfl) (by kernel_rfl) (by kernel_rfl) (fun _ _ _ h => h) (Or.inl ⟨by rfl, fun w hw => ?_⟩) hS0 ?_
      · obtain ⟨e1, e2, e3, e4⟩ := hw
        go_simp
        all_goals (first | (rw [IntKind.wrap_i64]; omega) | rfl)
      try simp only [Act.put, List.getElem_toArray, List.getElem_cons_succ, List.getElem_cons_zero, List.setIfInBounds_toArray, List.set_cons_zero, List.set_cons_succ]
      refine Tp.anyW_take (i := 2) (v := (.int .i64 ari)) rfl (by kernel_rfl) (by kernel_rfl) (by kernel_rfl) (fun _ _ _ h => h) (Or.inl ⟨by rfl, fun w hw => ?_⟩) hS0 ?_
      · obtain ⟨e1, e2, e3, e4⟩ := hw
        go_simp
        all_goals (first | (rw [IntKind.wrap_i64]; omega) | rfl)
      try simp only [Act.put, List.getElem_toArray, List.getElem_cons_succ, List.getElem_cons_zero, List.setIfInBounds_toArray, List.set_cons_zero, List.set_cons_succ]
      refine Tp.anyW_take (i := 3) (v := (.int .i64 (b : Int))) rfl (by kernel_rfl) (by kernel_rfl) (by kernel_rfl) (fun _ _ _ h => h) (Or.inl ⟨by rfl, fun w hw => ?_⟩) hS0 ?_
      · obtain ⟨e1, e2, e3, e4⟩ := hw
        go_simp
        all_goals (first | (rw [IntKind.wrap_i64]; omega) | rfl)
      try simp only [Act.put, List.getElem_toArray, List.getElem_cons_succ, List.getElem_cons_zero, List.setIfInBounds_toArray, List.set_cons_zero, List.set_cons_succ]
      refine Tp.anyW_take (i := 4) (v := (.pointer (some ⟨bb, o + b * 3, none⟩))) rfl (by kernel_rfl) (by kernel_rfl) (by kernel_rfl) (fun _ _ _ h => h) (Or.inl ⟨by rfl, fun w hw => ?_⟩) hS0 ?_
      · obtain ⟨e1, e2, e3, e4⟩ := hw
        go_simp
        all_goals (first | (rw [IntKind.wrap_i64]; omega) | rfl)
      try simp only [Act.put, List.getElem_toArray, List.getElem_cons_succ, List.getElem_cons_zero, List.setIfInBounds_toArray, List.set_cons_zero, List.set_cons_succ]
      refine Tp.anyW_take (i := 5) (v := (.pointer (some ⟨bb, o + b * 3, none⟩))) rfl (by kernel_rfl) (by kernel_rfl) (by kernel_rfl) (fun _ _ _ h => h) (Or.inl ⟨by rfl, fun w hw => ?_⟩) hS0 ?_
      · obtain ⟨e1, e2, e3, e4⟩ := hw
        go_simp
        all_goals (first | (rw [IntKind.wrap_i64]; omega) | rfl)
      try simp only [Act.put, List.getElem_toArray, List.getElem_cons_succ, List.getElem_cons_zero, List.setIfInBounds_toArray, List.set_cons_zero, List.set_cons_succ]
      refine Tp.anyW_take (i := 6) (v := (.int .i64 (f : Int))) rfl (by kernel_rfl) (by kernel_rfl) (by kernel_rfl) (fun _ _ _ h => h) (Or.inl ⟨by rfl, fun w hw => ?_⟩) hS0 ?_
      · obtain ⟨e1, e2, e3, e4⟩ := hw
        go_simp
        all_goals (first | (rw [IntKind.wrap_i64]; omega) | rfl)
      try simp only [Act.put, List.getElem_toArray, List.getElem_cons_succ, List.getElem_cons_zero, List.setIfInBounds_toArray, List.set_cons_zero, List.set_cons_succ]
      refine Tp.anyW_one (i := 7) (by kernel_rfl) rfl (fun K hK => ?_)
      rw [if_pos (by rfl)]
      gi_wp2
      refine ⟨trivial, fun hh => by simp [Fence.wide] at hh, HIH.out.mono ?_⟩
      rintro e W1 ⟨rfl, ⟨q, hq, hJ1⟩, hk1⟩
      have hz1 : w0.heap.size ≤ W.heap.size := HE.out.size
      have hE1 : Ext w0 W1 := hk1.ext (Nat.le_refl _) HE.out.drew
      have rw1 := hk1.2 _ _ _ hxy.1.1 hxy.1.2 (HW.out.ext (Ext.refl W).drew)
      have rl1 := hk1.2 _ _ _ hxy.2.1 hxy.2.2 (HL.out.ext (Ext.refl W).drew)
      have ry1 := hk1.2 _ _ _ hxy.1.1 hxy.1.2 (HYB.out.ext (Ext.refl W).drew)
      have hS1 : W1.cell? ⟨gw, 0, none⟩ = some (.func (.func 179) #[] #[.pointer (some ⟨gw, 0, none⟩), .pointer (some ⟨gl, 0, none⟩), .pointer (some ⟨gy, 0, none⟩)]) ∧ W1.cell? ⟨gl, 0, none⟩ = some (.slice (some ⟨bb, o, none⟩) links.length c) ∧ W1.cell? ⟨bb, o + b * 3, none⟩ = some (.int .i64 (f : Int)) ∧ W1.cell? ⟨gy, 0, none⟩ = some (.func (.yield l) #[] #[]) := ⟨rw1.cell 0, rl1.cell 0, hE1.cell HCL.out, ry1.cell 0⟩
      obtain ⟨fn, tmps, assign, body, hyv, hR⟩ := HY.out (n - 1) (pre ++ q) ⟨b, hbn⟩ W1 hJ1 (by
        have h9 := HN.out
        have h8 : q.length = (Tp.path (Tp.frm links) f).length := by rw [← hq, List.length_map]
        rw [HPB.out, List.length_append] at h9
        simp only [List.length_cons, List.length_nil] at h9
        rw [List.length_append]
        omega)
      dsimp only at hyv
      have HR := Lib.hid hR
      have HQ := Lib.hid hq
      have HK1 := Lib.hid hk1
      refine hK.out _ _ hS1 ?_
      clear hK K hR hq hJ1 hk1 rw1 rl1 ry1
      try simp only [Act.put, List.getElem_toArray, List.getElem_cons_succ, List.getElem_cons_zero, List.setIfInBounds_toArray, List.set_cons_zero, List.set_cons_succ]
      refine Tp.anyW_take (i := 8) (v := (.bool true)) rfl (by kernel_rfl) (by kernel_rfl) (by kernel_rfl) (fun _ _ _ h => h) (Or.inl ⟨by rfl, fun w hw => ?_⟩) hS1 ?_
      · obtain ⟨e1, e2, e3, e4⟩ := hw
        go_simp
        all_goals (first | (rw [IntKind.wrap_i64]; omega) | rfl)
      try simp only [Act.put, List.getElem_toArray, List.getElem_cons_succ, List.getElem_cons_zero, List.setIfInBounds_toArray, List.set_cons_zero, List.set_cons_succ]
      refine Tp.anyW_take (i := 9) (v := (.func (.yield l) #[] #[])) rfl (by kernel_rfl) (by kernel_rfl) (by kernel_rfl) (fun _ _ _ h => h) (Or.inl ⟨by rfl, fun w hw => ?_⟩) hS1 ?_
      · obtain ⟨e1, e2, e3, e4⟩ := hw
        go_simp
        all_goals (first | (rw [IntKind.wrap_i64]; omega) | rfl)
      try simp only [Act.put, List.getElem_toArray, List.getElem_cons_succ, List.getElem_cons_zero, List.setIfInBounds_toArray, List.set_cons_zero, List.set_cons_succ]
      refine Tp.anyW_take (i := 10) (v := (.int .i64 ari)) rfl (by kernel_rfl) (by kernel_rfl) (by kernel_rfl) (fun _ _ _ h => h) (Or.inl ⟨by rfl, fun w hw => ?_⟩) hS1 ?_
      · obtain ⟨e1, e2, e3, e4⟩ := hw
        go_simp
        all_goals (first | (rw [IntKind.wrap_i64]; omega) | rfl)
      try simp only [Act.put, List.getElem_toArray, List.getElem_cons_succ, List.getElem_cons_zero, List.setIfInBounds_toArray, List.set_cons_zero, List.set_cons_succ]
      refine Tp.anyW_take (i := 11) (v := (.int .i64 (b : Int))) rfl (by kernel_rfl) (by kernel_rfl) (by kernel_rfl) (fun _ _ _ h => h) (Or.inl ⟨by rfl, fun w hw => ?_⟩) hS1 ?_
      · obtain ⟨e1, e2, e3, e4⟩ := hw
        go_simp
        all_goals (first | (rw [IntKind.wrap_i64]; omega) | rfl)
      try simp only [Act.put, List.getElem_toArray, List.getElem_cons_succ, List.getElem_cons_zero, List.setIfInBounds_toArray, List.set_cons_zero, List.set_cons_succ]
      refine Tp.anyW_one (i := 12) (by kernel_rfl) rfl (fun K hK => ?_)
      rw [if_pos (by rfl)]
      gi_wp2
      refine ⟨fun hh => by simp [Fence.wide] at hh, HR.out.mono ?_⟩
      rintro e W2 ⟨rfl, hJ2, hk2⟩
      have HK2 := Lib.hid (((Tp.KP.of_ext ((Ext.refl W).drew) hz1).trans HK1.out).trans hk2)
      have hE2 : Ext w0 W2 := hk2.ext (Nat.le_refl _) hE1
      have rw2 := HK2.out.2 _ _ _ hxy.1.1 hxy.1.2 HW.out
      have rl2 := HK2.out.2 _ _ _ hxy.2.1 hxy.2.2 HL.out
      have ry2 := HK2.out.2 _ _ _ hxy.1.1 hxy.1.2 HYB.out
      have hS2 : W2.cell? ⟨gw, 0, none⟩ = some (.func (.func 179) #[] #[.pointer (some ⟨gw, 0, none⟩), .pointer (some ⟨gl, 0, none⟩), .pointer (some ⟨gy, 0, none⟩)]) ∧ W2.cell? ⟨gl, 0, none⟩ = some (.slice (some ⟨bb, o, none⟩) links.length c) ∧ W2.cell? ⟨bb, o + b * 3, none⟩ = some (.int .i64 (f : Int)) ∧ W2.cell? ⟨gy, 0, none⟩ = some (.func (.yield l) #[] #[]) := ⟨rw2.cell 0, rl2.cell 0, hE2.cell HCL.out, ry2.cell 0⟩
      have HJ2 := Lib.hid hJ2
      refine hK.out _ _ hS2 ?_
      clear hK K hJ2 hk2 rw2 rl2 ry2 hyv
      try simp only [Act.put, List.getElem_toArray, List.getElem_cons_succ, List.getElem_cons_zero, List.setIfInBounds_toArray, List.set_cons_zero, List.set_cons_succ]
      refine Tp.anyW_take (i := 13) (v := (.bool true)) rfl (by kernel_rfl) (by kernel_rfl) (by kernel_rfl) (fun _ _ _ h => h) (Or.inl ⟨by rfl, fun w hw => ?_⟩) hS2 ?_
      · obtain ⟨e1, e2, e3, e4⟩ := hw
        go_simp
        all_goals (first | (rw [IntKind.wrap_i64]; omega) | rfl)
      try simp only [Act.put, List.getElem_toArray, List.getElem_cons_succ, List.getElem_cons_zero, List.setIfInBounds_toArray, List.set_cons_zero, List.set_cons_succ]
      refine Tp.anyW_take (i := 14) (v := (.bool true)) rfl (by kernel_rfl) (by kernel_rfl) (by kernel_rfl) (fun _ _ _ h => h) (Or.inl ⟨by rfl, fun w hw => ?_⟩) hS2 ?_
      · obtain ⟨e1, e2, e3, e4⟩ := hw
        go_simp
        all_goals (first | (rw [IntKind.wrap_i64]; omega) | rfl)
      try simp only [Act.put, List.getElem_toArray, List.getElem_cons_succ, List.getElem_cons_zero, List.setIfInBounds_toArray, List.set_cons_zero, List.set_cons_succ]
      have hres : ∃ q' : List (Tp.Idx links.length), q'.map Subtype.val = Tp.path (Tp.frm links) (b + 1) ∧ J (pre ++ q') W2 := ⟨q ++ [⟨b, hbn⟩], by simp only [List.map_append, HQ.out, HPB.out, List.map_cons, List.map_nil], by rw [← List.append_assoc]; exact HJ2.out⟩
      have HRES := Lib.hid hres
      clear hres
      refine ⟨by kernel_rfl, ?_⟩
      gi_wp2
      go_ret
      exact ⟨by first | rfl | simp, HRES.out, HK2.out⟩
theorem sh_path1_any (x y : TypeId) (hxy : (86 ≠ x ∧ 86 ≠ y) ∧ (47 ≠ x ∧ 47 ≠ y)) (n l gl ga : Nat) (A : Option Addr) (c : Nat) (links : List (Int × Ec.Pair)) (a : Nat) (J : List (Tp.Idx links.length) → World → Prop) (w0 : World) (hm : Tp.Links w0 A links) (hok : Tp.LinksOk links) (hl : links.length ≤ 1000) (ha : a ≤ links.length)
    (hJ : ∀ s A B, J s A → Ext A B → J s B)
    (hY : ∀ pre x' A, J pre A → pre.length < (Tp.path (Tp.frm links) a).length → YieldAt Fence.wide (n - 1) Tryz.prog l #[.int .i64 (x'.1 : Int)] A fun r B => r = .returned (.bool true) ∧ J (pre ++ [x']) B ∧ Tp.KP w0.heap.size x y A B)
    (W : World) (hE : Ext w0 W) (hlb : Row W gl 47 #[.slice A links.length c]) (har : Row W ga 3 #[.int .i64 (a : Int)]) (h0 : J [] W) :
    CallsIn Fence.wide n Tryz.prog 178 #[.func (.yield l) #[] #[], .pointer (some ⟨gl, 0, none⟩), .pointer (some ⟨ga, 0, none⟩)] W fun e B => (∃ v, e = .returned v) ∧ ∃ xs : List (Tp.Idx links.length), xs.map Subtype.val = Tp.path (Tp.frm links) a ∧ J xs B := by
  have hmf : ∀ fn first cap w, (Instr.makeFunc fn first cap).run Tryz.prog w = .ok (.func fn first cap) w := fun _ _ _ _ => rfl
  have HS := Lib.hid (sh_path2_any x y hxy l (W.heap.size + 1) gl W.heap.size A c links (Tp.path (Tp.frm links) a).length J w0 hm hok hl hJ (fun m pre x' A h1 h2 => Tp.yieldAny rfl m (hY pre x' A h1 h2)) a a)
  have r0 := blocks2 W (.cells #[.func (.yield l) #[] #[]] 86) (.cells #[.func (.func 179) #[] #[.pointer (some ⟨W.heap.size + 1, 0, none⟩), .pointer (some ⟨gl, 0, none⟩), .pointer (some ⟨W.heap.size, 0, none⟩)]] 86)
  have HRY := Lib.hid (show Row _ _ _ _ from r0.1)
  have HRF := Lib.hid (show Row _ _ _ _ from r0.2)
  have HX0 : Hid (Ext W ((W.alloc (.cells #[.func (.yield l) #[] #[]] 86)).alloc (.cells #[.func (.func 179) #[] #[.pointer (some ⟨W.heap.size + 1, 0, none⟩), .pointer (some ⟨gl, 0, none⟩), .pointer (some ⟨W.heap.size, 0, none⟩)]] 86))) := Lib.hid (((Ext.refl W).alloc _).alloc _)
  have HJ := Lib.hid hJ
  have H0 := Lib.hid h0
  have HE := Lib.hid hE
  have HL := Lib.hid hlb
  have c0 := HRF.out.cell
  have c1 := (har.ext HX0.out).cell
  clear hm hok hJ hY h0 hE hlb har r0
  refine callsIn_of_wp Tryz.func178 rfl trivial ?_ rfl
  simp only [Tryz.ntmps178, List.size_toArray, List.length_cons, List.length_nil, Nat.reduceAdd, Nat.reduceSub, Array.replicate_succ, Array.replicate_zero, List.push_toArray, List.append_toArray, List.nil_append, List.cons_append]
  gi_wp2
  refine ⟨trivial, fun hh => by simp [Fence.wide] at hh, (HS.out (n - 1) [] _ (Nat.le_refl _) ha (by simp) (HE.out.trans HX0.out) HRF.out (HL.out.ext HX0.out) HRY.out (HJ.out _ _ _ H0.out HX0.out)).mono ?_⟩
  rintro e W' ⟨rfl, ⟨q, hq, hJ'⟩, hk'⟩
  gi_wp2
  go_end0
  exact ⟨⟨_, rfl⟩, q, hq, by simpa using hJ'⟩
theorem sh_path_seq (x y : TypeId) (hxy : (86 ≠ x ∧ 86 ≠ y) ∧ (47 ≠ x ∧ 47 ≠ y)) (n gl ga : Nat) (A : Option Addr) (c : Nat) (links : List (Int × Ec.Pair)) (a : Nat) (w0 : World) (hm : Tp.Links w0 A links) (hok : Tp.LinksOk links) (hl : links.length ≤ 1000) (ha : a ≤ links.length)
    (W : World) (hE : Ext w0 W) (hlb : Row W gl 47 #[.slice A links.length c]) (har : Row W ga 3 #[.int .i64 (a : Int)]) (W' : World) (hX : Ext W W') :
    Tp.SeqAll Fence.wide n Tryz.prog 178 #[.pointer (some ⟨gl, 0, none⟩), .pointer (some ⟨ga, 0, none⟩)] (fun x' : Tp.Idx links.length => #[.int .i64 (x'.1 : Int)]) (Tp.KP w0.heap.size x y) Ext (fun xs => xs.map Subtype.val = Tp.path (Tp.frm links) a) (Tp.path (Tp.frm links) a).length W' := fun l J hJ hY h0 =>
  sh_path1_any x y hxy n l gl ga A c links a J w0 hm hok hl ha hJ hY W' (hE.trans hX) (hlb.ext hX) (har.ext hX) h0
end Go.Proofs.YtimkmokomohgjaaGreat
namespace Go.Proofs.YtimkmokomohgjaaGreat
open Go.RowKit
open Sp (rd)
attribute [local go_sem ↓] Go.wp_at_zero Go.wp_at_succ
theorem Ints.of_own {w : World} {base : Nat} {v : Value} {α : Type} {l : List α} {f : α → Int} (h : w.ownsRow base 3 1 v l.length (l.map fun x => .int .i64 (f x))) : ∃ A c, v = .slice A l.length c ∧ Ints w A (l.map f) := by
  rcases h.2 with ⟨rfl, h0⟩ | ⟨g, cap, cur, hv, _⟩
  · refine ⟨none, 0, by rw [h0], fun hh => ?_⟩
    rw [List.length_map] at hh
    omega
  · refine ⟨some ⟨g, 0, none⟩, cap, hv, fun _ => ⟨g, 0, rfl, fun k hk => ?_⟩⟩
    rw [List.length_map] at hk
    have hc := h.cells (g := g) (by rw [hv]; rfl)
    have h1 := hc k (.int .i64 (rd (l.map f) k)) (by simp [rd, hk])
    rw [add0] at h1
    simpa using h1
theorem mapAll {α : Type} (l : List α) (f : α → Int) {lo hi : Int} (h : ∀ x ∈ l, lo ≤ f x ∧ f x ≤ hi) : ∀ j, j < (l.map f).length → lo ≤ rd (l.map f) j ∧ rd (l.map f) j ≤ hi := by
  intro j hj
  rw [List.length_map] at hj
  have := h l[j] (List.getElem_mem hj)
  simpa [rd, hj] using this
theorem news1 {W : World} {o : Obj} {b : Nat} (h : W.heap.size = b) : (W.alloc o).heap[b]? = some o := by subst h; exact heap_alloc_new W o
theorem news1d {W : World} {o : Obj} {b : Nat} (h : W.heap.size = b) : (W.alloc o).drew.heap[b]? = some o := news1 h
theorem news2 {W : World} {o o2 : Obj} {b : Nat} (h : W.heap.size = b) : ((W.alloc o).alloc o2).heap[b]? = some o := by subst h; exact (Below.heap_alloc _ _ _ (by simp)).trans (heap_alloc_new W o)
theorem news2d {W : World} {o o2 : Obj} {b : Nat} (h : W.heap.size = b) : ((W.alloc o).alloc o2).drew.heap[b]? = some o := news2 h
set_option maxRecDepth 100000 in
set_option maxHeartbeats 1000000 in
theorem t_turns_any (A : Option Addr) (c : Nat) (l : List Ec.Pair) (w : World) (hm : Pairs w A l) (hK : TrainOk l) :
    Calls Tryz.prog 126 #[.slice A l.length c] w fun e w' => e = .returned (.agg #[.int .i64 (Ec.turnsN l), .int .i64 (Ec.turnsD l)]) ∧ Ext w w' := by
  have hn3 := hK.n3
  have HM := Lib.hid hm
  have HK := Lib.hid hK
  clear hm hK
  obtain ⟨i0, hi0, hz0, hz1, hz2⟩ := info_parts info_int
  go_enter Tryz.func126, Tryz.ntmps126
  go_wp2_with fail
  go_loopw [3, 4, 6, 9] (fun v1 v2 _ i wr => ∃ k : Nat, k ≤ l.length ∧ i = .int .i64 k ∧ Two (w.heap.size + 1) wr v1 v2 (l.take k) ∧ Ext (w.alloc (.cells #[.int .i64 0, .int .i64 0] 69)) wr) (fun _ _ _ i _ => l.length - (intOf i).toNat)
  case atStart => exact ⟨0, Nat.zero_le _, rfl, ⟨by simp [World.ownsRow], by simp [World.ownsRow], by simp [Value.ownBlock]⟩, Ext.refl _⟩
  case round =>
    obtain ⟨k, hk, rfl, hT, hE⟩ := hrel
    have hz := hE.size
    rw [World.size_alloc] at hz
    by_cases hlt : k < l.length
    · obtain ⟨b, o, rfl, hc⟩ := HM.out (by omega)
      obtain ⟨c0, c1⟩ := hc k hlt
      replace c0 := hE.cell (((Ext.refl w).alloc _).cell c0)
      replace c1 := hE.cell (((Ext.refl w).alloc _).cell c1)
      have hlen : (l.take k).length = k := by rw [List.length_take]; omega
      have HT := Lib.hid hT
      have HE := Lib.hid hE
      clear hc hT hE
      have htk : l.take (k + 1) = l.take k ++ [⟨(pd l k).drives, (pd l k).driven⟩] := by
        rw [List.take_succ_eq_append_getElem hlt]
        congr 1
        unfold pd
        rw [List.getD_eq_getElem?_getD, List.getElem?_eq_getElem hlt]
        rfl
      generalize (pd l k).drives = x at *
      generalize (pd l k).driven = y at *
      obtain ⟨m, hm⟩ : ∃ m, l.take k = m := ⟨_, rfl⟩
      rw [hm] at HT hlen htk
      have HTK := Lib.hid htk
      clear htk
      have HN1 : Hid (u3.ownBlock ≠ some wr.heap.size) := Lib.hid fun e => by have := (HT.out.one.lt _ e).2; omega
      have HN2 : Hid (u4.ownBlock ≠ some wr.heap.size) := Lib.hid fun e => by have := (HT.out.two.lt _ e).2; omega
      have HLN := Lib.hid hlen
      have hm2 : m.length ≤ 2 := by omega
      clear hm hlen
      go_wp2_with fail
      go_region_held3 (fun w' => w'.cell? ⟨wr.heap.size, 0, none⟩ = some (.int .i64 x) ∧ w'.cell? ⟨wr.heap.size, 1, none⟩ = some (.int .i64 y))
        (first | go_keep | (go_split_ands; refine ⟨?_, ?_⟩ <;> (first | (rw [hgrow2.cell_far _ (by have := hgrow1.size; simp at this; simp; omega) (Ne.symm HN2.out)]; assumption) | (rw [hgrow1.cell_far _ (by simp; omega) (Ne.symm HN1.out)]; assumption))))
        (first
          | ((refine step_append_lies _ (by rfl) (Operand.tmp 13) (Operand.tmp 16) _ (by rfl) (w.heap.size + 1) 3 i0 _ 1 8 Tryz.underlying48 hi0 hz0 hz1 hz2 rfl (by omega) u3 m.length (m.map fun p => .int .i64 p.drives) (by rfl)
                (own_ext HT.out.one (by first | exact ((((Ext.refl _).alloc _).alloc _).alloc _).drew | exact (((Ext.refl _).alloc _).alloc _).drew)) _ 1 1 [.int .i64 x] (by rfl) (by rfl)
                (World.news_of_block (cs := #[.int .i64 x]) (t := 3) (fr := (0, 0)) (by first | exact news1d (by simp) | exact news2d (by simp) | exact news1 (by simp) | exact news2 (by simp))) (by simp [Value.oneCell'])
                (by omega) (by unfold maxLen; omega) (by omega) (by simp; omega) _ (by rfl) ?_; intro g1 cap1 w1 hown1 hgrow1 hat1 hlt1))
          | ((refine step_append_lies _ (by rfl) (Operand.tmp 18) (Operand.tmp 21) _ (by rfl) (w.heap.size + 1) 3 i0 _ 1 8 Tryz.underlying48 hi0 hz0 hz1 hz2 rfl (by omega) u4 m.length (m.map fun p => .int .i64 p.driven) (by rfl)
                (by first | exact HT.out.own2 (by first | exact ((((Ext.refl _).alloc _).alloc _).alloc _).drew | exact (((Ext.refl _).alloc _).alloc _).drew) hgrow1 | exact (HT.out.own2 (by first | exact ((((Ext.refl _).alloc _).alloc _).alloc _).drew | exact (((Ext.refl _).alloc _).alloc _).drew) hgrow1).alloc _) _ 1 1 [.int .i64 y] (by rfl) (by rfl)
                (World.news_of_block (cs := #[.int .i64 y]) (t := 3) (fr := (0, 0)) (by first | exact news1 rfl | exact (hgrow1.block _ (by simp) (fun e => by have := (HT.out.one.lt _ e.symm).2; (try simp only [World.size_alloc] at this); omega)).trans (by first | exact news1d (by simp) | exact news2d (by simp)))) (by simp [Value.oneCell'])
                (by omega) (by unfold maxLen; omega) (by omega) (by have := hgrow1.size; simp at this; simp; omega) _ (by rfl) ?_; intro g2 cap2 w2 hown2 hgrow2 hat2 hlt2)))
      all_goals
        have hS := Lib.hid (HT.out.step (y := y) (by first | exact ((((Ext.refl _).alloc _).alloc _).alloc _).drew | exact (((Ext.refl _).alloc _).alloc _).drew) hgrow1 hown1 hat1 hlt1 (by first | exact Ext.refl _ | exact (Ext.refl _).alloc _) hgrow2 hown2 hat2 HE.out (Nat.le_of_eq (World.size_alloc _ _)))
        clear hown1 hown2 hgrow1 hgrow2 hat1 hat2
        go_wp2
        go_roundw
        case rel => exact ⟨k + 1, by omega, by go_num, by rw [HTK.out]; exact hS.out.1, hS.out.2⟩
        case measure => simp [intOf]; omega
    · obtain rfl : k = l.length := by omega
      rw [List.take_length] at hT
      obtain ⟨A1, c1, rfl, h1⟩ := Ints.of_own hT.one
      obtain ⟨A2, c2, rfl, h2⟩ := Ints.of_own hT.two
      have HT1 := Lib.hid h1
      have HT2 := Lib.hid h2
      have HE := Lib.hid hE
      have hr := (Row.new w 69 #[.int .i64 0, .int .i64 0]).ext hE
      have b0 := hr.cell
      have f0 := hr.free
      have HR := Lib.hid hr
      have hD : Hid (prodL (l.map (·.drives)) = Ec.drivesP l) := Lib.hid (by unfold prodL Ec.drivesP; rw [List.foldl_map])
      have hN : Hid (prodL (l.map (·.driven)) = Ec.drivenP l) := Lib.hid (by unfold prodL Ec.drivenP; rw [List.foldl_map])
      obtain ⟨⟨a1, a2⟩, d1, d2⟩ := HK.out.prods
      have HA1 : Hid (∀ j, j < (l.map (·.drives)).length → 4 ≤ rd (l.map (·.drives)) j ∧ rd (l.map (·.drives)) j ≤ 60) := Lib.hid (mapAll l _ fun p hp => (HK.out.mem p hp).1)
      have HA2 : Hid (∀ j, j < (l.map (·.driven)).length → 4 ≤ rd (l.map (·.driven)) j ∧ rd (l.map (·.driven)) j ≤ 60) := Lib.hid (mapAll l _ fun p hp => (HK.out.mem p hp).2)
      have hl1 : (l.map (·.drives)).length = l.length := List.length_map _
      have hl2 : (l.map (·.driven)).length = l.length := List.length_map _
      clear hT h1 h2 hE hr
      go_wp2_with fail
      have p1 := t_product_any A1 c1 (l.map (·.drives)) wr HT1.out (by omega) HA1.out
      rw [hl1, hD.out] at p1
      refine p1.mono ?_
      rintro r w1 ⟨rfl, rfl⟩
      clear p1
      go_wp2_with fail
      have p2 := t_product_any A2 c2 (l.map (·.driven)) wr HT2.out (by omega) HA2.out
      rw [hl2, hN.out] at p2
      refine p2.mono ?_
      rintro r w1 ⟨rfl, rfl⟩
      clear p2
      go_wp2_with fail
      refine (t_reduced_any _ _ _ a1 (by omega) d1 (by omega)).mono ?_
      rintro r w1 ⟨rfl, hE1⟩
      have hr1 := HR.out.ext hE1
      have b1 := hr1.cell
      have f1 := hr1.free
      clear b0 f0
      go_wp2_with fail
      have hEE := ((((Ext.refl w).alloc _).trans HE.out).trans hE1)
      exact bodyPost_ret (v := .agg #[.int .i64 (Ec.turnsN l), .int .i64 (Ec.turnsD l)]) (by simp [results, Tryz.results126, go_sem, b1, Ec.turnsN, Ec.turnsD, Ec.turnsG]) rfl ⟨rfl, (hEE.setCell (p := ⟨w.heap.size, 0, none⟩) (Nat.le_refl _) _).setCell (p := ⟨w.heap.size, 1, none⟩) (Nat.le_refl _) _⟩
end Go.Proofs.YtimkmokomohgjaaGreat
namespace Go.Proofs.YtimkmokomohgjaaGreat
open Go.RowKit
open Sp (rd)
theorem feasts_at {l : List Int} (h : Ec.feastsOk l = true) : l.length ≤ 8 ∧ ∀ k, k < l.length → 1 ≤ rd l k ∧ rd l k ≤ 10000 := by
  simp only [Ec.feastsOk, Bool.and_eq_true, decide_eq_true_eq] at h
  exact ⟨h.2, fun k hk => (Ec.rising_at h.1 k hk).1⟩
theorem set_at {feasts set : List Int} (h : Ec.setOk feasts set = true) : ∀ k, k < set.length → 0 ≤ rd set k ∧ rd set k ≤ (feasts.length : Int) - 1 := by
  simp only [Ec.setOk] at h
  exact fun k hk => (Ec.rising_at h k hk).1
theorem feastOf_bounds {feasts set : List Int} (hf : Ec.feastsOk feasts = true) (hs : Ec.setOk feasts set = true) {k : Nat} (hk : k < set.length) : 1 ≤ Ec.feastOf feasts set k ∧ Ec.feastOf feasts set k ≤ 10000 := by
  have h1 := set_at hs k hk
  exact (feasts_at hf).2 _ (by omega)
theorem lastN_bounds {feasts set : List Int} (hf : Ec.feastsOk feasts = true) (hs : Ec.setOk feasts set = true) (turn : Int) (ht : 0 ≤ turn) : ∀ k, k ≤ set.length → 0 ≤ Ec.lastN feasts set turn k ∧ Ec.lastN feasts set turn k ≤ turn := by
  intro k
  induction k with
  | zero => intro _; simp [Ec.lastN]; exact ht
  | succ k ih =>
    intro hk
    have h1 := feastOf_bounds hf hs (k := k) (by omega)
    have h2 := ih (by omega)
    unfold Ec.lastN
    by_cases h : Ec.feastOf feasts set k ≤ turn
    · rw [if_pos h]; omega
    · rw [if_neg h]; exact h2
theorem set_len {feasts set : List Int} (hf : Ec.feastsOk feasts = true) (hs : Ec.setOk feasts set = true) : set.length ≤ 8 := by
  have h1 := (feasts_at hf).1
  have h2 : ∀ k, k < set.length → (k : Int) ≤ rd set k := by
    intro k
    induction k with
    | zero => intro hk; have := set_at hs 0 hk; omega
    | succ k ih =>
      intro hk
      have h3 := ih (by omega)
      simp only [Ec.setOk] at hs
      have h4 := (Ec.rising_at hs (k + 1) hk).2 (by omega)
      simp only [Nat.add_sub_cancel] at h4
      omega
  rcases Nat.lt_or_ge 8 set.length with h | h
  · have h3 := h2 8 h
    have h4 := set_at hs 8 h
    omega
  · exact h
set_option maxRecDepth 100000 in
set_option maxHeartbeats 1000000 in
theorem t_Shown_any (A Af At : Option Addr) (c cf ct : Nat) (l : List Ec.Pair) (feasts set : List Int) (tn td turn : Int) (w : World) (hm : Pairs w A l) (hf : Ints w Af feasts) (hs : Ints w At set)
    (c0 : Ec.trainOk l = true) (c1 : Ec.feastsOk feasts = true) (c2 : Ec.setOk feasts set = true) (h1 : 1 ≤ tn) (h2 : tn ≤ 10000) (h3 : 1 ≤ td) (h4 : td ≤ 10000) (h5 : 0 ≤ turn) (h6 : turn ≤ 10000) :
    Calls Tryz.prog 204 #[.slice A l.length c, .agg #[.int .i64 tn, .int .i64 td], .slice Af feasts.length cf, .slice At set.length ct, .int .i64 turn] w fun e w' =>
      e = .returned (.tuple #[.int .i64 (Ec.shown l tn td feasts set turn), .int .i64 0]) ∧ Ext w w' := by
  have hK := trainOk_of c0
  have hn3 := hK.n3
  have hf8 := (feasts_at c1).1
  have hs8 := set_len c1 c2
  have hFe := feasts_at c1
  have HSA := Lib.hid (set_at c2)
  have HFO := Lib.hid (fun k (hk : k < set.length) => feastOf_bounds c1 c2 hk)
  have HLB := Lib.hid (lastN_bounds c1 c2 turn h5)
  obtain ⟨⟨n1, n2⟩, d1, d2⟩ := hK.turns
  obtain ⟨b1, b2⟩ := lastN_bounds c1 c2 turn h5 set.length (Nat.le_refl _)
  have c3 : (Sp.inR tn 0 50000 && Sp.inR td 1 50000) = true := by simp [inR_iff]; omega
  have c4 : Sp.inR turn 0 10000 = true := by simp [inR_iff]; omega
  have HK := Lib.hid hK
  have HM := Lib.hid hm
  have HF := Lib.hid hf
  have HT := Lib.hid hs
  have HFIN : Hid (Ec.shown l tn td feasts set turn = (tn * Ec.lastN feasts set turn set.length * Ec.turnsD l + Ec.turnsN l * (turn - Ec.lastN feasts set turn set.length) * td) % (Ec.turnsD l * td) * 21600 / (Ec.turnsD l * td)) := Lib.hid rfl
  clear hK hm hf hs hFe
  obtain ⟨L, hL⟩ : ∃ L, Ec.lastN feasts set turn set.length = L := ⟨_, rfl⟩
  obtain ⟨N, hN⟩ : ∃ N, Ec.turnsN l = N := ⟨_, rfl⟩
  obtain ⟨D, hD⟩ : ∃ D, Ec.turnsD l = D := ⟨_, rfl⟩
  rw [hL] at b1 b2 HFIN
  rw [hN] at n1 n2 HFIN
  rw [hD] at d1 d2 HFIN
  have HL := Lib.hid hL
  have HN := Lib.hid hN
  have HD := Lib.hid hD
  clear hL hN hD
  have p1 := mul_bounds0 (a := D) (b := td) (A := 216000) (B := 10000) (by omega) (by omega) (by omega) (by omega)
  have p1' : 1 * 1 ≤ D * td := Int.mul_le_mul (by omega) (by omega) (by omega) (by omega)
  have p2 := mul_bounds0 (a := tn) (b := L) (A := 10000) (B := 10000) (by omega) (by omega) (by omega) (by omega)
  have p3 := mul_bounds0 (a := tn * L) (b := D) (A := 100000000) (B := 216000) (by omega) (by omega) (by omega) (by omega)
  have p4 := mul_bounds0 (a := N) (b := turn - L) (A := 216000) (B := 10000) (by omega) (by omega) (by omega) (by omega)
  have p5 := mul_bounds0 (a := N * (turn - L)) (b := td) (A := 2160000000) (B := 10000) (by omega) (by omega) (by omega) (by omega)
  have p6 := emod_bounds (tn * L * D + N * (turn - L) * td) (D * td) (by omega)
  go_enter Tryz.func204, Tryz.ntmps204
  go_wp2_with fail
  refine (t_isTrain_any A c l _ (HM.out.ext ((Ext.refl w).alloc _)) (by omega)).mono ?_
  rintro e w1 ⟨rfl, hE1⟩
  have hE := ((Ext.refl w).alloc _).trans hE1
  have hr := (Row.new w 69 _).ext hE1
  have b0 := hr.cell
  clear hE1
  go_wp2_with fail
  refine (t_isFraction_any tn td _).mono ?_
  rintro e w2 ⟨rfl, hE2⟩
  replace hE := hE.trans hE2
  replace hr := hr.ext hE2
  clear b0 hE2
  go_wp2_with fail
  refine (t_areFeasts_any Af cf feasts _ (HF.out.ext hE) (by omega)).mono ?_
  rintro e w3 ⟨rfl, rfl⟩
  go_wp2_with fail
  refine (t_areSettings_any At Af ct cf feasts set _ (by omega) (HT.out.ext hE) (by omega)).mono ?_
  rintro e w3 ⟨rfl, rfl⟩
  go_wp2_with fail
  refine (t_isTurn_any turn _).mono ?_
  rintro e w3 ⟨rfl, rfl⟩
  go_wp2_with fail
  go_loop [12, 14, 44] (fun x _ i => ∃ k : Nat, k ≤ set.length ∧ i = .int .i64 k ∧ x = .int .i64 (Ec.lastN feasts set turn k)) (fun _ _ i => set.length - (intOf i).toNat)
  case atStart => exact ⟨0, Nat.zero_le _, rfl, rfl⟩
  case round =>
    obtain ⟨k, hk, rfl, rfl⟩ := hrel
    by_cases hlt : k < set.length
    · obtain ⟨bs, os, rfl, hcs⟩ := (HT.out.ext hE) (by omega)
      have hsk := HSA.out k hlt
      obtain ⟨bf, of, rfl, hcf⟩ := (HF.out.ext hE) (by omega)
      have ck := hcs k hlt
      have cf := hcf (rd set k).toNat (by omega)
      have hfo := HFO.out k hlt
      have HNX : Hid (Ec.lastN feasts set turn (k + 1) = if rd feasts (rd set k).toNat ≤ turn then rd feasts (rd set k).toNat else Ec.lastN feasts set turn k) := Lib.hid rfl
      clear hcs hcf
      by_cases hle : rd feasts (rd set k).toNat ≤ turn
      · go_wp2_with fail
        go_round
        case rel => exact ⟨k + 1, by omega, by go_num, by rw [HNX.out, if_pos ‹_›]⟩
        case measure => simp [intOf]; omega
      · go_wp2_with fail
        go_round
        case rel => exact ⟨k + 1, by omega, by go_num, by rw [HNX.out, if_neg ‹_›]⟩
        case measure => simp [intOf]; omega
    · obtain rfl : k = set.length := by omega
      rw [HL.out]
      go_wp2_with fail
      refine (t_turns_any A c l _ (HM.out.ext hE) HK.out).mono ?_
      rintro e w4 ⟨rfl, hE4⟩
      replace hE := hE.trans hE4
      replace hr := hr.ext hE4
      have b0 := hr.cell
      have j0 := lts hr.lt
      clear hE4
      rw [HN.out, HD.out]
      go_wp2_with fail
      go_ret2
      exact ⟨by rw [HFIN.out]; rfl, hE.alloc _⟩
end Go.Proofs.YtimkmokomohgjaaGreat
namespace Go.Proofs.YtimkmokomohgjaaGreat
open Go.RowKit
open Sp (rd)
/-- Where the lists of an engine and its settings lie. -/
structure EP where
  Ab : Option Addr
  cb : Nat
  As : Option Addr
  cs : Nat
  Am : Option Addr
  cm : Nat
  An : Option Addr
  cn : Nat
  Af : Option Addr
  cf : Nat
  At : Option Addr
  ct : Nat
/-- What is there stays there. -/
def Stays (w w' : World) : Prop := ∀ p v, w.cell? p = some v → w'.cell? p = some v
theorem Ext.stays {w w' : World} (h : Ext w w') : Stays w w' := fun _ _ hc => h.cell hc
theorem Step.stays {P : Program} {kt : TypeId} {f : Int → Value} {M : Nat} {w w' : World} (h : Step P kt f M w w') (hc : Cache P kt f M w) : Stays w w' := fun _ _ hp => h.cell hc hp
theorem Ints.stay {w w' : World} {A : Option Addr} {l : List Int} (h : Ints w A l) (he : Stays w w') : Ints w' A l := fun h0 =>
  let ⟨b, o, e, hc⟩ := h h0
  ⟨b, o, e, fun k hk => he _ _ (hc k hk)⟩
theorem Pairs.stay {w w' : World} {A : Option Addr} {l : List Ec.Pair} (h : Pairs w A l) (he : Stays w w') : Pairs w' A l := fun h0 =>
  let ⟨b, o, e, hc⟩ := h h0
  ⟨b, o, e, fun k hk => ⟨he _ _ (hc k hk).1, he _ _ (hc k hk).2⟩⟩
theorem Bodies.stay {w w' : World} {A : Option Addr} {l : List Sp.Body} (h : Bodies w A l) (he : Stays w w') : Bodies w' A l := fun h0 =>
  let ⟨b, o, e, hc⟩ := h h0
  ⟨b, o, e, fun k hk => let hb := hc k hk
    let ⟨R, c, h1, h2⟩ := hb.road
    ⟨he _ _ hb.num, he _ _ hb.den, he _ _ hb.start, R, c, he _ _ h1, h2.stay he⟩⟩
/-- An engine's lists in memory. -/
structure EngAt (w : World) (p : EP) (e : Ec.Engine) : Prop where
  bodies : Bodies w p.Ab e.sky.bodies
  sun : Pairs w p.As e.sun
  moon : Pairs w p.Am e.moon
  node : Pairs w p.An e.node
  feasts : Ints w p.Af e.feasts
/-- .. with settings. -/
structure EngSet (w : World) (p : EP) (e : Ec.Engine) (set : List Int) : Prop where
  eng : EngAt w p e
  set : Ints w p.At set
theorem EngAt.stay {w w' : World} {p : EP} {e : Ec.Engine} (h : EngAt w p e) (he : Stays w w') : EngAt w' p e := ⟨h.bodies.stay he, h.sun.stay he, h.moon.stay he, h.node.stay he, h.feasts.stay he⟩
theorem EngAt.ext {w w' : World} {p : EP} {e : Ec.Engine} (h : EngAt w p e) (he : Ext w w') : EngAt w' p e := h.stay he.stays
theorem EngSet.stay {w w' : World} {p : EP} {e : Ec.Engine} {set : List Int} (h : EngSet w p e set) (he : Stays w w') : EngSet w' p e set := ⟨h.eng.stay he, h.set.stay he⟩
theorem EngSet.ext {w w' : World} {p : EP} {e : Ec.Engine} {set : List Int} (h : EngSet w p e set) (he : Ext w w') : EngSet w' p e set := h.stay he.stays
/-- An engine and settings as defined. -/
structure Fine (e : Ec.Engine) (set : List Int) : Prop where
  eng : Ec.engineOk e = true
  set : Ec.setOk e.feasts set = true
theorem engineOk_parts {e : Ec.Engine} (h : Ec.engineOk e = true) : (Ec.trainOk e.sun = true ∧ Ec.trainOk e.moon = true ∧ Ec.trainOk e.node = true) ∧ (Sp.skyOk e.sky = true ∧ Sp.isMonth e.sky = true) ∧ Ec.feastsOk e.feasts = true ∧
    (Sp.isLimit e.nw = true ∧ Sp.isLimit e.fl = true ∧ Sp.isLimit e.wide = true) := by
  simp only [Ec.engineOk, Bool.and_eq_true] at h
  exact h
theorem Fine.sky {e : Ec.Engine} {set : List Int} (h : Fine e set) : SkyOk e.sky := skyOk_iff.1 (engineOk_parts h.eng).2.1.1
theorem Fine.feasts {e : Ec.Engine} {set : List Int} (h : Fine e set) : Ec.feastsOk e.feasts = true := (engineOk_parts h.eng).2.2.1
theorem Fine.limits {e : Ec.Engine} {set : List Int} (h : Fine e set) : (0 ≤ e.nw ∧ e.nw ≤ 5400) ∧ (0 ≤ e.fl ∧ e.fl ≤ 5400) ∧ (0 ≤ e.wide ∧ e.wide ≤ 5400) :=
  let h1 := (engineOk_parts h.eng).2.2.2
  ⟨limit_of h1.1, limit_of h1.2.1, limit_of h1.2.2⟩
theorem shown_bounds {l : List Ec.Pair} (hl : Ec.trainOk l = true) (num den : Int) (feasts set : List Int) (turn : Int) (hd : 1 ≤ den) : 0 ≤ Ec.shown l num den feasts set turn ∧ Ec.shown l num den feasts set turn < 21600 := by
  have ht := (trainOk_of hl).turns.2.1
  have hw : 1 * 1 ≤ Ec.turnsD l * den := Int.mul_le_mul ht hd (by omega) (by omega)
  unfold Ec.shown
  have h1 := emod_bounds (num * Ec.last feasts set turn * Ec.turnsD l + Ec.turnsN l * (turn - Ec.last feasts set turn) * den) (Ec.turnsD l * den) (by omega)
  generalize (num * Ec.last feasts set turn * Ec.turnsD l + Ec.turnsN l * (turn - Ec.last feasts set turn) * den) % (Ec.turnsD l * den) = x at h1 ⊢
  generalize Ec.turnsD l * den = W at h1 hw ⊢
  exact ⟨Int.ediv_nonneg (by omega) (by omega), Int.ediv_lt_of_lt_mul (by omega) (by omega)⟩
theorem e_around_any (n : Int) (w : World) (h1 : -4000000000000000000 ≤ n) (h2 : n ≤ 4000000000000000000) :
    Calls Tryz.prog 138 #[.int .i64 n] w fun e w' => e = .returned (.int .i64 (n % 21600)) ∧ w = w' := by
  by_cases h0 : 0 ≤ n
  · have hm := emod_bounds n 21600 (by omega)
    go_enter Tryz.func138, Tryz.ntmps138
    go_wp2
    go_ret
    exact ⟨ret_int (by omega), rfl⟩
  · have hm := tmod_bounds n 21600 (by omega) (by omega)
    have F : n % 21600 = n.tmod 21600 % 21600 := by
      have h3 := Int.mul_tdiv_add_tmod n 21600
      omega
    have HF := Lib.hid F
    clear F
    go_enter Tryz.func138, Tryz.ntmps138
    go_wp2
    go_ret
    exact ⟨ret_int HF.out.symm, rfl⟩
theorem e_signed_any (n : Int) (w : World) (h1 : -1000000000000000000 ≤ n) (h2 : n ≤ 1000000000000000000) :
    Calls Tryz.prog 82 #[.int .i64 n] w fun e w' => e = .returned (.int .i64 (Ec.near n)) ∧ w = w' := by
  go_enter Tryz.func82, Tryz.ntmps82
  go_wp2_with (go_at_call 138; refine (e_around_any _ _ (by omega) (by omega)).mono ?_; rintro e w' ⟨rfl, rfl⟩)
  go_ret
  exact ⟨rfl, rfl⟩
set_option maxRecDepth 100000 in
theorem e_shown_any (p : EP) (e : Ec.Engine) (set : List Int) (M : Nat) (A : Option Addr) (c : Nat) (l : List Ec.Pair) (num den day : Int) (w : World) (hK : Fine e set) (hm : EngSet w p e set) (hl : Pairs w A l) (c0 : Ec.trainOk l = true)
    (h1 : 1 ≤ num) (h2 : num ≤ 10000) (h3 : 1 ≤ den) (h4 : den ≤ 10000) (h5 : 0 ≤ day) (h6 : day ≤ 10000) :
    Calls Tryz.prog 181 #[.agg #[.slice p.Ab e.sky.bodies.length p.cb, .int .i64 e.sky.nnum, .int .i64 e.sky.nden, .int .i64 e.sky.nstart, .slice p.As e.sun.length p.cs, .slice p.Am e.moon.length p.cm, .slice p.An e.node.length p.cn, .slice p.Af e.feasts.length p.cf, .int .i64 e.nw, .int .i64 e.fl, .int .i64 e.wide, .slice p.At set.length p.ct, .map (some M)], .slice A l.length c, .agg #[.int .i64 num, .int .i64 den], .int .i64 day] w fun r w' => r = .returned (.int .i64 (Ec.shown l den num e.feasts set day)) ∧ Ext w w' := by
  have HK := Lib.hid hK
  have HM := Lib.hid hm
  have HL := Lib.hid hl
  clear hK hm hl
  go_enter Tryz.func181, Tryz.ntmps181
  go_wp2_with fail
  refine (t_Shown_any A p.Af p.At c p.cf p.ct l e.feasts set den num day _ (HL.out.ext (((Ext.refl w).alloc _).alloc _)) (HM.out.eng.feasts.ext (((Ext.refl w).alloc _).alloc _)) (HM.out.set.ext (((Ext.refl w).alloc _).alloc _)) c0 HK.out.feasts HK.out.set h3 h4 h1 h2 h5 h6).mono ?_
  rintro r w1 ⟨rfl, hE⟩
  replace hE := (((Ext.refl w).alloc _).alloc _).trans hE
  go_wp2_with fail
  go_ret
  exact ⟨rfl, hE⟩
end Go.Proofs.YtimkmokomohgjaaGreat
namespace Go.Proofs.YtimkmokomohgjaaGreat
open Go.RowKit
open Sp (rd)
theorem e_isLimit_any (n : Int) (w : World) : Calls Tryz.prog 180 #[.int .i64 n] w fun e w' => e = .returned (.bool (Sp.isLimit n)) ∧ w = w' := by
  go_enter Tryz.func180, Tryz.ntmps180
  go_wp2_with (go_at_call 88; refine (e_in_any _ _ _ _).mono ?_; rintro e w' ⟨rfl, rfl⟩)
  go_ret
  exact ⟨rfl, rfl⟩
theorem e_isDay_any (n : Int) (w : World) : Calls Tryz.prog 78 #[.int .i64 n] w fun e w' => e = .returned (.bool (Ec.isDay n)) ∧ w = w' := by
  go_enter Tryz.func78, Tryz.ntmps78
  go_wp2_with (go_at_call 88; refine (e_in_any _ _ _ _).mono ?_; rintro e w' ⟨rfl, rfl⟩)
  go_ret
  exact ⟨rfl, rfl⟩
theorem e_isLate_any (n : Int) (w : World) : Calls Tryz.prog 84 #[.int .i64 n] w fun e w' => e = .returned (.bool (Ec.isLate n)) ∧ w = w' := by
  go_enter Tryz.func84, Tryz.ntmps84
  go_wp2_with (go_at_call 88; refine (e_in_any _ _ _ _).mono ?_; rintro e w' ⟨rfl, rfl⟩)
  go_ret
  exact ⟨rfl, rfl⟩
theorem e_isSpan_any (lo hi : Int) (w : World) : Calls Tryz.prog 83 #[.int .i64 lo, .int .i64 hi] w fun e w' => e = .returned (.bool (Ec.isSpan lo hi)) ∧ w = w' := by
  by_cases h1 : 1 ≤ lo ∧ lo ≤ 9000
  · obtain ⟨d1, d2⟩ := h1
    have h1' : Sp.inR lo 1 9000 = true := inR_iff.2 ⟨d1, d2⟩
    by_cases h2 : lo ≤ hi ∧ hi ≤ 9000
    · obtain ⟨d3, d4⟩ := h2
      have h2' : Sp.inR hi lo 9000 = true := inR_iff.2 ⟨d3, d4⟩
      go_enter Tryz.func83, Tryz.ntmps83
      go_wp2_with (go_at_call 88; refine (e_in_any _ _ _ _).mono ?_; rintro e w' ⟨rfl, rfl⟩)
      all_goals
        go_ret
        exact ⟨ret_bool (by simp [Ec.isSpan, h1', h2']), rfl⟩
    · have h2' : Sp.inR hi lo 9000 = false := inR_no.2 h2
      clear h2
      go_enter Tryz.func83, Tryz.ntmps83
      go_wp2_with (go_at_call 88; refine (e_in_any _ _ _ _).mono ?_; rintro e w' ⟨rfl, rfl⟩)
      all_goals
        go_ret
        exact ⟨ret_bool (by simp [Ec.isSpan, h2']), rfl⟩
  · have h1' : Sp.inR lo 1 9000 = false := inR_no.2 h1
    clear h1
    go_enter Tryz.func83, Tryz.ntmps83
    go_wp2_with (go_at_call 88; refine (e_in_any _ _ _ _).mono ?_; rintro e w' ⟨rfl, rfl⟩)
    all_goals
      go_ret
      exact ⟨ret_bool (by simp [Ec.isSpan, h1']), rfl⟩
/-- Lists that are not too long for a walk. -/
structure EngShort (e : Ec.Engine) : Prop where
  sky : Short e.sky.bodies
  sun : e.sun.length ≤ 100000
  moon : e.moon.length ≤ 100000
  node : e.node.length ≤ 100000
  feasts : e.feasts.length ≤ 100000
theorem t_Turns_ok (A : Option Addr) (c : Nat) (l : List Ec.Pair) (w : World) (hm : Pairs w A l) (hl : l.length ≤ 100000) (h : Ec.trainOk l = true) :
    Calls Tryz.prog 66 #[.slice A l.length c] w fun r w' => ∃ b, r = .returned (.tuple #[.agg #[.int .i64 (Ec.turnsN l), .int .i64 (Ec.turnsD l)], .bool b, .int .i64 0]) ∧ Ext w w' := by
  have HM := Lib.hid hm
  have hK := trainOk_of h
  have HK := Lib.hid hK
  have h3 := hK.n3
  clear hm hK
  go_enter Tryz.func66, Tryz.ntmps66
  go_wp2_with fail
  refine (t_isTrain_any A c l _ (HM.out.ext ((Ext.refl w).alloc _)) hl).mono ?_
  rintro r w1 ⟨rfl, hE1⟩
  have hE := ((Ext.refl w).alloc _).trans hE1
  have hr := (Row.new w 69 #[.int .i64 0, .int .i64 0]).ext hE1
  clear hE1
  go_wp2_with fail
  refine (t_turns_any A c l _ (HM.out.ext hE) HK.out).mono ?_
  rintro r w2 ⟨rfl, hE2⟩
  have hr2 := hr.ext hE2
  have g0 := hr2.cell
  have k0 := hr2.free
  have HE3 := Lib.hid (hE.trans hE2)
  clear hr hE hE2
  go_wp2_with fail
  exact bodyPost_ret (v := .tuple #[.agg #[.int .i64 (Ec.turnsN l), .int .i64 (Ec.turnsD l)], .bool ((l.length : Int) % 2 == 0), .int .i64 0]) (by simp [results, Tryz.results66, go_sem, g0]) rfl ⟨_, rfl, (HE3.out.setCell (p := ⟨w.heap.size, 0, none⟩) (Nat.le_refl _) _).setCell (p := ⟨w.heap.size, 1, none⟩) (Nat.le_refl _) _⟩
theorem t_Turns_err (A : Option Addr) (c : Nat) (l : List Ec.Pair) (w : World) (hm : Pairs w A l) (hl : l.length ≤ 100000) (h : Ec.trainOk l = false) :
    Calls Tryz.prog 66 #[.slice A l.length c] w fun r w' => r = .returned (.tuple #[.agg #[.int .i64 0, .int .i64 0], .bool false, .int .i64 2]) ∧ Ext w w' := by
  have HM := Lib.hid hm
  clear hm
  go_enter Tryz.func66, Tryz.ntmps66
  go_wp2_with fail
  refine (t_isTrain_any A c l _ (HM.out.ext ((Ext.refl w).alloc _)) hl).mono ?_
  rintro r w1 ⟨rfl, hE1⟩
  have HE := Lib.hid (((Ext.refl w).alloc _).trans hE1)
  have hr := (Row.new w 69 #[.int .i64 0, .int .i64 0]).ext hE1
  have g0 := hr.cell
  have k0 := hr.free
  clear hE1
  go_wp2_with fail
  exact bodyPost_ret (v := .tuple #[.agg #[.int .i64 0, .int .i64 0], .bool false, .int .i64 2]) (by simp [results, Tryz.results66, go_sem, g0]) rfl ⟨rfl, (HE.out.setCell (p := ⟨w.heap.size, 0, none⟩) (Nat.le_refl _) _).setCell (p := ⟨w.heap.size, 1, none⟩) (Nat.le_refl _) _⟩
end Go.Proofs.YtimkmokomohgjaaGreat
