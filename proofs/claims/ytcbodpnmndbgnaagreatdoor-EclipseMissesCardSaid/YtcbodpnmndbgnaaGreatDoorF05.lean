/- Volume 5 of the texts that the laws of this seat use: EcFree2 EcRan EcBalls EcDark EcShades: walks of the program's functions, and plain laws. -/
import Derived.Carry
import Derived.BigQuiet
import Derived.Test.YtcbodpnmndbgnaaGreatDoorF01
import Derived.Test.YtcbodpnmndbgnaaGreatDoorF04
namespace Go.Proofs.YtcbodpnmndbgnaaGreatDoor
open Go.RowKit
def headTail (n m : Nat) : Array Bool := (List.replicate n true ++ List.replicate (m - n) false).toArray
/-- The tail waits for the whole head, and each of it for the one before. -/
def tailB (m : List Oper) (n z : Nat) : Bool :=
  ((List.range n).all fun j => decide (n = m.length) || decide (j = z) || Region.waitsFor .any m.toArray n j) && ((List.range m.length).all fun t => decide (t ≤ n) || Region.waitsFor .any m.toArray t (t - 1))
theorem tailB_spec {m : List Oper} {n z : Nat} (h : tailB m n z = true) {t : Nat} (ht : n ≤ t) (htm : t < m.length) :
    (n = t ∧ ∀ q, q < n → q ≠ z → ∀ o, m[t]? = some o → ∃ e ∈ o.after, Region.binds .any e = true ∧ e.on = q) ∨ (n < t ∧ ∀ o, m[t]? = some o → ∃ e ∈ o.after, Region.binds .any e = true ∧ e.on = t - 1) := by
  simp only [tailB, Bool.and_eq_true, List.all_eq_true, List.mem_range, Bool.or_eq_true, decide_eq_true_eq] at h
  have conv : ∀ q o, m[t]? = some o → Region.waitsFor .any m.toArray t q = true → ∃ e ∈ o.after, Region.binds .any e = true ∧ e.on = q := by
    intro q o ho hw
    obtain ⟨oj, hoj, hh⟩ := Region.waitsFor_spec hw
    have : oj = o := by
      simp only [List.getElem?_toArray] at hoj
      rw [ho] at hoj
      exact (Option.some.inj hoj).symm
    rw [this] at hh
    exact hh
  rcases Nat.eq_or_lt_of_le ht with rfl | hlt
  · refine .inl ⟨rfl, fun q hq hqz o ho => ?_⟩
    rcases h.1 q hq with (h1 | h1) | h1
    · omega
    · exact absurd h1 hqz
    · exact conv q o ho h1
  · refine .inr ⟨hlt, fun o ho => ?_⟩
    rcases h.2 t htm with h1 | h1
    · omega
    · exact conv _ o ho h1
/-- The head but for z, and the first of the tail. -/
def lazyTail (n z m : Nat) : Array Bool := ((List.range m).map fun i => decide (i ≤ n) && decide (i ≠ z)).toArray
/-- Where the tail's first is taken ahead of z: z comes next, and then the tail's rest. -/
def lazyB (m : List Oper) (n z : Nat) : Bool :=
  decide (n ≤ z) || (decide (n < m.length) && decide (Region.ready .any m.toArray (lazyTail n z m.length) = [z]) && Region.seqB .any m.toArray (m.length - (n + 1)) (n + 1) (headTail (n + 1) m.length))
theorem putS_perm {l : List Oper} {vs : Nat → Value} {S S' : List Nat} {a : Act} (hB : freeB l a.tmps.size = true) (hp : S.Perm S') (hS : ∀ x ∈ S, x < l.length) : putS l vs S a = putS l vs S' a := by
  refine hp.foldl_eq' (fun x hx y hy z => ?_) a
  by_cases hxy : x = y
  · rw [hxy]
  · refine Act.put_comm z (vs x) (vs y) fun d hdx hdy => ?_
    have hx' := hS x hx
    have hy' := hS y hy
    have hox : l[x]? = some l[x] := List.getElem?_eq_getElem hx'
    have := (freeB_spec hB hox).apart y d hy' (Ne.symm hxy) hdy
    exact this.1 (by simpa [dstOf, hox] using hdx)
/-- The same over any relation of worlds that is handed on, in the place of Ext. -/
theorem wp_region_free_tailR {P : Program} {id : Nat} {Q : Exit → Act → World → Prop} {a0 : Act} {w0 : World} {m : List Oper} (R : World → World → Prop) (hR0 : R w0 w0.drew) (hRt : ∀ {x y z : World}, R x y → R y z → R x z) (n z : Nat) (Φ : Nat → Value → World → Prop) (hm : P.follows .mixedOrders = true) (hn : n ≤ m.length) (hB : freeB (m.take n) a0.tmps.size = true)
    (hT : tailB m n z = true) (hL : lazyB m n z = true) (hS : Region.seqB .any m.toArray (m.length - n) n (headTail n m.length) = true)
    (hmono : ∀ i v w w', Φ i v w → R w w' → Φ i v w')
    (hob : ∀ i o, i < n → m[i]? = some o → ∀ a w, R w0 w → Finds (m.take n) Φ a0 o a w → Ran P m.toArray o a w (fun v w' => Φ i v w' ∧ R w w'))
    (hQ : ∀ vs : Nat → Value, ∀ w, R w0 w → (∀ i, i < n → Φ i (vs i) w) → wpList P m.toArray Q (m.drop n) (putAll (m.take n) vs a0) w)
    (hZ : z < n → ∀ vs : Nat → Value, ∀ w, R w0 w → (∀ i, i < n → i ≠ z → Φ i (vs i) w) → ∀ on oz, m[n]? = some on → m[z]? = some oz → wpList P m.toArray Q (on :: oz :: m.drop (n + 1)) (putS (m.take n) vs ((List.range n).filter (· ≠ z)) a0) w) : (Code.region id m.toArray true).wp P Q a0 w0 := by
  refine wp_region_any hm ?_
  obtain ⟨l, hl⟩ : ∃ l, m.take n = l := ⟨_, rfl⟩
  have hln : l.length = n := by rw [← hl, List.length_take]; omega
  have hget : ∀ i, i < n → m[i]? = l[i]? := fun i hi => by rw [← hl, List.getElem?_take]; simp [hi]
  rw [hl] at hB hob hQ hZ
  have key : ∀ (f : Nat) (S : List Nat) (vs : Nat → Value) (listed : Array Bool) (w : World), R w0 w → S.Nodup → (∀ i, i ∈ S ↔ i < l.length ∧ listed.getD i false = true) → listed.size = m.length ∧ (∀ i, l.length ≤ i → listed.getD i false = false) → S.length + f = l.length →
      (∀ i ∈ S, Φ i (vs i) w) → wpAny P .any m.toArray Q (f + (m.length - n)) listed (putS l vs S a0) w := by
    intro f
    induction f with
    | zero =>
      intro S vs listed w hE hd hmem hsz hlen hΦ
      have hall : ∀ i, i < l.length → i ∈ S := by
        intro i hi
        rcases Classical.em (i ∈ S) with h | h
        · exact h
        · have h1 := nodup_le' (S := i :: S) (N := l.length) (by simp [h, hd]) (by
            intro x hx
            rcases List.mem_cons.1 hx with rfl | hx
            · exact hi
            · exact ((hmem x).1 hx).1)
          simp at h1
          omega
      have hp : S.Perm (List.range l.length) := (List.perm_ext_iff_of_nodup hd List.nodup_range).2 fun i => ⟨fun h => List.mem_range.2 ((hmem i).1 h).1, fun h => hall i (List.mem_range.1 h)⟩
      have he : putS l vs S a0 = putAll l vs a0 := putS_perm hB hp fun x hx => ((hmem x).1 hx).1
      rw [he, Nat.zero_add]
      have hs1 := hsz.1
      have hlist : listed = headTail n m.length := by
        refine Array.ext_getElem? fun i => ?_
        rcases Nat.lt_or_ge i m.length with hi | hi
        · have h1 : listed[i]? = some (listed.getD i false) := by
            have : i < listed.size := by omega
            simp [Array.getD, this]
          rw [h1]
          rcases Nat.lt_or_ge i n with h2 | h2
          · rw [((hmem i).1 (hall i (by omega))).2]
            simp [headTail, List.getElem?_append, h2]
          · rw [hsz.2 i (by omega)]
            simp only [headTail, List.getElem?_toArray, List.getElem?_append, List.length_replicate, Nat.not_lt.2 h2, if_false, List.getElem?_replicate]
            rw [if_pos (by omega)]
        · rw [Array.getElem?_eq_none (by omega)]
          simp [headTail]
          omega
      rw [hlist]
      have hdl : (m.drop n).length = m.length - n := by simp
      have := wpAny_of_seq (md := .any) (Q' := Q) (m.drop n) n (headTail n m.length) _ w (fun j => by simp [List.getElem?_drop]) (by rw [hdl]; exact hS) (hQ vs w hE fun i hi => hΦ i (hall i (by omega)))
      rwa [hdl] at this
    | succ f ih =>
      intro S vs listed w hE hd hmem hsz hlen hΦ
      rw [Nat.add_right_comm]
      have hex : ∃ i, i < l.length ∧ i ∉ S := by
        rcases Classical.em (∃ i, i < l.length ∧ i ∉ S) with h | h
        · exact h
        · have hsub : (List.range l.length).length ≤ S.length := nodup_sub_le _ _ List.nodup_range fun i hi => by
            rcases Classical.em (i ∈ S) with h2 | h2
            · exact h2
            · exact absurd ⟨i, List.mem_range.1 hi, h2⟩ h
          simp at hsub
          omega
      refine ⟨fun hr => ?_, fun i hi => ?_⟩
      · -- some operation is still to come: the first of them is ready
        exfalso
        have hmin : ∀ (k i : Nat), i ≤ k → i < l.length → i ∉ S → False := by
          intro k
          induction k with
          | zero =>
            intro i hik hi hiS
            obtain rfl : i = 0 := by omega
            have ho : l[0]? = some l[0] := List.getElem?_eq_getElem hi
            have hfr := freeB_spec hB ho
            have : 0 ∈ Region.ready .any m.toArray listed := mem_ready.2 ⟨getD_in (by have := hsz.1; omega) (by
              cases hh : listed.getD 0 false
              · rfl
              · exact absurd ((hmem 0).2 ⟨hi, hh⟩) hiS), l[0], by rw [List.getElem?_toArray, hget 0 (by omega)]; simp, fun e he hbi => absurd (hfr.back e he hbi) (by omega)⟩
            rw [hr] at this
            cases this
          | succ k ihk =>
            intro i hik hi hiS
            have ho : l[i]? = some l[i] := List.getElem?_eq_getElem hi
            have hfr := freeB_spec hB ho
            have : i ∈ Region.ready .any m.toArray listed := mem_ready.2 ⟨getD_in (by have := hsz.1; omega) (by
              cases hh : listed.getD i false
              · rfl
              · exact absurd ((hmem i).2 ⟨hi, hh⟩) hiS), l[i], by rw [List.getElem?_toArray, hget i (by omega)]; simp, fun e he hbi => by
                have hlt := hfr.back e he hbi
                rcases Classical.em (e.on ∈ S) with h | h
                · exact ((hmem _).1 h).2
                · exact (ihk e.on (by omega) (by omega) h).elim⟩
            rw [hr] at this
            cases this
        obtain ⟨i, hi, hiS⟩ := hex
        exact hmin i i (Nat.le_refl _) hi hiS
      · obtain ⟨hun, o, ho, hall⟩ := mem_ready.1 hi
        have hcase : i < n ∨ (i = n ∧ z < n ∧ z ∉ S ∧ ∀ q, q < n → q ≠ z → q ∈ S) := by
          rcases Nat.lt_or_ge i n with h | h
          · exact .inl h
          · refine .inr ?_
            obtain ⟨q, hq, hqS⟩ := hex
            rcases tailB_spec hT h (by simpa using (Array.getElem?_eq_some_iff.1 ho).1) with ⟨rfl, hw⟩ | ⟨hlt, hw⟩
            · have hall2 : ∀ q, q < n → q ≠ z → q ∈ S := by
                intro q hq hqz
                obtain ⟨e, he, hb, hon⟩ := hw q hq hqz o (by simpa using ho)
                have h1 := hall e he hb
                rw [hon] at h1
                exact (hmem q).2 ⟨by omega, h1⟩
              have hqz : q = z := by
                rcases Classical.em (q = z) with h3 | h3
                · exact h3
                · exact absurd (hall2 q (by omega) h3) hqS
              exact ⟨rfl, by omega, hqz ▸ hqS, hall2⟩
            · obtain ⟨e, he, hb, hon⟩ := hw o (by simpa using ho)
              have h1 := hall e he hb
              rw [hon, hsz.2 (i - 1) (by omega)] at h1
              cases h1
        rcases hcase with hin | ⟨rfl, hzn, hzS, hall2⟩
        case inr =>
          have hperm : S.Perm ((List.range i).filter (· ≠ z)) := (List.perm_ext_iff_of_nodup hd ((List.Pairwise.filter _ List.nodup_range))).2 fun q => by
            simp only [List.mem_filter, List.mem_range, decide_eq_true_eq]
            exact ⟨fun h => ⟨by have := ((hmem q).1 h).1; omega, fun e => hzS (e ▸ h)⟩, fun h => hall2 q h.1 h.2⟩
          have hf0 : f = 0 := by
            have h1 := hperm.length_eq
            have h2 : ((List.range i).filter (· ≠ z)).length + 1 = i := by
              have h3 := nodup_sub_le (List.range i) (z :: (List.range i).filter (· ≠ z)) List.nodup_range fun q hq => by
                rcases Classical.em (q = z) with h4 | h4
                · simp [h4]
                · simp [h4, List.mem_range.1 hq]
              have h5 := nodup_sub_le (z :: (List.range i).filter (· ≠ z)) (List.range i) (by
                rw [List.nodup_cons]
                exact ⟨by simp, (List.Pairwise.filter _ List.nodup_range)⟩) fun q hq => by
                rcases List.mem_cons.1 hq with rfl | h4
                · exact List.mem_range.2 hzn
                · exact (List.mem_filter.1 h4).1
              simp only [List.length_cons, List.length_range] at h3 h5
              omega
            omega
          subst hf0
          have him : i < m.length := by simpa using (Array.getElem?_eq_some_iff.1 ho).1
          simp only [lazyB, Bool.or_eq_true, decide_eq_true_eq, Bool.and_eq_true] at hL
          obtain ⟨⟨_, hrz⟩, hsq⟩ := hL.resolve_left (by omega)
          have hs1 := hsz.1
          have hset : listed.setIfInBounds i true = lazyTail i z m.length := by
            refine Array.ext_getElem? fun k => ?_
            rcases Nat.lt_or_ge k m.length with hk | hk
            · have h1 : (listed.setIfInBounds i true)[k]? = some ((listed.setIfInBounds i true).getD k false) := by
                have hk2 : k < listed.size := by omega
                simp [Array.getD, hk2]
              rw [h1]
              have h2 : (lazyTail i z m.length)[k]? = some (decide (k ≤ i) && decide (k ≠ z)) := by simp [lazyTail, hk]
              rw [h2]
              congr 1
              by_cases hki : k = i
              · subst hki
                have : (listed.setIfInBounds k true).getD k false = true := by simp [show k < listed.size by omega]
                rw [this]
                simp
                omega
              · have : (listed.setIfInBounds i true).getD k false = listed.getD k false := getD_set_ne false (Ne.symm hki)
                rw [this]
                rcases Nat.lt_or_ge k i with h3 | h3
                · by_cases hkz : k = z
                  · subst hkz
                    have : listed.getD k false = false := by
                      cases hh : listed.getD k false
                      · rfl
                      · exact absurd ((hmem k).2 ⟨by omega, hh⟩) hzS
                    rw [this]
                    simp
                  · rw [((hmem k).1 (hall2 k h3 hkz)).2]
                    simp [hkz]
                    omega
                · rw [hsz.2 k (by omega)]
                  simp
                  omega
            · exact (Array.getElem?_eq_none (by simp; omega)).trans (Array.getElem?_eq_none (by simp [lazyTail]; omega)).symm
          have hzm : z < m.length := by omega
          have hoz : m[z]? = some m[z] := List.getElem?_eq_getElem hzm
          have hon : m[i]? = some o := by simpa using ho
          have hall3 := hZ hzn vs w hE (fun q hq hqz => hΦ q (hall2 q hq hqz)) o m[z] hon hoz
          rw [← putS_perm hB hperm fun x hx => ((hmem x).1 hx).1] at hall3
          have hw : wpOp P m.toArray Q i (wpList P m.toArray Q (m[z] :: m.drop (i + 1))) (putS l vs S a0) w := by
            unfold wpOp
            simp only [ho]
            exact hall3
          refine wpOp_mono (fun a' w' h' => ?_) hw
          rw [hset]
          have hlen2 : 0 + (m.length - i) = (m.length - (i + 1)) + 1 := by omega
          rw [hlen2]
          refine ⟨fun h1 => (by rw [hrz] at h1; cases h1), fun k hk => ?_⟩
          rw [hrz] at hk
          obtain rfl : k = z := by simpa using hk
          have hw2 : wpOp P m.toArray Q k (wpList P m.toArray Q (m.drop (i + 1))) a' w' := by
            unfold wpOp
            simp only [List.getElem?_toArray, hoz]
            exact h'
          refine wpOp_mono (fun a2 w2 h2 => ?_) hw2
          have hset2 : (lazyTail i k m.length).setIfInBounds k true = headTail (i + 1) m.length := by
            refine Array.ext_getElem? fun j => ?_
            rcases Nat.lt_or_ge j m.length with hj | hj
            · by_cases hjk : j = k
              · subst hjk
                rw [Array.getElem?_setIfInBounds_self_of_lt (by simp [lazyTail]; omega)]
                simp [headTail, List.getElem?_append, show j < i + 1 by omega]
              · rw [Array.getElem?_setIfInBounds_ne (Ne.symm hjk)]
                simp only [lazyTail, headTail, List.getElem?_toArray, List.getElem?_map, List.getElem?_range hj, Option.map_some]
                rcases Nat.lt_or_ge j (i + 1) with h3 | h3
                · simp [List.getElem?_append, h3, hjk]
                  omega
                · simp [List.getElem?_append, Nat.not_lt.2 h3, List.getElem?_replicate]
                  omega
            · exact (Array.getElem?_eq_none (by simp [lazyTail]; omega)).trans (Array.getElem?_eq_none (by simp [headTail]; omega)).symm
          rw [hset2]
          have hdl : (m.drop (i + 1)).length = m.length - (i + 1) := by simp
          have := wpAny_of_seq (md := .any) (Q' := Q) (m.drop (i + 1)) (i + 1) (headTail (i + 1) m.length) a2 w2 (fun j => by simp [List.getElem?_drop]) (by rw [hdl]; exact hsq) h2
          rwa [hdl] at this
        have ho' : l[i]? = some o := by rw [← hget i hin]; simpa using ho
        have hil : i < l.length := (List.getElem?_eq_some_iff.1 ho').1
        have hiS : i ∉ S := fun h => by
          have := ((hmem i).1 h).2
          rw [getD_both hun] at this
          cases this
        have hfr := freeB_spec hB ho'
        have hF : Finds l Φ a0 o (putS l vs S a0) w := by
          constructor
          · intro j d hjd hlook
            have hj : j < l.length := by
              rcases Nat.lt_or_ge j l.length with h | h
              · exact h
              · simp [dstOf, List.getElem?_eq_none h] at hjd
            by_cases hji : j = i
            · subst hji
              have hod : o.dst = some d := by simpa [dstOf, ho'] using hjd
              exact absurd hlook (hfr.own d hod).2
            · obtain ⟨e, he, hb, hon⟩ := (hfr.apart j d hj hji hjd).2 hlook
              have hjS : j ∈ S := (hmem j).2 ⟨hj, by rw [← hon]; exact hall e he hb⟩
              have hoj : l[j]? = some l[j] := List.getElem?_eq_getElem hj
              have hsize : d < a0.tmps.size := ((freeB_spec hB hoj).own d (by simpa [dstOf, hoj] using hjd)).1
              rw [putS_on hjd S a0 hsize (fun k hk hkd => by
                rcases Classical.em (k = j) with h | h
                · exact h
                · exact absurd (by simpa [dstOf, hoj] using hjd) ((freeB_spec hB hoj).apart k d ((hmem k).1 hk).1 h hkd).1) hjS]
              exact hΦ j hjS
          · intro d hno
            exact putS_off S a0 fun k hk => hno k ((hmem k).1 hk).1
        have hw := hob i o hin (by rw [hget i hin]; exact ho') (putS l vs S a0) w hE hF
        have next : ∀ v w', (Φ i v w' ∧ R w w') → wpAny P .any m.toArray Q (f + (m.length - n)) (listed.setIfInBounds i true) ((putS l vs S a0).put o.dst v) w' := by
          rintro v w' ⟨hv, hE'⟩
          have hdo : dstOf l i = o.dst := by simp [dstOf, ho']
          have hvs : (putS l vs S a0).put o.dst v = putS l (fun k => if k = i then v else vs k) (S ++ [i]) a0 := by
            unfold putS
            rw [List.foldl_append]
            simp only [List.foldl_cons, List.foldl_nil, if_true, hdo]
            congr 1
            exact putS_congr S a0 fun k hk => by
              have : k ≠ i := fun e => hiS (e ▸ hk)
              simp [this]
          rw [hvs]
          refine ih (S ++ [i]) _ _ w' (hRt hE hE') ?_ ?_ ⟨by simpa using hsz.1, fun k hk => ?_⟩ (by simp; omega) ?_
          · rw [List.nodup_append]
            exact ⟨hd, by simp, fun x hx y hy e => by simp at hy; subst hy; exact hiS (e ▸ hx)⟩
          · intro k
            simp only [List.mem_append, List.mem_singleton, hmem k]
            by_cases hki : k = i
            · subst hki
              have := hsz.1
              simp [hil, show k < listed.size by omega]
            · have : (listed.setIfInBounds i true).getD k false = listed.getD k false := getD_set_ne false (Ne.symm hki)
              rw [this]
              simp [hki]
          · have : (listed.setIfInBounds i true).getD k false = listed.getD k false := getD_set_ne false (by omega)
            rw [this]
            exact hsz.2 k hk
          · intro k hk
            by_cases hki : k = i
            · subst hki; simpa using hv
            · rw [if_neg hki]
              rcases List.mem_append.1 hk with h | h
              · exact hmono _ _ _ _ (hΦ k h) hE'
              · exact absurd (by simpa using h) hki
        unfold wpOp
        rw [ho]
        simp only []
        unfold Ran at hw
        split
        · rename_i hwd
          rw [if_pos hwd] at hw
          refine .inl ?_
          have hw2 : Oper.wp P o (putS l vs S a0) w (fun a' w' => ∃ v, a' = (putS l vs S a0).put o.dst v ∧ Φ i v w' ∧ R w w') Q := by
            unfold Oper.wp at hw ⊢
            generalize (execOp (putS l vs S a0).eval o).run P w = r at *
            cases r with
            | ok x w' =>
              cases x <;> simp only [Oper.upon] at hw ⊢
              all_goals first
                | exact hw
                | exact Calls.mono hw (fun e w'' he => by cases e <;> first | exact he | exact (he : False).elim | (obtain ⟨_, _, hh⟩ := he; exact hh.elim))
                | exact Rows.mono hw (fun _ _ he => he)
            | halt x w' => cases x <;> simp only [Oper.upon] at hw
          refine Oper.wp_mono ?_ hw2
          rintro a' w' ⟨v, rfl, hv⟩
          exact next v w' hv
        · rename_i hwd
          rw [if_neg hwd] at hw
          exact next undef w hw
  have := key n [] (fun _ => undef) (Array.replicate m.toArray.size false) _ hR0 (by simp) (by
    intro i
    have h0 := getD_replicate_false m.toArray.size i
    simp only [h0]
    simp) ⟨by simp, by
    intro i hi
    exact getD_replicate_false _ _⟩ (by simp; omega) (by simp)
  rw [show n + (m.length - n) = m.toArray.size by simp; omega] at this
  exact this
theorem wp_region_free_tail {P : Program} {id : Nat} {Q : Exit → Act → World → Prop} {a0 : Act} {w0 : World} {m : List Oper} (n z : Nat) (Φ : Nat → Value → World → Prop) (hm : P.follows .mixedOrders = true) (hn : n ≤ m.length) (hB : freeB (m.take n) a0.tmps.size = true)
    (hT : tailB m n z = true) (hL : lazyB m n z = true) (hS : Region.seqB .any m.toArray (m.length - n) n (headTail n m.length) = true)
    (hmono : ∀ i v w w', Φ i v w → Ext w w' → Φ i v w')
    (hob : ∀ i o, i < n → m[i]? = some o → ∀ a w, Ext w0 w → Finds (m.take n) Φ a0 o a w → Ran P m.toArray o a w (fun v w' => Φ i v w' ∧ Ext w w'))
    (hQ : ∀ vs : Nat → Value, ∀ w, Ext w0 w → (∀ i, i < n → Φ i (vs i) w) → wpList P m.toArray Q (m.drop n) (putAll (m.take n) vs a0) w)
    (hZ : z < n → ∀ vs : Nat → Value, ∀ w, Ext w0 w → (∀ i, i < n → i ≠ z → Φ i (vs i) w) → ∀ on oz, m[n]? = some on → m[z]? = some oz → wpList P m.toArray Q (on :: oz :: m.drop (n + 1)) (putS (m.take n) vs ((List.range n).filter (· ≠ z)) a0) w) : (Code.region id m.toArray true).wp P Q a0 w0 :=
  wp_region_free_tailR Ext ((Ext.refl w0).drew) (fun h k => h.trans k) n z Φ hm hn hB hT hL hS hmono hob hQ hZ
end Go.Proofs.YtcbodpnmndbgnaaGreatDoor
namespace Go.Proofs.YtcbodpnmndbgnaaGreatDoor
open Go.RowKit
theorem Ran.value {P : Program} {ops : Array Oper} {o : Oper} {a : Act} {w w1 : World} {v : Value} {G : Value → World → Prop} (hg : o.guard = none) (hx : (execOp a.eval o).run P w = .ok (.value v) w1) (h : G v w1) : Ran P ops o a w G := by
  refine Ran.plain hg ?_
  unfold Oper.wp
  rw [hx, Oper.upon_value]
  exact ⟨v, rfl, h⟩
theorem Ran.enter {P : Program} {ops : Array Oper} {o : Oper} {a : Act} {w w1 : World} {f : FuncId} {args : Array Value} {G : Value → World → Prop} (hg : o.guard = none) (hx : (execOp a.eval o).run P w = .ok (.enter f args) w1)
    (h : Calls P f args w1 fun r w' => ∃ v, r = .returned v ∧ G v w') : Ran P ops o a w G := by
  refine Ran.plain hg ?_
  unfold Oper.wp
  rw [hx, Oper.upon_enter]
  exact h.mono fun r w' ⟨v, hr, hG⟩ => by subst hr; exact ⟨v, rfl, hG⟩
theorem Ran.if_ {P : Program} {ops : Array Oper} {o oj : Oper} {a : Act} {w : World} {j : Nat} {d : Tmp} {want b : Bool} {G : Value → World → Prop} (hg : o.guard = some (j, want)) (hj : ops[j]? = some oj) (hd : oj.dst = some d) (he : a.eval (.tmp d) = .bool b)
    (h1 : b = want → Ran P ops { o with guard := none } a w G) (h2 : b ≠ want → G undef w) : Ran P ops o a w G := by
  unfold Ran
  rw [wanted_of hg hj hd he]
  by_cases h : b = want
  · have := h1 h
    unfold Ran at this
    rw [if_pos (by simp [Region.wanted])] at this
    rw [if_pos (by simpa using h)]
    exact this
  · rw [if_neg (by simpa using h)]
    exact h2 h
theorem evalD {a : Act} {d : Tmp} {v : Value} (h : a.eval (.tmp d) = v) : a.tmps[d]?.getD undef = v := by
  rw [← h]
  simp [Act.eval, Array.getD_eq_getD_getElem?]
end Go.Proofs.YtcbodpnmndbgnaaGreatDoor
namespace Go.Proofs.YtcbodpnmndbgnaaGreatDoor
namespace Ec
structure Ball where
  x : Int
  y : Int
  r : Int
def noBall : Ball := ⟨0, 0, 0⟩
/-- The square of the length of a line from the lamp that just touches a ball. -/
def power (b : Ball) : Int := b.x * b.x + b.y * b.y - b.r * b.r
def norm2 (b : Ball) : Int := b.x * b.x + b.y * b.y
def dot (a b : Ball) : Int := a.x * b.x + a.y * b.y
def apart (a b : Ball) : Bool := decide ((a.r + b.r) * (a.r + b.r) < (a.x - b.x) * (a.x - b.x) + (a.y - b.y) * (a.y - b.y))
def darkB (a b : Ball) : Bool := decide (b.r * b.r * norm2 a ≤ a.r * a.r * norm2 b) && (decide (a.r * b.r ≤ dot a b) && decide (power a * power b ≤ (dot a b - a.r * b.r) * (dot a b - a.r * b.r)))
def partB (a b : Ball) : Bool := decide (-(a.r * b.r) < dot a b) && decide (power a * power b < (dot a b + a.r * b.r) * (dot a b + a.r * b.r))
/-- 1: lit, 2: partly, 3: dark. -/
def shades (a b : Ball) : Int := if power a < power b then (if darkB a b then 3 else if partB a b then 2 else 1) else 1
def meets (b : Ball) (x y : Int) (inside : Bool) : Bool :=
  decide (0 < b.x * x + b.y * y) && (decide ((b.x * y - b.y * x) * (b.x * y - b.y * x) < b.r * b.r * (x * x + y * y)) || (decide ((b.x * y - b.y * x) * (b.x * y - b.y * x) = b.r * b.r * (x * x + y * y)) && !inside))
/-- Squares. -/
theorem sq_le {a b : Int} (h0 : 0 ≤ a) (h : a ≤ b) : a * a ≤ b * b := Int.mul_le_mul h h h0 (by omega)
theorem sq_lt {a b : Int} (h0 : 0 ≤ a) (h : a < b) : a * a < b * b := by
  have h1 : a * a ≤ a * b := Int.mul_le_mul_of_nonneg_left (by omega) h0
  have h2 : a * b < b * b := Int.mul_lt_mul_of_pos_right h (by omega)
  omega
theorem le_of_sq {a b : Int} (h0 : 0 ≤ b) (h : a * a ≤ b * b) : a ≤ b := by
  rcases Int.lt_or_le b a with h1 | h1
  · have := sq_lt h0 h1; omega
  · exact h1
theorem lt_of_sq {a b : Int} (h0 : 0 ≤ b) (h : a * a < b * b) : a < b := by
  rcases Int.lt_or_le a b with h1 | h1
  · exact h1
  · have := sq_le h0 h1; omega
theorem sq_nonneg (a : Int) : 0 ≤ a * a := by
  rcases Int.le_total 0 a with h | h
  · exact Int.mul_nonneg h h
  · exact Int.mul_nonneg_of_nonpos_of_nonpos h h
/-- 'U - Y is not less than the root of Z', by squares. -/
theorem root_le (U Y Z : Int) (hU : 0 ≤ U) (hZ : 0 < Z) (hK : 0 ≤ U * U - Y * Y - Z) (hK2 : 4 * (Y * Y) * Z ≤ (U * U - Y * Y - Z) * (U * U - Y * Y - Z)) : 0 < U - Y ∧ Z ≤ (U - Y) * (U - Y) := by
  have h1 : Y < U := lt_of_sq hU (by omega)
  refine ⟨by omega, ?_⟩
  have e : (U - Y) * (U - Y) = U * U - Y * Y - Z + 2 * (Y * Y) + Z - 2 * (U * Y) := by grind
  rcases Int.le_total Y 0 with h | h
  · have h2 : U * Y ≤ 0 := Int.mul_nonpos_of_nonneg_of_nonpos hU h
    have := sq_nonneg Y
    omega
  · have h2 : 2 * (U * Y) ≤ U * U - Y * Y - Z + 2 * (Y * Y) := by
      apply le_of_sq (by have := sq_nonneg Y; omega)
      have e2 : (U * U - Y * Y - Z + 2 * (Y * Y)) * (U * U - Y * Y - Z + 2 * (Y * Y)) - 2 * (U * Y) * (2 * (U * Y)) = (U * U - Y * Y - Z) * (U * U - Y * Y - Z) - 4 * (Y * Y) * Z := by grind
      omega
    omega
/-- What is used of two balls of which the first makes the second one dark. -/
structure Dark (A m s t ra rb ab : Int) : Prop where
  hA : A = s + ra * ra
  hm : m = t + rb * rb
  s0 : 0 < s
  t0 : 0 < t
  ra0 : 0 < ra
  rb0 : 0 < rb
  wide : rb * rb * A ≤ ra * ra * m
  D0 : ra * rb ≤ ab
  D2 : s * t ≤ (ab - ra * rb) * (ab - ra * rb)
theorem Dark.wide' {A m s t ra rb ab : Int} (h : Dark A m s t ra rb ab) : rb * rb * s ≤ ra * ra * t := by
  have := h.wide
  rw [h.hA, h.hm] at this
  grind
theorem Dark.p1 {A m s t ra rb ab : Int} (h : Dark A m s t ra rb ab) : s * rb ≤ ra * (ab - ra * rb) := by
  have hD : 0 ≤ ab - ra * rb := by have := h.D0; omega
  apply le_of_sq (Int.mul_nonneg (by have := h.ra0; omega) hD)
  have a1 : ra * ra * (s * t) ≤ ra * ra * ((ab - ra * rb) * (ab - ra * rb)) := Int.mul_le_mul_of_nonneg_left h.D2 (sq_nonneg ra)
  have a2 : s * (rb * rb * s) ≤ s * (ra * ra * t) := Int.mul_le_mul_of_nonneg_left h.wide' (by have := h.s0; omega)
  grind
theorem mul_pos_left {m x : Int} (hm : 0 < m) (h : 0 < m * x) : 0 < x := by
  rcases Int.lt_or_le 0 x with h1 | h1
  · exact h1
  · have := Int.mul_nonpos_of_nonneg_of_nonpos (Int.le_of_lt hm) h1; omega
theorem mul_le_left {m x y : Int} (hm : 0 < m) (h : m * x ≤ m * y) : x ≤ y := Int.le_of_mul_le_mul_left h hm
/-- A line that meets the other ball meets the one, too: cb, xb: the line's point along b and across it; ap: along a. -/
theorem Dark.line {A m s t ra rb ab X P cb xb ap : Int} (h : Dark A m s t ra rb ab) (hX : X * X = A * m - ab * ab) (hP : 0 < P) (hcb : 0 < cb) (hsum : cb * cb + xb * xb = m * P) (hxb : xb * xb ≤ rb * rb * P) (hap : m * ap = ab * cb - X * xb) :
    0 < ap ∧ s * P ≤ ap * ap := by
  have hm : 0 < m := by have := h.hm; have := h.t0; have := sq_nonneg rb; omega
  have hA : 0 < A := by have := h.hA; have := h.s0; have := sq_nonneg ra; omega
  have hp1 := h.p1
  have hab : 0 < ab := by have := h.D0; have := Int.mul_pos h.ra0 h.rb0; omega
  -- the certificate
  have hl0 : 0 ≤ ab * ab - A * (rb * rb) - m * s := by
    have e : ab * ab - A * (rb * rb) - m * s = ((ab - ra * rb) * (ab - ra * rb) - s * t) + 2 * (rb * (ra * (ab - ra * rb) - s * rb)) := by rw [h.hA, h.hm]; grind
    have p : 0 ≤ rb * (ra * (ab - ra * rb) - s * rb) := Int.mul_nonneg (by have := h.rb0; omega) (by omega)
    have := h.D2
    omega
  have hl2 : 4 * (X * X) * (rb * rb * s) ≤ (ab * ab - A * (rb * rb) - m * s) * (ab * ab - A * (rb * rb) - m * s) := by
    have e : (ab * ab - A * (rb * rb) - m * s) * (ab * ab - A * (rb * rb) - m * s) - 4 * (X * X) * (rb * rb * s) =
        ((ab - ra * rb) * (ab - ra * rb) - s * t) * ((ab - ra * rb) * (ab - ra * rb) - s * t) + 4 * (((ab - ra * rb) * (ab - ra * rb) - s * t) * (rb * (ra * (ab - ra * rb) - s * rb))) + 4 * ((rb * rb) * (ra * ra) * ((ab - ra * rb) * (ab - ra * rb) - s * t)) + 4 * ((rb * rb) * s * ((ab - ra * rb) * (ab - ra * rb) - s * t)) := by
      rw [hX, h.hA, h.hm]; grind
    have d2 := h.D2
    have p1 := sq_nonneg ((ab - ra * rb) * (ab - ra * rb) - s * t)
    have p2 : 0 ≤ ((ab - ra * rb) * (ab - ra * rb) - s * t) * (rb * (ra * (ab - ra * rb) - s * rb)) := Int.mul_nonneg (by omega) (Int.mul_nonneg (by have := h.rb0; omega) (by omega))
    have p3 : 0 ≤ (rb * rb) * (ra * ra) * ((ab - ra * rb) * (ab - ra * rb) - s * t) := Int.mul_nonneg (Int.mul_nonneg (sq_nonneg _) (sq_nonneg _)) (by omega)
    have p4 : 0 ≤ (rb * rb) * s * ((ab - ra * rb) * (ab - ra * rb) - s * t) := Int.mul_nonneg (Int.mul_nonneg (sq_nonneg _) (by have := h.s0; omega)) (by omega)
    omega
  obtain ⟨l, hl⟩ : ∃ l, ab * ab - A * (rb * rb) - m * s = l := ⟨_, rfl⟩
  rw [hl] at hl0 hl2
  obtain ⟨k, hk⟩ : ∃ k, ab * ab * P - A * (xb * xb) - m * s * P = k := ⟨_, rfl⟩
  have hk1 : l * P ≤ k := by
    have : 0 ≤ A * (rb * rb * P - xb * xb) := Int.mul_nonneg (by omega) (by omega)
    have e : k = l * P + A * (rb * rb * P - xb * xb) := by rw [← hk, ← hl]; grind
    omega
  have hlP : 0 ≤ l * P := Int.mul_nonneg hl0 (by omega)
  have hk2 : 4 * (X * X) * (xb * xb) * (s * P) ≤ k * k := by
    have a1 := sq_le hlP hk1
    have a2 : (P * P) * (4 * (X * X) * (rb * rb * s)) ≤ (P * P) * (l * l) := Int.mul_le_mul_of_nonneg_left hl2 (sq_nonneg P)
    have a3 : (4 * (X * X) * (s * P)) * (xb * xb) ≤ (4 * (X * X) * (s * P)) * (rb * rb * P) := Int.mul_le_mul_of_nonneg_left hxb (Int.mul_nonneg (by have := sq_nonneg X; omega) (Int.mul_nonneg (by have := h.s0; omega) (by omega)))
    grind
  have hUY : ab * cb * (ab * cb) - X * xb * (X * xb) - m * m * (s * P) = m * k := by
    have e : cb * cb = m * P - xb * xb := by omega
    have e1 : ab * cb * (ab * cb) = ab * ab * (m * P - xb * xb) := by rw [← e]; grind
    have e2 : X * xb * (X * xb) = (A * m - ab * ab) * (xb * xb) := by rw [← hX]; grind
    rw [e1, e2, ← hk]; grind
  have hsP : 0 < s * P := Int.mul_pos h.s0 hP
  have hr := root_le (ab * cb) (X * xb) (m * m * (s * P)) (Int.mul_nonneg (by omega) (by omega)) (Int.mul_pos (Int.mul_pos hm hm) hsP) (by rw [hUY]; exact Int.mul_nonneg (by omega) (by omega)) (by
    rw [hUY]
    have : (m * m) * (4 * (X * X) * (xb * xb) * (s * P)) ≤ (m * m) * (k * k) := Int.mul_le_mul_of_nonneg_left hk2 (sq_nonneg m)
    grind)
  rw [← hap] at hr
  refine ⟨mul_pos_left hm hr.1, ?_⟩
  apply mul_le_left (Int.mul_pos hm hm)
  have := hr.2
  grind
/-- Dark from dark. -/
theorem Dark.trans {A m C s t u ra rb rc ab bc ac X Y : Int} (h : Dark A m s t ra rb ab) (k : Dark m C t u rb rc bc) (hX : X * X = A * m - ab * ab) (hY : Y * Y = m * C - bc * bc) (hac : m * ac = ab * bc - X * Y) : Dark A C s u ra rc ac := by
  have hm : 0 < m := by have := h.hm; have := h.t0; have := sq_nonneg rb; omega
  have hA : 0 < A := by have := h.hA; have := h.s0; have := sq_nonneg ra; omega
  have hC : 0 < C := by have := k.hm; have := k.t0; have := sq_nonneg rc; omega
  have p1 := h.p1
  have p2 := k.p1
  have d1 := h.D2
  have d2 := k.D2
  have hab : 0 < ab := by have := h.D0; have := Int.mul_pos h.ra0 h.rb0; omega
  have hbc : 0 < bc := by have := k.D0; have := Int.mul_pos k.ra0 k.rb0; omega
  have r2 : rc * bc ≤ rb * C := by
    apply le_of_sq (Int.mul_nonneg (by have := h.rb0; omega) (by omega))
    have a1 : (rc * rc) * (bc * bc) ≤ (rc * rc) * (m * C) := Int.mul_le_mul_of_nonneg_left (by have := sq_nonneg Y; omega) (sq_nonneg rc)
    have a2 : C * (rc * rc * m) ≤ C * (rb * rb * C) := Int.mul_le_mul_of_nonneg_left k.wide (by omega)
    grind
  have hW : 0 ≤ ab * bc - m * (ra * rc) := by
    have e : rb * (ab * bc - m * (ra * rc)) = ab * (rb * (bc - rb * rc) - t * rc) + m * (rc * (ab - ra * rb)) := by rw [h.hm]; grind
    have q1 : 0 ≤ ab * (rb * (bc - rb * rc) - t * rc) := Int.mul_nonneg (by omega) (by omega)
    have q2 : 0 ≤ m * (rc * (ab - ra * rb)) := Int.mul_nonneg (by omega) (Int.mul_nonneg (by have := k.rb0; omega) (by have := h.D0; omega))
    exact mul_le_left h.rb0 (by rw [Int.mul_zero, e]; omega)
  obtain ⟨g1, hg1⟩ : ∃ g, (ab - ra * rb) * (ab - ra * rb) - s * t = g := ⟨_, rfl⟩
  obtain ⟨g2, hg2⟩ : ∃ g, (bc - rb * rc) * (bc - rb * rc) - t * u = g := ⟨_, rfl⟩
  obtain ⟨e1, he1⟩ : ∃ e, ra * (ab - ra * rb) - s * rb = e := ⟨_, rfl⟩
  obtain ⟨e2, he2⟩ : ∃ e, rb * C - rc * bc = e := ⟨_, rfl⟩
  have f1 : 0 ≤ g1 := by omega
  have f2 : 0 ≤ g2 := by omega
  have f3 : 0 ≤ e1 := by omega
  have f4 : 0 ≤ e2 := by omega
  have i1 : e1 * e1 = s * (X * X) + A * g1 := by rw [← he1, ← hg1, hX, h.hA, h.hm]; grind
  have i2 : e2 * e2 = u * (Y * Y) + C * g2 := by rw [← he2, ← hg2, hY, k.hA, k.hm]; grind
  have hK : (ab * bc - m * (ra * rc)) * (ab * bc - m * (ra * rc)) - X * Y * (X * Y) - m * m * (s * u) = m * (A * g2 + C * g1 + 2 * (e1 * e2)) := by
    have q : X * Y * (X * Y) = (A * m - ab * ab) * (m * C - bc * bc) := by rw [← hX, ← hY]; grind
    rw [q, ← hg1, ← hg2, ← he1, ← he2, h.hA, k.hm, h.hm]; grind
  have n1 : 0 ≤ A * g2 := Int.mul_nonneg (by omega) f2
  have n2 : 0 ≤ C * g1 := Int.mul_nonneg (by omega) f1
  have n3 : 0 ≤ e1 * e2 := Int.mul_nonneg f3 f4
  have hsu : 0 < s * u := Int.mul_pos h.s0 k.t0
  have hr := root_le (ab * bc - m * (ra * rc)) (X * Y) (m * m * (s * u)) hW (Int.mul_pos (Int.mul_pos hm hm) hsu) (by rw [hK]; exact Int.mul_nonneg (by omega) (by omega)) (by
    rw [hK]
    have b1 : (2 * (e1 * e2)) * (2 * (e1 * e2)) ≤ (A * g2 + C * g1 + 2 * (e1 * e2)) * (A * g2 + C * g1 + 2 * (e1 * e2)) := sq_le (by omega) (by omega)
    have b2 : (s * (X * X)) * (u * (Y * Y)) ≤ (e1 * e1) * (e2 * e2) := by
      have c1 : s * (X * X) ≤ e1 * e1 := by have := Int.mul_nonneg (Int.le_of_lt hA) f1; omega
      have c2 : u * (Y * Y) ≤ e2 * e2 := by have := Int.mul_nonneg (Int.le_of_lt hC) f2; omega
      exact Int.mul_le_mul c1 c2 (Int.mul_nonneg (by have := k.t0; omega) (sq_nonneg _)) (sq_nonneg _)
    have b3 : (m * m) * ((2 * (e1 * e2)) * (2 * (e1 * e2))) ≤ (m * m) * ((A * g2 + C * g1 + 2 * (e1 * e2)) * (A * g2 + C * g1 + 2 * (e1 * e2))) := Int.mul_le_mul_of_nonneg_left b1 (sq_nonneg m)
    have b4 : (m * m) * ((s * (X * X)) * (u * (Y * Y))) ≤ (m * m) * ((e1 * e1) * (e2 * e2)) := Int.mul_le_mul_of_nonneg_left b2 (sq_nonneg m)
    grind)
  have hE : ab * bc - m * (ra * rc) - X * Y = m * (ac - ra * rc) := by grind
  rw [hE] at hr
  refine ⟨h.hA, k.hm, h.s0, k.t0, h.ra0, k.rb0, ?_, by have := mul_pos_left hm hr.1; omega, ?_⟩
  · apply mul_le_left hm
    have a1 : C * (rb * rb * A) ≤ C * (ra * ra * m) := Int.mul_le_mul_of_nonneg_left h.wide (by omega)
    have a2 : A * (rc * rc * m) ≤ A * (rb * rb * C) := Int.mul_le_mul_of_nonneg_left k.wide (by omega)
    grind
  · apply mul_le_left (Int.mul_pos hm hm)
    have := hr.2
    grind
set_option linter.unusedVariables false
end Ec
end Go.Proofs.YtcbodpnmndbgnaaGreatDoor
namespace Go.Proofs.YtcbodpnmndbgnaaGreatDoor
open Sp (rd)
set_option linter.unusedSimpArgs false
set_option linter.unusedVariables false
namespace Ec
def ballAt (l : List Ball) (i : Nat) : Ball := l.getD i noBall
def oneOk (b : Ball) : Bool := decide (-100 ≤ b.x) && decide (b.x ≤ 100) && (decide (-100 ≤ b.y) && decide (b.y ≤ 100)) && (decide (1 ≤ b.r) && decide (b.r ≤ 20)) && decide (0 < power b)
/-- Ball k is as defined, and touches none of those before it. -/
def fitsB (l : List Ball) (k : Nat) : Bool := oneOk (ballAt l k) && (List.range k).all fun i => apart (ballAt l i) (ballAt l k)
theorem fits_iff (l : List Ball) (k : Nat) : fitsB l k = true ↔ oneOk (ballAt l k) = true ∧ ∀ i, i < k → apart (ballAt l i) (ballAt l k) = true := by
  simp [fitsB]
/-- Whether the first n of some balls fit. -/
def fitN (l : List Ball) (n : Nat) : Bool := (List.range n).all (fitsB l)
theorem fitN_iff (l : List Ball) (n : Nat) : fitN l n = true ↔ ∀ k, k < n → fitsB l k = true := by simp [fitN]
/-- Balls as defined. -/
def ballsOk (l : List Ball) : Bool := fitN l l.length && Sp.inR l.length 1 5
theorem apart_swap (a b : Ball) : apart a b = apart b a := by
  unfold apart
  congr 1
  have h1 : (a.r + b.r) * (a.r + b.r) = (b.r + a.r) * (b.r + a.r) := by grind
  have h2 : (a.x - b.x) * (a.x - b.x) + (a.y - b.y) * (a.y - b.y) = (b.x - a.x) * (b.x - a.x) + (b.y - a.y) * (b.y - a.y) := by grind
  rw [h1, h2]
/-- The darkest that another one of the first n balls makes ball k. -/
def darkestN (l : List Ball) (k : Nat) : Nat → Int
  | 0 => 1
  | n + 1 => if n = k then darkestN l k n else max (darkestN l k n) (shades (ballAt l n) (ballAt l k))
def darkest (l : List Ball) (k : Nat) : Int := darkestN l k l.length
def darkL (l : List Ball) : List Int := (List.range l.length).map (darkest l)
theorem darkL_length (l : List Ball) : (darkL l).length = l.length := by simp [darkL]
end Ec
end Go.Proofs.YtcbodpnmndbgnaaGreatDoor
namespace Go.Proofs.YtcbodpnmndbgnaaGreatDoor
open Go.RowKit
open Sp (rd)
set_option maxRecDepth 100000
set_option maxHeartbeats 2000000
set_option linter.unusedVariables false
theorem sq_bounds {x B : Int} (h1 : -B ≤ x) (h2 : x ≤ B) : 0 ≤ x * x ∧ x * x ≤ B * B := by
 rcases Int.le_total 0 x with h | h
 ·exact ⟨Int.mul_nonneg h h, Int.mul_le_mul h2 h2 h (by omega)⟩
 ·have e : x * x = (-x) * (-x) := by rw [Int.neg_mul_neg]
  rw [e]
  exact ⟨Int.mul_nonneg (by omega) (by omega), Int.mul_le_mul (by omega) (by omega) (by omega) (by omega)⟩
theorem prod_lim {x y A B : Int} (h1 : -A ≤ x) (h2 : x ≤ A) (h3 : -B ≤ y) (h4 : y ≤ B) : -(A * B) ≤ x * y ∧ x * y ≤ A * B := by
 rcases Int.le_total 0 y with h | h
 ·exact mul_bounds h1 h2 h h4
 ·have := mul_bounds (a := x) (b := -y) (A := A) (B := B) h1 h2 (by omega) (by omega)
  rw [Int.mul_neg] at this
  omega
theorem e_squares1 (b : Nat) (x : Int) (w : World) (hr : Row w b 3 #[.int .i64 x]) (h1 : -1000000 ≤ x) (h2 : x ≤ 1000000) :
  Calls Tryz.prog 182 #[.slice (some ⟨b, 0, none⟩) 1 1] w fun e w' => e = .returned (.int .i64 (x * x)) ∧ w = w' := by
 have q := hr.cell
 have hx := sq_bounds h1 h2
 clear hr h1 h2
 go_enter Tryz.func182, Tryz.ntmps182
 go_wp2_with fail
 go_loopw [3, 8] (fun v i wr => ((i = .int .i64 0 ∧ v = .int .i64 0) ∨ (i = .int .i64 1 ∧ v = .int .i64 (x * x))) ∧ w = wr) (fun _ i _ => 1 - (intOf i).toNat)
 case atStart => exact ⟨.inl ⟨rfl, rfl⟩, rfl⟩
 case round =>
  obtain ⟨⟨rfl, rfl⟩ | ⟨rfl, rfl⟩, rfl⟩ := hrel
  ·go_wp2_with fail
   go_roundw
   case rel => exact ⟨.inr ⟨rfl, by simp⟩, by simp⟩
   case measure => simp [intOf]
  ·go_wp2_with fail
   go_ret
   exact ⟨rfl, by simp⟩
theorem e_squares2 (b : Nat) (x y : Int) (w : World) (hr : Row w b 3 #[.int .i64 x, .int .i64 y]) (h1 : -100000 ≤ x) (h2 : x ≤ 100000) (h3 : -100000 ≤ y) (h4 : y ≤ 100000) :
  Calls Tryz.prog 182 #[.slice (some ⟨b, 0, none⟩) 2 2] w fun e w' => e = .returned (.int .i64 (x * x + y * y)) ∧ w = w' := by
 have q := hr.cell
 have hx := sq_bounds h1 h2
 have hy := sq_bounds h3 h4
 clear hr h1 h2 h3 h4
 go_enter Tryz.func182, Tryz.ntmps182
 go_wp2_with fail
 go_loopw [3, 8] (fun v i wr => ((i = .int .i64 0 ∧ v = .int .i64 0) ∨ (i = .int .i64 1 ∧ v = .int .i64 (x * x)) ∨ (i = .int .i64 2 ∧ v = .int .i64 (x * x + y * y))) ∧ w = wr) (fun _ i _ => 2 - (intOf i).toNat)
 case atStart => exact ⟨.inl ⟨rfl, rfl⟩, rfl⟩
 case round =>
  obtain ⟨⟨rfl, rfl⟩ | ⟨rfl, rfl⟩ | ⟨rfl, rfl⟩, rfl⟩ := hrel
  ·go_wp2_with fail
   go_roundw
   case rel => exact ⟨.inr (.inl ⟨rfl, by simp⟩), by simp⟩
   case measure => simp [intOf]
  ·go_wp2_with fail
   go_roundw
   case rel => exact ⟨.inr (.inr ⟨rfl, by simp⟩), by simp⟩
   case measure => simp [intOf]
  ·go_wp2_with fail
   go_ret
   exact ⟨rfl, by simp⟩
/-- A slice that the region itself makes. -/
def MkAt (w0 : World) (v : Value) (w : World) (t : TypeId) (n : Nat) (cs : Array Value) : Prop := ∃ b, v = .slice (some ⟨b, 0, none⟩) n n ∧ w0.heap.size ≤ b ∧ Row w b t cs
theorem MkAt.ext {w0 w w' : World} {v : Value} {t : TypeId} {n : Nat} {cs : Array Value} (h : MkAt w0 v w t n cs) (he : Ext w w') : MkAt w0 v w' t n cs := let ⟨b, h1, h2, h3⟩ := h; ⟨b, h1, h2, h3.ext he⟩
def shdΦ1 (ax ay ar bx by_ br Na Nb Ra Rb : Int) (pa pb : Nat) (w0 : World) (i : Nat) (v : Value) (w : World) : Prop :=
 match i with
 | 0 => v = .pointer (some ⟨pa, 0, none⟩)
 | 1 => v = .int .i64 ax
 | 2 => v = .pointer (some ⟨pa, 1, none⟩)
 | 3 => v = .int .i64 ay
 | 4 => MkAt w0 v w 3 2 #[.int .i64 ax, .int .i64 ay]
 | 5 => v = .int .i64 Na
 | 6 => v = .pointer (some ⟨pa, 2, none⟩)
 | 7 => v = .int .i64 ar
 | 8 => MkAt w0 v w 3 1 #[.int .i64 ar]
 | 9 => v = .int .i64 Ra
 | 10 => v = .int .i64 (Na - Ra)
 | 11 => v = .pointer (some ⟨pb, 0, none⟩)
 | 12 => v = .int .i64 bx
 | 13 => v = .pointer (some ⟨pb, 1, none⟩)
 | 14 => v = .int .i64 by_
 | 15 => MkAt w0 v w 3 2 #[.int .i64 bx, .int .i64 by_]
 | 16 => v = .int .i64 Nb
 | 17 => v = .pointer (some ⟨pb, 2, none⟩)
 | 18 => v = .int .i64 br
 | 19 => MkAt w0 v w 3 1 #[.int .i64 br]
 | 20 => v = .int .i64 Rb
 | 21 => v = .int .i64 (Nb - Rb)
 | _ => v = .int .i64 (Na - Ra)
theorem shdΦ1_mono {ax ay ar bx by_ br Na Nb Ra Rb : Int} {pa pb : Nat} {w0 : World} (i : Nat) (v : Value) (w w' : World) (h : shdΦ1 ax ay ar bx by_ br Na Nb Ra Rb pa pb w0 i v w) (he : Ext w w') : shdΦ1 ax ay ar bx by_ br Na Nb Ra Rb pa pb w0 i v w' := by
 unfold shdΦ1 at h ⊢
 split at h <;> first
  | exact h
  | exact MkAt.ext h he
  | exact fun hg => MkAt.ext (h hg) he
def shdΦ4 (ax ay ar bx by_ br Na Nb Ra Rb : Int) (pa pb : Nat) (w0 : World) (i : Nat) (v : Value) (w : World) : Prop :=
 match i with
 | 0 => v = .pointer (some ⟨pa, 0, none⟩)
 | 1 => v = .int .i64 ax
 | 2 => v = .pointer (some ⟨pb, 0, none⟩)
 | 3 => v = .int .i64 bx
 | 4 => v = .int .i64 (ax * bx)
 | 5 => v = .pointer (some ⟨pa, 1, none⟩)
 | 6 => v = .int .i64 ay
 | 7 => v = .pointer (some ⟨pb, 1, none⟩)
 | 8 => v = .int .i64 by_
 | 9 => v = .int .i64 (ay * by_)
 | 10 => v = .int .i64 (ax * bx + ay * by_)
 | 11 => v = .pointer (some ⟨pa, 2, none⟩)
 | 12 => v = .int .i64 ar
 | 13 => v = .pointer (some ⟨pb, 2, none⟩)
 | 14 => v = .int .i64 br
 | 15 => v = .int .i64 (ar * br)
 | _ => v = .int .i64 (ax * bx + ay * by_)
theorem shdΦ4_mono {ax ay ar bx by_ br Na Nb Ra Rb : Int} {pa pb : Nat} {w0 : World} (i : Nat) (v : Value) (w w' : World) (h : shdΦ4 ax ay ar bx by_ br Na Nb Ra Rb pa pb w0 i v w) (he : Ext w w') : shdΦ4 ax ay ar bx by_ br Na Nb Ra Rb pa pb w0 i v w' := by
 unfold shdΦ4 at h ⊢
 split at h <;> first
  | exact h
  | exact MkAt.ext h he
  | exact fun hg => MkAt.ext (h hg) he
def shdΦ5 (ax ay ar bx by_ br Na Nb Ra Rb : Int) (pa pb : Nat) (w0 : World) (i : Nat) (v : Value) (w : World) : Prop :=
 match i with
 | 0 => v = .pointer (some ⟨pa, 2, none⟩)
 | 1 => v = .int .i64 ar
 | 2 => MkAt w0 v w 3 1 #[.int .i64 ar]
 | 3 => v = .int .i64 Ra
 | 4 => v = .pointer (some ⟨pb, 0, none⟩)
 | 5 => v = .int .i64 bx
 | 6 => v = .pointer (some ⟨pb, 1, none⟩)
 | 7 => v = .int .i64 by_
 | 8 => MkAt w0 v w 3 2 #[.int .i64 bx, .int .i64 by_]
 | 9 => v = .int .i64 Nb
 | 10 => v = .int .i64 (Ra * Nb)
 | 11 => v = .pointer (some ⟨pb, 2, none⟩)
 | 12 => v = .int .i64 br
 | 13 => MkAt w0 v w 3 1 #[.int .i64 br]
 | 14 => v = .int .i64 Rb
 | 15 => v = .pointer (some ⟨pa, 0, none⟩)
 | 16 => v = .int .i64 ax
 | 17 => v = .pointer (some ⟨pa, 1, none⟩)
 | 18 => v = .int .i64 ay
 | 19 => MkAt w0 v w 3 2 #[.int .i64 ax, .int .i64 ay]
 | 20 => v = .int .i64 Na
 | 21 => v = .int .i64 (Rb * Na)
 | _ => v = .bool (decide (Rb * Na ≤ Ra * Nb))
theorem shdΦ5_mono {ax ay ar bx by_ br Na Nb Ra Rb : Int} {pa pb : Nat} {w0 : World} (i : Nat) (v : Value) (w w' : World) (h : shdΦ5 ax ay ar bx by_ br Na Nb Ra Rb pa pb w0 i v w) (he : Ext w w') : shdΦ5 ax ay ar bx by_ br Na Nb Ra Rb pa pb w0 i v w' := by
 unfold shdΦ5 at h ⊢
 split at h <;> first
  | exact h
  | exact MkAt.ext h he
  | exact fun hg => MkAt.ext (h hg) he
theorem e_shades_any (ax ay ar bx by_ br : Int) (w : World) (x1 : -200 ≤ ax ∧ ax ≤ 200) (y1 : -200 ≤ ay ∧ ay ≤ 200) (r1 : -200 ≤ ar ∧ ar ≤ 200) (x2 : -200 ≤ bx ∧ bx ≤ 200) (y2 : -200 ≤ by_ ∧ by_ ≤ 200) (r2 : -200 ≤ br ∧ br ≤ 200) :
  Calls Tryz.prog 157 #[.agg #[.int .i64 ax, .int .i64 ay, .int .i64 ar], .agg #[.int .i64 bx, .int .i64 by_, .int .i64 br]] w fun e w' => e = .returned (.int .i64 (Ec.shades ⟨ax, ay, ar⟩ ⟨bx, by_, br⟩)) ∧ Ext w w' := by
 obtain ⟨Na, hNa⟩ : ∃ Na, ax * ax + ay * ay = Na := ⟨_, rfl⟩
 obtain ⟨Nb, hNb⟩ : ∃ Nb, bx * bx + by_ * by_ = Nb := ⟨_, rfl⟩
 obtain ⟨Ra, hRa⟩ : ∃ Ra, ar * ar = Ra := ⟨_, rfl⟩
 obtain ⟨Rb, hRb⟩ : ∃ Rb, br * br = Rb := ⟨_, rfl⟩
 have HNa : Hid (∀ (b : Nat) (w : World), Row w b 3 #[.int .i64 ax, .int .i64 ay] → Calls Tryz.prog 182 #[.slice (some ⟨b, 0, none⟩) 2 2] w fun e w' => e = .returned (.int .i64 Na) ∧ w = w') := Lib.hid fun b w hr => by rw [← hNa]; exact e_squares2 b ax ay w hr (by omega) (by omega) (by omega) (by omega)
 have HNb : Hid (∀ (b : Nat) (w : World), Row w b 3 #[.int .i64 bx, .int .i64 by_] → Calls Tryz.prog 182 #[.slice (some ⟨b, 0, none⟩) 2 2] w fun e w' => e = .returned (.int .i64 Nb) ∧ w = w') := Lib.hid fun b w hr => by rw [← hNb]; exact e_squares2 b bx by_ w hr (by omega) (by omega) (by omega) (by omega)
 have HRa : Hid (∀ (b : Nat) (w : World), Row w b 3 #[.int .i64 ar] → Calls Tryz.prog 182 #[.slice (some ⟨b, 0, none⟩) 1 1] w fun e w' => e = .returned (.int .i64 Ra) ∧ w = w') := Lib.hid fun b w hr => by rw [← hRa]; exact e_squares1 b ar w hr (by omega) (by omega)
 have HRb : Hid (∀ (b : Nat) (w : World), Row w b 3 #[.int .i64 br] → Calls Tryz.prog 182 #[.slice (some ⟨b, 0, none⟩) 1 1] w fun e w' => e = .returned (.int .i64 Rb) ∧ w = w') := Lib.hid fun b w hr => by rw [← hRb]; exact e_squares1 b br w hr (by omega) (by omega)
 have q1 := sq_bounds x1.1 x1.2
 have q2 := sq_bounds y1.1 y1.2
 have q3 := sq_bounds r1.1 r1.2
 have q4 := sq_bounds x2.1 x2.2
 have q5 := sq_bounds y2.1 y2.2
 have q6 := sq_bounds r2.1 r2.2
 have n1 : 0 ≤ Na ∧ Na ≤ 80000 := by omega
 have n2 : 0 ≤ Nb ∧ Nb ≤ 80000 := by omega
 have n3 : 0 ≤ Ra ∧ Ra ≤ 40000 := by omega
 have n4 : 0 ≤ Rb ∧ Rb ≤ 40000 := by omega
 have p1 := prod_lim x1.1 x1.2 x2.1 x2.2
 have p2 := prod_lim y1.1 y1.2 y2.1 y2.2
 have p3 := prod_lim r1.1 r1.2 r2.1 r2.2
 have p4 := mul_bounds0 n3.1 n3.2 n2.1 n2.2
 have p5 := mul_bounds0 n4.1 n4.2 n1.1 n1.2
 have p6 := prod_lim (x := Na - Ra) (y := Nb - Rb) (A := 120000) (B := 120000) (by omega) (by omega) (by omega) (by omega)
 have HFIN : Hid (Ec.shades ⟨ax, ay, ar⟩ ⟨bx, by_, br⟩ = if Na - Ra < Nb - Rb then (if (decide (Rb * Na ≤ Ra * Nb) && (decide (ar * br ≤ ax * bx + ay * by_) && decide ((Na - Ra) * (Nb - Rb) ≤ (ax * bx + ay * by_ - ar * br) * (ax * bx + ay * by_ - ar * br)))) = true then 3 else if (decide (-(ar * br) < ax * bx + ay * by_) && decide ((Na - Ra) * (Nb - Rb) < (ax * bx + ay * by_ + ar * br) * (ax * bx + ay * by_ + ar * br))) = true then 2 else 1) else 1) := Lib.hid (by
  unfold Ec.shades Ec.darkB Ec.partB Ec.power Ec.norm2 Ec.dot
  simp only [hNa, hNb, hRa, hRb])
 clear q1 q2 q3 q4 q5 q6 hNa hNb hRa hRb
 have HRA : Hid (Row ((w.alloc (.cells #[.int .i64 ax, .int .i64 ay, .int .i64 ar] 145)).alloc (.cells #[.int .i64 bx, .int .i64 by_, .int .i64 br] 145)) w.heap.size 145 #[.int .i64 ax, .int .i64 ay, .int .i64 ar]) := Lib.hid (blocks2 w _ _).1
 have HRB : Hid (Row ((w.alloc (.cells #[.int .i64 ax, .int .i64 ay, .int .i64 ar] 145)).alloc (.cells #[.int .i64 bx, .int .i64 by_, .int .i64 br] 145)) (w.heap.size + 1) 145 #[.int .i64 bx, .int .i64 by_, .int .i64 br]) := Lib.hid (blocks2 w _ _).2
 have HE0 : Hid (Ext w ((w.alloc (.cells #[.int .i64 ax, .int .i64 ay, .int .i64 ar] 145)).alloc (.cells #[.int .i64 bx, .int .i64 by_, .int .i64 br] 145))) := Lib.hid (((Ext.refl w).alloc _).alloc _)
 go_enter Tryz.func157, Tryz.ntmps157
 go_wp2_with fail
 obtain ⟨W, hW⟩ : ∃ W, (w.alloc (.cells #[.int .i64 ax, .int .i64 ay, .int .i64 ar] 145)).alloc (.cells #[.int .i64 bx, .int .i64 by_, .int .i64 br] 145) = W := ⟨_, rfl⟩
 obtain ⟨pa, hpa⟩ : ∃ pa, w.heap.size = pa := ⟨_, rfl⟩
 obtain ⟨pb, hpb⟩ : ∃ pb, pa + 1 = pb := ⟨_, rfl⟩
 rw [hW, hpa] at HRA HRB
 rw [hW] at HE0
 rw [hpb] at HRB
 rw [hW, hpa, hpb]
 clear hW hpa hpb
 refine wp_region_free_tail 23 23 (shdΦ1 ax ay ar bx by_ br Na Nb Ra Rb pa pb W) (by kernel_rfl) (by simp) (by kernel_rfl) (by kernel_rfl) (by kernel_rfl) (by kernel_rfl) shdΦ1_mono ?hob ?hQ (fun h => absurd h (by omega))
 case hob =>
  intro i o hin ho a wa hE hF
  match i, hin with
  | 0, _ =>
   obtain rfl := Option.some.inj ho
   have h0 : a.tmps[2]?.getD undef = .pointer (some ⟨pa, 0, none⟩) := evalD (hF.old 2 (by decide))
   refine Ran.value rfl (v := .pointer (some ⟨pa, 0, none⟩)) (w1 := wa) ?_ ⟨rfl, Ext.refl _⟩
   go_simp
  | 1, _ =>
   obtain rfl := Option.some.inj ho
   have h0 : a.tmps[10]?.getD undef = .pointer (some ⟨pa, 0, none⟩) := evalD ((hF.from_ 0 10 rfl (by decide)))
   have q := (Row.ext (HRA.out) hE).cell
   refine Ran.value rfl (v := .int .i64 ax) (w1 := wa) ?_ ⟨rfl, Ext.refl _⟩
   go_simp
  | 2, _ =>
   obtain rfl := Option.some.inj ho
   have h0 : a.tmps[2]?.getD undef = .pointer (some ⟨pa, 0, none⟩) := evalD (hF.old 2 (by decide))
   refine Ran.value rfl (v := .pointer (some ⟨pa, 1, none⟩)) (w1 := wa) ?_ ⟨rfl, Ext.refl _⟩
   go_simp
  | 3, _ =>
   obtain rfl := Option.some.inj ho
   have h0 : a.tmps[12]?.getD undef = .pointer (some ⟨pa, 1, none⟩) := evalD ((hF.from_ 2 12 rfl (by decide)))
   have q := (Row.ext (HRA.out) hE).cell
   refine Ran.value rfl (v := .int .i64 ay) (w1 := wa) ?_ ⟨rfl, Ext.refl _⟩
   go_simp
  | 4, _ =>
   obtain rfl := Option.some.inj ho
   have h0 : a.tmps[11]?.getD undef = .int .i64 ax := evalD ((hF.from_ 1 11 rfl (by decide)))
   have h1 : a.tmps[13]?.getD undef = .int .i64 ay := evalD ((hF.from_ 3 13 rfl (by decide)))
   refine Ran.value rfl (v := .slice (some ⟨wa.heap.size, 0, none⟩) 2 2) (w1 := wa.alloc (.cells #[.int .i64 ax, .int .i64 ay] 3)) ?_ ⟨⟨wa.heap.size, rfl, hE.size, Row.new _ _ _⟩, (Ext.refl _).alloc _⟩
   go_simp
  | 5, _ =>
   obtain rfl := Option.some.inj ho
   obtain ⟨b_h0, h0, hb_h0, hr_h0⟩ : MkAt W (a.eval (.tmp 14)) wa 3 2 #[.int .i64 ax, .int .i64 ay] := (hF.from_ 4 14 rfl (by decide))
   replace h0 := evalD h0
   refine Ran.enter rfl (f := 182) (args := #[.slice (some ⟨b_h0, 0, none⟩) 2 2]) (w1 := wa) ?_ ?_
   ·go_simp
   ·refine (HNa.out b_h0 _ hr_h0).mono ?_
    rintro r w1 ⟨rfl, hX⟩
    exact ⟨_, rfl, rfl, hX ▸ Ext.refl _⟩
  | 6, _ =>
   obtain rfl := Option.some.inj ho
   have h0 : a.tmps[2]?.getD undef = .pointer (some ⟨pa, 0, none⟩) := evalD (hF.old 2 (by decide))
   refine Ran.value rfl (v := .pointer (some ⟨pa, 2, none⟩)) (w1 := wa) ?_ ⟨rfl, Ext.refl _⟩
   go_simp
  | 7, _ =>
   obtain rfl := Option.some.inj ho
   have h0 : a.tmps[16]?.getD undef = .pointer (some ⟨pa, 2, none⟩) := evalD ((hF.from_ 6 16 rfl (by decide)))
   have q := (Row.ext (HRA.out) hE).cell
   refine Ran.value rfl (v := .int .i64 ar) (w1 := wa) ?_ ⟨rfl, Ext.refl _⟩
   go_simp
  | 8, _ =>
   obtain rfl := Option.some.inj ho
   have h0 : a.tmps[17]?.getD undef = .int .i64 ar := evalD ((hF.from_ 7 17 rfl (by decide)))
   refine Ran.value rfl (v := .slice (some ⟨wa.heap.size, 0, none⟩) 1 1) (w1 := wa.alloc (.cells #[.int .i64 ar] 3)) ?_ ⟨⟨wa.heap.size, rfl, hE.size, Row.new _ _ _⟩, (Ext.refl _).alloc _⟩
   go_simp
  | 9, _ =>
   obtain rfl := Option.some.inj ho
   obtain ⟨b_h0, h0, hb_h0, hr_h0⟩ : MkAt W (a.eval (.tmp 18)) wa 3 1 #[.int .i64 ar] := (hF.from_ 8 18 rfl (by decide))
   replace h0 := evalD h0
   refine Ran.enter rfl (f := 182) (args := #[.slice (some ⟨b_h0, 0, none⟩) 1 1]) (w1 := wa) ?_ ?_
   ·go_simp
   ·refine (HRa.out b_h0 _ hr_h0).mono ?_
    rintro r w1 ⟨rfl, hX⟩
    exact ⟨_, rfl, rfl, hX ▸ Ext.refl _⟩
  | 10, _ =>
   obtain rfl := Option.some.inj ho
   have h0 : a.tmps[15]?.getD undef = .int .i64 Na := evalD ((hF.from_ 5 15 rfl (by decide)))
   have h1 : a.tmps[19]?.getD undef = .int .i64 Ra := evalD ((hF.from_ 9 19 rfl (by decide)))
   refine Ran.value rfl (v := .int .i64 (Na - Ra)) (w1 := wa) ?_ ⟨rfl, Ext.refl _⟩
   go_simp
   exact IntWalk.i64_in _ ⟨by omega, by omega⟩
  | 11, _ =>
   obtain rfl := Option.some.inj ho
   have h0 : a.tmps[3]?.getD undef = .pointer (some ⟨pb, 0, none⟩) := evalD (hF.old 3 (by decide))
   refine Ran.value rfl (v := .pointer (some ⟨pb, 0, none⟩)) (w1 := wa) ?_ ⟨rfl, Ext.refl _⟩
   go_simp
  | 12, _ =>
   obtain rfl := Option.some.inj ho
   have h0 : a.tmps[21]?.getD undef = .pointer (some ⟨pb, 0, none⟩) := evalD ((hF.from_ 11 21 rfl (by decide)))
   have q := (Row.ext (HRB.out) hE).cell
   refine Ran.value rfl (v := .int .i64 bx) (w1 := wa) ?_ ⟨rfl, Ext.refl _⟩
   go_simp
  | 13, _ =>
   obtain rfl := Option.some.inj ho
   have h0 : a.tmps[3]?.getD undef = .pointer (some ⟨pb, 0, none⟩) := evalD (hF.old 3 (by decide))
   refine Ran.value rfl (v := .pointer (some ⟨pb, 1, none⟩)) (w1 := wa) ?_ ⟨rfl, Ext.refl _⟩
   go_simp
  | 14, _ =>
   obtain rfl := Option.some.inj ho
   have h0 : a.tmps[23]?.getD undef = .pointer (some ⟨pb, 1, none⟩) := evalD ((hF.from_ 13 23 rfl (by decide)))
   have q := (Row.ext (HRB.out) hE).cell
   refine Ran.value rfl (v := .int .i64 by_) (w1 := wa) ?_ ⟨rfl, Ext.refl _⟩
   go_simp
  | 15, _ =>
   obtain rfl := Option.some.inj ho
   have h0 : a.tmps[22]?.getD undef = .int .i64 bx := evalD ((hF.from_ 12 22 rfl (by decide)))
   have h1 : a.tmps[24]?.getD undef = .int .i64 by_ := evalD ((hF.from_ 14 24 rfl (by decide)))
   refine Ran.value rfl (v := .slice (some ⟨wa.heap.size, 0, none⟩) 2 2) (w1 := wa.alloc (.cells #[.int .i64 bx, .int .i64 by_] 3)) ?_ ⟨⟨wa.heap.size, rfl, hE.size, Row.new _ _ _⟩, (Ext.refl _).alloc _⟩
   go_simp
  | 16, _ =>
   obtain rfl := Option.some.inj ho
   obtain ⟨b_h0, h0, hb_h0, hr_h0⟩ : MkAt W (a.eval (.tmp 25)) wa 3 2 #[.int .i64 bx, .int .i64 by_] := (hF.from_ 15 25 rfl (by decide))
   replace h0 := evalD h0
   refine Ran.enter rfl (f := 182) (args := #[.slice (some ⟨b_h0, 0, none⟩) 2 2]) (w1 := wa) ?_ ?_
   ·go_simp
   ·refine (HNb.out b_h0 _ hr_h0).mono ?_
    rintro r w1 ⟨rfl, hX⟩
    exact ⟨_, rfl, rfl, hX ▸ Ext.refl _⟩
  | 17, _ =>
   obtain rfl := Option.some.inj ho
   have h0 : a.tmps[3]?.getD undef = .pointer (some ⟨pb, 0, none⟩) := evalD (hF.old 3 (by decide))
   refine Ran.value rfl (v := .pointer (some ⟨pb, 2, none⟩)) (w1 := wa) ?_ ⟨rfl, Ext.refl _⟩
   go_simp
  | 18, _ =>
   obtain rfl := Option.some.inj ho
   have h0 : a.tmps[27]?.getD undef = .pointer (some ⟨pb, 2, none⟩) := evalD ((hF.from_ 17 27 rfl (by decide)))
   have q := (Row.ext (HRB.out) hE).cell
   refine Ran.value rfl (v := .int .i64 br) (w1 := wa) ?_ ⟨rfl, Ext.refl _⟩
   go_simp
  | 19, _ =>
   obtain rfl := Option.some.inj ho
   have h0 : a.tmps[28]?.getD undef = .int .i64 br := evalD ((hF.from_ 18 28 rfl (by decide)))
   refine Ran.value rfl (v := .slice (some ⟨wa.heap.size, 0, none⟩) 1 1) (w1 := wa.alloc (.cells #[.int .i64 br] 3)) ?_ ⟨⟨wa.heap.size, rfl, hE.size, Row.new _ _ _⟩, (Ext.refl _).alloc _⟩
   go_simp
  | 20, _ =>
   obtain rfl := Option.some.inj ho
   obtain ⟨b_h0, h0, hb_h0, hr_h0⟩ : MkAt W (a.eval (.tmp 29)) wa 3 1 #[.int .i64 br] := (hF.from_ 19 29 rfl (by decide))
   replace h0 := evalD h0
   refine Ran.enter rfl (f := 182) (args := #[.slice (some ⟨b_h0, 0, none⟩) 1 1]) (w1 := wa) ?_ ?_
   ·go_simp
   ·refine (HRb.out b_h0 _ hr_h0).mono ?_
    rintro r w1 ⟨rfl, hX⟩
    exact ⟨_, rfl, rfl, hX ▸ Ext.refl _⟩
  | 21, _ =>
   obtain rfl := Option.some.inj ho
   have h0 : a.tmps[26]?.getD undef = .int .i64 Nb := evalD ((hF.from_ 16 26 rfl (by decide)))
   have h1 : a.tmps[30]?.getD undef = .int .i64 Rb := evalD ((hF.from_ 20 30 rfl (by decide)))
   refine Ran.value rfl (v := .int .i64 (Nb - Rb)) (w1 := wa) ?_ ⟨rfl, Ext.refl _⟩
   go_simp
   exact IntWalk.i64_in _ ⟨by omega, by omega⟩
  | 22, _ =>
   obtain rfl := Option.some.inj ho
   have h0 : a.tmps[20]?.getD undef = .int .i64 (Na - Ra) := evalD ((hF.from_ 10 20 rfl (by decide)))
   refine Ran.value rfl (v := .int .i64 (Na - Ra)) (w1 := wa) ?_ ⟨rfl, Ext.refl _⟩
   go_simp
  | k + 23, hin => omega
 case hQ =>
  intro vs w2 hE hΦ
  have f0 : vs 0 = .pointer (some ⟨pa, 0, none⟩) := hΦ 0 (by omega)
  have f1 : vs 1 = .int .i64 ax := hΦ 1 (by omega)
  have f2 : vs 2 = .pointer (some ⟨pa, 1, none⟩) := hΦ 2 (by omega)
  have f3 : vs 3 = .int .i64 ay := hΦ 3 (by omega)
  obtain ⟨b4, f4, hb4, hr4⟩ : MkAt W (vs 4) w2 3 2 #[.int .i64 ax, .int .i64 ay] := hΦ 4 (by omega)
  have f5 : vs 5 = .int .i64 Na := hΦ 5 (by omega)
  have f6 : vs 6 = .pointer (some ⟨pa, 2, none⟩) := hΦ 6 (by omega)
  have f7 : vs 7 = .int .i64 ar := hΦ 7 (by omega)
  obtain ⟨b8, f8, hb8, hr8⟩ : MkAt W (vs 8) w2 3 1 #[.int .i64 ar] := hΦ 8 (by omega)
  have f9 : vs 9 = .int .i64 Ra := hΦ 9 (by omega)
  have f10 : vs 10 = .int .i64 (Na - Ra) := hΦ 10 (by omega)
  have f11 : vs 11 = .pointer (some ⟨pb, 0, none⟩) := hΦ 11 (by omega)
  have f12 : vs 12 = .int .i64 bx := hΦ 12 (by omega)
  have f13 : vs 13 = .pointer (some ⟨pb, 1, none⟩) := hΦ 13 (by omega)
  have f14 : vs 14 = .int .i64 by_ := hΦ 14 (by omega)
  obtain ⟨b15, f15, hb15, hr15⟩ : MkAt W (vs 15) w2 3 2 #[.int .i64 bx, .int .i64 by_] := hΦ 15 (by omega)
  have f16 : vs 16 = .int .i64 Nb := hΦ 16 (by omega)
  have f17 : vs 17 = .pointer (some ⟨pb, 2, none⟩) := hΦ 17 (by omega)
  have f18 : vs 18 = .int .i64 br := hΦ 18 (by omega)
  obtain ⟨b19, f19, hb19, hr19⟩ : MkAt W (vs 19) w2 3 1 #[.int .i64 br] := hΦ 19 (by omega)
  have f20 : vs 20 = .int .i64 Rb := hΦ 20 (by omega)
  have f21 : vs 21 = .int .i64 (Nb - Rb) := hΦ 21 (by omega)
  have f22 : vs 22 = .int .i64 (Na - Ra) := hΦ 22 (by omega)
  have hrg : List.range 23 = [0, 1, 2, 3, 4, 5, 6, 7, 8, 9, 10, 11, 12, 13, 14, 15, 16, 17, 18, 19, 20, 21, 22] := rfl
  unfold putAll putS
  simp only [List.length_cons, List.length_nil, List.take_succ_cons, List.take_zero, List.drop_succ_cons, List.drop_zero, Nat.reduceAdd, hrg, List.foldl_cons, List.foldl_nil, dstOf, List.getElem?_cons_succ, List.getElem?_cons_zero, Option.bind_some]
  clear hrg
  rw [f0, f1, f2, f3, f4, f5, f6, f7, f8, f9, f10, f11, f12, f13, f14, f15, f16, f17, f18, f19, f20, f21, f22]
  have HE1 := Lib.hid (HE0.out.trans hE)
  have HRA1 := Lib.hid (HRA.out.ext hE)
  have HRB1 := Lib.hid (HRB.out.ext hE)
  clear hΦ f0 f1 f2 f3 f4 f5 f6 f7 f8 f9 f10 f11 f12 f13 f14 f15 f16 f17 f18 f19 f20 f21 f22 hr4 hr8 hr15 hr19 hE
  obtain ⟨W4, rfl⟩ : ∃ W4, W4 = w2 := ⟨_, rfl⟩
  by_cases hlt : Nb - Rb ≤ Na - Ra
  ·have HL := Lib.hid hlt
   go_wp2_with fail
   go_ret
   exact ⟨by rw [HFIN.out, if_neg (by have := HL.out; omega)] <;> rfl, HE1.out⟩
  ·have hlt' : Na - Ra < Nb - Rb := by omega
   have HFIN2 := Lib.hid (HFIN.out.trans (if_pos hlt'))
   clear hlt'
   go_wp2_with fail
   refine wp_region_free_tail 17 17 (shdΦ4 ax ay ar bx by_ br Na Nb Ra Rb pa pb W4) (by kernel_rfl) (by simp) (by kernel_rfl) (by kernel_rfl) (by kernel_rfl) (by kernel_rfl) shdΦ4_mono ?hob ?hQ (fun h => absurd h (by omega))
   case hob =>
    intro i o hin ho a wa hE hF
    match i, hin with
    | 0, _ =>
     obtain rfl := Option.some.inj ho
     have h0 : a.tmps[2]?.getD undef = .pointer (some ⟨pa, 0, none⟩) := evalD (hF.old 2 (by decide))
     refine Ran.value rfl (v := .pointer (some ⟨pa, 0, none⟩)) (w1 := wa) ?_ ⟨rfl, Ext.refl _⟩
     go_simp
    | 1, _ =>
     obtain rfl := Option.some.inj ho
     have h0 : a.tmps[35]?.getD undef = .pointer (some ⟨pa, 0, none⟩) := evalD ((hF.from_ 0 35 rfl (by decide)))
     have q := (Row.ext (HRA1.out) hE).cell
     refine Ran.value rfl (v := .int .i64 ax) (w1 := wa) ?_ ⟨rfl, Ext.refl _⟩
     go_simp
    | 2, _ =>
     obtain rfl := Option.some.inj ho
     have h0 : a.tmps[3]?.getD undef = .pointer (some ⟨pb, 0, none⟩) := evalD (hF.old 3 (by decide))
     refine Ran.value rfl (v := .pointer (some ⟨pb, 0, none⟩)) (w1 := wa) ?_ ⟨rfl, Ext.refl _⟩
     go_simp
    | 3, _ =>
     obtain rfl := Option.some.inj ho
     have h0 : a.tmps[37]?.getD undef = .pointer (some ⟨pb, 0, none⟩) := evalD ((hF.from_ 2 37 rfl (by decide)))
     have q := (Row.ext (HRB1.out) hE).cell
     refine Ran.value rfl (v := .int .i64 bx) (w1 := wa) ?_ ⟨rfl, Ext.refl _⟩
     go_simp
    | 4, _ =>
     obtain rfl := Option.some.inj ho
     have h0 : a.tmps[36]?.getD undef = .int .i64 ax := evalD ((hF.from_ 1 36 rfl (by decide)))
     have h1 : a.tmps[38]?.getD undef = .int .i64 bx := evalD ((hF.from_ 3 38 rfl (by decide)))
     refine Ran.value rfl (v := .int .i64 (ax * bx)) (w1 := wa) ?_ ⟨rfl, Ext.refl _⟩
     go_simp
     exact IntWalk.i64_in _ ⟨by omega, by omega⟩
    | 5, _ =>
     obtain rfl := Option.some.inj ho
     have h0 : a.tmps[2]?.getD undef = .pointer (some ⟨pa, 0, none⟩) := evalD (hF.old 2 (by decide))
     refine Ran.value rfl (v := .pointer (some ⟨pa, 1, none⟩)) (w1 := wa) ?_ ⟨rfl, Ext.refl _⟩
     go_simp
    | 6, _ =>
     obtain rfl := Option.some.inj ho
     have h0 : a.tmps[40]?.getD undef = .pointer (some ⟨pa, 1, none⟩) := evalD ((hF.from_ 5 40 rfl (by decide)))
     have q := (Row.ext (HRA1.out) hE).cell
     refine Ran.value rfl (v := .int .i64 ay) (w1 := wa) ?_ ⟨rfl, Ext.refl _⟩
     go_simp
    | 7, _ =>
     obtain rfl := Option.some.inj ho
     have h0 : a.tmps[3]?.getD undef = .pointer (some ⟨pb, 0, none⟩) := evalD (hF.old 3 (by decide))
     refine Ran.value rfl (v := .pointer (some ⟨pb, 1, none⟩)) (w1 := wa) ?_ ⟨rfl, Ext.refl _⟩
     go_simp
    | 8, _ =>
     obtain rfl := Option.some.inj ho
     have h0 : a.tmps[42]?.getD undef = .pointer (some ⟨pb, 1, none⟩) := evalD ((hF.from_ 7 42 rfl (by decide)))
     have q := (Row.ext (HRB1.out) hE).cell
     refine Ran.value rfl (v := .int .i64 by_) (w1 := wa) ?_ ⟨rfl, Ext.refl _⟩
     go_simp
    | 9, _ =>
     obtain rfl := Option.some.inj ho
     have h0 : a.tmps[41]?.getD undef = .int .i64 ay := evalD ((hF.from_ 6 41 rfl (by decide)))
     have h1 : a.tmps[43]?.getD undef = .int .i64 by_ := evalD ((hF.from_ 8 43 rfl (by decide)))
     refine Ran.value rfl (v := .int .i64 (ay * by_)) (w1 := wa) ?_ ⟨rfl, Ext.refl _⟩
     go_simp
     exact IntWalk.i64_in _ ⟨by omega, by omega⟩
    | 10, _ =>
     obtain rfl := Option.some.inj ho
     have h0 : a.tmps[39]?.getD undef = .int .i64 (ax * bx) := evalD ((hF.from_ 4 39 rfl (by decide)))
     have h1 : a.tmps[44]?.getD undef = .int .i64 (ay * by_) := evalD ((hF.from_ 9 44 rfl (by decide)))
     refine Ran.value rfl (v := .int .i64 (ax * bx + ay * by_)) (w1 := wa) ?_ ⟨rfl, Ext.refl _⟩
     go_simp
     exact IntWalk.i64_in _ ⟨by omega, by omega⟩
    | 11, _ =>
     obtain rfl := Option.some.inj ho
     have h0 : a.tmps[2]?.getD undef = .pointer (some ⟨pa, 0, none⟩) := evalD (hF.old 2 (by decide))
     refine Ran.value rfl (v := .pointer (some ⟨pa, 2, none⟩)) (w1 := wa) ?_ ⟨rfl, Ext.refl _⟩
     go_simp
    | 12, _ =>
     obtain rfl := Option.some.inj ho
     have h0 : a.tmps[46]?.getD undef = .pointer (some ⟨pa, 2, none⟩) := evalD ((hF.from_ 11 46 rfl (by decide)))
     have q := (Row.ext (HRA1.out) hE).cell
     refine Ran.value rfl (v := .int .i64 ar) (w1 := wa) ?_ ⟨rfl, Ext.refl _⟩
     go_simp
    | 13, _ =>
     obtain rfl := Option.some.inj ho
     have h0 : a.tmps[3]?.getD undef = .pointer (some ⟨pb, 0, none⟩) := evalD (hF.old 3 (by decide))
     refine Ran.value rfl (v := .pointer (some ⟨pb, 2, none⟩)) (w1 := wa) ?_ ⟨rfl, Ext.refl _⟩
     go_simp
    | 14, _ =>
     obtain rfl := Option.some.inj ho
     have h0 : a.tmps[48]?.getD undef = .pointer (some ⟨pb, 2, none⟩) := evalD ((hF.from_ 13 48 rfl (by decide)))
     have q := (Row.ext (HRB1.out) hE).cell
     refine Ran.value rfl (v := .int .i64 br) (w1 := wa) ?_ ⟨rfl, Ext.refl _⟩
     go_simp
    | 15, _ =>
     obtain rfl := Option.some.inj ho
     have h0 : a.tmps[47]?.getD undef = .int .i64 ar := evalD ((hF.from_ 12 47 rfl (by decide)))
     have h1 : a.tmps[49]?.getD undef = .int .i64 br := evalD ((hF.from_ 14 49 rfl (by decide)))
     refine Ran.value rfl (v := .int .i64 (ar * br)) (w1 := wa) ?_ ⟨rfl, Ext.refl _⟩
     go_simp
     exact IntWalk.i64_in _ ⟨by omega, by omega⟩
    | 16, _ =>
     obtain rfl := Option.some.inj ho
     have h0 : a.tmps[45]?.getD undef = .int .i64 (ax * bx + ay * by_) := evalD ((hF.from_ 10 45 rfl (by decide)))
     refine Ran.value rfl (v := .int .i64 (ax * bx + ay * by_)) (w1 := wa) ?_ ⟨rfl, Ext.refl _⟩
     go_simp
    | k + 17, hin => omega
   case hQ =>
    intro vs w2 hE hΦ
    have f0 : vs 0 = .pointer (some ⟨pa, 0, none⟩) := hΦ 0 (by omega)
    have f1 : vs 1 = .int .i64 ax := hΦ 1 (by omega)
    have f2 : vs 2 = .pointer (some ⟨pb, 0, none⟩) := hΦ 2 (by omega)
    have f3 : vs 3 = .int .i64 bx := hΦ 3 (by omega)
    have f4 : vs 4 = .int .i64 (ax * bx) := hΦ 4 (by omega)
    have f5 : vs 5 = .pointer (some ⟨pa, 1, none⟩) := hΦ 5 (by omega)
    have f6 : vs 6 = .int .i64 ay := hΦ 6 (by omega)
    have f7 : vs 7 = .pointer (some ⟨pb, 1, none⟩) := hΦ 7 (by omega)
    have f8 : vs 8 = .int .i64 by_ := hΦ 8 (by omega)
    have f9 : vs 9 = .int .i64 (ay * by_) := hΦ 9 (by omega)
    have f10 : vs 10 = .int .i64 (ax * bx + ay * by_) := hΦ 10 (by omega)
    have f11 : vs 11 = .pointer (some ⟨pa, 2, none⟩) := hΦ 11 (by omega)
    have f12 : vs 12 = .int .i64 ar := hΦ 12 (by omega)
    have f13 : vs 13 = .pointer (some ⟨pb, 2, none⟩) := hΦ 13 (by omega)
    have f14 : vs 14 = .int .i64 br := hΦ 14 (by omega)
    have f15 : vs 15 = .int .i64 (ar * br) := hΦ 15 (by omega)
    have f16 : vs 16 = .int .i64 (ax * bx + ay * by_) := hΦ 16 (by omega)
    have hrg : List.range 17 = [0, 1, 2, 3, 4, 5, 6, 7, 8, 9, 10, 11, 12, 13, 14, 15, 16] := rfl
    unfold putAll putS
    simp only [List.length_cons, List.length_nil, List.take_succ_cons, List.take_zero, List.drop_succ_cons, List.drop_zero, Nat.reduceAdd, hrg, List.foldl_cons, List.foldl_nil, dstOf, List.getElem?_cons_succ, List.getElem?_cons_zero, Option.bind_some]
    clear hrg
    rw [f0, f1, f2, f3, f4, f5, f6, f7, f8, f9, f10, f11, f12, f13, f14, f15, f16]
    have HE4 := Lib.hid (HE1.out.trans hE)
    have HRA5 := Lib.hid (HRA1.out.ext hE)
    have HRB5 := Lib.hid (HRB1.out.ext hE)
    clear hΦ f0 f1 f2 f3 f4 f5 f6 f7 f8 f9 f10 f11 f12 f13 f14 f15 f16 hE
    obtain ⟨W5, rfl⟩ : ∃ W5, W5 = w2 := ⟨_, rfl⟩
    go_wp2_with fail
    refine wp_region_free_tail 23 23 (shdΦ5 ax ay ar bx by_ br Na Nb Ra Rb pa pb W5) (by kernel_rfl) (by simp) (by kernel_rfl) (by kernel_rfl) (by kernel_rfl) (by kernel_rfl) shdΦ5_mono ?hob ?hQ (fun h => absurd h (by omega))
    case hob =>
     intro i o hin ho a wa hE hF
     match i, hin with
     | 0, _ =>
      obtain rfl := Option.some.inj ho
      have h0 : a.tmps[2]?.getD undef = .pointer (some ⟨pa, 0, none⟩) := evalD (hF.old 2 (by decide))
      refine Ran.value rfl (v := .pointer (some ⟨pa, 2, none⟩)) (w1 := wa) ?_ ⟨rfl, Ext.refl _⟩
      go_simp
     | 1, _ =>
      obtain rfl := Option.some.inj ho
      have h0 : a.tmps[51]?.getD undef = .pointer (some ⟨pa, 2, none⟩) := evalD ((hF.from_ 0 51 rfl (by decide)))
      have q := (Row.ext (HRA5.out) hE).cell
      refine Ran.value rfl (v := .int .i64 ar) (w1 := wa) ?_ ⟨rfl, Ext.refl _⟩
      go_simp
     | 2, _ =>
      obtain rfl := Option.some.inj ho
      have h0 : a.tmps[52]?.getD undef = .int .i64 ar := evalD ((hF.from_ 1 52 rfl (by decide)))
      refine Ran.value rfl (v := .slice (some ⟨wa.heap.size, 0, none⟩) 1 1) (w1 := wa.alloc (.cells #[.int .i64 ar] 3)) ?_ ⟨⟨wa.heap.size, rfl, hE.size, Row.new _ _ _⟩, (Ext.refl _).alloc _⟩
      go_simp
     | 3, _ =>
      obtain rfl := Option.some.inj ho
      obtain ⟨b_h0, h0, hb_h0, hr_h0⟩ : MkAt W5 (a.eval (.tmp 53)) wa 3 1 #[.int .i64 ar] := (hF.from_ 2 53 rfl (by decide))
      replace h0 := evalD h0
      refine Ran.enter rfl (f := 182) (args := #[.slice (some ⟨b_h0, 0, none⟩) 1 1]) (w1 := wa) ?_ ?_
      ·go_simp
      ·refine (HRa.out b_h0 _ hr_h0).mono ?_
       rintro r w1 ⟨rfl, hX⟩
       exact ⟨_, rfl, rfl, hX ▸ Ext.refl _⟩
     | 4, _ =>
      obtain rfl := Option.some.inj ho
      have h0 : a.tmps[3]?.getD undef = .pointer (some ⟨pb, 0, none⟩) := evalD (hF.old 3 (by decide))
      refine Ran.value rfl (v := .pointer (some ⟨pb, 0, none⟩)) (w1 := wa) ?_ ⟨rfl, Ext.refl _⟩
      go_simp
     | 5, _ =>
      obtain rfl := Option.some.inj ho
      have h0 : a.tmps[55]?.getD undef = .pointer (some ⟨pb, 0, none⟩) := evalD ((hF.from_ 4 55 rfl (by decide)))
      have q := (Row.ext (HRB5.out) hE).cell
      refine Ran.value rfl (v := .int .i64 bx) (w1 := wa) ?_ ⟨rfl, Ext.refl _⟩
      go_simp
     | 6, _ =>
      obtain rfl := Option.some.inj ho
      have h0 : a.tmps[3]?.getD undef = .pointer (some ⟨pb, 0, none⟩) := evalD (hF.old 3 (by decide))
      refine Ran.value rfl (v := .pointer (some ⟨pb, 1, none⟩)) (w1 := wa) ?_ ⟨rfl, Ext.refl _⟩
      go_simp
     | 7, _ =>
      obtain rfl := Option.some.inj ho
      have h0 : a.tmps[57]?.getD undef = .pointer (some ⟨pb, 1, none⟩) := evalD ((hF.from_ 6 57 rfl (by decide)))
      have q := (Row.ext (HRB5.out) hE).cell
      refine Ran.value rfl (v := .int .i64 by_) (w1 := wa) ?_ ⟨rfl, Ext.refl _⟩
      go_simp
     | 8, _ =>
      obtain rfl := Option.some.inj ho
      have h0 : a.tmps[56]?.getD undef = .int .i64 bx := evalD ((hF.from_ 5 56 rfl (by decide)))
      have h1 : a.tmps[58]?.getD undef = .int .i64 by_ := evalD ((hF.from_ 7 58 rfl (by decide)))
      refine Ran.value rfl (v := .slice (some ⟨wa.heap.size, 0, none⟩) 2 2) (w1 := wa.alloc (.cells #[.int .i64 bx, .int .i64 by_] 3)) ?_ ⟨⟨wa.heap.size, rfl, hE.size, Row.new _ _ _⟩, (Ext.refl _).alloc _⟩
      go_simp
     | 9, _ =>
      obtain rfl := Option.some.inj ho
      obtain ⟨b_h0, h0, hb_h0, hr_h0⟩ : MkAt W5 (a.eval (.tmp 59)) wa 3 2 #[.int .i64 bx, .int .i64 by_] := (hF.from_ 8 59 rfl (by decide))
      replace h0 := evalD h0
      refine Ran.enter rfl (f := 182) (args := #[.slice (some ⟨b_h0, 0, none⟩) 2 2]) (w1 := wa) ?_ ?_
      ·go_simp
      ·refine (HNb.out b_h0 _ hr_h0).mono ?_
       rintro r w1 ⟨rfl, hX⟩
       exact ⟨_, rfl, rfl, hX ▸ Ext.refl _⟩
     | 10, _ =>
      obtain rfl := Option.some.inj ho
      have h0 : a.tmps[54]?.getD undef = .int .i64 Ra := evalD ((hF.from_ 3 54 rfl (by decide)))
      have h1 : a.tmps[60]?.getD undef = .int .i64 Nb := evalD ((hF.from_ 9 60 rfl (by decide)))
      refine Ran.value rfl (v := .int .i64 (Ra * Nb)) (w1 := wa) ?_ ⟨rfl, Ext.refl _⟩
      go_simp
      exact IntWalk.i64_in _ ⟨by omega, by omega⟩
     | 11, _ =>
      obtain rfl := Option.some.inj ho
      have h0 : a.tmps[3]?.getD undef = .pointer (some ⟨pb, 0, none⟩) := evalD (hF.old 3 (by decide))
      refine Ran.value rfl (v := .pointer (some ⟨pb, 2, none⟩)) (w1 := wa) ?_ ⟨rfl, Ext.refl _⟩
      go_simp
     | 12, _ =>
      obtain rfl := Option.some.inj ho
      have h0 : a.tmps[62]?.getD undef = .pointer (some ⟨pb, 2, none⟩) := evalD ((hF.from_ 11 62 rfl (by decide)))
      have q := (Row.ext (HRB5.out) hE).cell
      refine Ran.value rfl (v := .int .i64 br) (w1 := wa) ?_ ⟨rfl, Ext.refl _⟩
      go_simp
     | 13, _ =>
      obtain rfl := Option.some.inj ho
      have h0 : a.tmps[63]?.getD undef = .int .i64 br := evalD ((hF.from_ 12 63 rfl (by decide)))
      refine Ran.value rfl (v := .slice (some ⟨wa.heap.size, 0, none⟩) 1 1) (w1 := wa.alloc (.cells #[.int .i64 br] 3)) ?_ ⟨⟨wa.heap.size, rfl, hE.size, Row.new _ _ _⟩, (Ext.refl _).alloc _⟩
      go_simp
     | 14, _ =>
      obtain rfl := Option.some.inj ho
      obtain ⟨b_h0, h0, hb_h0, hr_h0⟩ : MkAt W5 (a.eval (.tmp 64)) wa 3 1 #[.int .i64 br] := (hF.from_ 13 64 rfl (by decide))
      replace h0 := evalD h0
      refine Ran.enter rfl (f := 182) (args := #[.slice (some ⟨b_h0, 0, none⟩) 1 1]) (w1 := wa) ?_ ?_
      ·go_simp
      ·refine (HRb.out b_h0 _ hr_h0).mono ?_
       rintro r w1 ⟨rfl, hX⟩
       exact ⟨_, rfl, rfl, hX ▸ Ext.refl _⟩
     | 15, _ =>
      obtain rfl := Option.some.inj ho
      have h0 : a.tmps[2]?.getD undef = .pointer (some ⟨pa, 0, none⟩) := evalD (hF.old 2 (by decide))
      refine Ran.value rfl (v := .pointer (some ⟨pa, 0, none⟩)) (w1 := wa) ?_ ⟨rfl, Ext.refl _⟩
      go_simp
     | 16, _ =>
      obtain rfl := Option.some.inj ho
      have h0 : a.tmps[66]?.getD undef = .pointer (some ⟨pa, 0, none⟩) := evalD ((hF.from_ 15 66 rfl (by decide)))
      have q := (Row.ext (HRA5.out) hE).cell
      refine Ran.value rfl (v := .int .i64 ax) (w1 := wa) ?_ ⟨rfl, Ext.refl _⟩
      go_simp
     | 17, _ =>
      obtain rfl := Option.some.inj ho
      have h0 : a.tmps[2]?.getD undef = .pointer (some ⟨pa, 0, none⟩) := evalD (hF.old 2 (by decide))
      refine Ran.value rfl (v := .pointer (some ⟨pa, 1, none⟩)) (w1 := wa) ?_ ⟨rfl, Ext.refl _⟩
      go_simp
     | 18, _ =>
      obtain rfl := Option.some.inj ho
      have h0 : a.tmps[68]?.getD undef = .pointer (some ⟨pa, 1, none⟩) := evalD ((hF.from_ 17 68 rfl (by decide)))
      have q := (Row.ext (HRA5.out) hE).cell
      refine Ran.value rfl (v := .int .i64 ay) (w1 := wa) ?_ ⟨rfl, Ext.refl _⟩
      go_simp
     | 19, _ =>
      obtain rfl := Option.some.inj ho
      have h0 : a.tmps[67]?.getD undef = .int .i64 ax := evalD ((hF.from_ 16 67 rfl (by decide)))
      have h1 : a.tmps[69]?.getD undef = .int .i64 ay := evalD ((hF.from_ 18 69 rfl (by decide)))
      refine Ran.value rfl (v := .slice (some ⟨wa.heap.size, 0, none⟩) 2 2) (w1 := wa.alloc (.cells #[.int .i64 ax, .int .i64 ay] 3)) ?_ ⟨⟨wa.heap.size, rfl, hE.size, Row.new _ _ _⟩, (Ext.refl _).alloc _⟩
      go_simp
     | 20, _ =>
      obtain rfl := Option.some.inj ho
      obtain ⟨b_h0, h0, hb_h0, hr_h0⟩ : MkAt W5 (a.eval (.tmp 70)) wa 3 2 #[.int .i64 ax, .int .i64 ay] := (hF.from_ 19 70 rfl (by decide))
      replace h0 := evalD h0
      refine Ran.enter rfl (f := 182) (args := #[.slice (some ⟨b_h0, 0, none⟩) 2 2]) (w1 := wa) ?_ ?_
      ·go_simp
      ·refine (HNa.out b_h0 _ hr_h0).mono ?_
       rintro r w1 ⟨rfl, hX⟩
       exact ⟨_, rfl, rfl, hX ▸ Ext.refl _⟩
     | 21, _ =>
      obtain rfl := Option.some.inj ho
      have h0 : a.tmps[65]?.getD undef = .int .i64 Rb := evalD ((hF.from_ 14 65 rfl (by decide)))
      have h1 : a.tmps[71]?.getD undef = .int .i64 Na := evalD ((hF.from_ 20 71 rfl (by decide)))
      refine Ran.value rfl (v := .int .i64 (Rb * Na)) (w1 := wa) ?_ ⟨rfl, Ext.refl _⟩
      go_simp
      exact IntWalk.i64_in _ ⟨by omega, by omega⟩
     | 22, _ =>
      obtain rfl := Option.some.inj ho
      have h0 : a.tmps[61]?.getD undef = .int .i64 (Ra * Nb) := evalD ((hF.from_ 10 61 rfl (by decide)))
      have h1 : a.tmps[72]?.getD undef = .int .i64 (Rb * Na) := evalD ((hF.from_ 21 72 rfl (by decide)))
      refine Ran.value rfl (v := .bool (decide (Rb * Na ≤ Ra * Nb))) (w1 := wa) ?_ ⟨rfl, Ext.refl _⟩
      go_simp
     | k + 23, hin => omega
    case hQ =>
     intro vs w2 hE hΦ
     have f0 : vs 0 = .pointer (some ⟨pa, 2, none⟩) := hΦ 0 (by omega)
     have f1 : vs 1 = .int .i64 ar := hΦ 1 (by omega)
     obtain ⟨b2, f2, hb2, hr2⟩ : MkAt W5 (vs 2) w2 3 1 #[.int .i64 ar] := hΦ 2 (by omega)
     have f3 : vs 3 = .int .i64 Ra := hΦ 3 (by omega)
     have f4 : vs 4 = .pointer (some ⟨pb, 0, none⟩) := hΦ 4 (by omega)
     have f5 : vs 5 = .int .i64 bx := hΦ 5 (by omega)
     have f6 : vs 6 = .pointer (some ⟨pb, 1, none⟩) := hΦ 6 (by omega)
     have f7 : vs 7 = .int .i64 by_ := hΦ 7 (by omega)
     obtain ⟨b8, f8, hb8, hr8⟩ : MkAt W5 (vs 8) w2 3 2 #[.int .i64 bx, .int .i64 by_] := hΦ 8 (by omega)
     have f9 : vs 9 = .int .i64 Nb := hΦ 9 (by omega)
     have f10 : vs 10 = .int .i64 (Ra * Nb) := hΦ 10 (by omega)
     have f11 : vs 11 = .pointer (some ⟨pb, 2, none⟩) := hΦ 11 (by omega)
     have f12 : vs 12 = .int .i64 br := hΦ 12 (by omega)
     obtain ⟨b13, f13, hb13, hr13⟩ : MkAt W5 (vs 13) w2 3 1 #[.int .i64 br] := hΦ 13 (by omega)
     have f14 : vs 14 = .int .i64 Rb := hΦ 14 (by omega)
     have f15 : vs 15 = .pointer (some ⟨pa, 0, none⟩) := hΦ 15 (by omega)
     have f16 : vs 16 = .int .i64 ax := hΦ 16 (by omega)
     have f17 : vs 17 = .pointer (some ⟨pa, 1, none⟩) := hΦ 17 (by omega)
     have f18 : vs 18 = .int .i64 ay := hΦ 18 (by omega)
     obtain ⟨b19, f19, hb19, hr19⟩ : MkAt W5 (vs 19) w2 3 2 #[.int .i64 ax, .int .i64 ay] := hΦ 19 (by omega)
     have f20 : vs 20 = .int .i64 Na := hΦ 20 (by omega)
     have f21 : vs 21 = .int .i64 (Rb * Na) := hΦ 21 (by omega)
     have f22 : vs 22 = .bool (decide (Rb * Na ≤ Ra * Nb)) := hΦ 22 (by omega)
     have hrg : List.range 23 = [0, 1, 2, 3, 4, 5, 6, 7, 8, 9, 10, 11, 12, 13, 14, 15, 16, 17, 18, 19, 20, 21, 22] := rfl
     unfold putAll putS
     simp only [List.length_cons, List.length_nil, List.take_succ_cons, List.take_zero, List.drop_succ_cons, List.drop_zero, Nat.reduceAdd, hrg, List.foldl_cons, List.foldl_nil, dstOf, List.getElem?_cons_succ, List.getElem?_cons_zero, Option.bind_some]
     clear hrg
     rw [f0, f1, f2, f3, f4, f5, f6, f7, f8, f9, f10, f11, f12, f13, f14, f15, f16, f17, f18, f19, f20, f21, f22]
     have HE5 := Lib.hid (HE4.out.trans hE)
     clear hΦ f0 f1 f2 f3 f4 f5 f6 f7 f8 f9 f10 f11 f12 f13 f14 f15 f16 f17 f18 f19 f20 f21 f22 hr2 hr8 hr13 hr19 hE
     obtain ⟨c1, hc1⟩ : ∃ c1, decide (Rb * Na ≤ Ra * Nb) = c1 := ⟨_, rfl⟩
     obtain ⟨dt, hdt⟩ : ∃ dt, ax * bx + ay * by_ = dt := ⟨_, rfl⟩
     obtain ⟨bo, hbo⟩ : ∃ bo, ar * br = bo := ⟨_, rfl⟩
     obtain ⟨st, hst⟩ : ∃ st, (Na - Ra) * (Nb - Rb) = st := ⟨_, rfl⟩
     have d1 : -80000 ≤ dt ∧ dt ≤ 80000 := by omega
     have d2 : -40000 ≤ bo ∧ bo ≤ 40000 := by omega
     have d3 : -14400000000 ≤ st ∧ st ≤ 14400000000 := by omega
     rw [hc1, hdt, hbo, hst] at HFIN2
     rw [hc1, hdt, hbo]
     have HM1 : Hid (∀ (b : Nat) (w : World), Row w b 3 #[.int .i64 (dt - bo)] → Calls Tryz.prog 182 #[.slice (some ⟨b, 0, none⟩) 1 1] w fun e w' => e = .returned (.int .i64 ((dt - bo) * (dt - bo))) ∧ w = w') := Lib.hid fun b w hr => e_squares1 b (dt - bo) w hr (by omega) (by omega)
     have HM2 : Hid (∀ (b : Nat) (w : World), Row w b 3 #[.int .i64 (dt + bo)] → Calls Tryz.prog 182 #[.slice (some ⟨b, 0, none⟩) 1 1] w fun e w' => e = .returned (.int .i64 ((dt + bo) * (dt + bo))) ∧ w = w') := Lib.hid fun b w hr => e_squares1 b (dt + bo) w hr (by omega) (by omega)
     obtain ⟨m1, hm1⟩ : ∃ m1, (dt - bo) * (dt - bo) = m1 := ⟨_, rfl⟩
     obtain ⟨m2, hm2⟩ : ∃ m2, (dt + bo) * (dt + bo) = m2 := ⟨_, rfl⟩
     rw [hm1] at HM1 HFIN2
     rw [hm2] at HM2 HFIN2
     clear p1 p2 p3 p4 p5 p6 hc1 hdt hbo hm1 hm2
     cases c1
     ·have HN : Hid (Ec.shades ⟨ax, ay, ar⟩ ⟨bx, by_, br⟩ = if (decide (-bo < dt) && decide (st < m2)) = true then 2 else 1) := Lib.hid (HFIN2.out.trans (if_neg (by simp)))
      have HEX := Lib.hid HE5.out
      clear HFIN2
      by_cases g1 : -bo < dt
      ·by_cases g2 : st < m2
       ·have HV : Hid (Ec.shades ⟨ax, ay, ar⟩ ⟨bx, by_, br⟩ = 2) := Lib.hid (by rw [HN.out, if_pos (by simp [g1, g2])])
        go_wp2_with fail
        refine (HM2.out _ _ (Row.new _ _ _)).mono ?_
        rintro e w7 ⟨rfl, rfl⟩
        go_wp2_with fail
        go_ret
        exact ⟨by rw [HV.out] <;> rfl, HEX.out.alloc _⟩
       ·have HV : Hid (Ec.shades ⟨ax, ay, ar⟩ ⟨bx, by_, br⟩ = 1) := Lib.hid (by rw [HN.out, if_neg (by simp [g2])])
        go_wp2_with fail
        refine (HM2.out _ _ (Row.new _ _ _)).mono ?_
        rintro e w7 ⟨rfl, rfl⟩
        go_wp2_with fail
        go_ret
        exact ⟨by rw [HV.out] <;> rfl, HEX.out.alloc _⟩
      ·have HV : Hid (Ec.shades ⟨ax, ay, ar⟩ ⟨bx, by_, br⟩ = 1) := Lib.hid (by rw [HN.out, if_neg (by simp [g1])])
       go_wp2_with fail
       go_ret
       exact ⟨by rw [HV.out] <;> rfl, HEX.out⟩
     ·by_cases hb : bo ≤ dt
      ·by_cases hm : st ≤ m1
       ·have HV : Hid (Ec.shades ⟨ax, ay, ar⟩ ⟨bx, by_, br⟩ = 3) := Lib.hid (by rw [HFIN2.out, if_pos (by simp [hb, hm])])
        go_wp2_with fail
        refine (HM1.out _ _ (Row.new _ _ _)).mono ?_
        rintro e w7 ⟨rfl, rfl⟩
        go_wp2_with fail
        go_ret
        exact ⟨by rw [HV.out] <;> rfl, HE5.out.alloc _⟩
       ·have HN : Hid (Ec.shades ⟨ax, ay, ar⟩ ⟨bx, by_, br⟩ = if (decide (-bo < dt) && decide (st < m2)) = true then 2 else 1) := Lib.hid (HFIN2.out.trans (if_neg (by simp [hm])))
        clear HFIN2
        have HEX := Lib.hid (HE5.out.alloc (.cells #[.int .i64 (dt - bo)] 3))
        go_wp2_with fail
        refine (HM1.out _ _ (Row.new _ _ _)).mono ?_
        rintro e w7 ⟨rfl, rfl⟩
        obtain ⟨W6, hW6⟩ : ∃ W6, w2.alloc (.cells #[.int .i64 (dt - bo)] 3) = W6 := ⟨_, rfl⟩
        rw [hW6] at HEX ⊢
        clear hW6
        by_cases g1 : -bo < dt
        ·by_cases g2 : st < m2
         ·have HV : Hid (Ec.shades ⟨ax, ay, ar⟩ ⟨bx, by_, br⟩ = 2) := Lib.hid (by rw [HN.out, if_pos (by simp [g1, g2])])
          go_wp2_with fail
          refine (HM2.out _ _ (Row.new _ _ _)).mono ?_
          rintro e w7 ⟨rfl, rfl⟩
          go_wp2_with fail
          go_ret
          exact ⟨by rw [HV.out] <;> rfl, HEX.out.alloc _⟩
         ·have HV : Hid (Ec.shades ⟨ax, ay, ar⟩ ⟨bx, by_, br⟩ = 1) := Lib.hid (by rw [HN.out, if_neg (by simp [g2])])
          go_wp2_with fail
          refine (HM2.out _ _ (Row.new _ _ _)).mono ?_
          rintro e w7 ⟨rfl, rfl⟩
          go_wp2_with fail
          go_ret
          exact ⟨by rw [HV.out] <;> rfl, HEX.out.alloc _⟩
        ·have HV : Hid (Ec.shades ⟨ax, ay, ar⟩ ⟨bx, by_, br⟩ = 1) := Lib.hid (by rw [HN.out, if_neg (by simp [g1])])
         go_wp2_with fail
         go_ret
         exact ⟨by rw [HV.out] <;> rfl, HEX.out⟩
      ·have HN : Hid (Ec.shades ⟨ax, ay, ar⟩ ⟨bx, by_, br⟩ = if (decide (-bo < dt) && decide (st < m2)) = true then 2 else 1) := Lib.hid (HFIN2.out.trans (if_neg (by simp [hb])))
       clear HFIN2
       have HEX := Lib.hid HE5.out
       by_cases g1 : -bo < dt
       ·by_cases g2 : st < m2
        ·have HV : Hid (Ec.shades ⟨ax, ay, ar⟩ ⟨bx, by_, br⟩ = 2) := Lib.hid (by rw [HN.out, if_pos (by simp [g1, g2])])
         go_wp2_with fail
         refine (HM2.out _ _ (Row.new _ _ _)).mono ?_
         rintro e w7 ⟨rfl, rfl⟩
         go_wp2_with fail
         go_ret
         exact ⟨by rw [HV.out] <;> rfl, HEX.out.alloc _⟩
        ·have HV : Hid (Ec.shades ⟨ax, ay, ar⟩ ⟨bx, by_, br⟩ = 1) := Lib.hid (by rw [HN.out, if_neg (by simp [g2])])
         go_wp2_with fail
         refine (HM2.out _ _ (Row.new _ _ _)).mono ?_
         rintro e w7 ⟨rfl, rfl⟩
         go_wp2_with fail
         go_ret
         exact ⟨by rw [HV.out] <;> rfl, HEX.out.alloc _⟩
       ·have HV : Hid (Ec.shades ⟨ax, ay, ar⟩ ⟨bx, by_, br⟩ = 1) := Lib.hid (by rw [HN.out, if_neg (by simp [g1])])
        go_wp2_with fail
        go_ret
        exact ⟨by rw [HV.out] <;> rfl, HEX.out⟩
end Go.Proofs.YtcbodpnmndbgnaaGreatDoor
