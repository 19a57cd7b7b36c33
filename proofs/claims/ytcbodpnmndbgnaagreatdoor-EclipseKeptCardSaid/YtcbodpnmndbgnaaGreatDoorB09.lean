/- Volume 9 of the texts that the laws of this seat use: EcFree3: walks of the program's functions, and plain laws. -/
import Derived.Test.YtcbodpnmndbgnaaGreatDoorB04
namespace Go.Proofs.YtcbodpnmndbgnaaGreatDoor
open Go.RowKit
/-- An operation that waits for another one. -/
def viaOf (m : List Oper) (n q : Nat) : Nat := ((List.range (n + 1)).find? fun k => decide (q < k) && Region.waitsFor .any m.toArray k q).getD 0
/-- The tail's first waits for the whole head, if only by others; each one behind it for the one before. -/
def tailV (m : List Oper) (n : Nat) : Bool :=
  ((List.range n).all fun q => decide (q < viaOf m n q) && decide (viaOf m n q ≤ n) && Region.waitsFor .any m.toArray (viaOf m n q) q) && ((List.range m.length).all fun t => decide (t ≤ n) || Region.waitsFor .any m.toArray t (t - 1))
theorem wp_region_free_apartR {P : Program} {id : Nat} {Q : Exit → Act → World → Prop} {a0 : Act} {w0 : World} {m : List Oper} (R : World → World → Prop) (hR0 : R w0 w0.drew) (hRt : ∀ {x y z : World}, R x y → R y z → R x z) (n : Nat) (Φ : Nat → Value → World → Prop) (Dd : Nat → Nat → Value → Value → Prop) (hm : P.follows .mixedOrders = true) (hn : n ≤ m.length) (hB : freeB (m.take n) a0.tmps.size = true)
    (hT : tailV m n = true) (hS : Region.seqB .any m.toArray (m.length - n) n (headTail n m.length) = true)
    (hmono : ∀ i v w w', Φ i v w → R w w' → Φ i v w')
    (hob : ∀ i o, i < n → m[i]? = some o → ∀ a w, R w0 w → Finds (m.take n) Φ a0 o a w → Ran P m.toArray o a w (fun v w' => Φ i v w' ∧ R w w' ∧ ∀ j u, j < n → j ≠ i → Φ j u w → Dd i j v u))
    (hQ : ∀ vs : Nat → Value, ∀ w, R w0 w → (∀ i, i < n → Φ i (vs i) w) → (∀ i j, i < n → j < n → i ≠ j → Dd i j (vs i) (vs j) ∨ Dd j i (vs j) (vs i)) → wpList P m.toArray Q (m.drop n) (putAll (m.take n) vs a0) w) : (Code.region id m.toArray true).wp P Q a0 w0 := by
  refine wp_region_any hm ?_
  obtain ⟨l, hl⟩ : ∃ l, m.take n = l := ⟨_, rfl⟩
  have hln : l.length = n := by rw [← hl, List.length_take]; omega
  have hget : ∀ i, i < n → m[i]? = l[i]? := fun i hi => by rw [← hl, List.getElem?_take]; simp [hi]
  rw [hl] at hB hob hQ
  have key : ∀ (f : Nat) (S : List Nat) (vs : Nat → Value) (listed : Array Bool) (w : World), R w0 w → S.Nodup → (∀ i, i ∈ S ↔ i < l.length ∧ listed.getD i false = true) → listed.size = m.length ∧ (∀ i, l.length ≤ i → listed.getD i false = false) → S.length + f = l.length →
      (∀ i ∈ S, Φ i (vs i) w) → (∀ i ∈ S, ∀ j ∈ S, i ≠ j → Dd i j (vs i) (vs j) ∨ Dd j i (vs j) (vs i)) → (∀ i ∈ S, ∀ o, m[i]? = some o → ∀ e ∈ o.after, Region.binds .any e = true → e.on ∈ S) → wpAny P .any m.toArray Q (f + (m.length - n)) listed (putS l vs S a0) w := by
    intro f
    induction f with
    | zero =>
      intro S vs listed w hE hd hmem hsz hlen hΦ hPQ hcl
      have hall : ∀ i, i < l.length → i ∈ S := by
        intro i hi
        rcases Classical.em (i ∈ S) with h | h
        · exact h
        · have h1 := nodup_le' (S := i :: S) (N := l.length) (by simp [h, hd]) (by
            intro x hx
            rcases List.mem_cons.1 hx with rfl | hx
            · exact hi
            · exact ((hmem x).1 hx).1)
          simp at h1
          omega
      have hp : S.Perm (List.range l.length) := (List.perm_ext_iff_of_nodup hd List.nodup_range).2 fun i => ⟨fun h => List.mem_range.2 ((hmem i).1 h).1, fun h => hall i (List.mem_range.1 h)⟩
      have he : putS l vs S a0 = putAll l vs a0 := putS_perm hB hp fun x hx => ((hmem x).1 hx).1
      rw [he, Nat.zero_add]
      have hs1 := hsz.1
      have hlist : listed = headTail n m.length := by
        refine Array.ext_getElem? fun i => ?_
        rcases Nat.lt_or_ge i m.length with hi | hi
        · have h1 : listed[i]? = some (listed.getD i false) := by
            have : i < listed.size := by omega
            simp [Array.getD, this]
          rw [h1]
          rcases Nat.lt_or_ge i n with h2 | h2
          · rw [((hmem i).1 (hall i (by omega))).2]
            simp [headTail, List.getElem?_append, h2]
          · rw [hsz.2 i (by omega)]
            simp only [headTail, List.getElem?_toArray, List.getElem?_append, List.length_replicate, Nat.not_lt.2 h2, if_false, List.getElem?_replicate]
            rw [if_pos (by omega)]
        · rw [Array.getElem?_eq_none (by omega)]
          simp [headTail]
          omega
      rw [hlist]
      have hdl : (m.drop n).length = m.length - n := by simp
      have := wpAny_of_seq (md := .any) (Q' := Q) (m.drop n) n (headTail n m.length) _ w (fun j => by simp [List.getElem?_drop]) (by rw [hdl]; exact hS) (hQ vs w hE (fun i hi => hΦ i (hall i (by omega))) (fun i j hi hj hne => hPQ i (hall i (by omega)) j (hall j (by omega)) hne))
      rwa [hdl] at this
    | succ f ih =>
      intro S vs listed w hE hd hmem hsz hlen hΦ hPQ hcl
      rw [Nat.add_right_comm]
      have hex : ∃ i, i < l.length ∧ i ∉ S := by
        rcases Classical.em (∃ i, i < l.length ∧ i ∉ S) with h | h
        · exact h
        · have hsub : (List.range l.length).length ≤ S.length := nodup_sub_le _ _ List.nodup_range fun i hi => by
            rcases Classical.em (i ∈ S) with h2 | h2
            · exact h2
            · exact absurd ⟨i, List.mem_range.1 hi, h2⟩ h
          simp at hsub
          omega
      refine ⟨fun hr => ?_, fun i hi => ?_⟩
      · -- some operation is still to come: the first of them is ready
        exfalso
        have hmin : ∀ (k i : Nat), i ≤ k → i < l.length → i ∉ S → False := by
          intro k
          induction k with
          | zero =>
            intro i hik hi hiS
            obtain rfl : i = 0 := by omega
            have ho : l[0]? = some l[0] := List.getElem?_eq_getElem hi
            have hfr := freeB_spec hB ho
            have : 0 ∈ Region.ready .any m.toArray listed := mem_ready.2 ⟨getD_in (by have := hsz.1; omega) (by
              cases hh : listed.getD 0 false
              · rfl
              · exact absurd ((hmem 0).2 ⟨hi, hh⟩) hiS), l[0], by rw [List.getElem?_toArray, hget 0 (by omega)]; simp, fun e he hbi => absurd (hfr.back e he hbi) (by omega)⟩
            rw [hr] at this
            cases this
          | succ k ihk =>
            intro i hik hi hiS
            have ho : l[i]? = some l[i] := List.getElem?_eq_getElem hi
            have hfr := freeB_spec hB ho
            have : i ∈ Region.ready .any m.toArray listed := mem_ready.2 ⟨getD_in (by have := hsz.1; omega) (by
              cases hh : listed.getD i false
              · rfl
              · exact absurd ((hmem i).2 ⟨hi, hh⟩) hiS), l[i], by rw [List.getElem?_toArray, hget i (by omega)]; simp, fun e he hbi => by
                have hlt := hfr.back e he hbi
                rcases Classical.em (e.on ∈ S) with h | h
                · exact ((hmem _).1 h).2
                · exact (ihk e.on (by omega) (by omega) h).elim⟩
            rw [hr] at this
            cases this
        obtain ⟨i, hi, hiS⟩ := hex
        exact hmin i i (Nat.le_refl _) hi hiS
      · obtain ⟨hun, o, ho, hall⟩ := mem_ready.1 hi
        have hin : i < n := by
          rcases Nat.lt_or_ge i n with h | h
          · exact h
          · exfalso
            have him : i < m.length := by simpa using (Array.getElem?_eq_some_iff.1 ho).1
            have ho2 : m[i]? = some o := by simpa using ho
            have hT' := hT
            simp only [tailV, Bool.and_eq_true, List.all_eq_true, List.mem_range, Bool.or_eq_true, decide_eq_true_eq] at hT'
            rcases Nat.eq_or_lt_of_le h with rfl | hlt
            · obtain ⟨q, hq, hqS⟩ := hex
              have all : ∀ d q, q < n → n - q ≤ d → q ∈ S := by
                intro d
                induction d with
                | zero => intro q hq hd; omega
                | succ d ihd =>
                  intro q hq hd
                  obtain ⟨⟨h1, h2⟩, h3⟩ := hT'.1 q hq
                  obtain ⟨oj, hoj, e, he, hb, hon⟩ := Region.waitsFor_spec h3
                  simp only [List.getElem?_toArray] at hoj
                  rcases Nat.eq_or_lt_of_le h2 with h4 | h4
                  · rw [h4, ho2] at hoj
                    obtain rfl := Option.some.inj hoj
                    have h5 := hall e he hb
                    rw [hon] at h5
                    exact (hmem q).2 ⟨by omega, h5⟩
                  · have h5 := ihd (viaOf m n q) h4 (by omega)
                    have h6 := hcl _ h5 oj hoj e he hb
                    rwa [hon] at h6
              exact hqS (all n q (by omega) (by omega))
            · obtain ⟨oj, hoj, e, he, hb, hon⟩ := Region.waitsFor_spec ((hT'.2 i him).resolve_left (by omega))
              simp only [List.getElem?_toArray] at hoj
              rw [ho2] at hoj
              obtain rfl := Option.some.inj hoj
              have h1 := hall e he hb
              rw [hon, hsz.2 (i - 1) (by omega)] at h1
              cases h1
        have ho' : l[i]? = some o := by rw [← hget i hin]; simpa using ho
        have hil : i < l.length := (List.getElem?_eq_some_iff.1 ho').1
        have hiS : i ∉ S := fun h => by
          have := ((hmem i).1 h).2
          rw [getD_both hun] at this
          cases this
        have hfr := freeB_spec hB ho'
        have hF : Finds l Φ a0 o (putS l vs S a0) w := by
          constructor
          · intro j d hjd hlook
            have hj : j < l.length := by
              rcases Nat.lt_or_ge j l.length with h | h
              · exact h
              · simp [dstOf, List.getElem?_eq_none h] at hjd
            by_cases hji : j = i
            · subst hji
              have hod : o.dst = some d := by simpa [dstOf, ho'] using hjd
              exact absurd hlook (hfr.own d hod).2
            · obtain ⟨e, he, hb, hon⟩ := (hfr.apart j d hj hji hjd).2 hlook
              have hjS : j ∈ S := (hmem j).2 ⟨hj, by rw [← hon]; exact hall e he hb⟩
              have hoj : l[j]? = some l[j] := List.getElem?_eq_getElem hj
              have hsize : d < a0.tmps.size := ((freeB_spec hB hoj).own d (by simpa [dstOf, hoj] using hjd)).1
              rw [putS_on hjd S a0 hsize (fun k hk hkd => by
                rcases Classical.em (k = j) with h | h
                · exact h
                · exact absurd (by simpa [dstOf, hoj] using hjd) ((freeB_spec hB hoj).apart k d ((hmem k).1 hk).1 h hkd).1) hjS]
              exact hΦ j hjS
          · intro d hno
            exact putS_off S a0 fun k hk => hno k ((hmem k).1 hk).1
        have hw := hob i o hin (by rw [hget i hin]; exact ho') (putS l vs S a0) w hE hF
        have next : ∀ v w', (Φ i v w' ∧ R w w' ∧ ∀ j u, j < n → j ≠ i → Φ j u w → Dd i j v u) → wpAny P .any m.toArray Q (f + (m.length - n)) (listed.setIfInBounds i true) ((putS l vs S a0).put o.dst v) w' := by
          rintro v w' ⟨hv, hE', hvD⟩
          have hdo : dstOf l i = o.dst := by simp [dstOf, ho']
          have hvs : (putS l vs S a0).put o.dst v = putS l (fun k => if k = i then v else vs k) (S ++ [i]) a0 := by
            unfold putS
            rw [List.foldl_append]
            simp only [List.foldl_cons, List.foldl_nil, if_true, hdo]
            congr 1
            exact putS_congr S a0 fun k hk => by
              have : k ≠ i := fun e => hiS (e ▸ hk)
              simp [this]
          rw [hvs]
          refine ih (S ++ [i]) _ _ w' (hRt hE hE') ?_ ?_ ⟨by simpa using hsz.1, fun k hk => ?_⟩ (by simp; omega) ?_ ?_ ?_
          · rw [List.nodup_append]
            exact ⟨hd, by simp, fun x hx y hy e => by simp at hy; subst hy; exact hiS (e ▸ hx)⟩
          · intro k
            simp only [List.mem_append, List.mem_singleton, hmem k]
            by_cases hki : k = i
            · subst hki
              have := hsz.1
              simp [hil, show k < listed.size by omega]
            · have : (listed.setIfInBounds i true).getD k false = listed.getD k false := getD_set_ne false (Ne.symm hki)
              rw [this]
              simp [hki]
          · have : (listed.setIfInBounds i true).getD k false = listed.getD k false := getD_set_ne false (by omega)
            rw [this]
            exact hsz.2 k hk
          · intro k hk
            by_cases hki : k = i
            · subst hki; simpa using hv
            · rw [if_neg hki]
              rcases List.mem_append.1 hk with h | h
              · exact hmono _ _ _ _ (hΦ k h) hE'
              · exact absurd (by simpa using h) hki
          · intro x hx y hy hxy
            have inS : ∀ q, q ∈ S ++ [i] → q ≠ i → q ∈ S := fun q hq hqi => by
              rcases List.mem_append.1 hq with h | h
              · exact h
              · exact absurd (by simpa using h) hqi
            by_cases hxi : x = i
            · subst hxi
              have hyx : y ≠ x := Ne.symm hxy
              have hyS := inS y hy hyx
              have hyl := ((hmem y).1 hyS).1
              refine .inl ?_
              simp only [if_true, if_neg hyx]
              exact hvD y (vs y) (by omega) hyx (hΦ y hyS)
            · have hxS := inS x hx hxi
              have hxl := ((hmem x).1 hxS).1
              by_cases hyi : y = i
              · subst hyi
                refine .inr ?_
                simp only [if_true, if_neg hxi]
                exact hvD x (vs x) (by omega) hxi (hΦ x hxS)
              · simp only [if_neg hxi, if_neg hyi]
                exact hPQ x hxS y (inS y hy hyi) hxy
          · intro x hx ox hox e he hbe
            rcases List.mem_append.1 hx with h | h
            · exact List.mem_append_left _ (hcl x h ox hox e he hbe)
            · obtain rfl : x = i := by simpa using h
              have : ox = o := by
                rw [show m[x]? = some o by simpa using ho] at hox
                exact (Option.some.inj hox).symm
              subst this
              exact List.mem_append_left _ ((hmem _).2 ⟨by have := hfr.back e he hbe; omega, hall e he hbe⟩)
        unfold wpOp
        rw [ho]
        simp only []
        unfold Ran at hw
        split
        · rename_i hwd
          rw [if_pos hwd] at hw
          refine .inl ?_
          have hw2 : Oper.wp P o (putS l vs S a0) w (fun a' w' => ∃ v, a' = (putS l vs S a0).put o.dst v ∧ Φ i v w' ∧ R w w' ∧ ∀ j u, j < n → j ≠ i → Φ j u w → Dd i j v u) Q := by
            unfold Oper.wp at hw ⊢
            generalize (execOp (putS l vs S a0).eval o).run P w = r at *
            cases r with
            | ok x w' =>
              cases x <;> simp only [Oper.upon] at hw ⊢
              all_goals first
                | exact hw
                | exact Calls.mono hw (fun e w'' he => by cases e <;> first | exact he | exact (he : False).elim | (obtain ⟨_, _, hh⟩ := he; exact hh.elim))
                | exact Rows.mono hw (fun _ _ he => he)
            | halt x w' => cases x <;> simp only [Oper.upon] at hw
          refine Oper.wp_mono ?_ hw2
          rintro a' w' ⟨v, rfl, hv⟩
          exact next v w' hv
        · rename_i hwd
          rw [if_neg hwd] at hw
          exact next undef w hw
  have := key n [] (fun _ => undef) (Array.replicate m.toArray.size false) _ hR0 (by simp) (by
    intro i
    have h0 := getD_replicate_false m.toArray.size i
    simp only [h0]
    simp) ⟨by simp, by
    intro i hi
    exact getD_replicate_false _ _⟩ (by simp; omega) (by simp) (by simp) (by simp)
  rw [show n + (m.length - n) = m.toArray.size by simp; omega] at this
  exact this
/-- New blocks are apart, from the n-th operation on. -/
def ApartFrom (n i j : Nat) (v u : Value) : Prop := n ≤ i → n ≤ j → ∀ b c : Nat, v = .pointer (some ⟨b, 0, none⟩) → u = .pointer (some ⟨c, 0, none⟩) → b ≠ c
/-- A block that the region itself makes. -/
def NewAt (w0 : World) (v : Value) (w : World) (t : TypeId) (cs : Array Value) : Prop := ∃ b, v = .pointer (some ⟨b, 0, none⟩) ∧ w0.heap.size ≤ b ∧ Row w b t cs
theorem NewAt.ext {w0 w w' : World} {v : Value} {t : TypeId} {cs : Array Value} (h : NewAt w0 v w t cs) (he : Ext w w') : NewAt w0 v w' t cs := let ⟨b, h1, h2, h3⟩ := h; ⟨b, h1, h2, h3.ext he⟩
theorem wp_region_free_apart {P : Program} {id : Nat} {Q : Exit → Act → World → Prop} {a0 : Act} {w0 : World} {m : List Oper} (n : Nat) (Φ : Nat → Value → World → Prop) (Dd : Nat → Nat → Value → Value → Prop) (hm : P.follows .mixedOrders = true) (hn : n ≤ m.length) (hB : freeB (m.take n) a0.tmps.size = true)
    (hT : tailV m n = true) (hS : Region.seqB .any m.toArray (m.length - n) n (headTail n m.length) = true)
    (hmono : ∀ i v w w', Φ i v w → Ext w w' → Φ i v w')
    (hob : ∀ i o, i < n → m[i]? = some o → ∀ a w, Ext w0 w → Finds (m.take n) Φ a0 o a w → Ran P m.toArray o a w (fun v w' => Φ i v w' ∧ Ext w w' ∧ ∀ j u, j < n → j ≠ i → Φ j u w → Dd i j v u))
    (hQ : ∀ vs : Nat → Value, ∀ w, Ext w0 w → (∀ i, i < n → Φ i (vs i) w) → (∀ i j, i < n → j < n → i ≠ j → Dd i j (vs i) (vs j) ∨ Dd j i (vs j) (vs i)) → wpList P m.toArray Q (m.drop n) (putAll (m.take n) vs a0) w) : (Code.region id m.toArray true).wp P Q a0 w0 :=
  wp_region_free_apartR Ext ((Ext.refl w0).drew) (fun h k => h.trans k) n Φ Dd hm hn hB hT hS hmono hob hQ
end Go.Proofs.YtcbodpnmndbgnaaGreatDoor
