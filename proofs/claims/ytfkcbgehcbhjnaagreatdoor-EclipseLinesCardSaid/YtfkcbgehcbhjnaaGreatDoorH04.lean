/- Volume 4 of the texts that the laws of this seat use: EcFree4 EcRefA EcIsEng EcHand EcAt EcCells EcAsk: walks of the program's functions, and plain laws. -/
import Derived.Outline
import Derived.Carry
import Derived.Test.YtfkcbgehcbhjnaaGreatDoorH01
import Derived.Test.YtfkcbgehcbhjnaaGreatDoorH02
import Derived.Test.YtfkcbgehcbhjnaaGreatDoorH03
namespace Go.Proofs.YtfkcbgehcbhjnaaGreatDoor
open Go.RowKit
def awaits (m : List Oper) (n : Nat) : Nat → Nat → Bool
 | 0, _ => false
 | f + 1, j => Region.waitsFor .any m.toArray n j || (List.range n).any fun q => Region.waitsFor .any m.toArray q j && awaits m n f q
def closedB (m : List Oper) (n : Nat) : Bool :=
 ((List.range n).all fun j => awaits m n (n + 1) j) && ((List.range m.length).all fun t => decide (t ≤ n) || Region.waitsFor .any m.toArray t (t - 1))
theorem waits_conv {m : List Oper} {t q : Nat} {o : Oper} (ho : m[t]? = some o) (hw : Region.waitsFor .any m.toArray t q = true) : ∃ e ∈ o.after, Region.binds .any e = true ∧ e.on = q := by
 obtain ⟨oj, hoj, hh⟩ := Region.waitsFor_spec hw
 have : oj = o := by
  simp only [List.getElem?_toArray] at hoj
  rw [ho] at hoj
  exact (Option.some.inj hoj).symm
 rw [this] at hh
 exact hh
theorem awaits_in {m : List Oper} {n : Nat} {S : List Nat} (hd : ∀ q, q < n → (∀ o, m[n]? = some o → ∃ e ∈ o.after, Region.binds .any e = true ∧ e.on = q) → q ∈ S)
  (hcl : ∀ i ∈ S, ∀ o, m[i]? = some o → ∀ e ∈ o.after, Region.binds .any e = true → e.on < n → e.on ∈ S) : ∀ (f j : Nat), j < n → awaits m n f j = true → j ∈ S := by
 intro f
 induction f with
 | zero => intro j _ h; cases h
 | succ f ih =>
  intro j hj h
  rw [awaits, Bool.or_eq_true] at h
  rcases h with h | h
  ·exact hd j hj fun o ho => waits_conv ho h
  ·obtain ⟨q, hq, h⟩ := List.any_eq_true.1 h
   rw [Bool.and_eq_true] at h
   have hqS := ih q (List.mem_range.1 hq) h.2
   obtain ⟨o, ho, _⟩ := Region.waitsFor_spec h.1
   obtain ⟨e, he, hb, hon⟩ := waits_conv (m := m) (by simpa using ho) h.1
   have := hcl q hqS o (by simpa using ho) e he hb (by omega)
   rwa [hon] at this
theorem closedB_spec {m : List Oper} {n : Nat} (h : closedB m n = true) {t : Nat} (ht : n ≤ t) (htm : t < m.length) :
  (n = t ∧ ∀ q, q < n → awaits m n (n + 1) q = true) ∨ (n < t ∧ ∀ o, m[t]? = some o → ∃ e ∈ o.after, Region.binds .any e = true ∧ e.on = t - 1) := by
 simp only [closedB, Bool.and_eq_true, List.all_eq_true, List.mem_range, Bool.or_eq_true, decide_eq_true_eq] at h
 rcases Nat.eq_or_lt_of_le ht with rfl | hlt
 ·exact .inl ⟨rfl, h.1⟩
 ·refine .inr ⟨hlt, fun o ho => ?_⟩
  rcases h.2 t htm with h1 | h1
  ·omega
  ·exact waits_conv ho h1
theorem wp_region_free_closed {P : Program} {id : Nat} {Q : Exit → Act → World → Prop} {a0 : Act} {w0 : World} {m : List Oper} (n : Nat) (Φ : Nat → Value → World → Prop) (hm : P.follows .mixedOrders = true) (hn : n ≤ m.length) (hB : freeB (m.take n) a0.tmps.size = true)
  (hT : closedB m n = true) (hS : Region.seqB .any m.toArray (m.length - n) n (headTail n m.length) = true)
  (hmono : ∀ i v w w', Φ i v w → Ext w w' → Φ i v w')
  (hob : ∀ i o, i < n → m[i]? = some o → ∀ a w, Ext w0 w → Finds (m.take n) Φ a0 o a w → Ran P m.toArray o a w (fun v w' => Φ i v w' ∧ Ext w w'))
  (hQ : ∀ vs : Nat → Value, ∀ w, Ext w0 w → (∀ i, i < n → Φ i (vs i) w) → wpList P m.toArray Q (m.drop n) (putAll (m.take n) vs a0) w) : (Code.region id m.toArray true).wp P Q a0 w0 := by
 refine wp_region_any hm ?_
 obtain ⟨l, hl⟩ : ∃ l, m.take n = l := ⟨_, rfl⟩
 have hln : l.length = n := by rw [← hl, List.length_take]; omega
 have hget : ∀ i, i < n → m[i]? = l[i]? := fun i hi => by rw [← hl, List.getElem?_take]; simp [hi]
 rw [hl] at hB hob hQ
 have key : ∀ (f : Nat) (S : List Nat) (vs : Nat → Value) (listed : Array Bool) (w : World), Ext w0 w → S.Nodup → (∀ i, i ∈ S ↔ i < l.length ∧ listed.getD i false = true) → listed.size = m.length ∧ (∀ i, l.length ≤ i → listed.getD i false = false) → S.length + f = l.length →
   (∀ i ∈ S, Φ i (vs i) w) → (∀ i ∈ S, ∀ o, m[i]? = some o → ∀ e ∈ o.after, Region.binds .any e = true → e.on < n → e.on ∈ S) → wpAny P .any m.toArray Q (f + (m.length - n)) listed (putS l vs S a0) w := by
  intro f
  induction f with
  | zero =>
   intro S vs listed w hE hd hmem hsz hlen hΦ hcl
   have hall : ∀ i, i < l.length → i ∈ S := by
    intro i hi
    rcases Classical.em (i ∈ S) with h | h
    ·exact h
    ·have h1 := nodup_le' (S := i :: S) (N := l.length) (by simp [h, hd]) (by
      intro x hx
      rcases List.mem_cons.1 hx with rfl | hx
      ·exact hi
      ·exact ((hmem x).1 hx).1)
     simp at h1
     omega
   have hp : S.Perm (List.range l.length) := (List.perm_ext_iff_of_nodup hd List.nodup_range).2 fun i => ⟨fun h => List.mem_range.2 ((hmem i).1 h).1, fun h => hall i (List.mem_range.1 h)⟩
   have he : putS l vs S a0 = putAll l vs a0 := putS_perm hB hp fun x hx => ((hmem x).1 hx).1
   rw [he, Nat.zero_add]
   have hs1 := hsz.1
   have hlist : listed = headTail n m.length := by
    refine Array.ext_getElem? fun i => ?_
    rcases Nat.lt_or_ge i m.length with hi | hi
    ·have h1 : listed[i]? = some (listed.getD i false) := by
      have : i < listed.size := by omega
      simp [Array.getD, this]
     rw [h1]
     rcases Nat.lt_or_ge i n with h2 | h2
     ·rw [((hmem i).1 (hall i (by omega))).2]
      simp [headTail, List.getElem?_append, h2]
     ·rw [hsz.2 i (by omega)]
      simp only [headTail, List.getElem?_toArray, List.getElem?_append, List.length_replicate, Nat.not_lt.2 h2, if_false, List.getElem?_replicate]
      rw [if_pos (by omega)]
    ·rw [Array.getElem?_eq_none (by omega)]
     simp [headTail]
     omega
   rw [hlist]
   have hdl : (m.drop n).length = m.length - n := by simp
   have := wpAny_of_seq (md := .any) (Q' := Q) (m.drop n) n (headTail n m.length) _ w (fun j => by simp [List.getElem?_drop]) (by rw [hdl]; exact hS) (hQ vs w hE fun i hi => hΦ i (hall i (by omega)))
   rwa [hdl] at this
  | succ f ih =>
   intro S vs listed w hE hd hmem hsz hlen hΦ hcl
   rw [Nat.add_right_comm]
   have hex : ∃ i, i < l.length ∧ i ∉ S := by
    rcases Classical.em (∃ i, i < l.length ∧ i ∉ S) with h | h
    ·exact h
    ·have hsub : (List.range l.length).length ≤ S.length := nodup_sub_le _ _ List.nodup_range fun i hi => by
      rcases Classical.em (i ∈ S) with h2 | h2
      ·exact h2
      ·exact absurd ⟨i, List.mem_range.1 hi, h2⟩ h
     simp at hsub
     omega
   refine ⟨fun hr => ?_, fun i hi => ?_⟩
   ·-- some operation is still to come: the first of them is ready
    exfalso
    have hmin : ∀ (k i : Nat), i ≤ k → i < l.length → i ∉ S → False := by
     intro k
     induction k with
     | zero =>
      intro i hik hi hiS
      obtain rfl : i = 0 := by omega
      have ho : l[0]? = some l[0] := List.getElem?_eq_getElem hi
      have hfr := freeB_spec hB ho
      have : 0 ∈ Region.ready .any m.toArray listed := mem_ready.2 ⟨getD_in (by have := hsz.1; omega) (by
       cases hh : listed.getD 0 false
       ·rfl
       ·exact absurd ((hmem 0).2 ⟨hi, hh⟩) hiS), l[0], by rw [List.getElem?_toArray, hget 0 (by omega)]; simp, fun e he hbi => absurd (hfr.back e he hbi) (by omega)⟩
      rw [hr] at this
      cases this
     | succ k ihk =>
      intro i hik hi hiS
      have ho : l[i]? = some l[i] := List.getElem?_eq_getElem hi
      have hfr := freeB_spec hB ho
      have : i ∈ Region.ready .any m.toArray listed := mem_ready.2 ⟨getD_in (by have := hsz.1; omega) (by
       cases hh : listed.getD i false
       ·rfl
       ·exact absurd ((hmem i).2 ⟨hi, hh⟩) hiS), l[i], by rw [List.getElem?_toArray, hget i (by omega)]; simp, fun e he hbi => by
        have hlt := hfr.back e he hbi
        rcases Classical.em (e.on ∈ S) with h | h
        ·exact ((hmem _).1 h).2
        ·exact (ihk e.on (by omega) (by omega) h).elim⟩
      rw [hr] at this
      cases this
    obtain ⟨i, hi, hiS⟩ := hex
    exact hmin i i (Nat.le_refl _) hi hiS
   ·obtain ⟨hun, o, ho, hall⟩ := mem_ready.1 hi
    have hin : i < n := by
     rcases Nat.lt_or_ge i n with h | h
     ·exact h
     ·exfalso
      obtain ⟨q, hq, hqS⟩ := hex
      rcases closedB_spec hT h (by simpa using (Array.getElem?_eq_some_iff.1 ho).1) with ⟨rfl, hw⟩ | ⟨hlt, hw⟩
      ·exact hqS (awaits_in (S := S) (fun q hq hwq => by
        obtain ⟨e, he, hb, hon⟩ := hwq o (by simpa using ho)
        have h1 := hall e he hb
        rw [hon] at h1
        exact (hmem q).2 ⟨by omega, h1⟩) hcl _ q (by omega) (hw q (by omega)))
      ·obtain ⟨e, he, hb, hon⟩ := hw o (by simpa using ho)
       have h1 := hall e he hb
       rw [hon, hsz.2 (i - 1) (by omega)] at h1
       cases h1
    have ho' : l[i]? = some o := by rw [← hget i hin]; simpa using ho
    have hil : i < l.length := (List.getElem?_eq_some_iff.1 ho').1
    have hiS : i ∉ S := fun h => by
     have := ((hmem i).1 h).2
     rw [getD_both hun] at this
     cases this
    have hfr := freeB_spec hB ho'
    have hF : Finds l Φ a0 o (putS l vs S a0) w := by
     constructor
     ·intro j d hjd hlook
      have hj : j < l.length := by
       rcases Nat.lt_or_ge j l.length with h | h
       ·exact h
       ·simp [dstOf, List.getElem?_eq_none h] at hjd
      by_cases hji : j = i
      ·subst hji
       have hod : o.dst = some d := by simpa [dstOf, ho'] using hjd
       exact absurd hlook (hfr.own d hod).2
      ·obtain ⟨e, he, hb, hon⟩ := (hfr.apart j d hj hji hjd).2 hlook
       have hjS : j ∈ S := (hmem j).2 ⟨hj, by rw [← hon]; exact hall e he hb⟩
       have hoj : l[j]? = some l[j] := List.getElem?_eq_getElem hj
       have hsize : d < a0.tmps.size := ((freeB_spec hB hoj).own d (by simpa [dstOf, hoj] using hjd)).1
       rw [putS_on hjd S a0 hsize (fun k hk hkd => by
        rcases Classical.em (k = j) with h | h
        ·exact h
        ·exact absurd (by simpa [dstOf, hoj] using hjd) ((freeB_spec hB hoj).apart k d ((hmem k).1 hk).1 h hkd).1) hjS]
       exact hΦ j hjS
     ·intro d hno
      exact putS_off S a0 fun k hk => hno k ((hmem k).1 hk).1
    have hw := hob i o hin (by rw [hget i hin]; exact ho') (putS l vs S a0) w hE hF
    have next : ∀ v w', (Φ i v w' ∧ Ext w w') → wpAny P .any m.toArray Q (f + (m.length - n)) (listed.setIfInBounds i true) ((putS l vs S a0).put o.dst v) w' := by
     rintro v w' ⟨hv, hE'⟩
     have hdo : dstOf l i = o.dst := by simp [dstOf, ho']
     have hvs : (putS l vs S a0).put o.dst v = putS l (fun k => if k = i then v else vs k) (S ++ [i]) a0 := by
      unfold putS
      rw [List.foldl_append]
      simp only [List.foldl_cons, List.foldl_nil, if_true, hdo]
      congr 1
      exact putS_congr S a0 fun k hk => by
       have : k ≠ i := fun e => hiS (e ▸ hk)
       simp [this]
     rw [hvs]
     refine ih (S ++ [i]) _ _ w' (hE.trans hE') ?_ ?_ ⟨by simpa using hsz.1, fun k hk => ?_⟩ (by simp; omega) ?_ ?_
     ·rw [List.nodup_append]
      exact ⟨hd, by simp, fun x hx y hy e => by simp at hy; subst hy; exact hiS (e ▸ hx)⟩
     ·intro k
      simp only [List.mem_append, List.mem_singleton, hmem k]
      by_cases hki : k = i
      ·subst hki
       have := hsz.1
       simp [hil, show k < listed.size by omega]
      ·have : (listed.setIfInBounds i true).getD k false = listed.getD k false := getD_set_ne false (Ne.symm hki)
       rw [this]
       simp [hki]
     ·have : (listed.setIfInBounds i true).getD k false = listed.getD k false := getD_set_ne false (by omega)
      rw [this]
      exact hsz.2 k hk
     ·intro k hk
      by_cases hki : k = i
      ·subst hki; simpa using hv
      ·rw [if_neg hki]
       rcases List.mem_append.1 hk with h | h
       ·exact hmono _ _ _ _ (hΦ k h) hE'
       ·exact absurd (by simpa using h) hki
     ·intro k hk ok hok e he hb hen
      rcases List.mem_append.1 hk with h | h
      ·exact List.mem_append.2 (.inl (hcl k h ok hok e he hb hen))
      ·obtain rfl : k = i := by simpa using h
       obtain rfl : ok = o := Option.some.inj (hok.symm.trans (by simpa using ho))
       exact List.mem_append.2 (.inl ((hmem _).2 ⟨by omega, hall e he hb⟩))
    unfold wpOp
    rw [ho]
    simp only []
    unfold Ran at hw
    split
    ·rename_i hwd
     rw [if_pos hwd] at hw
     refine .inl ?_
     have hw2 : Oper.wp P o (putS l vs S a0) w (fun a' w' => ∃ v, a' = (putS l vs S a0).put o.dst v ∧ Φ i v w' ∧ Ext w w') Q := by
      unfold Oper.wp at hw ⊢
      generalize (execOp (putS l vs S a0).eval o).run P w = r at *
      cases r with
      | ok x w' =>
       cases x <;> simp only [Oper.upon] at hw ⊢
       all_goals first
        | exact hw
        | exact Calls.mono hw (fun e w'' he => by cases e <;> first | exact he | exact (he : False).elim | (obtain ⟨_, _, hh⟩ := he; exact hh.elim))
        | exact Rows.mono hw (fun _ _ he => he)
      | halt x w' => cases x <;> simp only [Oper.upon] at hw
     refine Oper.wp_mono ?_ hw2
     rintro a' w' ⟨v, rfl, hv⟩
     exact next v w' hv
    ·rename_i hwd
     rw [if_neg hwd] at hw
     exact next undef w hw
 have := key n [] (fun _ => undef) (Array.replicate m.toArray.size false) _ ((Ext.refl w0).drew) (by simp) (by
  intro i
  have h0 := getD_replicate_false m.toArray.size i
  simp only [h0]
  simp) ⟨by simp, by
  intro i hi
  exact getD_replicate_false _ _⟩ (by simp; omega) (by simp) (by simp)
 rw [show n + (m.length - n) = m.toArray.size by simp; omega] at this
 exact this
end Go.Proofs.YtfkcbgehcbhjnaaGreatDoor
namespace Go.Proofs.YtfkcbgehcbhjnaaGreatDoor
open Go.RowKit
open Sp (rd)
theorem r_in_any (x lo hi : Int) (w : World) : Calls Tryz.prog 89 #[.int .i64 x, .int .i64 lo, .int .i64 hi] w fun e w' => e = .returned (.bool (Sp.inR x lo hi)) ∧ w = w' := by
 go_enter Tryz.func89, Tryz.ntmps89
 go_wp2
 all_goals
  go_ret
  exact ⟨ret_bool (by simp [Sp.inR, *] <;> omega), rfl⟩
theorem r_Limit_any (n : Int) (w : World) : Calls Tryz.prog 47 #[.int .i64 n] w fun e w' => e = .returned (.bool (Sp.isLimit n)) ∧ w = w' := by
 go_enter Tryz.func47, Tryz.ntmps47
 go_wp2_with (go_at_call 89; refine (r_in_any _ _ _ _).mono ?_; rintro e w' ⟨rfl, rfl⟩)
 go_ret
 exact ⟨rfl, rfl⟩
end Go.Proofs.YtfkcbgehcbhjnaaGreatDoor
namespace Go.Proofs.YtfkcbgehcbhjnaaGreatDoor
open Go.RowKit
open Sp (rd)
end Go.Proofs.YtfkcbgehcbhjnaaGreatDoor
namespace Go.Proofs.YtfkcbgehcbhjnaaGreatDoor
open Go.RowKit
open Sp (rd)
end Go.Proofs.YtfkcbgehcbhjnaaGreatDoor
namespace Go.Proofs.YtfkcbgehcbhjnaaGreatDoor
open Go.RowKit
open Sp (rd)
end Go.Proofs.YtfkcbgehcbhjnaaGreatDoor
namespace Go.Proofs.YtfkcbgehcbhjnaaGreatDoor
open Go.RowKit
open Sp (rd)
set_option maxRecDepth 100000
set_option maxHeartbeats 1000000
theorem e_isEngine_any (p : EP) (e : Ec.Engine) (w : World) (hm : EngAt w p e) (hl : EngShort e) :
  Calls Tryz.prog 94 #[.agg #[.slice p.Ab e.sky.bodies.length p.cb, .int .i64 e.sky.nnum, .int .i64 e.sky.nden, .int .i64 e.sky.nstart, .slice p.As e.sun.length p.cs, .slice p.Am e.moon.length p.cm, .slice p.An e.node.length p.cn, .slice p.Af e.feasts.length p.cf, .int .i64 e.nw, .int .i64 e.fl, .int .i64 e.wide]] w fun r w' => r = .returned (.bool (Ec.engineOk e)) ∧ Ext w w' := by
 obtain ⟨hs3, hs0, hs1, hs2, hs4⟩ := hl
 have HM := Lib.hid hm
 have HE0 : Hid (Ext w ((w.alloc (.cells #[.slice p.Ab e.sky.bodies.length p.cb, .int .i64 e.sky.nnum, .int .i64 e.sky.nden, .int .i64 e.sky.nstart, .slice p.As e.sun.length p.cs, .slice p.Am e.moon.length p.cm, .slice p.An e.node.length p.cn, .slice p.Af e.feasts.length p.cf, .int .i64 e.nw, .int .i64 e.fl, .int .i64 e.wide] 76)).alloc (.cells #[.slice p.As e.sun.length p.cs, .slice p.Am e.moon.length p.cm, .slice p.An e.node.length p.cn] 73))) := Lib.hid (((Ext.refl w).alloc _).alloc _)
 have HX0 : Hid (Row ((w.alloc (.cells #[.slice p.Ab e.sky.bodies.length p.cb, .int .i64 e.sky.nnum, .int .i64 e.sky.nden, .int .i64 e.sky.nstart, .slice p.As e.sun.length p.cs, .slice p.Am e.moon.length p.cm, .slice p.An e.node.length p.cn, .slice p.Af e.feasts.length p.cf, .int .i64 e.nw, .int .i64 e.fl, .int .i64 e.wide] 76)).alloc (.cells #[.slice p.As e.sun.length p.cs, .slice p.Am e.moon.length p.cm, .slice p.An e.node.length p.cn] 73)) w.heap.size 76 #[.slice p.Ab e.sky.bodies.length p.cb, .int .i64 e.sky.nnum, .int .i64 e.sky.nden, .int .i64 e.sky.nstart, .slice p.As e.sun.length p.cs, .slice p.Am e.moon.length p.cm, .slice p.An e.node.length p.cn, .slice p.Af e.feasts.length p.cf, .int .i64 e.nw, .int .i64 e.fl, .int .i64 e.wide]) := Lib.hid ((Row.new w _ _).alloc _)
 have HL0 : Hid (Row ((w.alloc (.cells #[.slice p.Ab e.sky.bodies.length p.cb, .int .i64 e.sky.nnum, .int .i64 e.sky.nden, .int .i64 e.sky.nstart, .slice p.As e.sun.length p.cs, .slice p.Am e.moon.length p.cm, .slice p.An e.node.length p.cn, .slice p.Af e.feasts.length p.cf, .int .i64 e.nw, .int .i64 e.fl, .int .i64 e.wide] 76)).alloc (.cells #[.slice p.As e.sun.length p.cs, .slice p.Am e.moon.length p.cm, .slice p.An e.node.length p.cn] 73)) (w.heap.size + 1) 73 #[.slice p.As e.sun.length p.cs, .slice p.Am e.moon.length p.cm, .slice p.An e.node.length p.cn]) := Lib.hid (by
  have := Row.new (w.alloc (.cells #[.slice p.Ab e.sky.bodies.length p.cb, .int .i64 e.sky.nnum, .int .i64 e.sky.nden, .int .i64 e.sky.nstart, .slice p.As e.sun.length p.cs, .slice p.Am e.moon.length p.cm, .slice p.An e.node.length p.cn, .slice p.Af e.feasts.length p.cf, .int .i64 e.nw, .int .i64 e.fl, .int .i64 e.wide] 76)) 73 #[.slice p.As e.sun.length p.cs, .slice p.Am e.moon.length p.cm, .slice p.An e.node.length p.cn]
  simpa using this)
 clear hm
 cases c0 : Ec.trainOk e.sun
 ·go_enter Tryz.func94, Tryz.ntmps94
  go_wp2_with fail
  refine wp_loop_rounds 4 ?_
  rw [rounds_succ]
  go_wp2_with fail
  refine (t_Turns_err p.As p.cs e.sun _ (HM.out.sun.ext HE0.out) hs0 c0).mono ?_
  rintro r w9 ⟨rfl, hE9⟩
  have HE9 := Lib.hid (HE0.out.trans hE9)
  clear hE9
  go_wp2_with fail
  go_ret
  exact ⟨ret_bool (by simp [Ec.engineOk, c0]), HE9.out.alloc _⟩
 cases c1 : Ec.trainOk e.moon
 ·go_enter Tryz.func94, Tryz.ntmps94
  go_wp2_with fail
  refine wp_loop_rounds 4 ?_
  rw [rounds_succ]
  go_wp2_with fail
  refine (t_Turns_ok p.As p.cs e.sun _ (HM.out.sun.ext HE0.out) hs0 c0).mono ?_
  rintro r v0 ⟨b0, rfl, hE9⟩
  have HE1 := Lib.hid ((HE0.out.trans hE9).alloc (.cells #[.int .i64 (Ec.turnsN e.sun), .int .i64 (Ec.turnsD e.sun)] 169))
  have HX1 := Lib.hid ((HX0.out.ext hE9).alloc (.cells #[.int .i64 (Ec.turnsN e.sun), .int .i64 (Ec.turnsD e.sun)] 169))
  have HL1 := Lib.hid ((HL0.out.ext hE9).alloc (.cells #[.int .i64 (Ec.turnsN e.sun), .int .i64 (Ec.turnsD e.sun)] 169))
  have x0 := (HX0.out.ext hE9).cell
  have l0 := (HL0.out.ext hE9).cell
  have j0 := lts (HX0.out.ext hE9).lt
  have j1 := lts (HL0.out.ext hE9).lt
  clear hE9
  go_wp2_with fail
  rw [rounds_succ]
  go_wp2_with fail
  refine (t_Turns_err p.Am p.cm e.moon _ (HM.out.moon.ext HE1.out) hs1 c1).mono ?_
  rintro r w9 ⟨rfl, hE9⟩
  have HE9 := Lib.hid (HE1.out.trans hE9)
  clear hE9
  go_wp2_with fail
  go_ret
  exact ⟨ret_bool (by simp [Ec.engineOk, c1]), HE9.out.alloc _⟩
 cases c2 : Ec.trainOk e.node
 ·go_enter Tryz.func94, Tryz.ntmps94
  go_wp2_with fail
  refine wp_loop_rounds 4 ?_
  rw [rounds_succ]
  go_wp2_with fail
  refine (t_Turns_ok p.As p.cs e.sun _ (HM.out.sun.ext HE0.out) hs0 c0).mono ?_
  rintro r v0 ⟨b0, rfl, hE9⟩
  have HE1 := Lib.hid ((HE0.out.trans hE9).alloc (.cells #[.int .i64 (Ec.turnsN e.sun), .int .i64 (Ec.turnsD e.sun)] 169))
  have HX1 := Lib.hid ((HX0.out.ext hE9).alloc (.cells #[.int .i64 (Ec.turnsN e.sun), .int .i64 (Ec.turnsD e.sun)] 169))
  have HL1 := Lib.hid ((HL0.out.ext hE9).alloc (.cells #[.int .i64 (Ec.turnsN e.sun), .int .i64 (Ec.turnsD e.sun)] 169))
  have x0 := (HX0.out.ext hE9).cell
  have l0 := (HL0.out.ext hE9).cell
  have j0 := lts (HX0.out.ext hE9).lt
  have j1 := lts (HL0.out.ext hE9).lt
  clear hE9
  go_wp2_with fail
  rw [rounds_succ]
  go_wp2_with fail
  refine (t_Turns_ok p.Am p.cm e.moon _ (HM.out.moon.ext HE1.out) hs1 c1).mono ?_
  rintro r v1 ⟨b1, rfl, hE9⟩
  have HE2 := Lib.hid ((HE1.out.trans hE9).alloc (.cells #[.int .i64 (Ec.turnsN e.moon), .int .i64 (Ec.turnsD e.moon)] 169))
  have HX2 := Lib.hid ((HX1.out.ext hE9).alloc (.cells #[.int .i64 (Ec.turnsN e.moon), .int .i64 (Ec.turnsD e.moon)] 169))
  have HL2 := Lib.hid ((HL1.out.ext hE9).alloc (.cells #[.int .i64 (Ec.turnsN e.moon), .int .i64 (Ec.turnsD e.moon)] 169))
  clear x0 l0 j0 j1
  have x0 := (HX1.out.ext hE9).cell
  have l0 := (HL1.out.ext hE9).cell
  have j0 := lts (HX1.out.ext hE9).lt
  have j1 := lts (HL1.out.ext hE9).lt
  clear hE9
  go_wp2_with fail
  rw [rounds_succ]
  go_wp2_with fail
  refine (t_Turns_err p.An p.cn e.node _ (HM.out.node.ext HE2.out) hs2 c2).mono ?_
  rintro r w9 ⟨rfl, hE9⟩
  have HE9 := Lib.hid (HE2.out.trans hE9)
  clear hE9
  go_wp2_with fail
  go_ret
  exact ⟨ret_bool (by simp [Ec.engineOk, c2]), HE9.out.alloc _⟩
 cases c3 : Sp.skyOk e.sky
 ·go_enter Tryz.func94, Tryz.ntmps94
  go_wp2_with fail
  refine wp_loop_rounds 4 ?_
  rw [rounds_succ]
  go_wp2_with fail
  refine (t_Turns_ok p.As p.cs e.sun _ (HM.out.sun.ext HE0.out) hs0 c0).mono ?_
  rintro r v0 ⟨b0, rfl, hE9⟩
  have HE1 := Lib.hid ((HE0.out.trans hE9).alloc (.cells #[.int .i64 (Ec.turnsN e.sun), .int .i64 (Ec.turnsD e.sun)] 169))
  have HX1 := Lib.hid ((HX0.out.ext hE9).alloc (.cells #[.int .i64 (Ec.turnsN e.sun), .int .i64 (Ec.turnsD e.sun)] 169))
  have HL1 := Lib.hid ((HL0.out.ext hE9).alloc (.cells #[.int .i64 (Ec.turnsN e.sun), .int .i64 (Ec.turnsD e.sun)] 169))
  have x0 := (HX0.out.ext hE9).cell
  have l0 := (HL0.out.ext hE9).cell
  have j0 := lts (HX0.out.ext hE9).lt
  have j1 := lts (HL0.out.ext hE9).lt
  clear hE9
  go_wp2_with fail
  rw [rounds_succ]
  go_wp2_with fail
  refine (t_Turns_ok p.Am p.cm e.moon _ (HM.out.moon.ext HE1.out) hs1 c1).mono ?_
  rintro r v1 ⟨b1, rfl, hE9⟩
  have HE2 := Lib.hid ((HE1.out.trans hE9).alloc (.cells #[.int .i64 (Ec.turnsN e.moon), .int .i64 (Ec.turnsD e.moon)] 169))
  have HX2 := Lib.hid ((HX1.out.ext hE9).alloc (.cells #[.int .i64 (Ec.turnsN e.moon), .int .i64 (Ec.turnsD e.moon)] 169))
  have HL2 := Lib.hid ((HL1.out.ext hE9).alloc (.cells #[.int .i64 (Ec.turnsN e.moon), .int .i64 (Ec.turnsD e.moon)] 169))
  clear x0 l0 j0 j1
  have x0 := (HX1.out.ext hE9).cell
  have l0 := (HL1.out.ext hE9).cell
  have j0 := lts (HX1.out.ext hE9).lt
  have j1 := lts (HL1.out.ext hE9).lt
  clear hE9
  go_wp2_with fail
  rw [rounds_succ]
  go_wp2_with fail
  refine (t_Turns_ok p.An p.cn e.node _ (HM.out.node.ext HE2.out) hs2 c2).mono ?_
  rintro r v2 ⟨b2, rfl, hE9⟩
  have HE3 := Lib.hid ((HE2.out.trans hE9).alloc (.cells #[.int .i64 (Ec.turnsN e.node), .int .i64 (Ec.turnsD e.node)] 169))
  have HX3 := Lib.hid ((HX2.out.ext hE9).alloc (.cells #[.int .i64 (Ec.turnsN e.node), .int .i64 (Ec.turnsD e.node)] 169))
  have HL3 := Lib.hid ((HL2.out.ext hE9).alloc (.cells #[.int .i64 (Ec.turnsN e.node), .int .i64 (Ec.turnsD e.node)] 169))
  clear x0 l0 j0 j1
  have x0 := (HX2.out.ext hE9).cell
  have l0 := (HL2.out.ext hE9).cell
  have j0 := lts (HX2.out.ext hE9).lt
  have j1 := lts (HL2.out.ext hE9).lt
  clear hE9
  go_wp2_with fail
  rw [rounds_succ]
  go_wp2_with fail
  refine (Month_err e.sky p.Ab p.cb _ (HM.out.bodies.ext HE3.out) hs3 c3).mono ?_
  rintro r w9 ⟨rfl, hE9⟩
  have HE9 := Lib.hid (HE3.out.trans hE9)
  have HX9 := Lib.hid (HX3.out.ext hE9)
  clear x0 l0 j0 j1 hE9
  have x0 := HX9.out.cell
  go_wp2_with fail
  go_ret
  exact ⟨ret_bool (by simp [Ec.engineOk, c3]), HE9.out⟩
 cases c4 : Sp.isMonth e.sky
 ·go_enter Tryz.func94, Tryz.ntmps94
  go_wp2_with fail
  refine wp_loop_rounds 4 ?_
  rw [rounds_succ]
  go_wp2_with fail
  refine (t_Turns_ok p.As p.cs e.sun _ (HM.out.sun.ext HE0.out) hs0 c0).mono ?_
  rintro r v0 ⟨b0, rfl, hE9⟩
  have HE1 := Lib.hid ((HE0.out.trans hE9).alloc (.cells #[.int .i64 (Ec.turnsN e.sun), .int .i64 (Ec.turnsD e.sun)] 169))
  have HX1 := Lib.hid ((HX0.out.ext hE9).alloc (.cells #[.int .i64 (Ec.turnsN e.sun), .int .i64 (Ec.turnsD e.sun)] 169))
  have HL1 := Lib.hid ((HL0.out.ext hE9).alloc (.cells #[.int .i64 (Ec.turnsN e.sun), .int .i64 (Ec.turnsD e.sun)] 169))
  have x0 := (HX0.out.ext hE9).cell
  have l0 := (HL0.out.ext hE9).cell
  have j0 := lts (HX0.out.ext hE9).lt
  have j1 := lts (HL0.out.ext hE9).lt
  clear hE9
  go_wp2_with fail
  rw [rounds_succ]
  go_wp2_with fail
  refine (t_Turns_ok p.Am p.cm e.moon _ (HM.out.moon.ext HE1.out) hs1 c1).mono ?_
  rintro r v1 ⟨b1, rfl, hE9⟩
  have HE2 := Lib.hid ((HE1.out.trans hE9).alloc (.cells #[.int .i64 (Ec.turnsN e.moon), .int .i64 (Ec.turnsD e.moon)] 169))
  have HX2 := Lib.hid ((HX1.out.ext hE9).alloc (.cells #[.int .i64 (Ec.turnsN e.moon), .int .i64 (Ec.turnsD e.moon)] 169))
  have HL2 := Lib.hid ((HL1.out.ext hE9).alloc (.cells #[.int .i64 (Ec.turnsN e.moon), .int .i64 (Ec.turnsD e.moon)] 169))
  clear x0 l0 j0 j1
  have x0 := (HX1.out.ext hE9).cell
  have l0 := (HL1.out.ext hE9).cell
  have j0 := lts (HX1.out.ext hE9).lt
  have j1 := lts (HL1.out.ext hE9).lt
  clear hE9
  go_wp2_with fail
  rw [rounds_succ]
  go_wp2_with fail
  refine (t_Turns_ok p.An p.cn e.node _ (HM.out.node.ext HE2.out) hs2 c2).mono ?_
  rintro r v2 ⟨b2, rfl, hE9⟩
  have HE3 := Lib.hid ((HE2.out.trans hE9).alloc (.cells #[.int .i64 (Ec.turnsN e.node), .int .i64 (Ec.turnsD e.node)] 169))
  have HX3 := Lib.hid ((HX2.out.ext hE9).alloc (.cells #[.int .i64 (Ec.turnsN e.node), .int .i64 (Ec.turnsD e.node)] 169))
  have HL3 := Lib.hid ((HL2.out.ext hE9).alloc (.cells #[.int .i64 (Ec.turnsN e.node), .int .i64 (Ec.turnsD e.node)] 169))
  clear x0 l0 j0 j1
  have x0 := (HX2.out.ext hE9).cell
  have l0 := (HL2.out.ext hE9).cell
  have j0 := lts (HX2.out.ext hE9).lt
  have j1 := lts (HL2.out.ext hE9).lt
  clear hE9
  go_wp2_with fail
  rw [rounds_succ]
  go_wp2_with fail
  refine (MonthNo_ok e.sky p.Ab p.cb _ (HM.out.bodies.ext HE3.out) hs3 c4 c3).mono ?_
  rintro r w9 ⟨rfl, hE9⟩
  have HE9 := Lib.hid (HE3.out.trans hE9)
  have HX9 := Lib.hid (HX3.out.ext hE9)
  clear x0 l0 j0 j1 hE9
  have x0 := HX9.out.cell
  go_wp2_with fail
  go_ret
  exact ⟨ret_bool (by simp [Ec.engineOk, c3, c4]), HE9.out⟩
 by_cases c5 : e.feasts.length ≤ 8
 rotate_left
 ·have c5d : decide ((e.feasts.length : Int) ≤ 8) = false := by simp; omega
  go_enter Tryz.func94, Tryz.ntmps94
  go_wp2_with fail
  refine wp_loop_rounds 4 ?_
  rw [rounds_succ]
  go_wp2_with fail
  refine (t_Turns_ok p.As p.cs e.sun _ (HM.out.sun.ext HE0.out) hs0 c0).mono ?_
  rintro r v0 ⟨b0, rfl, hE9⟩
  have HE1 := Lib.hid ((HE0.out.trans hE9).alloc (.cells #[.int .i64 (Ec.turnsN e.sun), .int .i64 (Ec.turnsD e.sun)] 169))
  have HX1 := Lib.hid ((HX0.out.ext hE9).alloc (.cells #[.int .i64 (Ec.turnsN e.sun), .int .i64 (Ec.turnsD e.sun)] 169))
  have HL1 := Lib.hid ((HL0.out.ext hE9).alloc (.cells #[.int .i64 (Ec.turnsN e.sun), .int .i64 (Ec.turnsD e.sun)] 169))
  have x0 := (HX0.out.ext hE9).cell
  have l0 := (HL0.out.ext hE9).cell
  have j0 := lts (HX0.out.ext hE9).lt
  have j1 := lts (HL0.out.ext hE9).lt
  clear hE9
  go_wp2_with fail
  rw [rounds_succ]
  go_wp2_with fail
  refine (t_Turns_ok p.Am p.cm e.moon _ (HM.out.moon.ext HE1.out) hs1 c1).mono ?_
  rintro r v1 ⟨b1, rfl, hE9⟩
  have HE2 := Lib.hid ((HE1.out.trans hE9).alloc (.cells #[.int .i64 (Ec.turnsN e.moon), .int .i64 (Ec.turnsD e.moon)] 169))
  have HX2 := Lib.hid ((HX1.out.ext hE9).alloc (.cells #[.int .i64 (Ec.turnsN e.moon), .int .i64 (Ec.turnsD e.moon)] 169))
  have HL2 := Lib.hid ((HL1.out.ext hE9).alloc (.cells #[.int .i64 (Ec.turnsN e.moon), .int .i64 (Ec.turnsD e.moon)] 169))
  clear x0 l0 j0 j1
  have x0 := (HX1.out.ext hE9).cell
  have l0 := (HL1.out.ext hE9).cell
  have j0 := lts (HX1.out.ext hE9).lt
  have j1 := lts (HL1.out.ext hE9).lt
  clear hE9
  go_wp2_with fail
  rw [rounds_succ]
  go_wp2_with fail
  refine (t_Turns_ok p.An p.cn e.node _ (HM.out.node.ext HE2.out) hs2 c2).mono ?_
  rintro r v2 ⟨b2, rfl, hE9⟩
  have HE3 := Lib.hid ((HE2.out.trans hE9).alloc (.cells #[.int .i64 (Ec.turnsN e.node), .int .i64 (Ec.turnsD e.node)] 169))
  have HX3 := Lib.hid ((HX2.out.ext hE9).alloc (.cells #[.int .i64 (Ec.turnsN e.node), .int .i64 (Ec.turnsD e.node)] 169))
  have HL3 := Lib.hid ((HL2.out.ext hE9).alloc (.cells #[.int .i64 (Ec.turnsN e.node), .int .i64 (Ec.turnsD e.node)] 169))
  clear x0 l0 j0 j1
  have x0 := (HX2.out.ext hE9).cell
  have l0 := (HL2.out.ext hE9).cell
  have j0 := lts (HX2.out.ext hE9).lt
  have j1 := lts (HL2.out.ext hE9).lt
  clear hE9
  go_wp2_with fail
  rw [rounds_succ]
  go_wp2_with fail
  refine (Month_ok e.sky p.Ab p.cb _ (HM.out.bodies.ext HE3.out) hs3 c4 c3).mono ?_
  rintro r w9 ⟨rfl, hE9⟩
  have HE9 := Lib.hid (HE3.out.trans hE9)
  have HX9 := Lib.hid (HX3.out.ext hE9)
  clear x0 l0 j0 j1 hE9
  have x0 := HX9.out.cell
  go_wp2_with fail
  go_ret
  exact ⟨ret_bool (by simp [Ec.engineOk, Ec.feastsOk, c5]), HE9.out⟩
 have c5d : decide ((e.feasts.length : Int) ≤ 8) = true := by simp; omega
 cases c6 : Ec.rising e.feasts 1 10000
 ·go_enter Tryz.func94, Tryz.ntmps94
  go_wp2_with fail
  refine wp_loop_rounds 4 ?_
  rw [rounds_succ]
  go_wp2_with fail
  refine (t_Turns_ok p.As p.cs e.sun _ (HM.out.sun.ext HE0.out) hs0 c0).mono ?_
  rintro r v0 ⟨b0, rfl, hE9⟩
  have HE1 := Lib.hid ((HE0.out.trans hE9).alloc (.cells #[.int .i64 (Ec.turnsN e.sun), .int .i64 (Ec.turnsD e.sun)] 169))
  have HX1 := Lib.hid ((HX0.out.ext hE9).alloc (.cells #[.int .i64 (Ec.turnsN e.sun), .int .i64 (Ec.turnsD e.sun)] 169))
  have HL1 := Lib.hid ((HL0.out.ext hE9).alloc (.cells #[.int .i64 (Ec.turnsN e.sun), .int .i64 (Ec.turnsD e.sun)] 169))
  have x0 := (HX0.out.ext hE9).cell
  have l0 := (HL0.out.ext hE9).cell
  have j0 := lts (HX0.out.ext hE9).lt
  have j1 := lts (HL0.out.ext hE9).lt
  clear hE9
  go_wp2_with fail
  rw [rounds_succ]
  go_wp2_with fail
  refine (t_Turns_ok p.Am p.cm e.moon _ (HM.out.moon.ext HE1.out) hs1 c1).mono ?_
  rintro r v1 ⟨b1, rfl, hE9⟩
  have HE2 := Lib.hid ((HE1.out.trans hE9).alloc (.cells #[.int .i64 (Ec.turnsN e.moon), .int .i64 (Ec.turnsD e.moon)] 169))
  have HX2 := Lib.hid ((HX1.out.ext hE9).alloc (.cells #[.int .i64 (Ec.turnsN e.moon), .int .i64 (Ec.turnsD e.moon)] 169))
  have HL2 := Lib.hid ((HL1.out.ext hE9).alloc (.cells #[.int .i64 (Ec.turnsN e.moon), .int .i64 (Ec.turnsD e.moon)] 169))
  clear x0 l0 j0 j1
  have x0 := (HX1.out.ext hE9).cell
  have l0 := (HL1.out.ext hE9).cell
  have j0 := lts (HX1.out.ext hE9).lt
  have j1 := lts (HL1.out.ext hE9).lt
  clear hE9
  go_wp2_with fail
  rw [rounds_succ]
  go_wp2_with fail
  refine (t_Turns_ok p.An p.cn e.node _ (HM.out.node.ext HE2.out) hs2 c2).mono ?_
  rintro r v2 ⟨b2, rfl, hE9⟩
  have HE3 := Lib.hid ((HE2.out.trans hE9).alloc (.cells #[.int .i64 (Ec.turnsN e.node), .int .i64 (Ec.turnsD e.node)] 169))
  have HX3 := Lib.hid ((HX2.out.ext hE9).alloc (.cells #[.int .i64 (Ec.turnsN e.node), .int .i64 (Ec.turnsD e.node)] 169))
  have HL3 := Lib.hid ((HL2.out.ext hE9).alloc (.cells #[.int .i64 (Ec.turnsN e.node), .int .i64 (Ec.turnsD e.node)] 169))
  clear x0 l0 j0 j1
  have x0 := (HX2.out.ext hE9).cell
  have l0 := (HL2.out.ext hE9).cell
  have j0 := lts (HX2.out.ext hE9).lt
  have j1 := lts (HL2.out.ext hE9).lt
  clear hE9
  go_wp2_with fail
  rw [rounds_succ]
  go_wp2_with fail
  refine (Month_ok e.sky p.Ab p.cb _ (HM.out.bodies.ext HE3.out) hs3 c4 c3).mono ?_
  rintro r w9 ⟨rfl, hE9⟩
  have HE9 := Lib.hid (HE3.out.trans hE9)
  have HX9 := Lib.hid (HX3.out.ext hE9)
  clear x0 l0 j0 j1 hE9
  have x0 := HX9.out.cell
  go_wp2_with fail
  refine (e_rising_any p.Af p.cf e.feasts 1 10000 _ (HM.out.feasts.ext HE9.out) hs4).mono ?_
  rintro r w8 ⟨rfl, rfl⟩
  go_wp2_with fail
  go_ret
  exact ⟨ret_bool (by simp [Ec.engineOk, Ec.feastsOk, c6]), HE9.out⟩
 cases c7 : Sp.isLimit e.nw
 ·go_enter Tryz.func94, Tryz.ntmps94
  go_wp2_with fail
  refine wp_loop_rounds 4 ?_
  rw [rounds_succ]
  go_wp2_with fail
  refine (t_Turns_ok p.As p.cs e.sun _ (HM.out.sun.ext HE0.out) hs0 c0).mono ?_
  rintro r v0 ⟨b0, rfl, hE9⟩
  have HE1 := Lib.hid ((HE0.out.trans hE9).alloc (.cells #[.int .i64 (Ec.turnsN e.sun), .int .i64 (Ec.turnsD e.sun)] 169))
  have HX1 := Lib.hid ((HX0.out.ext hE9).alloc (.cells #[.int .i64 (Ec.turnsN e.sun), .int .i64 (Ec.turnsD e.sun)] 169))
  have HL1 := Lib.hid ((HL0.out.ext hE9).alloc (.cells #[.int .i64 (Ec.turnsN e.sun), .int .i64 (Ec.turnsD e.sun)] 169))
  have x0 := (HX0.out.ext hE9).cell
  have l0 := (HL0.out.ext hE9).cell
  have j0 := lts (HX0.out.ext hE9).lt
  have j1 := lts (HL0.out.ext hE9).lt
  clear hE9
  go_wp2_with fail
  rw [rounds_succ]
  go_wp2_with fail
  refine (t_Turns_ok p.Am p.cm e.moon _ (HM.out.moon.ext HE1.out) hs1 c1).mono ?_
  rintro r v1 ⟨b1, rfl, hE9⟩
  have HE2 := Lib.hid ((HE1.out.trans hE9).alloc (.cells #[.int .i64 (Ec.turnsN e.moon), .int .i64 (Ec.turnsD e.moon)] 169))
  have HX2 := Lib.hid ((HX1.out.ext hE9).alloc (.cells #[.int .i64 (Ec.turnsN e.moon), .int .i64 (Ec.turnsD e.moon)] 169))
  have HL2 := Lib.hid ((HL1.out.ext hE9).alloc (.cells #[.int .i64 (Ec.turnsN e.moon), .int .i64 (Ec.turnsD e.moon)] 169))
  clear x0 l0 j0 j1
  have x0 := (HX1.out.ext hE9).cell
  have l0 := (HL1.out.ext hE9).cell
  have j0 := lts (HX1.out.ext hE9).lt
  have j1 := lts (HL1.out.ext hE9).lt
  clear hE9
  go_wp2_with fail
  rw [rounds_succ]
  go_wp2_with fail
  refine (t_Turns_ok p.An p.cn e.node _ (HM.out.node.ext HE2.out) hs2 c2).mono ?_
  rintro r v2 ⟨b2, rfl, hE9⟩
  have HE3 := Lib.hid ((HE2.out.trans hE9).alloc (.cells #[.int .i64 (Ec.turnsN e.node), .int .i64 (Ec.turnsD e.node)] 169))
  have HX3 := Lib.hid ((HX2.out.ext hE9).alloc (.cells #[.int .i64 (Ec.turnsN e.node), .int .i64 (Ec.turnsD e.node)] 169))
  have HL3 := Lib.hid ((HL2.out.ext hE9).alloc (.cells #[.int .i64 (Ec.turnsN e.node), .int .i64 (Ec.turnsD e.node)] 169))
  clear x0 l0 j0 j1
  have x0 := (HX2.out.ext hE9).cell
  have l0 := (HL2.out.ext hE9).cell
  have j0 := lts (HX2.out.ext hE9).lt
  have j1 := lts (HL2.out.ext hE9).lt
  clear hE9
  go_wp2_with fail
  rw [rounds_succ]
  go_wp2_with fail
  refine (Month_ok e.sky p.Ab p.cb _ (HM.out.bodies.ext HE3.out) hs3 c4 c3).mono ?_
  rintro r w9 ⟨rfl, hE9⟩
  have HE9 := Lib.hid (HE3.out.trans hE9)
  have HX9 := Lib.hid (HX3.out.ext hE9)
  clear x0 l0 j0 j1 hE9
  have x0 := HX9.out.cell
  go_wp2_with fail
  refine (e_rising_any p.Af p.cf e.feasts 1 10000 _ (HM.out.feasts.ext HE9.out) hs4).mono ?_
  rintro r w8 ⟨rfl, rfl⟩
  go_wp2_with fail
  refine (e_isLimit_any e.nw _).mono ?_
  rintro r w8 ⟨rfl, rfl⟩
  go_wp2_with fail
  go_ret
  exact ⟨ret_bool (by simp [Ec.engineOk, c7]), HE9.out⟩
 cases c8 : Sp.isLimit e.fl
 ·go_enter Tryz.func94, Tryz.ntmps94
  go_wp2_with fail
  refine wp_loop_rounds 4 ?_
  rw [rounds_succ]
  go_wp2_with fail
  refine (t_Turns_ok p.As p.cs e.sun _ (HM.out.sun.ext HE0.out) hs0 c0).mono ?_
  rintro r v0 ⟨b0, rfl, hE9⟩
  have HE1 := Lib.hid ((HE0.out.trans hE9).alloc (.cells #[.int .i64 (Ec.turnsN e.sun), .int .i64 (Ec.turnsD e.sun)] 169))
  have HX1 := Lib.hid ((HX0.out.ext hE9).alloc (.cells #[.int .i64 (Ec.turnsN e.sun), .int .i64 (Ec.turnsD e.sun)] 169))
  have HL1 := Lib.hid ((HL0.out.ext hE9).alloc (.cells #[.int .i64 (Ec.turnsN e.sun), .int .i64 (Ec.turnsD e.sun)] 169))
  have x0 := (HX0.out.ext hE9).cell
  have l0 := (HL0.out.ext hE9).cell
  have j0 := lts (HX0.out.ext hE9).lt
  have j1 := lts (HL0.out.ext hE9).lt
  clear hE9
  go_wp2_with fail
  rw [rounds_succ]
  go_wp2_with fail
  refine (t_Turns_ok p.Am p.cm e.moon _ (HM.out.moon.ext HE1.out) hs1 c1).mono ?_
  rintro r v1 ⟨b1, rfl, hE9⟩
  have HE2 := Lib.hid ((HE1.out.trans hE9).alloc (.cells #[.int .i64 (Ec.turnsN e.moon), .int .i64 (Ec.turnsD e.moon)] 169))
  have HX2 := Lib.hid ((HX1.out.ext hE9).alloc (.cells #[.int .i64 (Ec.turnsN e.moon), .int .i64 (Ec.turnsD e.moon)] 169))
  have HL2 := Lib.hid ((HL1.out.ext hE9).alloc (.cells #[.int .i64 (Ec.turnsN e.moon), .int .i64 (Ec.turnsD e.moon)] 169))
  clear x0 l0 j0 j1
  have x0 := (HX1.out.ext hE9).cell
  have l0 := (HL1.out.ext hE9).cell
  have j0 := lts (HX1.out.ext hE9).lt
  have j1 := lts (HL1.out.ext hE9).lt
  clear hE9
  go_wp2_with fail
  rw [rounds_succ]
  go_wp2_with fail
  refine (t_Turns_ok p.An p.cn e.node _ (HM.out.node.ext HE2.out) hs2 c2).mono ?_
  rintro r v2 ⟨b2, rfl, hE9⟩
  have HE3 := Lib.hid ((HE2.out.trans hE9).alloc (.cells #[.int .i64 (Ec.turnsN e.node), .int .i64 (Ec.turnsD e.node)] 169))
  have HX3 := Lib.hid ((HX2.out.ext hE9).alloc (.cells #[.int .i64 (Ec.turnsN e.node), .int .i64 (Ec.turnsD e.node)] 169))
  have HL3 := Lib.hid ((HL2.out.ext hE9).alloc (.cells #[.int .i64 (Ec.turnsN e.node), .int .i64 (Ec.turnsD e.node)] 169))
  clear x0 l0 j0 j1
  have x0 := (HX2.out.ext hE9).cell
  have l0 := (HL2.out.ext hE9).cell
  have j0 := lts (HX2.out.ext hE9).lt
  have j1 := lts (HL2.out.ext hE9).lt
  clear hE9
  go_wp2_with fail
  rw [rounds_succ]
  go_wp2_with fail
  refine (Month_ok e.sky p.Ab p.cb _ (HM.out.bodies.ext HE3.out) hs3 c4 c3).mono ?_
  rintro r w9 ⟨rfl, hE9⟩
  have HE9 := Lib.hid (HE3.out.trans hE9)
  have HX9 := Lib.hid (HX3.out.ext hE9)
  clear x0 l0 j0 j1 hE9
  have x0 := HX9.out.cell
  go_wp2_with fail
  refine (e_rising_any p.Af p.cf e.feasts 1 10000 _ (HM.out.feasts.ext HE9.out) hs4).mono ?_
  rintro r w8 ⟨rfl, rfl⟩
  go_wp2_with fail
  refine (e_isLimit_any e.nw _).mono ?_
  rintro r w8 ⟨rfl, rfl⟩
  go_wp2_with fail
  refine (e_isLimit_any e.fl _).mono ?_
  rintro r w8 ⟨rfl, rfl⟩
  go_wp2_with fail
  go_ret
  exact ⟨ret_bool (by simp [Ec.engineOk, c8]), HE9.out⟩
 cases c9 : Sp.isLimit e.wide
 ·go_enter Tryz.func94, Tryz.ntmps94
  go_wp2_with fail
  refine wp_loop_rounds 4 ?_
  rw [rounds_succ]
  go_wp2_with fail
  refine (t_Turns_ok p.As p.cs e.sun _ (HM.out.sun.ext HE0.out) hs0 c0).mono ?_
  rintro r v0 ⟨b0, rfl, hE9⟩
  have HE1 := Lib.hid ((HE0.out.trans hE9).alloc (.cells #[.int .i64 (Ec.turnsN e.sun), .int .i64 (Ec.turnsD e.sun)] 169))
  have HX1 := Lib.hid ((HX0.out.ext hE9).alloc (.cells #[.int .i64 (Ec.turnsN e.sun), .int .i64 (Ec.turnsD e.sun)] 169))
  have HL1 := Lib.hid ((HL0.out.ext hE9).alloc (.cells #[.int .i64 (Ec.turnsN e.sun), .int .i64 (Ec.turnsD e.sun)] 169))
  have x0 := (HX0.out.ext hE9).cell
  have l0 := (HL0.out.ext hE9).cell
  have j0 := lts (HX0.out.ext hE9).lt
  have j1 := lts (HL0.out.ext hE9).lt
  clear hE9
  go_wp2_with fail
  rw [rounds_succ]
  go_wp2_with fail
  refine (t_Turns_ok p.Am p.cm e.moon _ (HM.out.moon.ext HE1.out) hs1 c1).mono ?_
  rintro r v1 ⟨b1, rfl, hE9⟩
  have HE2 := Lib.hid ((HE1.out.trans hE9).alloc (.cells #[.int .i64 (Ec.turnsN e.moon), .int .i64 (Ec.turnsD e.moon)] 169))
  have HX2 := Lib.hid ((HX1.out.ext hE9).alloc (.cells #[.int .i64 (Ec.turnsN e.moon), .int .i64 (Ec.turnsD e.moon)] 169))
  have HL2 := Lib.hid ((HL1.out.ext hE9).alloc (.cells #[.int .i64 (Ec.turnsN e.moon), .int .i64 (Ec.turnsD e.moon)] 169))
  clear x0 l0 j0 j1
  have x0 := (HX1.out.ext hE9).cell
  have l0 := (HL1.out.ext hE9).cell
  have j0 := lts (HX1.out.ext hE9).lt
  have j1 := lts (HL1.out.ext hE9).lt
  clear hE9
  go_wp2_with fail
  rw [rounds_succ]
  go_wp2_with fail
  refine (t_Turns_ok p.An p.cn e.node _ (HM.out.node.ext HE2.out) hs2 c2).mono ?_
  rintro r v2 ⟨b2, rfl, hE9⟩
  have HE3 := Lib.hid ((HE2.out.trans hE9).alloc (.cells #[.int .i64 (Ec.turnsN e.node), .int .i64 (Ec.turnsD e.node)] 169))
  have HX3 := Lib.hid ((HX2.out.ext hE9).alloc (.cells #[.int .i64 (Ec.turnsN e.node), .int .i64 (Ec.turnsD e.node)] 169))
  have HL3 := Lib.hid ((HL2.out.ext hE9).alloc (.cells #[.int .i64 (Ec.turnsN e.node), .int .i64 (Ec.turnsD e.node)] 169))
  clear x0 l0 j0 j1
  have x0 := (HX2.out.ext hE9).cell
  have l0 := (HL2.out.ext hE9).cell
  have j0 := lts (HX2.out.ext hE9).lt
  have j1 := lts (HL2.out.ext hE9).lt
  clear hE9
  go_wp2_with fail
  rw [rounds_succ]
  go_wp2_with fail
  refine (Month_ok e.sky p.Ab p.cb _ (HM.out.bodies.ext HE3.out) hs3 c4 c3).mono ?_
  rintro r w9 ⟨rfl, hE9⟩
  have HE9 := Lib.hid (HE3.out.trans hE9)
  have HX9 := Lib.hid (HX3.out.ext hE9)
  clear x0 l0 j0 j1 hE9
  have x0 := HX9.out.cell
  go_wp2_with fail
  refine (e_rising_any p.Af p.cf e.feasts 1 10000 _ (HM.out.feasts.ext HE9.out) hs4).mono ?_
  rintro r w8 ⟨rfl, rfl⟩
  go_wp2_with fail
  refine (e_isLimit_any e.nw _).mono ?_
  rintro r w8 ⟨rfl, rfl⟩
  go_wp2_with fail
  refine (e_isLimit_any e.fl _).mono ?_
  rintro r w8 ⟨rfl, rfl⟩
  go_wp2_with fail
  refine (e_isLimit_any e.wide _).mono ?_
  rintro r w8 ⟨rfl, rfl⟩
  go_wp2_with fail
  go_ret
  exact ⟨ret_bool (by simp [Ec.engineOk, c9]), HE9.out⟩
 go_enter Tryz.func94, Tryz.ntmps94
 go_wp2_with fail
 refine wp_loop_rounds 4 ?_
 rw [rounds_succ]
 go_wp2_with fail
 refine (t_Turns_ok p.As p.cs e.sun _ (HM.out.sun.ext HE0.out) hs0 c0).mono ?_
 rintro r v0 ⟨b0, rfl, hE9⟩
 have HE1 := Lib.hid ((HE0.out.trans hE9).alloc (.cells #[.int .i64 (Ec.turnsN e.sun), .int .i64 (Ec.turnsD e.sun)] 169))
 have HX1 := Lib.hid ((HX0.out.ext hE9).alloc (.cells #[.int .i64 (Ec.turnsN e.sun), .int .i64 (Ec.turnsD e.sun)] 169))
 have HL1 := Lib.hid ((HL0.out.ext hE9).alloc (.cells #[.int .i64 (Ec.turnsN e.sun), .int .i64 (Ec.turnsD e.sun)] 169))
 have x0 := (HX0.out.ext hE9).cell
 have l0 := (HL0.out.ext hE9).cell
 have j0 := lts (HX0.out.ext hE9).lt
 have j1 := lts (HL0.out.ext hE9).lt
 clear hE9
 go_wp2_with fail
 rw [rounds_succ]
 go_wp2_with fail
 refine (t_Turns_ok p.Am p.cm e.moon _ (HM.out.moon.ext HE1.out) hs1 c1).mono ?_
 rintro r v1 ⟨b1, rfl, hE9⟩
 have HE2 := Lib.hid ((HE1.out.trans hE9).alloc (.cells #[.int .i64 (Ec.turnsN e.moon), .int .i64 (Ec.turnsD e.moon)] 169))
 have HX2 := Lib.hid ((HX1.out.ext hE9).alloc (.cells #[.int .i64 (Ec.turnsN e.moon), .int .i64 (Ec.turnsD e.moon)] 169))
 have HL2 := Lib.hid ((HL1.out.ext hE9).alloc (.cells #[.int .i64 (Ec.turnsN e.moon), .int .i64 (Ec.turnsD e.moon)] 169))
 clear x0 l0 j0 j1
 have x0 := (HX1.out.ext hE9).cell
 have l0 := (HL1.out.ext hE9).cell
 have j0 := lts (HX1.out.ext hE9).lt
 have j1 := lts (HL1.out.ext hE9).lt
 clear hE9
 go_wp2_with fail
 rw [rounds_succ]
 go_wp2_with fail
 refine (t_Turns_ok p.An p.cn e.node _ (HM.out.node.ext HE2.out) hs2 c2).mono ?_
 rintro r v2 ⟨b2, rfl, hE9⟩
 have HE3 := Lib.hid ((HE2.out.trans hE9).alloc (.cells #[.int .i64 (Ec.turnsN e.node), .int .i64 (Ec.turnsD e.node)] 169))
 have HX3 := Lib.hid ((HX2.out.ext hE9).alloc (.cells #[.int .i64 (Ec.turnsN e.node), .int .i64 (Ec.turnsD e.node)] 169))
 have HL3 := Lib.hid ((HL2.out.ext hE9).alloc (.cells #[.int .i64 (Ec.turnsN e.node), .int .i64 (Ec.turnsD e.node)] 169))
 clear x0 l0 j0 j1
 have x0 := (HX2.out.ext hE9).cell
 have l0 := (HL2.out.ext hE9).cell
 have j0 := lts (HX2.out.ext hE9).lt
 have j1 := lts (HL2.out.ext hE9).lt
 clear hE9
 go_wp2_with fail
 rw [rounds_succ]
 go_wp2_with fail
 refine (Month_ok e.sky p.Ab p.cb _ (HM.out.bodies.ext HE3.out) hs3 c4 c3).mono ?_
 rintro r w9 ⟨rfl, hE9⟩
 have HE9 := Lib.hid (HE3.out.trans hE9)
 have HX9 := Lib.hid (HX3.out.ext hE9)
 clear x0 l0 j0 j1 hE9
 have x0 := HX9.out.cell
 go_wp2_with fail
 refine (e_rising_any p.Af p.cf e.feasts 1 10000 _ (HM.out.feasts.ext HE9.out) hs4).mono ?_
 rintro r w8 ⟨rfl, rfl⟩
 go_wp2_with fail
 refine (e_isLimit_any e.nw _).mono ?_
 rintro r w8 ⟨rfl, rfl⟩
 go_wp2_with fail
 refine (e_isLimit_any e.fl _).mono ?_
 rintro r w8 ⟨rfl, rfl⟩
 go_wp2_with fail
 refine (e_isLimit_any e.wide _).mono ?_
 rintro r w8 ⟨rfl, rfl⟩
 go_wp2_with fail
 go_ret
 exact ⟨ret_bool (by simp [Ec.engineOk, Ec.feastsOk, c0, c1, c2, c3, c4, c5, c6, c7, c8, c9]), HE9.out⟩
theorem e_sun_any (p : EP) (e : Ec.Engine) (set : List Int) (M : Nat) (day : Int) (w : World) (hK : Fine e set) (hm : EngSet w p e set) (h1 : 0 ≤ day) (h2 : day ≤ 9030) :
  Calls Tryz.prog 96 #[.agg #[.slice p.Ab e.sky.bodies.length p.cb, .int .i64 e.sky.nnum, .int .i64 e.sky.nden, .int .i64 e.sky.nstart, .slice p.As e.sun.length p.cs, .slice p.Am e.moon.length p.cm, .slice p.An e.node.length p.cn, .slice p.Af e.feasts.length p.cf, .int .i64 e.nw, .int .i64 e.fl, .int .i64 e.wide, .slice p.At set.length p.ct, .map (some M)], .int .i64 day] w fun r w' => r = .returned (.int .i64 (Ec.sunAt e set day)) ∧ Ext w w' := by
 have hn2 := hK.sky.n2
 have hB := hK.sky.body (i := 0) (by omega) (by omega)
 obtain ⟨k1, k2, k3, k4, k5, k6, k7, _, _, _⟩ := hB
 have hT := (engineOk_parts hK.eng).1.1
 have hs := shown_bounds hT (Sp.body e.sky 0).den (Sp.body e.sky 0).num e.feasts set day k1
 obtain ⟨b, o, hb, hBA⟩ := hm.eng.bodies.at_ (i := 0) (by omega) (by omega)
 obtain ⟨hnum, hden, hstart, A, rc, hroad, _⟩ := hBA
 have hlt := lts (lt_of_cell hnum)
 simp only [Int.reduceToNat, Nat.reduceMul, Nat.add_zero] at hnum hden hstart hroad hlt
 have hFIN : Hid (Ec.sunAt e set day = ((Sp.body e.sky 0).start + Ec.shown e.sun (Sp.body e.sky 0).den (Sp.body e.sky 0).num e.feasts set day) % 21600) := Lib.hid rfl
 have HK := Lib.hid hK
 obtain ⟨Ab, cb, As, cs, Am, cm, An, cn, Af, cf, At, ct⟩ := p
 obtain rfl : Ab = some ⟨b, o, none⟩ := hb
 have HM := Lib.hid hm
 clear hK hm
 rw [hFIN.out]
 dsimp only
 generalize (Sp.body e.sky 0).num = num at *
 generalize (Sp.body e.sky 0).den = den at *
 generalize (Sp.body e.sky 0).start = start at *
 obtain ⟨HS, hHS⟩ : ∃ S, Ec.shown e.sun den num e.feasts set day = S := ⟨_, rfl⟩
 have HSH := Lib.hid hHS
 rw [hHS] at hs ⊢
 clear hHS hFIN
 go_enter Tryz.func96, Tryz.ntmps96
 go_wp2_with fail
 refine wp_region_later (by kernel_rfl) (by kernel_rfl) (fun W hW => ?_)
 have q1 := Later.block (w := W) (by rw [hW]; exact (blocks2 _ _ _).1)
 have q2 := Later.block (w := W) (by rw [hW]; exact (blocks2 _ _ _).2)
 have hE0 : Ext w W := by rw [hW]; exact ((Ext.refl _).alloc _).alloc _
 clear hW hnum hden hstart hroad hlt
 have HB := Lib.hid (fun x : Later W => HM.out.ext (hE0.trans x.ext))
 have HCS := Lib.hid (fun x : Later W => by have := e_shown_any ⟨some ⟨b, o, none⟩, cb, As, cs, Am, cm, An, cn, Af, cf, At, ct⟩ e set M As cs e.sun num den day x.world HK.out (HB.out x) (HB.out x).eng.sun hT (by omega) (by omega) (by omega) (by omega) (by omega) (by omega); rw [HSH.out] at this; exact this)
 repeat (go_big_quiet_step ((first | (go_at_call 119; exact Later.call (HCS.out _)) | (go_at_call 105; exact Later.call ((e_around_any _ _ (by omega) (by omega)).mono fun _ _ ⟨h, h'⟩ => ⟨h, h' ▸ Ext.refl _⟩)))))
 refine wpQuiet_nil ?_
 rintro ⟨W1, hE⟩
 go_wp2
 go_ret
 exact ⟨rfl, hE0.trans hE⟩
theorem e_moon_any (p : EP) (e : Ec.Engine) (set : List Int) (M : Nat) (day : Int) (w : World) (hK : Fine e set) (hm : EngSet w p e set) (h1 : 0 ≤ day) (h2 : day ≤ 9030) :
  Calls Tryz.prog 97 #[.agg #[.slice p.Ab e.sky.bodies.length p.cb, .int .i64 e.sky.nnum, .int .i64 e.sky.nden, .int .i64 e.sky.nstart, .slice p.As e.sun.length p.cs, .slice p.Am e.moon.length p.cm, .slice p.An e.node.length p.cn, .slice p.Af e.feasts.length p.cf, .int .i64 e.nw, .int .i64 e.fl, .int .i64 e.wide, .slice p.At set.length p.ct, .map (some M)], .int .i64 day] w fun r w' => r = .returned (.int .i64 (Ec.moonAt e set day)) ∧ Ext w w' := by
 have hn2 := hK.sky.n2
 have hB := hK.sky.body (i := 1) (by omega) (by omega)
 obtain ⟨k1, k2, k3, k4, k5, k6, k7, _, _, _⟩ := hB
 have hT := (engineOk_parts hK.eng).1.2.1
 have hs := shown_bounds hT (Sp.body e.sky 1).den (Sp.body e.sky 1).num e.feasts set day k1
 obtain ⟨b, o, hb, hBA⟩ := hm.eng.bodies.at_ (i := 1) (by omega) (by omega)
 obtain ⟨hnum, hden, hstart, A, rc, hroad, _⟩ := hBA
 have hlt := lts (lt_of_cell hnum)
 simp only [Int.reduceToNat, Nat.reduceMul] at hnum hden hstart hroad hlt
 have hFIN : Hid (Ec.moonAt e set day = ((Sp.body e.sky 1).start + Ec.shown e.moon (Sp.body e.sky 1).den (Sp.body e.sky 1).num e.feasts set day) % 21600) := Lib.hid rfl
 have HK := Lib.hid hK
 obtain ⟨Ab, cb, As, cs, Am, cm, An, cn, Af, cf, At, ct⟩ := p
 obtain rfl : Ab = some ⟨b, o, none⟩ := hb
 have HM := Lib.hid hm
 clear hK hm
 rw [hFIN.out]
 dsimp only
 generalize (Sp.body e.sky 1).num = num at *
 generalize (Sp.body e.sky 1).den = den at *
 generalize (Sp.body e.sky 1).start = start at *
 obtain ⟨HS, hHS⟩ : ∃ S, Ec.shown e.moon den num e.feasts set day = S := ⟨_, rfl⟩
 have HSH := Lib.hid hHS
 rw [hHS] at hs ⊢
 clear hHS hFIN
 go_enter Tryz.func97, Tryz.ntmps97
 go_wp2_with fail
 refine wp_region_later (by kernel_rfl) (by kernel_rfl) (fun W hW => ?_)
 have q1 := Later.block (w := W) (by rw [hW]; exact (blocks2 _ _ _).1)
 have q2 := Later.block (w := W) (by rw [hW]; exact (blocks2 _ _ _).2)
 have hE0 : Ext w W := by rw [hW]; exact ((Ext.refl _).alloc _).alloc _
 clear hW hnum hden hstart hroad hlt
 have HB := Lib.hid (fun x : Later W => HM.out.ext (hE0.trans x.ext))
 have HCS := Lib.hid (fun x : Later W => by have := e_shown_any ⟨some ⟨b, o, none⟩, cb, As, cs, Am, cm, An, cn, Af, cf, At, ct⟩ e set M Am cm e.moon num den day x.world HK.out (HB.out x) (HB.out x).eng.moon hT (by omega) (by omega) (by omega) (by omega) (by omega) (by omega); rw [HSH.out] at this; exact this)
 repeat (go_big_quiet_step ((first | (go_at_call 119; exact Later.call (HCS.out _)) | (go_at_call 105; exact Later.call ((e_around_any _ _ (by omega) (by omega)).mono fun _ _ ⟨h, h'⟩ => ⟨h, h' ▸ Ext.refl _⟩)))))
 refine wpQuiet_nil ?_
 rintro ⟨W1, hE⟩
 go_wp2
 go_ret
 exact ⟨rfl, hE0.trans hE⟩
theorem e_node_any (p : EP) (e : Ec.Engine) (set : List Int) (M : Nat) (day : Int) (w : World) (hK : Fine e set) (hm : EngSet w p e set) (h1 : 0 ≤ day) (h2 : day ≤ 9030) :
  Calls Tryz.prog 98 #[.agg #[.slice p.Ab e.sky.bodies.length p.cb, .int .i64 e.sky.nnum, .int .i64 e.sky.nden, .int .i64 e.sky.nstart, .slice p.As e.sun.length p.cs, .slice p.Am e.moon.length p.cm, .slice p.An e.node.length p.cn, .slice p.Af e.feasts.length p.cf, .int .i64 e.nw, .int .i64 e.fl, .int .i64 e.wide, .slice p.At set.length p.ct, .map (some M)], .int .i64 day] w fun r w' => r = .returned (.int .i64 (Ec.nodeAt e set day)) ∧ Ext w w' := by
 obtain ⟨_, _, k1, k2, k3, k4, _, k5, k6, _⟩ := hK.sky
 have hT := (engineOk_parts hK.eng).1.2.2
 have hs := shown_bounds hT e.sky.nden e.sky.nnum e.feasts set day k1
 have hFIN : Hid (Ec.nodeAt e set day = (e.sky.nstart - Ec.shown e.node e.sky.nden e.sky.nnum e.feasts set day) % 21600) := Lib.hid rfl
 have HK := Lib.hid hK
 have HM := Lib.hid hm
 clear hK hm
 rw [hFIN.out]
 obtain ⟨HS, hHS⟩ : ∃ S, Ec.shown e.node e.sky.nden e.sky.nnum e.feasts set day = S := ⟨_, rfl⟩
 have HSH := Lib.hid hHS
 rw [hHS] at hs ⊢
 clear hHS hFIN
 go_enter Tryz.func98, Tryz.ntmps98
 go_wp2_with fail
 refine wp_region_later (by kernel_rfl) (by kernel_rfl) (fun W hW => ?_)
 have q1 := Later.block (w := W) (by rw [hW]; exact blocks1 _ _)
 have hE0 : Ext w W := by rw [hW]; exact (Ext.refl _).alloc _
 clear hW
 have HB := Lib.hid (fun x : Later W => HM.out.ext (hE0.trans x.ext))
 have HCS := Lib.hid (fun x : Later W => by have := e_shown_any p e set M p.An p.cn e.node e.sky.nnum e.sky.nden day x.world HK.out (HB.out x) (HB.out x).eng.node hT (by omega) (by omega) (by omega) (by omega) (by omega) (by omega); rw [HSH.out] at this; exact this)
 repeat (go_big_quiet_step ((first | (go_at_call 119; exact Later.call (HCS.out _)) | (go_at_call 105; exact Later.call ((e_around_any _ _ (by omega) (by omega)).mono fun _ _ ⟨h, h'⟩ => ⟨h, h' ▸ Ext.refl _⟩)))))
 refine wpQuiet_nil ?_
 rintro ⟨W1, hE⟩
 go_wp2
 go_ret
 exact ⟨rfl, hE0.trans hE⟩
def handsF (e : Ec.Engine) (set : List Int) (d : Int) : Value := .agg #[.int .i64 (Ec.sunAt e set d), .int .i64 (Ec.moonAt e set d), .int .i64 (Ec.nodeAt e set d)]
abbrev Seen (e : Ec.Engine) (set : List Int) (M : Nat) (w : World) : Prop := Cache Tryz.prog 3 (handsF e set) M w
abbrev Move (e : Ec.Engine) (set : List Int) (M : Nat) (w w' : World) : Prop := Step Tryz.prog 3 (handsF e set) M w w'
theorem und_seen : Tryz.prog.underlying 103 = some (.map 3 63) := Tryz.underlying103
theorem zero_hands (w : World) : (zeroValue 63).run Tryz.prog w = .ok (.agg #[.int .i64 0, .int .i64 0, .int .i64 0]) w := by kernel_rfl
theorem pickF0 (x0 x1 x2 : Value) (w : World) : (Instr.index 141 (.agg #[x0, x1, x2]) (.int .i64 0)).run Tryz.prog w = .ok x0 w := by kernel_rfl
theorem pickF1 (x0 x1 x2 : Value) (w : World) : (Instr.index 141 (.agg #[x0, x1, x2]) (.int .i64 1)).run Tryz.prog w = .ok x1 w := by kernel_rfl
theorem pickF2 (x0 x1 x2 : Value) (w : World) : (Instr.index 141 (.agg #[x0, x1, x2]) (.int .i64 2)).run Tryz.prog w = .ok x2 w := by kernel_rfl
theorem hand_bounds {e : Ec.Engine} {set : List Int} (d : Int) : (0 ≤ Ec.sunAt e set d ∧ Ec.sunAt e set d < 21600) ∧ (0 ≤ Ec.moonAt e set d ∧ Ec.moonAt e set d < 21600) ∧ (0 ≤ Ec.nodeAt e set d ∧ Ec.nodeAt e set d < 21600) :=
 ⟨emod_bounds _ 21600 (by omega), emod_bounds _ 21600 (by omega), emod_bounds _ 21600 (by omega)⟩
theorem e_at_any (p : EP) (e : Ec.Engine) (set : List Int) (M : Nat) (day : Int) (w : World) (hK : Fine e set) (hm : EngSet w p e set) (hc : Seen e set M w) (h1 : 0 ≤ day) (h2 : day ≤ 9030) :
  Calls Tryz.prog 64 #[.agg #[.slice p.Ab e.sky.bodies.length p.cb, .int .i64 e.sky.nnum, .int .i64 e.sky.nden, .int .i64 e.sky.nstart, .slice p.As e.sun.length p.cs, .slice p.Am e.moon.length p.cm, .slice p.An e.node.length p.cn, .slice p.Af e.feasts.length p.cf, .int .i64 e.nw, .int .i64 e.fl, .int .i64 e.wide, .slice p.At set.length p.ct, .map (some M)], .int .i64 day] w fun r w' => r = .returned (.agg #[.int .i64 (Ec.sunAt e set day), .int .i64 (Ec.moonAt e set day), .int .i64 (Ec.nodeAt e set day)]) ∧ Move e set M w w' := by
 have hwf : (Lit.int .i64 day).wf = true := WalkArith.wf_i64 (by omega)
 have hE0 : Ext w ((w.alloc (.cells #[.slice p.Ab e.sky.bodies.length p.cb, .int .i64 e.sky.nnum, .int .i64 e.sky.nden, .int .i64 e.sky.nstart, .slice p.As e.sun.length p.cs, .slice p.Am e.moon.length p.cm, .slice p.An e.node.length p.cn, .slice p.Af e.feasts.length p.cf, .int .i64 e.nw, .int .i64 e.fl, .int .i64 e.wide, .slice p.At set.length p.ct, .map (some M)] 105)).alloc (.cells #[.int .i64 0, .int .i64 0, .int .i64 0] 63)) := ((Ext.refl w).alloc _).alloc _
 have hmf : ∀ (fn : Fn) (first cap : Array Value) (w : World), (Instr.makeFunc fn first cap).run Tryz.prog w = .ok (.func fn first cap) w := fun _ _ _ _ => rfl
 rcases (hc.ext hE0).lookup Tryz.underlying3 und_seen (zero_hands _) hwf with hr | hr
 ·have HK := Lib.hid hK
  have HM := Lib.hid hm
  have HC := Lib.hid hc
  have i0 := pickF0
  have i1 := pickF1
  have i2 := pickF2
  clear hK hm hc hE0
  go_enter Tryz.func64, Tryz.ntmps64
  go_wp2_with fail
  have hE4 : Ext w ((((w.alloc (.cells #[.slice p.Ab e.sky.bodies.length p.cb, .int .i64 e.sky.nnum, .int .i64 e.sky.nden, .int .i64 e.sky.nstart, .slice p.As e.sun.length p.cs, .slice p.Am e.moon.length p.cm, .slice p.An e.node.length p.cn, .slice p.Af e.feasts.length p.cf, .int .i64 e.nw, .int .i64 e.fl, .int .i64 e.wide, .slice p.At set.length p.ct, .map (some M)] 105)).alloc (.cells #[.int .i64 0, .int .i64 0, .int .i64 0] 63)).alloc (.cells #[.int .i64 0, .int .i64 0, .int .i64 0] 63)).alloc (.cells #[.int .i64 0, .int .i64 0, .int .i64 0] 140)) := ((((Ext.refl w).alloc _).alloc _).alloc _).alloc _
  have rX : Row ((((w.alloc (.cells #[.slice p.Ab e.sky.bodies.length p.cb, .int .i64 e.sky.nnum, .int .i64 e.sky.nden, .int .i64 e.sky.nstart, .slice p.As e.sun.length p.cs, .slice p.Am e.moon.length p.cm, .slice p.An e.node.length p.cn, .slice p.Af e.feasts.length p.cf, .int .i64 e.nw, .int .i64 e.fl, .int .i64 e.wide, .slice p.At set.length p.ct, .map (some M)] 105)).alloc (.cells #[.int .i64 0, .int .i64 0, .int .i64 0] 63)).alloc (.cells #[.int .i64 0, .int .i64 0, .int .i64 0] 63)).alloc (.cells #[.int .i64 0, .int .i64 0, .int .i64 0] 140)) w.heap.size 105 #[.slice p.Ab e.sky.bodies.length p.cb, .int .i64 e.sky.nnum, .int .i64 e.sky.nden, .int .i64 e.sky.nstart, .slice p.As e.sun.length p.cs, .slice p.Am e.moon.length p.cm, .slice p.An e.node.length p.cn, .slice p.Af e.feasts.length p.cf, .int .i64 e.nw, .int .i64 e.fl, .int .i64 e.wide, .slice p.At set.length p.ct, .map (some M)] := (((Row.new w _ _).alloc _).alloc _).alloc _
  have rR : Row ((((w.alloc (.cells #[.slice p.Ab e.sky.bodies.length p.cb, .int .i64 e.sky.nnum, .int .i64 e.sky.nden, .int .i64 e.sky.nstart, .slice p.As e.sun.length p.cs, .slice p.Am e.moon.length p.cm, .slice p.An e.node.length p.cn, .slice p.Af e.feasts.length p.cf, .int .i64 e.nw, .int .i64 e.fl, .int .i64 e.wide, .slice p.At set.length p.ct, .map (some M)] 105)).alloc (.cells #[.int .i64 0, .int .i64 0, .int .i64 0] 63)).alloc (.cells #[.int .i64 0, .int .i64 0, .int .i64 0] 63)).alloc (.cells #[.int .i64 0, .int .i64 0, .int .i64 0] 140)) (w.heap.size + 1) 63 #[.int .i64 0, .int .i64 0, .int .i64 0] := by
   have := ((Row.new (w.alloc (.cells #[.slice p.Ab e.sky.bodies.length p.cb, .int .i64 e.sky.nnum, .int .i64 e.sky.nden, .int .i64 e.sky.nstart, .slice p.As e.sun.length p.cs, .slice p.Am e.moon.length p.cm, .slice p.An e.node.length p.cn, .slice p.Af e.feasts.length p.cf, .int .i64 e.nw, .int .i64 e.fl, .int .i64 e.wide, .slice p.At set.length p.ct, .map (some M)] 105)) 63 #[.int .i64 0, .int .i64 0, .int .i64 0]).alloc (.cells #[.int .i64 0, .int .i64 0, .int .i64 0] 63)).alloc (.cells #[.int .i64 0, .int .i64 0, .int .i64 0] 140)
   simpa using this
  have rA : Row ((((w.alloc (.cells #[.slice p.Ab e.sky.bodies.length p.cb, .int .i64 e.sky.nnum, .int .i64 e.sky.nden, .int .i64 e.sky.nstart, .slice p.As e.sun.length p.cs, .slice p.Am e.moon.length p.cm, .slice p.An e.node.length p.cn, .slice p.Af e.feasts.length p.cf, .int .i64 e.nw, .int .i64 e.fl, .int .i64 e.wide, .slice p.At set.length p.ct, .map (some M)] 105)).alloc (.cells #[.int .i64 0, .int .i64 0, .int .i64 0] 63)).alloc (.cells #[.int .i64 0, .int .i64 0, .int .i64 0] 63)).alloc (.cells #[.int .i64 0, .int .i64 0, .int .i64 0] 140)) (w.heap.size + 1 + 1 + 1) 140 #[.int .i64 0, .int .i64 0, .int .i64 0] := by
   have := Row.new (((w.alloc (.cells #[.slice p.Ab e.sky.bodies.length p.cb, .int .i64 e.sky.nnum, .int .i64 e.sky.nden, .int .i64 e.sky.nstart, .slice p.As e.sun.length p.cs, .slice p.Am e.moon.length p.cm, .slice p.An e.node.length p.cn, .slice p.Af e.feasts.length p.cf, .int .i64 e.nw, .int .i64 e.fl, .int .i64 e.wide, .slice p.At set.length p.ct, .map (some M)] 105)).alloc (.cells #[.int .i64 0, .int .i64 0, .int .i64 0] 63)).alloc (.cells #[.int .i64 0, .int .i64 0, .int .i64 0] 63)) 140 #[.int .i64 0, .int .i64 0, .int .i64 0]
   simpa using this
  have HE4 := Lib.hid hE4
  have HX := Lib.hid rX
  have HR := Lib.hid rR
  have HA := Lib.hid rA
  clear hE4 rX rR rA hr
  refine wp_loop_rounds 4 ?_
  rw [rounds_succ]
  go_wp2_with fail
  refine (e_sun_any p e set M day _ HK.out (HM.out.ext HE4.out) h1 h2).mono ?_
  rintro r w1 ⟨rfl, hE⟩
  have HX1 := Lib.hid (HX.out.ext hE)
  have HR1 := Lib.hid (HR.out.ext hE)
  have HA1 := Lib.hid (HA.out.ext hE)
  have HE1 := Lib.hid (HE4.out.trans hE)
  have a0 := HA1.out.cell
  have f0 := HA1.out.free
  clear hE
  go_wp2_with fail
  rw [rounds_succ]
  go_wp2_with fail
  refine (e_moon_any p e set M day _ HK.out (HM.out.ext (HE1.out.setCell (p := ⟨w.heap.size + 1 + 1 + 1, 0, none⟩) (by simp <;> omega) _)) h1 h2).mono ?_
  rintro r w2 ⟨rfl, hE⟩
  have HX2 := Lib.hid ((HX1.out.far (p := ⟨w.heap.size + 1 + 1 + 1, 0, none⟩) (by simp <;> omega) _).ext hE)
  have HR2 := Lib.hid ((HR1.out.far (p := ⟨w.heap.size + 1 + 1 + 1, 0, none⟩) (by simp <;> omega) _).ext hE)
  have HA2 : Hid (Row w2 (w.heap.size + 1 + 1 + 1) 140 #[.int .i64 (Ec.sunAt e set day), .int .i64 0, .int .i64 0]) := Lib.hid ((HA1.out.set_ 0 _).ext hE)
  have HE2 := Lib.hid ((HE1.out.setCell (p := ⟨w.heap.size + 1 + 1 + 1, 0, none⟩) (by simp <;> omega) _).trans hE)
  clear hE a0 f0
  have a0 := HA2.out.cell
  have f0 := HA2.out.free
  go_wp2_with fail
  rw [rounds_succ]
  go_wp2_with fail
  refine (e_node_any p e set M day _ HK.out (HM.out.ext (HE2.out.setCell (p := ⟨w.heap.size + 1 + 1 + 1, 1, none⟩) (by simp <;> omega) _)) h1 h2).mono ?_
  rintro r w3 ⟨rfl, hE⟩
  have HX3 := Lib.hid ((HX2.out.far (p := ⟨w.heap.size + 1 + 1 + 1, 1, none⟩) (by simp <;> omega) _).ext hE)
  have HR3 := Lib.hid ((HR2.out.far (p := ⟨w.heap.size + 1 + 1 + 1, 1, none⟩) (by simp <;> omega) _).ext hE)
  have HA3 : Hid (Row w3 (w.heap.size + 1 + 1 + 1) 140 #[.int .i64 (Ec.sunAt e set day), .int .i64 (Ec.moonAt e set day), .int .i64 0]) := Lib.hid ((HA2.out.set_ 1 _).ext hE)
  have HE3 := Lib.hid ((HE2.out.setCell (p := ⟨w.heap.size + 1 + 1 + 1, 1, none⟩) (by simp <;> omega) _).trans hE)
  clear hE a0 f0
  have a0 := HA3.out.cell
  have f0 := HA3.out.free
  have HX4 := Lib.hid (HX3.out.far (p := ⟨w.heap.size + 1 + 1 + 1, 2, none⟩) (by simp <;> omega) (.int .i64 (Ec.nodeAt e set day)))
  have HR4 := Lib.hid (HR3.out.far (p := ⟨w.heap.size + 1 + 1 + 1, 2, none⟩) (by simp <;> omega) (.int .i64 (Ec.nodeAt e set day)))
  have HE5 := Lib.hid (HE3.out.setCell (p := ⟨w.heap.size + 1 + 1 + 1, 2, none⟩) (by simp <;> omega) (.int .i64 (Ec.nodeAt e set day)))
  have x3 := HX3.out.cell
  have j0 := lts HX3.out.lt
  have j1 := lts HR3.out.lt
  have HH : Hid (Row ((w3.setCell ⟨w.heap.size + 1 + 1 + 1, 2, none⟩ (.int .i64 (Ec.nodeAt e set day))).alloc (.cells #[.int .i64 (Ec.sunAt e set day), .int .i64 (Ec.moonAt e set day), .int .i64 (Ec.nodeAt e set day)] 63)) w3.heap.size 63 #[.int .i64 (Ec.sunAt e set day), .int .i64 (Ec.moonAt e set day), .int .i64 (Ec.nodeAt e set day)]) := Lib.hid (by
   have := Row.new (w3.setCell ⟨w.heap.size + 1 + 1 + 1, 2, none⟩ (.int .i64 (Ec.nodeAt e set day))) 63 #[.int .i64 (Ec.sunAt e set day), .int .i64 (Ec.moonAt e set day), .int .i64 (Ec.nodeAt e set day)]
   simpa using this)
  have HR5 := Lib.hid (HR4.out.alloc (.cells #[.int .i64 (Ec.sunAt e set day), .int .i64 (Ec.moonAt e set day), .int .i64 (Ec.nodeAt e set day)] 63))
  have HE6 := Lib.hid (HE5.out.alloc (.cells #[.int .i64 (Ec.sunAt e set day), .int .i64 (Ec.moonAt e set day), .int .i64 (Ec.nodeAt e set day)] 63))
  go_wp2_with fail
  rw [rounds_succ]
  go_wp2_with (at_mapUpdate; refine wpList_store_cache _ rfl _ _ _ _ rfl _ Tryz.underlying3 und_seen rfl (HC.out.ext HE6.out) day rfl rfl hwf h1 (by omega) ?_; intro w5 hc5 hg5; have HS5 : Hid (Step _ _ _ _ _ w5) := Lib.hid ⟨hg5, hc5⟩; have HH5 := Lib.hid (HS5.out.row (HC.out.ext HE6.out) HH.out); have HR6 := Lib.hid (HS5.out.row (HC.out.ext HE6.out) HR5.out); have hh := HH5.out.cell; have rr := HR6.out.cell; have rf := HR6.out.free; clear hg5 hc5 x3 a0 f0)
  have HF := Lib.hid ((((Step.of_ext HC.out HE6.out).trans HS5.out).setCell HC.out (p := ⟨w.heap.size + 1, 0, none⟩) (Nat.le_succ _) (.int .i64 (Ec.sunAt e set day))).setCell HC.out (p := ⟨w.heap.size + 1, 1, none⟩) (Nat.le_succ _) (.int .i64 (Ec.moonAt e set day)))
  exact bodyPost_ret (v := .agg #[.int .i64 (Ec.sunAt e set day), .int .i64 (Ec.moonAt e set day), .int .i64 (Ec.nodeAt e set day)]) (by simp [results, Tryz.results64, go_sem, rr]) rfl ⟨rfl, HF.out.setCell HC.out (p := ⟨w.heap.size + 1, 2, none⟩) (Nat.le_succ _) _⟩
 ·have HC := Lib.hid hc
  clear hm hE0
  simp only [handsF] at hr
  go_enter Tryz.func64, Tryz.ntmps64
  go_wp2_with fail
  exact bodyPost_ret (v := .agg #[.int .i64 (Ec.sunAt e set day), .int .i64 (Ec.moonAt e set day), .int .i64 (Ec.nodeAt e set day)]) (by simp [results, Tryz.results64, go_sem]) rfl ⟨rfl, Step.of_ext HC.out ((((Ext.refl w).alloc _).alloc _).alloc _)⟩
theorem e_lead_any (p : EP) (e : Ec.Engine) (set : List Int) (M : Nat) (day : Int) (w : World) (hK : Fine e set) (hm : EngSet w p e set) (hc : Seen e set M w) (h1 : 0 ≤ day) (h2 : day ≤ 9030) :
  Calls Tryz.prog 109 #[.agg #[.slice p.Ab e.sky.bodies.length p.cb, .int .i64 e.sky.nnum, .int .i64 e.sky.nden, .int .i64 e.sky.nstart, .slice p.As e.sun.length p.cs, .slice p.Am e.moon.length p.cm, .slice p.An e.node.length p.cn, .slice p.Af e.feasts.length p.cf, .int .i64 e.nw, .int .i64 e.fl, .int .i64 e.wide, .slice p.At set.length p.ct, .map (some M)], .int .i64 day] w fun r w' => r = .returned (.int .i64 (Ec.leadAt e set day)) ∧ Move e set M w w' := by
 obtain ⟨⟨a1, a2⟩, ⟨b1, b2⟩, _⟩ := hand_bounds (e := e) (set := set) day
 have hE0 := (Ext.refl w).alloc (.cells #[.slice p.Ab e.sky.bodies.length p.cb, .int .i64 e.sky.nnum, .int .i64 e.sky.nden, .int .i64 e.sky.nstart, .slice p.As e.sun.length p.cs, .slice p.Am e.moon.length p.cm, .slice p.An e.node.length p.cn, .slice p.Af e.feasts.length p.cf, .int .i64 e.nw, .int .i64 e.fl, .int .i64 e.wide, .slice p.At set.length p.ct, .map (some M)] 105)
 have HK := Lib.hid hK
 have HM := Lib.hid (hm.ext hE0)
 have HC := Lib.hid (hc.ext hE0)
 have HS0 := Lib.hid (Step.of_ext hc hE0)
 clear hK hm hc hE0
 go_enter Tryz.func109, Tryz.ntmps109
 go_wp2_with fail
 refine (e_at_any p e set M day _ HK.out HM.out HC.out h1 h2).mono ?_
 rintro r w1 ⟨rfl, hS⟩
 have HS := Lib.hid (HS0.out.trans hS)
 clear hS
 go_wp2_with fail
 refine (e_around_any _ _ (by omega) (by omega)).mono ?_
 rintro r w2 ⟨rfl, rfl⟩
 go_wp2_with fail
 go_ret
 exact ⟨rfl, HS.out.ext ((Ext.refl _).alloc _)⟩
theorem e_far_any (p : EP) (e : Ec.Engine) (set : List Int) (M : Nat) (day : Int) (w : World) (hK : Fine e set) (hm : EngSet w p e set) (hc : Seen e set M w) (h1 : 0 ≤ day) (h2 : day ≤ 9030) :
  Calls Tryz.prog 76 #[.agg #[.slice p.Ab e.sky.bodies.length p.cb, .int .i64 e.sky.nnum, .int .i64 e.sky.nden, .int .i64 e.sky.nstart, .slice p.As e.sun.length p.cs, .slice p.Am e.moon.length p.cm, .slice p.An e.node.length p.cn, .slice p.Af e.feasts.length p.cf, .int .i64 e.nw, .int .i64 e.fl, .int .i64 e.wide, .slice p.At set.length p.ct, .map (some M)], .int .i64 day] w fun r w' => r = .returned (.int .i64 (Ec.farAt e set day)) ∧ Move e set M w w' := by
 obtain ⟨_, ⟨b1, b2⟩, c1, c2⟩ := hand_bounds (e := e) (set := set) day
 have hE0 := (Ext.refl w).alloc (.cells #[.slice p.Ab e.sky.bodies.length p.cb, .int .i64 e.sky.nnum, .int .i64 e.sky.nden, .int .i64 e.sky.nstart, .slice p.As e.sun.length p.cs, .slice p.Am e.moon.length p.cm, .slice p.An e.node.length p.cn, .slice p.Af e.feasts.length p.cf, .int .i64 e.nw, .int .i64 e.fl, .int .i64 e.wide, .slice p.At set.length p.ct, .map (some M)] 105)
 have HK := Lib.hid hK
 have HM := Lib.hid (hm.ext hE0)
 have HC := Lib.hid (hc.ext hE0)
 have HS0 := Lib.hid (Step.of_ext hc hE0)
 have m1 := emod_bounds (Ec.moonAt e set day - Ec.nodeAt e set day) 21600 (by omega)
 have m2 := emod_bounds ((Ec.moonAt e set day - Ec.nodeAt e set day) % 21600) 10800 (by omega)
 clear hK hm hc hE0
 go_enter Tryz.func76, Tryz.ntmps76
 go_wp2_with fail
 refine (e_at_any p e set M day _ HK.out HM.out HC.out h1 h2).mono ?_
 rintro r w1 ⟨rfl, hS⟩
 have HS := Lib.hid (HS0.out.trans hS)
 clear hS
 go_wp2_with fail
 refine (e_around_any _ _ (by omega) (by omega)).mono ?_
 rintro r w2 ⟨rfl, rfl⟩
 go_wp2_with fail
 all_goals
  go_ret
  exact ⟨ret_int (by unfold Ec.farAt; dsimp only; omega), HS.out.ext ((Ext.refl _).alloc _)⟩
theorem far_bounds (e : Ec.Engine) (set : List Int) (d : Int) : 0 ≤ Ec.farAt e set d ∧ Ec.farAt e set d ≤ 5400 := by
 have m2 := emod_bounds ((Ec.moonAt e set d - Ec.nodeAt e set d) % 21600) 10800 (by omega)
 unfold Ec.farAt
 dsimp only
 omega
theorem lead_bounds (e : Ec.Engine) (set : List Int) (d : Int) : 0 ≤ Ec.leadAt e set d ∧ Ec.leadAt e set d < 21600 := emod_bounds _ 21600 (by omega)
theorem near_bounds (n : Int) : -10800 ≤ Ec.near n ∧ Ec.near n < 10800 := by
 unfold Ec.near
 omega
theorem ta_e_new (w : World) : (Instr.typeAssert (.iface 151 (.agg #[])) 121 152 true).run Tryz.prog w = .ok (.tuple #[.agg #[], .bool false]) w := by kernel_rfl
theorem ta_e_full (w : World) : (Instr.typeAssert (.iface 152 (.agg #[])) 121 152 true).run Tryz.prog w = .ok (.tuple #[.agg #[], .bool true]) w := by kernel_rfl
theorem e_new_full (w : World) : Calls Tryz.prog 211 #[.agg #[]] w fun e w' => e = .returned (.bool false) ∧ Ext w w' := by
 go_enter Tryz.func211, Tryz.ntmps211
 go_wp2_with fail
 go_ret
 exact ⟨rfl, (Ext.refl _).alloc _⟩
theorem e_full_full (w : World) : Calls Tryz.prog 212 #[.agg #[]] w fun e w' => e = .returned (.bool true) ∧ Ext w w' := by
 go_enter Tryz.func212, Tryz.ntmps212
 go_wp2_with fail
 go_ret
 exact ⟨rfl, (Ext.refl _).alloc _⟩
theorem e_has_false (p : EP) (e : Ec.Engine) (set : List Int) (M : Nat) (day : Int) (w : World) (hK : Fine e set) (hm : EngSet w p e set) (hc : Seen e set M w) (h1 : 1 ≤ day) (h2 : day ≤ 9030) :
  Calls Tryz.prog 75 #[.agg #[.slice p.Ab e.sky.bodies.length p.cb, .int .i64 e.sky.nnum, .int .i64 e.sky.nden, .int .i64 e.sky.nstart, .slice p.As e.sun.length p.cs, .slice p.Am e.moon.length p.cm, .slice p.An e.node.length p.cn, .slice p.Af e.feasts.length p.cf, .int .i64 e.nw, .int .i64 e.fl, .int .i64 e.wide, .slice p.At set.length p.ct, .map (some M)], .iface 151 (.agg #[]), .int .i64 day] w fun r w' => r = .returned (.bool (Ec.hasB e set day false)) ∧ Move e set M w w' := by
 obtain ⟨a1, a2⟩ := lead_bounds e set (day - 1)
 obtain ⟨b1, b2⟩ := lead_bounds e set day
 have hE0 := (Ext.refl w).alloc (.cells #[.slice p.Ab e.sky.bodies.length p.cb, .int .i64 e.sky.nnum, .int .i64 e.sky.nden, .int .i64 e.sky.nstart, .slice p.As e.sun.length p.cs, .slice p.Am e.moon.length p.cm, .slice p.An e.node.length p.cn, .slice p.Af e.feasts.length p.cf, .int .i64 e.nw, .int .i64 e.fl, .int .i64 e.wide, .slice p.At set.length p.ct, .map (some M)] 105)
 have HFIN : Hid (Ec.hasB e set day false = Ec.crossB (Ec.leadAt e set (day - 1)) (Ec.leadAt e set day) false) := Lib.hid rfl
 have HK := Lib.hid hK
 have HM := Lib.hid (hm.ext hE0)
 have HC := Lib.hid (hc.ext hE0)
 have HS0 := Lib.hid (Step.of_ext hc hE0)
 have HR0 := Lib.hid (Row.new w 105 #[.slice p.Ab e.sky.bodies.length p.cb, .int .i64 e.sky.nnum, .int .i64 e.sky.nden, .int .i64 e.sky.nstart, .slice p.As e.sun.length p.cs, .slice p.Am e.moon.length p.cm, .slice p.An e.node.length p.cn, .slice p.Af e.feasts.length p.cf, .int .i64 e.nw, .int .i64 e.fl, .int .i64 e.wide, .slice p.At set.length p.ct, .map (some M)])
 have tT := ta_e_new
 clear hK hm hc hE0
 obtain ⟨L0, hL0⟩ : ∃ L0, Ec.leadAt e set (day - 1) = L0 := ⟨_, rfl⟩
 obtain ⟨L1, hL1⟩ : ∃ L1, Ec.leadAt e set day = L1 := ⟨_, rfl⟩
 rw [hL0] at a1 a2 HFIN
 rw [hL1] at b1 b2 HFIN
 have H0 := Lib.hid hL0
 have H1 := Lib.hid hL1
 clear hL0 hL1
 obtain ⟨G, hG⟩ : ∃ G, Ec.near (L1 - L0) = G := ⟨_, rfl⟩
 have HG := Lib.hid hG
 have n := near_bounds (L1 - L0)
 have HX : Hid (Ec.crossB L0 L1 false = (decide (0 < G) && decide (21600 ≤ L0 + G))) := Lib.hid (by
  unfold Ec.crossB
  rw [hG]
  simp only [Sp.halfOf, Bool.false_eq_true, if_false, Int.sub_zero, Int.emod_eq_of_lt a1 a2])
 rw [hG] at n
 obtain ⟨n1, n2⟩ := n
 clear hG
 skip
 by_cases hg : 0 < G
 all_goals
  have HGD := Lib.hid hg
  go_enter Tryz.func75, Tryz.ntmps75
  go_wp2_with fail
  refine (e_lead_any p e set M (day - 1) _ HK.out HM.out HC.out (by omega) (by omega)).mono ?_
  rintro r w1 ⟨rfl, hS⟩
  rw [H0.out]
  have HM1 := Lib.hid (HM.out.stay (hS.stays HC.out))
  have HC1 := Lib.hid hS.cache
  have HS1 := Lib.hid (HS0.out.trans hS)
  have hr := hS.row HC.out HR0.out
  have b0 := hr.cell
  clear hS
  go_wp2_with fail
  refine (e_lead_any p e set M day _ HK.out HM1.out HC1.out (by omega) (by omega)).mono ?_
  rintro r w2 ⟨rfl, hS⟩
  rw [H1.out]
  have HS2 := Lib.hid (HS1.out.trans hS)
  clear hS b0 hr
  go_wp2_with fail
  refine (e_signed_any _ _ (by omega) (by omega)).mono ?_
  rintro r w3 ⟨rfl, rfl⟩
  rw [HG.out]
  go_wp2_with fail
  go_ret
  exact ⟨ret_bool (by rw [HFIN.out, HX.out]; have h9 := HGD.out; first | (simp [h9]; done) | (simp; omega)), HS2.out⟩
theorem e_has_true (p : EP) (e : Ec.Engine) (set : List Int) (M : Nat) (day : Int) (w : World) (hK : Fine e set) (hm : EngSet w p e set) (hc : Seen e set M w) (h1 : 1 ≤ day) (h2 : day ≤ 9030) :
  Calls Tryz.prog 75 #[.agg #[.slice p.Ab e.sky.bodies.length p.cb, .int .i64 e.sky.nnum, .int .i64 e.sky.nden, .int .i64 e.sky.nstart, .slice p.As e.sun.length p.cs, .slice p.Am e.moon.length p.cm, .slice p.An e.node.length p.cn, .slice p.Af e.feasts.length p.cf, .int .i64 e.nw, .int .i64 e.fl, .int .i64 e.wide, .slice p.At set.length p.ct, .map (some M)], .iface 152 (.agg #[]), .int .i64 day] w fun r w' => r = .returned (.bool (Ec.hasB e set day true)) ∧ Move e set M w w' := by
 obtain ⟨a1, a2⟩ := lead_bounds e set (day - 1)
 obtain ⟨b1, b2⟩ := lead_bounds e set day
 have hE0 := (Ext.refl w).alloc (.cells #[.slice p.Ab e.sky.bodies.length p.cb, .int .i64 e.sky.nnum, .int .i64 e.sky.nden, .int .i64 e.sky.nstart, .slice p.As e.sun.length p.cs, .slice p.Am e.moon.length p.cm, .slice p.An e.node.length p.cn, .slice p.Af e.feasts.length p.cf, .int .i64 e.nw, .int .i64 e.fl, .int .i64 e.wide, .slice p.At set.length p.ct, .map (some M)] 105)
 have HFIN : Hid (Ec.hasB e set day true = Ec.crossB (Ec.leadAt e set (day - 1)) (Ec.leadAt e set day) true) := Lib.hid rfl
 have HK := Lib.hid hK
 have HM := Lib.hid (hm.ext hE0)
 have HC := Lib.hid (hc.ext hE0)
 have HS0 := Lib.hid (Step.of_ext hc hE0)
 have HR0 := Lib.hid (Row.new w 105 #[.slice p.Ab e.sky.bodies.length p.cb, .int .i64 e.sky.nnum, .int .i64 e.sky.nden, .int .i64 e.sky.nstart, .slice p.As e.sun.length p.cs, .slice p.Am e.moon.length p.cm, .slice p.An e.node.length p.cn, .slice p.Af e.feasts.length p.cf, .int .i64 e.nw, .int .i64 e.fl, .int .i64 e.wide, .slice p.At set.length p.ct, .map (some M)])
 have tT := ta_e_full
 clear hK hm hc hE0
 obtain ⟨L0, hL0⟩ : ∃ L0, Ec.leadAt e set (day - 1) = L0 := ⟨_, rfl⟩
 obtain ⟨L1, hL1⟩ : ∃ L1, Ec.leadAt e set day = L1 := ⟨_, rfl⟩
 rw [hL0] at a1 a2 HFIN
 rw [hL1] at b1 b2 HFIN
 have H0 := Lib.hid hL0
 have H1 := Lib.hid hL1
 clear hL0 hL1
 obtain ⟨G, hG⟩ : ∃ G, Ec.near (L1 - L0) = G := ⟨_, rfl⟩
 have HG := Lib.hid hG
 have n := near_bounds (L1 - L0)
 have HX : Hid (Ec.crossB L0 L1 true = (decide (0 < G) && decide (21600 ≤ (L0 - 10800) % 21600 + G))) := Lib.hid (by
  unfold Ec.crossB
  rw [hG]
  simp only [Sp.halfOf, if_true])
 rw [hG] at n
 obtain ⟨n1, n2⟩ := n
 clear hG
 have m1 := emod_bounds (L0 - 10800) 21600 (by omega)
 by_cases hg : 0 < G
 all_goals
  have HGD := Lib.hid hg
  go_enter Tryz.func75, Tryz.ntmps75
  go_wp2_with fail
  refine (e_lead_any p e set M (day - 1) _ HK.out HM.out HC.out (by omega) (by omega)).mono ?_
  rintro r w1 ⟨rfl, hS⟩
  rw [H0.out]
  have HM1 := Lib.hid (HM.out.stay (hS.stays HC.out))
  have HC1 := Lib.hid hS.cache
  have HS1 := Lib.hid (HS0.out.trans hS)
  have hr := hS.row HC.out HR0.out
  have b0 := hr.cell
  clear hS
  go_wp2_with fail
  refine (e_lead_any p e set M day _ HK.out HM1.out HC1.out (by omega) (by omega)).mono ?_
  rintro r w2 ⟨rfl, hS⟩
  rw [H1.out]
  have HS2 := Lib.hid (HS1.out.trans hS)
  clear hS b0 hr
  go_wp2_with fail
  refine (e_signed_any _ _ (by omega) (by omega)).mono ?_
  rintro r w3 ⟨rfl, rfl⟩
  rw [HG.out]
  go_wp2_with fail
  refine (e_around_any _ _ (by omega) (by omega)).mono ?_
  rintro r w3 ⟨rfl, rfl⟩
  go_wp2_with fail
  go_ret
  exact ⟨ret_bool (by rw [HFIN.out, HX.out]; have h9 := HGD.out; first | (simp [h9]; done) | (simp; omega)), HS2.out⟩
theorem e_limit_false (p : EP) (e : Ec.Engine) (set : List Int) (M : Nat) (w : World) :
  Calls Tryz.prog 77 #[.agg #[.slice p.Ab e.sky.bodies.length p.cb, .int .i64 e.sky.nnum, .int .i64 e.sky.nden, .int .i64 e.sky.nstart, .slice p.As e.sun.length p.cs, .slice p.Am e.moon.length p.cm, .slice p.An e.node.length p.cn, .slice p.Af e.feasts.length p.cf, .int .i64 e.nw, .int .i64 e.fl, .int .i64 e.wide, .slice p.At set.length p.ct, .map (some M)], .iface 151 (.agg #[])] w fun r w' => r = .returned (.int .i64 (Ec.limitOf e false)) ∧ Ext w w' := by
 have hn : ∀ w, (nilAhead 357 151 (.agg #[]) "tellurion/eclipse.full").run Tryz.prog w = .ok (some false) w := fun _ => by kernel_rfl
 have hn' : ∀ w, (method 357 151 (.agg #[]) "tellurion/eclipse.full").run Tryz.prog w = .ok (211, .agg #[]) w := fun _ => by kernel_rfl
 go_enter Tryz.func77, Tryz.ntmps77
 go_wp2_with fail
 refine (e_new_full _).mono ?_
 rintro r w1 ⟨rfl, hE⟩
 have hb := ((Row.new w 105 #[.slice p.Ab e.sky.bodies.length p.cb, .int .i64 e.sky.nnum, .int .i64 e.sky.nden, .int .i64 e.sky.nstart, .slice p.As e.sun.length p.cs, .slice p.Am e.moon.length p.cm, .slice p.An e.node.length p.cn, .slice p.Af e.feasts.length p.cf, .int .i64 e.nw, .int .i64 e.fl, .int .i64 e.wide, .slice p.At set.length p.ct, .map (some M)]).ext hE).cell
 replace hE := ((Ext.refl w).alloc _).trans hE
 go_wp2_with fail
 go_ret
 exact ⟨rfl, hE⟩
theorem e_limit_true (p : EP) (e : Ec.Engine) (set : List Int) (M : Nat) (w : World) :
  Calls Tryz.prog 77 #[.agg #[.slice p.Ab e.sky.bodies.length p.cb, .int .i64 e.sky.nnum, .int .i64 e.sky.nden, .int .i64 e.sky.nstart, .slice p.As e.sun.length p.cs, .slice p.Am e.moon.length p.cm, .slice p.An e.node.length p.cn, .slice p.Af e.feasts.length p.cf, .int .i64 e.nw, .int .i64 e.fl, .int .i64 e.wide, .slice p.At set.length p.ct, .map (some M)], .iface 152 (.agg #[])] w fun r w' => r = .returned (.int .i64 (Ec.limitOf e true)) ∧ Ext w w' := by
 have hn : ∀ w, (nilAhead 357 152 (.agg #[]) "tellurion/eclipse.full").run Tryz.prog w = .ok (some false) w := fun _ => by kernel_rfl
 have hn' : ∀ w, (method 357 152 (.agg #[]) "tellurion/eclipse.full").run Tryz.prog w = .ok (212, .agg #[]) w := fun _ => by kernel_rfl
 go_enter Tryz.func77, Tryz.ntmps77
 go_wp2_with fail
 refine (e_full_full _).mono ?_
 rintro r w1 ⟨rfl, hE⟩
 have hb := ((Row.new w 105 #[.slice p.Ab e.sky.bodies.length p.cb, .int .i64 e.sky.nnum, .int .i64 e.sky.nden, .int .i64 e.sky.nstart, .slice p.As e.sun.length p.cs, .slice p.Am e.moon.length p.cm, .slice p.An e.node.length p.cn, .slice p.Af e.feasts.length p.cf, .int .i64 e.nw, .int .i64 e.fl, .int .i64 e.wide, .slice p.At set.length p.ct, .map (some M)]).ext hE).cell
 replace hE := ((Ext.refl w).alloc _).trans hE
 go_wp2_with fail
 go_ret
 exact ⟨rfl, hE⟩
end Go.Proofs.YtfkcbgehcbhjnaaGreatDoor
namespace Go.Proofs.YtfkcbgehcbhjnaaGreatDoor
open Go.RowKit
def setsAt (W : World) (g : Nat) : Nat → List Value → World
 | _, [] => W
 | i, v :: vs => setsAt (W.setCell ⟨g, i, none⟩ v) g (i + 1) vs
theorem Row.sets_ {g : Nat} {t : TypeId} : ∀ (vs pre rest : List Value) (W : World), Row W g t (pre ++ rest).toArray → rest.length = vs.length → Row (setsAt W g pre.length vs) g t (pre ++ vs).toArray
 | [], pre, rest, W, h, hl => by
  obtain rfl : rest = [] := List.eq_nil_of_length_eq_zero (by simpa using hl)
  exact h
 | _ :: _, _, [], _, _, hl => by simp at hl
 | v :: vs, pre, x :: rest, W, h, hl => by
  have h1 := h.set_ pre.length v
  have h2 : ((pre ++ x :: rest).toArray.setIfInBounds pre.length v) = ((pre ++ [v]) ++ rest).toArray := by simp
  rw [h2] at h1
  have := Row.sets_ vs (pre ++ [v]) rest _ h1 (by simpa using hl)
  simp only [List.length_append, List.length_cons, List.length_nil, List.append_assoc, List.cons_append, List.nil_append] at this
  exact this
theorem Row.sets {g : Nat} {t : TypeId} {W : World} {cs : List Value} (h : Row W g t cs.toArray) (vs : List Value) (hl : cs.length = vs.length) : Row (setsAt W g 0 vs) g t vs.toArray := Row.sets_ vs [] cs W h hl
theorem Ext.sets {w : World} {g : Nat} (hg : w.heap.size ≤ g) : ∀ (vs : List Value) (i : Nat) (W : World), Ext w W → Ext w (setsAt W g i vs)
 | [], _, _, h => h
 | v :: vs, i, _, h => Ext.sets hg vs (i + 1) _ (h.setCell (p := ⟨g, i, none⟩) hg v)
theorem Cache.sets {P : Program} {kt : TypeId} {f : Int → Value} {M g : Nat} (hg : g ≠ M) : ∀ (vs : List Value) (i : Nat) (W : World), Cache P kt f M W → Cache P kt f M (setsAt W g i vs)
 | [], _, _, h => h
 | v :: vs, i, _, h => Cache.sets hg vs (i + 1) _ (h.far ⟨g, i, none⟩ v hg)
end Go.Proofs.YtfkcbgehcbhjnaaGreatDoor
namespace Go.Proofs.YtfkcbgehcbhjnaaGreatDoor
open Go.RowKit
open Sp (rd)
set_option maxRecDepth 100000
set_option maxHeartbeats 1000000
def zeroEng : Array Value := #[.slice none 0 0, .int .i64 0, .int .i64 0, .int .i64 0, .slice none 0 0, .slice none 0 0, .slice none 0 0, .slice none 0 0, .int .i64 0, .int .i64 0, .int .i64 0, .slice none 0 0, .map none]
def AskPost (p : EP) (e : Ec.Engine) (set : List Int) (w : World) (r : Ending) (w' : World) : Prop :=
 ∃ M, r = .returned (.tuple #[.agg #[.slice p.Ab e.sky.bodies.length p.cb, .int .i64 e.sky.nnum, .int .i64 e.sky.nden, .int .i64 e.sky.nstart, .slice p.As e.sun.length p.cs, .slice p.Am e.moon.length p.cm, .slice p.An e.node.length p.cn, .slice p.Af e.feasts.length p.cf, .int .i64 e.nw, .int .i64 e.fl, .int .i64 e.wide, .slice p.At set.length p.ct, .map (some M)], .int .i64 0]) ∧ w.heap.size ≤ M ∧ Seen e set M w' ∧ Ext w w'
theorem e_asked_ok (p : EP) (e : Ec.Engine) (set : List Int) (w : World) (hm : EngSet w p e set) (hl : EngShort e) (hs : set.length ≤ 100000) (c0 : Ec.engineOk e = true) (c1 : Ec.setOk e.feasts set = true) :
  Calls Tryz.prog 62 #[.agg #[.slice p.Ab e.sky.bodies.length p.cb, .int .i64 e.sky.nnum, .int .i64 e.sky.nden, .int .i64 e.sky.nstart, .slice p.As e.sun.length p.cs, .slice p.Am e.moon.length p.cm, .slice p.An e.node.length p.cn, .slice p.Af e.feasts.length p.cf, .int .i64 e.nw, .int .i64 e.fl, .int .i64 e.wide], .slice p.At set.length p.ct, .bool true] w (AskPost p e set w) := by
 have HM := Lib.hid hm
 have HL := Lib.hid hl
 have hf := hl.feasts
 have c1' : Ec.rising set 0 ((e.feasts.length : Int) - 1) = true := c1
 have HR0 : Hid (Row ((w.alloc (.cells #[.slice p.Ab e.sky.bodies.length p.cb, .int .i64 e.sky.nnum, .int .i64 e.sky.nden, .int .i64 e.sky.nstart, .slice p.As e.sun.length p.cs, .slice p.Am e.moon.length p.cm, .slice p.An e.node.length p.cn, .slice p.Af e.feasts.length p.cf, .int .i64 e.nw, .int .i64 e.fl, .int .i64 e.wide] 76)).alloc (.cells #[.slice none 0 0, .int .i64 0, .int .i64 0, .int .i64 0, .slice none 0 0, .slice none 0 0, .slice none 0 0, .slice none 0 0, .int .i64 0, .int .i64 0, .int .i64 0, .slice none 0 0, .map none] 105)) w.heap.size 76 #[.slice p.Ab e.sky.bodies.length p.cb, .int .i64 e.sky.nnum, .int .i64 e.sky.nden, .int .i64 e.sky.nstart, .slice p.As e.sun.length p.cs, .slice p.Am e.moon.length p.cm, .slice p.An e.node.length p.cn, .slice p.Af e.feasts.length p.cf, .int .i64 e.nw, .int .i64 e.fl, .int .i64 e.wide]) := Lib.hid ((Row.new w _ _).alloc _)
 have HR1 : Hid (Row ((w.alloc (.cells #[.slice p.Ab e.sky.bodies.length p.cb, .int .i64 e.sky.nnum, .int .i64 e.sky.nden, .int .i64 e.sky.nstart, .slice p.As e.sun.length p.cs, .slice p.Am e.moon.length p.cm, .slice p.An e.node.length p.cn, .slice p.Af e.feasts.length p.cf, .int .i64 e.nw, .int .i64 e.fl, .int .i64 e.wide] 76)).alloc (.cells #[.slice none 0 0, .int .i64 0, .int .i64 0, .int .i64 0, .slice none 0 0, .slice none 0 0, .slice none 0 0, .slice none 0 0, .int .i64 0, .int .i64 0, .int .i64 0, .slice none 0 0, .map none] 105)) (w.heap.size + 1) 105 #[.slice none 0 0, .int .i64 0, .int .i64 0, .int .i64 0, .slice none 0 0, .slice none 0 0, .slice none 0 0, .slice none 0 0, .int .i64 0, .int .i64 0, .int .i64 0, .slice none 0 0, .map none]) := Lib.hid (by
  have := Row.new (w.alloc (.cells #[.slice p.Ab e.sky.bodies.length p.cb, .int .i64 e.sky.nnum, .int .i64 e.sky.nden, .int .i64 e.sky.nstart, .slice p.As e.sun.length p.cs, .slice p.Am e.moon.length p.cm, .slice p.An e.node.length p.cn, .slice p.Af e.feasts.length p.cf, .int .i64 e.nw, .int .i64 e.fl, .int .i64 e.wide] 76)) 105 #[.slice none 0 0, .int .i64 0, .int .i64 0, .int .i64 0, .slice none 0 0, .slice none 0 0, .slice none 0 0, .slice none 0 0, .int .i64 0, .int .i64 0, .int .i64 0, .slice none 0 0, .map none]
  simpa using this)
 clear hm hl
 go_enter Tryz.func62, Tryz.ntmps62
 go_wp2_with fail
 refine (e_isEngine_any p e _ (HM.out.eng.ext (((Ext.refl w).alloc _).alloc _)) HL.out).mono ?_
 rintro r w1 ⟨rfl, hE⟩
 have HE := Lib.hid ((((Ext.refl w).alloc _).alloc _).trans hE)
 have HX := Lib.hid (HR0.out.ext hE)
 have HR := Lib.hid (HR1.out.ext hE)
 have x0 := HX.out.cell
 clear hE
 go_wp2_with fail
 refine (e_rising_any p.At p.ct set 0 _ _ (HM.out.set.ext HE.out) hs).mono ?_
 rintro r w2 ⟨rfl, rfl⟩
 have HRA := Lib.hid (HR.out.alloc (.map #[] 0))
 have HXA := Lib.hid (HX.out.alloc (.map #[] 0))
 have HCA := Lib.hid (Cache.new Tryz.prog 3 (handsF e set) w1)
 have HEA := Lib.hid (HE.out.alloc (.map #[] 0))
 have hsz := HE.out.size
 have hr1 := HR.out.lt
 obtain ⟨W2, hW2⟩ : ∃ W2, w1.alloc (.map #[] 0) = W2 := ⟨_, rfl⟩
 rw [hW2] at HRA HCA HEA HXA
 have hmm : (Instr.makeMap 103 none).run Tryz.prog w1 = .ok (.map (some w1.heap.size)) W2 := by rw [← hW2]; rfl
 have r0 := HRA.out.cell
 have x1 := HXA.out.cell
 have f0 := HRA.out.free
 clear hW2
 have hne : w.heap.size + 1 ≠ w1.heap.size := by omega
 go_wp2_with fail
 all_goals clear x0 x1
 clear r0 f0
 obtain ⟨W3, hW3⟩ : ∃ W3, setsAt W2 (w.heap.size + 1) 0 [.slice p.Ab e.sky.bodies.length p.cb, .int .i64 e.sky.nnum, .int .i64 e.sky.nden, .int .i64 e.sky.nstart, .slice p.As e.sun.length p.cs, .slice p.Am e.moon.length p.cm, .slice p.An e.node.length p.cn, .slice p.Af e.feasts.length p.cf, .int .i64 e.nw, .int .i64 e.fl, .int .i64 e.wide, .slice p.At set.length p.ct, .map (some w1.heap.size)] = W3 := ⟨_, rfl⟩
 have hR3 : Row W3 (w.heap.size + 1) 105 #[.slice p.Ab e.sky.bodies.length p.cb, .int .i64 e.sky.nnum, .int .i64 e.sky.nden, .int .i64 e.sky.nstart, .slice p.As e.sun.length p.cs, .slice p.Am e.moon.length p.cm, .slice p.An e.node.length p.cn, .slice p.Af e.feasts.length p.cf, .int .i64 e.nw, .int .i64 e.fl, .int .i64 e.wide, .slice p.At set.length p.ct, .map (some w1.heap.size)] := by rw [← hW3]; exact Row.sets (cs := [.slice none 0 0, .int .i64 0, .int .i64 0, .int .i64 0, .slice none 0 0, .slice none 0 0, .slice none 0 0, .slice none 0 0, .int .i64 0, .int .i64 0, .int .i64 0, .slice none 0 0, .map none]) HRA.out _ rfl
 have hE3 : Ext w W3 := by rw [← hW3]; exact Ext.sets (Nat.le_succ _) _ _ _ HEA.out
 have hC3 : Seen e set w1.heap.size W3 := by rw [← hW3]; exact Cache.sets hne _ _ _ HCA.out
 simp only [setsAt, Nat.reduceAdd] at hW3
 rw [hW3]
 clear hW3
 have r3 := hR3.cell
 refine bodyPost_ret (v := .tuple #[.agg #[.slice p.Ab e.sky.bodies.length p.cb, .int .i64 e.sky.nnum, .int .i64 e.sky.nden, .int .i64 e.sky.nstart, .slice p.As e.sun.length p.cs, .slice p.Am e.moon.length p.cm, .slice p.An e.node.length p.cn, .slice p.Af e.feasts.length p.cf, .int .i64 e.nw, .int .i64 e.fl, .int .i64 e.wide, .slice p.At set.length p.ct, .map (some w1.heap.size)], .int .i64 0]) ?_ rfl ⟨_, rfl, (by omega), hC3, hE3⟩
 have c0 := r3 0
 have c1 := r3 1
 have c2 := r3 2
 have c3 := r3 3
 have c4 := r3 4
 have c5 := r3 5
 have c6 := r3 6
 have c7 := r3 7
 have c8 := r3 8
 have c9 := r3 9
 have c10 := r3 10
 have c11 := r3 11
 have c12 := r3 12
 clear r3
 simp only [List.getElem?_toArray, List.getElem?_cons_zero, List.getElem?_cons_succ] at c0 c1 c2 c3 c4 c5 c6 c7 c8 c9 c10 c11 c12
 simp [results, Tryz.results62, asAddr, go_sem, c0, c1, c2, c3, c4, c5, c6, c7, c8, c9, c10, c11, c12]
end Go.Proofs.YtfkcbgehcbhjnaaGreatDoor
