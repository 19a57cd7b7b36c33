/- Volume 9 of the texts that the laws of this seat use: EcSearch EcWidens EcSettings: walks of the program's functions, and plain laws. -/
import Derived.Carry
import Derived.Deep.RegionHeld3
import Derived.Lib.SliceRun
import Derived.Lib.Walk
import Derived.Deep.AppendLies
import Derived.Lib.MinMax
import Derived.Laws.EntriesVeiled
import Derived.Test.YtfkcbgehcbhjnaaGreatDoorH03
import Derived.Test.YtfkcbgehcbhjnaaGreatDoorH04
import Derived.Test.YtfkcbgehcbhjnaaGreatDoorH06
import Derived.Test.YtfkcbgehcbhjnaaGreatDoorH07
import Derived.Test.YtfkcbgehcbhjnaaGreatDoorH08
namespace Go.Proofs.YtfkcbgehcbhjnaaGreatDoor
open Go.RowKit
open Sp (rd)
set_option maxRecDepth 100000
set_option maxHeartbeats 2000000
def goodB (e : Ec.Engine) (lo hi late : Int) (l : List Int) : Bool := decide ((Ec.missedL e l lo hi late).length = 0)
def found (e : Ec.Engine) (lo hi late : Int) (now : List Int) (k : Nat) : List (List Int) := ((Ec.subs e.feasts.length k).map (now ++ ·)).filter (goodB e lo hi late)
theorem found_end (e : Ec.Engine) (lo hi late : Int) (now : List Int) : found e lo hi late now e.feasts.length = if goodB e lo hi late now = true then [now] else [] := by
 unfold found
 rw [Ec.subs, if_neg (by omega)]
 cases h : goodB e lo hi late now <;> simp [h]
theorem found_step (e : Ec.Engine) (lo hi late : Int) (now : List Int) (k : Nat) (hk : k < e.feasts.length) : found e lo hi late now k = found e lo hi late (now ++ [(k : Int)]) (k + 1) ++ found e lo hi late now (k + 1) := by
 unfold found
 conv => lhs; rw [Ec.subs, if_pos hk]
 rw [List.map_append, List.filter_append, List.map_map]
 congr 3
 funext l
 simp
theorem subs_len (n : Nat) : ∀ (j k : Nat), k + j = n → (Ec.subs n k).length ≤ 2 ^ j := by
 intro j
 induction j with
 | zero => intro k hk; rw [Ec.subs, if_neg (by omega)]; simp
 | succ j ih =>
  intro k hk
  have := ih (k + 1) (by omega)
  rw [Ec.subs, if_pos (by omega), List.length_append, List.length_map, Nat.pow_succ]
  omega
theorem found_len (e : Ec.Engine) (lo hi late : Int) (now : List Int) (j k : Nat) (hk : k + j = e.feasts.length) : (found e lo hi late now k).length ≤ 2 ^ j := by
 unfold found
 refine Nat.le_trans (List.length_filter_le _ _) ?_
 rw [List.length_map]
 exact subs_len _ j k hk
theorem incr_snoc {n : Nat} : ∀ {l : List Int} {k : Int}, Ec.Incr n k l → k ≤ n → Ec.Incr ((n + 1 : Nat) : Int) k (l ++ [(n : Int)])
 | [], k, _, h => ⟨h, by omega, trivial⟩
 | x :: l, k, ⟨h1, h2, h3⟩, _ => ⟨h1, by omega, incr_snoc h3 (by omega)⟩
theorem incr_grow {n m : Int} (h : n ≤ m) : ∀ {l : List Int} {k : Int}, Ec.Incr n k l → Ec.Incr m k l
 | [], _, _ => trivial
 | _ :: _, _, ⟨h1, h2, h3⟩ => ⟨h1, by omega, incr_grow h h3⟩
theorem incr_at {n : Int} : ∀ {l : List Int} {k : Int}, Ec.Incr n k l → ∀ i, i < l.length → (k ≤ rd l i ∧ rd l i < n) ∧ (0 < i → rd l (i - 1) < rd l i)
  | [], _, _, i, hi => by simp at hi
  | x :: l, k, ⟨h1, h2, h3⟩, i, hi => by
    cases i with
    | zero => exact ⟨⟨by simpa [rd] using h1, by simpa [rd] using h2⟩, fun h => by omega⟩
    | succ i =>
      have hi' : i < l.length := by simpa using hi
      obtain ⟨⟨a1, a2⟩, a3⟩ := incr_at h3 i hi'
      have e1 : rd (x :: l) (i + 1) = rd l i := by simp [rd]
      rw [e1]
      refine ⟨⟨by omega, a2⟩, fun _ => ?_⟩
      cases i with
      | zero => have : rd (x :: l) (0 + 1 - 1) = x := by simp [rd]
                rw [this]; omega
      | succ i =>
        have : rd (x :: l) (i + 1 + 1 - 1) = rd l i := by simp [rd]
        rw [this]
        exact a3 (by omega)
theorem rising_of_at {l : List Int} {lo hi : Int} : ∀ n, (∀ i, i < n → (lo ≤ rd l i ∧ rd l i ≤ hi) ∧ (0 < i → rd l (i - 1) < rd l i)) → Ec.risingN l lo hi n = true
 | 0, _ => rfl
 | n + 1, h => by
  have h1 := rising_of_at n (fun i hi => h i (by omega))
  obtain ⟨⟨a, b⟩, c⟩ := h n (by omega)
  simp only [Ec.risingN, h1, Bool.true_and, Bool.and_eq_true, Bool.or_eq_true, decide_eq_true_eq]
  exact ⟨inR_iff.2 ⟨a, b⟩, by rcases Nat.eq_zero_or_pos n with h0 | h0; exact .inl h0; exact .inr (c h0)⟩
theorem setOk_of_incr {feasts l : List Int} (h : Ec.Incr feasts.length 0 l) : Ec.setOk feasts l = true :=
 rising_of_at _ fun i hi => let ⟨⟨a, b⟩, c⟩ := incr_at h i hi; ⟨⟨a, by omega⟩, c⟩
theorem incr_len {n : Int} : ∀ {l : List Int} {k : Int}, Ec.Incr n k l → l.length ≤ (n - k).toNat
 | [], _, _ => Nat.zero_le _
 | x :: l, k, ⟨h1, h2, h3⟩ => by
  have := incr_len h3
  simp only [List.length_cons]
  omega
def iv (l : List Int) : List Value := l.map fun d => .int .i64 d
abbrev OwnInts (w : World) (base : Nat) (x : Value) (l : List Int) : Prop := w.ownsRow base 3 1 x l.length (iv l)
theorem OwnInts.ints {w : World} {base : Nat} {x : Value} {l : List Int} (h : OwnInts w base x l) : ∃ A c, x = .slice A l.length c ∧ Ints w A l := by
 obtain ⟨A, c, h1, h2⟩ := Ints.of_own (f := fun d => d) h
 exact ⟨A, c, h1, by simpa using h2⟩
theorem own_not_row {w : World} {base size n : Nat} {e ty : TypeId} {x : Value} {xs : List Value} (h : w.ownsRow base e size x n xs) {k : Nat} (hk : x.ownBlock = some k) {cs : Array Value} {g : Nat} (hr : Row w g ty cs) (ht : e ≠ ty) : k ≠ g := by
 rintro rfl
 rcases h.2 with ⟨rfl, _⟩ | ⟨g', cap, cur, rfl, _, hh, _⟩
 ·cases hk
 ·simp only [Value.ownBlock, Option.some.injEq] at hk
  subst hk
  unfold Row at hr
  rw [hr] at hh; cases hh; exact ht rfl
theorem own_not_own {w : World} {base size n base' size' n' : Nat} {e e' : TypeId} {x v : Value} {xs ys : List Value} (h : w.ownsRow base e size x n xs) {k : Nat} (hk : x.ownBlock = some k) (h' : w.ownsRow base' e' size' v n' ys) (ht : e ≠ e') : v.ownBlock ≠ some k := by
 intro hv
 rcases h.2 with ⟨rfl, _⟩ | ⟨g, cap, cur, rfl, _, hh, _⟩
 ·cases hk
 ·simp only [Value.ownBlock, Option.some.injEq] at hk
  subst hk
  rcases h'.2 with ⟨rfl, _⟩ | ⟨g', cap', cur', rfl, _, hh', _⟩
  ·cases hv
  ·simp only [Value.ownBlock, Option.some.injEq] at hv
   subst hv
   rw [hh] at hh'; cases hh'; exact ht rfl
def AllAt (w : World) (bA : Nat) (v : Value) (ls : List (List Int)) : Prop :=
 ∃ xs : List Value, Out w bA bA 125 74 1 v ls.length xs ∧ xs.length = ls.length ∧ ∀ k, (hk : k < ls.length) → ∃ x, xs[k]? = some x ∧ OwnInts w bA x ls[k]
theorem own_push {w w' : World} {bA : Nat} {v v' : Value} {n : Nat} {xs : List Value} {base : Nat} {x : Value} {l : List Int} (h : OwnInts w base x l) (ho : Out w bA bA 125 74 1 v n xs) (hp : Push bA v v' w w') : OwnInts w' base x l :=
 ownsRow_of_block h fun k hk => (hp.block k (h.lt k hk).2 (own_not_row h hk ho.box (by decide)) (own_not_own h hk ho.own (by decide))).1
theorem AllAt.ext {w w' : World} {bA : Nat} {v : Value} {ls : List (List Int)} (h : AllAt w bA v ls) (he : Ext w w') : AllAt w' bA v ls :=
 let ⟨xs, h1, h2, h3⟩ := h
 ⟨xs, h1.ext he, h2, fun k hk => let ⟨x, a, b⟩ := h3 k hk; ⟨x, a, own_ext b he⟩⟩
theorem AllAt.out {w : World} {bA : Nat} {v : Value} {ls : List (List Int)} (h : AllAt w bA v ls) : ∃ xs, Out w bA bA 125 74 1 v ls.length xs := let ⟨xs, h1, _⟩ := h; ⟨xs, h1⟩
theorem AllAt.own {w w' : World} {bA : Nat} {v v' : Value} {ls : List (List Int)} (h : AllAt w bA v ls) (hp : Push bA v v' w w') {base : Nat} {x : Value} {l : List Int} (ho : OwnInts w base x l) : OwnInts w' base x l :=
 let ⟨_, h1, _⟩ := h
 own_push ho h1 hp
theorem AllAt.row {w w' : World} {bA : Nat} {v v' : Value} {ls : List (List Int)} (h : AllAt w bA v ls) (hp : Push bA v v' w w') {g : Nat} {t : TypeId} {cs : Array Value} (hr : Row w g t cs) (h1 : t ≠ 125) (h2 : t ≠ 74) : Row w' g t cs :=
 let ⟨_, ho, _⟩ := h
 hp.row hr (ho.nbox hr h1) (ho.far hr h2)
theorem AllAt.below {w w' : World} {bA : Nat} {v v' : Value} {ls : List (List Int)} (h : AllAt w bA v ls) (hp : Push bA v v' w w') {N : Nat} (hN : N ≤ bA) : Below N w w' :=
 let ⟨_, ho, _⟩ := h
 Push.below ho hp hN (Nat.le_refl _) (Nat.le_of_lt ho.box.lt)
structure SIn (w0 : World) (p : EP) (e : Ec.Engine) (lo hi late : Int) (bE bS bF bT bL bA : Nat) (w : World) : Prop where
 ext : Ext w0 w
 rE : Row w bE 76 #[.slice p.Ab e.sky.bodies.length p.cb, .int .i64 e.sky.nnum, .int .i64 e.sky.nden, .int .i64 e.sky.nstart, .slice p.As e.sun.length p.cs, .slice p.Am e.moon.length p.cm, .slice p.An e.node.length p.cn, .slice p.Af e.feasts.length p.cf, .int .i64 e.nw, .int .i64 e.fl, .int .i64 e.wide]
 rS : Row w bS 126 #[.func (.func 79) #[] #[.pointer (some ⟨bE, 0, none⟩), .pointer (some ⟨bS, 0, none⟩), .pointer (some ⟨bF, 0, none⟩), .pointer (some ⟨bT, 0, none⟩), .pointer (some ⟨bL, 0, none⟩), .pointer (some ⟨bA, 0, none⟩)]]
 rF : Row w bF 3 #[.int .i64 lo]
 rT : Row w bT 3 #[.int .i64 hi]
 rL : Row w bL 3 #[.int .i64 late]
section
variable {w0 : World} {p : EP} {e : Ec.Engine} {lo hi late : Int} {bE bS bF bT bL bA : Nat} {w w' : World}
theorem SIn.later (h : SIn w0 p e lo hi late bE bS bF bT bL bA w) (he : Ext w w') : SIn w0 p e lo hi late bE bS bF bT bL bA w' :=
 ⟨h.ext.trans he, h.rE.ext he, h.rS.ext he, h.rF.ext he, h.rT.ext he, h.rL.ext he⟩
theorem SIn.push (h : SIn w0 p e lo hi late bE bS bF bT bL bA w) {v v' : Value} {ls : List (List Int)} (ha : AllAt w bA v ls) (hp : Push bA v v' w w') (hN : w0.heap.size ≤ bA) : SIn w0 p e lo hi late bE bS bF bT bL bA w' :=
 ⟨h.ext.trans' (ha.below hp hN), ha.row hp h.rE (by decide) (by decide), ha.row hp h.rS (by decide) (by decide), ha.row hp h.rF (by decide) (by decide), ha.row hp h.rT (by decide) (by decide), ha.row hp h.rL (by decide) (by decide)⟩
end
theorem AllAt.pushed {w wA w1 : World} {bA g cap : Nat} {v x : Value} {ls : List (List Int)} {l : List Int} {xs : List Value} (h : Out w bA bA 125 74 1 v ls.length xs) (hl : xs.length = ls.length)
  (hk : ∀ k, (hk : k < ls.length) → ∃ x, xs[k]? = some x ∧ OwnInts w bA x ls[k]) (hx : OwnInts w bA x l)
  (hE : Ext w wA) (hown : w1.ownsRow bA 74 1 (.slice (some ⟨g, 0, none⟩) (ls.length + 1) cap) (ls.length + 1) (xs ++ [x])) (hg : wA.grownBy w1 v.ownBlock) (hat : v.ownBlock = some g ∨ g = wA.heap.size) :
  AllAt (w1.setCell ⟨bA, 0, none⟩ (.slice (some ⟨g, 0, none⟩) (ls.length + 1) cap)) bA (.slice (some ⟨g, 0, none⟩) (ls.length + 1) cap) (ls ++ [l]) ∧ Push bA v (.slice (some ⟨g, 0, none⟩) (ls.length + 1) cap) w (w1.setCell ⟨bA, 0, none⟩ (.slice (some ⟨g, 0, none⟩) (ls.length + 1) cap)) := by
 obtain ⟨h1, h2⟩ := h.pushed hE hown hg hat
 refine ⟨⟨xs ++ [x], by simpa using h1, by simp [hl], fun k hk' => ?_⟩, h2⟩
 rcases Nat.lt_or_ge k ls.length with hlt | hge
 ·obtain ⟨y, a, b⟩ := hk k hlt
  refine ⟨y, by rw [List.getElem?_append_left (by omega)]; exact a, ?_⟩
  rw [List.getElem_append_left hlt]
  exact own_push b h h2
 ·obtain rfl : k = ls.length := by simp at hk'; omega
  refine ⟨x, by rw [← hl]; simp, ?_⟩
  simp only [List.getElem_concat_length]
  exact own_push hx h h2
theorem info_int' : (Tryz.prog.info? 3).map (fun i => (i.zero, i.size, i.bytes)) = some (some (.int .i64 0), 1, 8) := by kernel_rfl
theorem info_ints : (Tryz.prog.info? 74).map (fun i => (i.zero, i.size, i.bytes)) = some (some (.slice none 0 0), 1, 24) := by kernel_rfl
theorem clone_any (x : Value) (base : Nat) (l : List Int) (w : World) (hx : OwnInts w base x l) (hl : l.length ≤ 100000) :
  Calls Tryz.prog 80 #[x] w fun e w' => ∃ v', e = .returned v' ∧ OwnInts w' w.heap.size v' l ∧ Ext w w' := by
 obtain ⟨i0, hi, hz0, hz1, hz2⟩ := info_parts info_int'
 have q22 : ∀ (w : World) (a : Option Addr) (n c n' c' : Nat), (binOp .eql 74 (.slice a n c) (.slice none n' c')).run Tryz.prog w = .ok (.bool a.isNone) w := fun w a n c n' c' => Lib.run_eql_slice_nil w _ _ a n c n' c' Tryz.underlying74
 have u22 : ∀ w, Sem.run Tryz.prog (underlying 74) w = .ok (TypeDesc.slice 3) w := run_underlying Tryz.underlying74
 rcases hx.2 with ⟨rfl, h0⟩ | ⟨g, cap, cur, rfl, _⟩
 ·obtain rfl : l = [] := List.eq_nil_of_length_eq_zero h0
  go_enter Tryz.func80, Tryz.ntmps80
  go_wp2_with fail
  go_ret
  exact ⟨_, rfl, World.ownsRow_nil _ _ _ _, Ext.refl _⟩
 ·have A := Lib.hid (hx.cells (g := g) rfl)
  have hz := hx.lt g rfl
  clear hx
  go_enter Tryz.func80, Tryz.ntmps80
  go_wp2_with (at_builtin; refine wpList_append_own _ rfl _ _ 74 rfl w.heap.size 3 i0 (.int .i64 0) 1 8 Tryz.underlying74 hi hz0 hz1 hz2 rfl (by decide) _ _ _ rfl (World.ownsRow_made w #[] 0 (Nat.le_refl _) (Nat.zero_le _) rfl) ⟨g, 0, none⟩ l.length cap (iv l) rfl ?qc1 ?qc2 ?qc3 ?qc4 ?qc5 ?qc6 ?_)
  case qc1 => simp [iv]
  case qc2 =>
   intro j u hj
   have := A.out j u hj
   rw [add0] at this
   rw [Addr.add_lit]
   exact Lib.cell?_alloc_some _ (by simpa using this)
  case qc3 => intro u hu; obtain ⟨x, _, rfl⟩ := List.mem_map.1 hu; rfl
  case qc4 => unfold maxLen; omega
  case qc5 => omega
  case qc6 => simp
  intro v' w1 hown hgrow hnil
  go_wp2
  go_ret
  refine ⟨v', rfl, by simpa using hown, ?_⟩
  exact ((Ext.refl w).alloc _).grown hgrow (by intro k hk; simp [Value.ownBlock] at hk; omega)
theorem own_base {w : World} {base b' size n : Nat} {e : TypeId} {x : Value} {xs : List Value} (h : w.ownsRow base e size x n xs) (hb : b' ≤ base) : w.ownsRow b' e size x n xs :=
 ⟨h.1, h.2.imp id fun ⟨g, cap, cur, a, b, c⟩ => ⟨g, cap, cur, a, Nat.le_trans hb b, c⟩⟩
theorem search_any (w0 : World) (p : EP) (e : Ec.Engine) (lo hi late : Int) (bE bS bF bT bL bA : Nat) (hm : EngAt w0 p e) (hl : EngShort e) (c0 : Ec.engineOk e = true) (h1 : 1 ≤ lo) (h2 : lo ≤ hi) (h3 : hi ≤ 9000) (h4 : hi - lo ≤ 400) (h5 : 0 ≤ late) (h6 : late ≤ 30) (hN : w0.heap.size ≤ bA) (hn8 : e.feasts.length ≤ 8) :
  ∀ (n next : Nat) (d : Int) (now : List Int) (x v : Value) (ls : List (List Int)) (w : World), next + n = e.feasts.length → d = (next : Int) → Ec.Incr (next : Nat) 0 now → SIn w0 p e lo hi late bE bS bF bT bL bA w → OwnInts w bA x now → AllAt w bA v ls → ls.length + 2 ^ n ≤ 1000 →
   Calls Tryz.prog 79 #[x, .int .i64 d, .pointer (some ⟨bE, 0, none⟩), .pointer (some ⟨bS, 0, none⟩), .pointer (some ⟨bF, 0, none⟩), .pointer (some ⟨bT, 0, none⟩), .pointer (some ⟨bL, 0, none⟩), .pointer (some ⟨bA, 0, none⟩)] w
    fun r w' => (∃ u, r = .returned u) ∧ ∃ v', AllAt w' bA v' (ls ++ found e lo hi late now next) ∧ Push bA v v' w w' := by
 have HM := Lib.hid hm
 have HL := Lib.hid hl
 clear hm hl
 intro n
 induction n with
 | zero =>
  intro next d now x v ls w hn hd hI hS hx hA hlen
  subst hd
  obtain rfl : next = e.feasts.length := by omega
  have hset := setOk_of_incr hI
  have hnl := incr_len hI
  obtain ⟨A, c, rfl, hxI⟩ := hx.ints
  have HX := Lib.hid hx
  have HXI := Lib.hid hxI
  have HA := Lib.hid hA
  have HS := Lib.hid hS
  have HF := Lib.hid (found_end e lo hi late now)
  have q0 := hS.rE.cell
  clear hx hxI hA hS hI
  go_enter Tryz.func79, Tryz.ntmps79
  go_wp2_with fail
  refine (e_asked_ok ⟨p.Ab, p.cb, p.As, p.cs, p.Am, p.cm, p.An, p.cn, p.Af, p.cf, A, c⟩ e now w ⟨⟨(HM.out.ext HS.out.ext).bodies, (HM.out.ext HS.out.ext).sun, (HM.out.ext HS.out.ext).moon, (HM.out.ext HS.out.ext).node, (HM.out.ext HS.out.ext).feasts⟩, HXI.out⟩ HL.out (by omega) c0 hset).mono ?_
  rintro r w1 ⟨M, rfl, hM, hC, hX⟩
  have HX1 := Lib.hid hX
  have HC1 := Lib.hid hC
  have HS1 := Lib.hid (HS.out.later hX)
  have rF := HS1.out.rF.cell
  have rT := HS1.out.rT.cell
  have rL := HS1.out.rL.cell
  have jF := lts HS1.out.rF.lt
  have jT := lts HS1.out.rT.lt
  have jL := lts HS1.out.rL.lt
  have HX2 := Lib.hid (hX.alloc (.cells #[.slice p.Ab e.sky.bodies.length p.cb, .int .i64 e.sky.nnum, .int .i64 e.sky.nden, .int .i64 e.sky.nstart, .slice p.As e.sun.length p.cs, .slice p.Am e.moon.length p.cm, .slice p.An e.node.length p.cn, .slice p.Af e.feasts.length p.cf, .int .i64 e.nw, .int .i64 e.fl, .int .i64 e.wide, .slice A now.length c, .map (some M)] 105))
  have HC2 := Lib.hid (hC.ext ((Ext.refl w1).alloc (.cells #[.slice p.Ab e.sky.bodies.length p.cb, .int .i64 e.sky.nnum, .int .i64 e.sky.nden, .int .i64 e.sky.nstart, .slice p.As e.sun.length p.cs, .slice p.Am e.moon.length p.cm, .slice p.An e.node.length p.cn, .slice p.Af e.feasts.length p.cf, .int .i64 e.nw, .int .i64 e.fl, .int .i64 e.wide, .slice A now.length c, .map (some M)] 105)))
  clear hX hC q0
  go_wp2_with fail
  refine (e_missed_any ⟨p.Ab, p.cb, p.As, p.cs, p.Am, p.cm, p.An, p.cn, p.Af, p.cf, A, c⟩ e now M lo hi late w _ ⟨c0, hset⟩ ⟨⟨(HM.out.ext HS.out.ext).bodies, (HM.out.ext HS.out.ext).sun, (HM.out.ext HS.out.ext).moon, (HM.out.ext HS.out.ext).node, (HM.out.ext HS.out.ext).feasts⟩, HXI.out⟩ hM HX2.out HC2.out HL.out.sky h1 h2 h3 h4 h5 h6).mono ?_
  rintro r w3 ⟨u, rfl, ⟨Av, cv, rfl, _⟩, hmv⟩
  have HX3 := Lib.hid (HX2.out.trans' (hmv.below hM HX2.out.size))
  clear hmv rF rT rL jF jT jL
  have HG : Hid (goodB e lo hi late now = decide ((Ec.missedL e now lo hi late).length = 0)) := Lib.hid rfl
  obtain ⟨m, hm⟩ : ∃ m, (Ec.missedL e now lo hi late).length = m := ⟨_, rfl⟩
  rw [hm] at HG ⊢
  clear hm
  have hll : ls.length ≤ 999 := by simp at hlen; omega
  rcases Nat.eq_zero_or_pos m with h0 | h0
  ·have hq : ((m : Int) == 0) = true := by simp [h0]
   have HF2 := Lib.hid (HF.out.trans (if_pos (by rw [HG.out]; simpa using h0)))
   obtain ⟨xs, ho, hxl, hxs⟩ := HA.out.ext HX3.out
   obtain ⟨i0, hi0, hz0, hz1, hz2⟩ := info_parts info_ints
   have HO := Lib.hid ho
   have HXS := Lib.hid hxs
   have rO := ho.box.cell 0
   have hbl := ho.box.lt
   have hO5 := ho.ext ((Ext.refl _).alloc (.cells #[.slice A now.length c] 74))
   simp only [List.getElem?_toArray, List.getElem?_cons_zero] at rO
   clear ho hxs h0
   go_wp2_with (at_builtin; refine wpList_append_own_at _ rfl _ _ 125 rfl bA 74 i0 _ 1 24 Tryz.underlying125 hi0 hz0 hz1 hz2 rfl (by decide) v _ _ rfl hO5.own ⟨w3.heap.size, 0, none⟩ 1 1 [.slice A now.length c] rfl rfl (World.news_of_block (cs := #[.slice A now.length c]) (t := 74) (fr := (0, 0)) (heap_alloc_new _ _)) (by simp [Value.oneCell']) (by simp only [maxLen]; omega) (by omega) (by simp; omega) ?_; intro v' w8 hown1 hgrow _ hat; obtain ⟨gg, cap, rfl⟩ := ownsRow_succ hown1; have hc3 := grown_cell hgrow hO5.box hO5.ne 0; have hf3 := grown_free hgrow hO5.box hO5.ne 0; simp only [List.getElem?_toArray, List.getElem?_cons_zero] at hc3)
   go_end0
   refine ⟨⟨_, rfl⟩, .slice (some ⟨gg, 0, none⟩) (ls.length + 1) cap, ?_⟩
   rw [HF2.out]
   have hp := AllAt.pushed (wA := w3.alloc (.cells #[.slice A now.length c] 74)) HO.out hxl HXS.out (own_ext HX.out HX3.out) ((Ext.refl w3).alloc _) hown1 hgrow (by
    rcases hat with e | e
    ·exact .inl e.symm
    ·exact .inr (by simpa [Value.ownBlock] using e))
   exact ⟨hp.1, (Push.of_ext HX3.out).trans hp.2⟩
  ·have hq : ((m : Int) == 0) = false := by simp; omega
   have HF2 := Lib.hid (HF.out.trans (if_neg (by rw [HG.out]; simp; omega)))
   clear h0
   go_wp2_with fail
   go_end0
   refine ⟨⟨_, rfl⟩, v, ?_⟩
   rw [HF2.out, List.append_nil]
   exact ⟨HA.out.ext HX3.out, Push.of_ext HX3.out⟩
 | succ n ih =>
  intro next d now x v ls w hn hd hI hS hx hA hlen
  subst hd
  have hlt : next < e.feasts.length := by omega
  have hp2 : 2 ^ (n + 1) = 2 ^ n + 2 ^ n := by rw [Nat.pow_succ]; omega
  have hp3 : 1 ≤ 2 ^ n := Nat.one_le_two_pow
  have hnl := incr_len hI
  have hfl := found_len e lo hi late (now ++ [(next : Int)]) n (next + 1) (by omega)
  have HF := Lib.hid (found_step e lo hi late now next hlt)
  have HI1 : Hid (Ec.Incr ((next + 1 : Nat) : Int) 0 (now ++ [(next : Int)])) := Lib.hid (incr_snoc hI (by omega))
  have HI2 : Hid (Ec.Incr ((next + 1 : Nat) : Int) 0 now) := Lib.hid (incr_grow (by omega) hI)
  obtain ⟨i0, hi0, hz0, hz1, hz2⟩ := info_parts info_int'
  have HX := Lib.hid hx
  have HA := Lib.hid hA
  have HS := Lib.hid hS
  have hbl : bA < w.heap.size := by obtain ⟨_, ho⟩ := hA.out; exact ho.box.lt
  have q0 := hS.rE.cell
  have qS := hS.rS.cell 0
  simp only [List.getElem?_toArray, List.getElem?_cons_zero] at qS
  have hnl8 : now.length ≤ 8 := by omega
  clear hx hA hS hI hnl
  go_enter Tryz.func79, Tryz.ntmps79
  go_wp2_with fail
  refine Code.wp_mono (Q := fun e' a' w' => e' = .normal ∧ (∃ v1, AllAt w' bA v1 (ls ++ found e lo hi late (now ++ [(next : Int)]) (next + 1)) ∧ Push bA v v1 w w') ∧ ∃ j17 j18 j19 j20 j21 j22 j23 j24 j25, a' = (⟨#[x, .int .i64 next, .pointer (some ⟨bE, 0, none⟩), .pointer (some ⟨bS, 0, none⟩), .pointer (some ⟨bF, 0, none⟩), .pointer (some ⟨bT, 0, none⟩), .pointer (some ⟨bL, 0, none⟩), .pointer (some ⟨bA, 0, none⟩), undef, undef, undef, undef, .int .i64 next, .pointer (some ⟨bE, 7, none⟩), .slice p.Af e.feasts.length p.cf, .int .i64 e.feasts.length, .bool true, j17, j18, j19, j20, j21, j22, j23, j24, j25, undef, undef, undef, undef, undef, undef, undef, undef, undef, undef, undef, undef, undef, undef, undef, undef, undef, undef, undef, undef, undef, undef, undef, undef, undef, undef], []⟩ : Act)) ?hq ?_
  case hq =>
   rintro e' a' w3 ⟨rfl, ⟨v1, hA1, hP1⟩, j17, j18, j19, j20, j21, j22, j23, j24, j25, rfl⟩
   have HA1 := Lib.hid hA1
   have HP1 := Lib.hid hP1
   have HS1 := Lib.hid (HS.out.push HA.out hP1 hN)
   have HX1 := Lib.hid (HA.out.own hP1 HX.out)
   have q1 := HS1.out.rS.cell 0
   simp only [List.getElem?_toArray, List.getElem?_cons_zero] at q1
   clear hA1 hP1 q0 qS
   go_wp2_with fail
   refine (ih (next + 1) _ now x v1 (ls ++ found e lo hi late (now ++ [(next : Int)]) (next + 1)) _ (by omega) (by omega) HI2.out HS1.out HX1.out HA1.out (by rw [List.length_append]; omega)).mono ?_
   rintro r w4 ⟨⟨u3, rfl⟩, v3, hA3, hP3⟩
   have HA3 := Lib.hid hA3
   have HP3 := Lib.hid hP3
   clear hA3 hP3 q1
   go_wp2_with fail
   refine bodyPost_ret (results_none rfl _ _ _) rfl ?_
   exact ⟨⟨_, rfl⟩, v3, by rw [HF.out, ← List.append_assoc]; exact HA3.out, HP1.out.trans HP3.out⟩
  clear q0
  go_region_held3 (fun w' => w'.cell? ⟨bS, 0, none⟩ = some (.func (.func 79) #[] #[.pointer (some ⟨bE, 0, none⟩), .pointer (some ⟨bS, 0, none⟩), .pointer (some ⟨bF, 0, none⟩), .pointer (some ⟨bT, 0, none⟩), .pointer (some ⟨bL, 0, none⟩), .pointer (some ⟨bA, 0, none⟩)]))
   (first | go_keep | exact q3 | exact HE1.out.cell qS | exact HE2.out.cell qS | exact (HE1.out.alloc _).cell qS)
   (first
    | (go_at_call 80; refine (clone_any x bA now _ (own_ext HX.out (by first | exact (Ext.refl _).drew | exact ((Ext.refl _).alloc _).drew)) (by omega)).mono ?_; rintro r w1 ⟨v1, rfl, hown1, hE1⟩; have HE1 : Hid (Ext w w1) := Lib.hid (by first | exact ((Ext.refl _).drew).trans hE1 | exact (((Ext.refl _).alloc _).drew).trans hE1))
    | (refine step_append_lies _ (by rfl) (Operand.tmp 19) (Operand.tmp 21) _ (by rfl) w.heap.size 3 i0 _ 1 8 Tryz.underlying74 hi0 hz0 hz1 hz2 rfl (by omega) v1 now.length (iv now) (by rfl) (own_ext (own_base hown1 (by simp)) (by first | exact Ext.refl _ | exact (Ext.refl _).alloc _)) _ 1 1 [.int .i64 next] (by rfl) (by rfl) (World.news_of_block (cs := #[.int .i64 next]) (t := 3) (fr := (0, 0)) (by first | exact heap_alloc_new _ _ | exact (hE1.block _ (by simp)).trans (news1d rfl))) (by simp [Value.oneCell']) (by omega) (by unfold maxLen; omega) (by omega) (by have := HE1.out.size; (try simp); omega) _ (by rfl) ?_; intro g2 cap2 w2 hown2 hgrow2 hat2 hlt2; have HE2 : Hid (Ext w w2) := Lib.hid (by first | exact HE1.out.grown hgrow2 (fun k hk => ((own_base (b' := w.heap.size) hown1 (by simp)).lt k hk).1) | exact (HE1.out.alloc _).grown hgrow2 (fun k hk => ((own_base (b' := w.heap.size) hown1 (by simp)).lt k hk).1)))
    | (go_at_call 79; refine (ih (next + 1) _ (now ++ [(next : Int)]) _ v ls _ (by omega) (by rw [IntWalk.i64_in _ ⟨by omega, by omega⟩]; omega) HI1.out (HS.out.later HE2.out) (own_base (by simpa [iv] using hown2) (by omega)) (HA.out.ext HE2.out) (by omega)).mono ?_; rintro r w3 ⟨⟨u3, rfl⟩, v3, hA3, hP3⟩; have HS3 := Lib.hid ((HS.out.later HE2.out).push (HA.out.ext HE2.out) hP3 hN); have q3 := HS3.out.rS.cell 0; simp only [List.getElem?_toArray, List.getElem?_cons_zero] at q3))
  all_goals
   first
    | exact ⟨rfl, ⟨v3, hA3, (Push.of_ext HE2.out).trans hP3⟩, _, _, _, _, _, _, _, _, _, rfl⟩
    | trace_state
end Go.Proofs.YtfkcbgehcbhjnaaGreatDoor
namespace Go.Proofs.YtfkcbgehcbhjnaaGreatDoor
open Go.RowKit
open Sp (rd)
set_option maxRecDepth 100000
set_option maxHeartbeats 1000000
def widensΦ (p : EP) (e : Ec.Engine) (set : List Int) (lo : Int) (hi : Int) (late : Int) (w0 : World) (i : Nat) (v : Value) (w : World) : Prop :=
 match i with
 | 0 => v = .agg #[.slice p.Ab e.sky.bodies.length p.cb, .int .i64 e.sky.nnum, .int .i64 e.sky.nden, .int .i64 e.sky.nstart, .slice p.As e.sun.length p.cs, .slice p.Am e.moon.length p.cm, .slice p.An e.node.length p.cn, .slice p.Af e.feasts.length p.cf, .int .i64 e.nw, .int .i64 e.fl, .int .i64 e.wide]
 | 1 => v = .slice p.At set.length p.ct
 | 2 => v = .int .i64 lo
 | 3 => v = .int .i64 hi
 | 4 => v = .bool true
 | 5 => v = .bool true
 | 6 => v = .int .i64 late
 | 7 => v = .bool true
 | 8 => v = .bool true
 | 9 => AskTup p e set w0 v w
 | 10 => AskTup p e set w0 v w
 | 11 => AskAgg p e set w0 v w
 | 12 => v = .int .i64 0
 | _ => AskNew w0 v w
theorem widensΦ_mono {p : EP} {e : Ec.Engine} {set : List Int} {lo : Int} {hi : Int} {late : Int} {w0 : World} (i : Nat) (v : Value) (w w' : World) (h : widensΦ p e set lo hi late w0 i v w) (he : Ext w w') : widensΦ p e set lo hi late w0 i v w' := by
 unfold widensΦ at h ⊢
 split at h <;> first
  | exact h
  | exact AskTup.ext h he
  | exact AskAgg.ext h he
  | exact AskNew.ext h he
def phV : Bool → Value
 | true => .iface 152 (.agg #[])
 | false => .iface 151 (.agg #[])
theorem e_phaseOf_any (full : Bool) (w : World) : Calls Tryz.prog 74 #[.bool full] w fun e w' => e = .returned (phV full) ∧ Ext w w' := by
 cases full
 ·go_enter Tryz.func74, Tryz.ntmps74
  go_wp2_with fail
  go_ret
  exact ⟨rfl, Ext.refl _⟩
 ·go_enter Tryz.func74, Tryz.ntmps74
  go_wp2_with fail
  go_ret
  exact ⟨rfl, Ext.refl _⟩
theorem e_has_any (p : EP) (e : Ec.Engine) (set : List Int) (M : Nat) (day : Int) (full : Bool) (w : World) (hK : Fine e set) (hm : EngSet w p e set) (hc : Seen e set M w) (h1 : 1 ≤ day) (h2 : day ≤ 9030) :
  Calls Tryz.prog 75 #[.agg #[.slice p.Ab e.sky.bodies.length p.cb, .int .i64 e.sky.nnum, .int .i64 e.sky.nden, .int .i64 e.sky.nstart, .slice p.As e.sun.length p.cs, .slice p.Am e.moon.length p.cm, .slice p.An e.node.length p.cn, .slice p.Af e.feasts.length p.cf, .int .i64 e.nw, .int .i64 e.fl, .int .i64 e.wide, .slice p.At set.length p.ct, .map (some M)], phV full, .int .i64 day] w fun r w' => r = .returned (.bool (Ec.hasB e set day full)) ∧ Move e set M w w' := by
 cases full
 ·exact e_has_false p e set M day w hK hm hc h1 h2
 ·exact e_has_true p e set M day w hK hm hc h1 h2
theorem e_limit_any (p : EP) (e : Ec.Engine) (set : List Int) (M : Nat) (full : Bool) (w : World) :
  Calls Tryz.prog 77 #[.agg #[.slice p.Ab e.sky.bodies.length p.cb, .int .i64 e.sky.nnum, .int .i64 e.sky.nden, .int .i64 e.sky.nstart, .slice p.As e.sun.length p.cs, .slice p.Am e.moon.length p.cm, .slice p.An e.node.length p.cn, .slice p.Af e.feasts.length p.cf, .int .i64 e.nw, .int .i64 e.fl, .int .i64 e.wide, .slice p.At set.length p.ct, .map (some M)], phV full] w fun r w' => r = .returned (.int .i64 (Ec.limitOf e full)) ∧ Ext w w' := by
 cases full
 ·exact e_limit_false p e set M w
 ·exact e_limit_true p e set M w
theorem leastN_bounds (e : Ec.Engine) (set : List Int) (full : Bool) (lo : Int) (k : Nat) : 0 ≤ Ec.leastN e set full lo k ∧ Ec.leastN e set full lo k ≤ 10800 := by
 induction k with
 | zero => simp [Ec.leastN]
 | succ k ih => unfold Ec.leastN; split <;> omega
theorem wideN_snoc (e : Ec.Engine) (set : List Int) (late : Int) (l : List Sp.Ecl) (x : Sp.Ecl) : Ec.wideN e set late (l ++ [x]) = max (Ec.wideN e set late l) (Ec.leastOf e set late x) := by
 induction l with
 | nil => simp only [List.nil_append, Ec.wideN]; omega
 | cons y l ih => simp only [List.cons_append, Ec.wideN, ih]; omega
theorem wideN_bounds (e : Ec.Engine) (set : List Int) (late : Int) (l : List Sp.Ecl) : 0 ≤ Ec.wideN e set late l ∧ Ec.wideN e set late l ≤ 10800 := by
 induction l with
 | nil => simp [Ec.wideN]
 | cons y l ih =>
  have := leastN_bounds e set y.full (max 1 (y.day - late)) (y.day + late + 1 - max 1 (y.day - late)).toNat
  unfold Ec.wideN Ec.leastOf
  omega
def wideV (n : Int) : Value := if Sp.isLimit n = true then .tuple #[.int .i64 n, .int .i64 0] else .tuple #[.int .i64 0, .int .i64 5]
def WidRel (w4 : World) (e : Ec.Engine) (set : List Int) (M : Nat) (late : Int) (l : List Sp.Ecl) (v d : Value) (wr : World) : Prop :=
 ∃ k : Nat, k ≤ l.length ∧ d = .int .i64 k ∧ v = .int .i64 (Ec.wideN e set late (l.take k)) ∧ Move e set M w4 wr
def LeaRel (w5 : World) (e : Ec.Engine) (set : List Int) (M : Nat) (full : Bool) (lo1 : Int) (n : Nat) (v d : Value) (wr : World) : Prop :=
 ∃ j : Nat, j ≤ n ∧ d = .int .i64 (lo1 + j) ∧ v = .int .i64 (Ec.leastN e set full lo1 j) ∧ Move e set M w5 wr
def widΦ (p : EP) (e : Ec.Engine) (set : List Int) (M : Nat) (full : Bool) (L d : Int) (i : Nat) (v : Value) (_ : World) : Prop :=
 match i with
 | 0 => v = .int .i64 L
 | 1 => v = .agg #[.slice p.Ab e.sky.bodies.length p.cb, .int .i64 e.sky.nnum, .int .i64 e.sky.nden, .int .i64 e.sky.nstart, .slice p.As e.sun.length p.cs, .slice p.Am e.moon.length p.cm, .slice p.An e.node.length p.cn, .slice p.Af e.feasts.length p.cf, .int .i64 e.nw, .int .i64 e.fl, .int .i64 e.wide, .slice p.At set.length p.ct, .map (some M)]
 | 2 => v = .int .i64 d
 | 3 => v = .int .i64 (Ec.farAt e set d)
 | 4 => v = .agg #[.slice p.Ab e.sky.bodies.length p.cb, .int .i64 e.sky.nnum, .int .i64 e.sky.nden, .int .i64 e.sky.nstart, .slice p.As e.sun.length p.cs, .slice p.Am e.moon.length p.cm, .slice p.An e.node.length p.cn, .slice p.Af e.feasts.length p.cf, .int .i64 e.nw, .int .i64 e.fl, .int .i64 e.wide, .slice p.At set.length p.ct, .map (some M)]
 | 5 => v = phV full
 | 6 => v = .int .i64 (Ec.limitOf e full)
 | 7 => v = .int .i64 (Ec.farAt e set d - Ec.limitOf e full)
 | 8 => v = .int .i64 (max 0 (Ec.farAt e set d - Ec.limitOf e full))
 | _ => v = .int .i64 (min L (max 0 (Ec.farAt e set d - Ec.limitOf e full)))
theorem e_Widens_ok (p : EP) (e : Ec.Engine) (set : List Int) (lo hi late : Int) (w : World) (hm : EngSet w p e set) (hl : EngShort e) (hs : set.length ≤ 100000) (c0 : Ec.engineOk e = true) (c1 : Ec.setOk e.feasts set = true) (c2 : Ec.isSpan lo hi = true) (c3 : Ec.isLate late = true) :
  Calls Tryz.prog 39 #[.agg #[.slice p.Ab e.sky.bodies.length p.cb, .int .i64 e.sky.nnum, .int .i64 e.sky.nden, .int .i64 e.sky.nstart, .slice p.As e.sun.length p.cs, .slice p.Am e.moon.length p.cm, .slice p.An e.node.length p.cn, .slice p.Af e.feasts.length p.cf, .int .i64 e.nw, .int .i64 e.fl, .int .i64 e.wide], .slice p.At set.length p.ct, .int .i64 lo, .int .i64 hi, .int .i64 late] w fun r w' => r = .returned (wideV (Ec.widens e set lo hi late)) ∧ Ext w w' := by
 have HM := Lib.hid hm
 have HL := Lib.hid hl
 have HK : Hid (Fine e set) := Lib.hid ⟨c0, c1⟩
 have HR0 : Hid (Row (w.alloc (.cells #[.slice p.Ab e.sky.bodies.length p.cb, .int .i64 e.sky.nnum, .int .i64 e.sky.nden, .int .i64 e.sky.nstart, .slice p.As e.sun.length p.cs, .slice p.Am e.moon.length p.cm, .slice p.An e.node.length p.cn, .slice p.Af e.feasts.length p.cf, .int .i64 e.nw, .int .i64 e.fl, .int .i64 e.wide] 76)) w.heap.size 76 #[.slice p.Ab e.sky.bodies.length p.cb, .int .i64 e.sky.nnum, .int .i64 e.sky.nden, .int .i64 e.sky.nstart, .slice p.As e.sun.length p.cs, .slice p.Am e.moon.length p.cm, .slice p.An e.node.length p.cn, .slice p.Af e.feasts.length p.cf, .int .i64 e.nw, .int .i64 e.fl, .int .i64 e.wide]) := Lib.hid (Row.new w _ _)
 have HE0 := Lib.hid ((Ext.refl w).alloc (.cells #[.slice p.Ab e.sky.bodies.length p.cb, .int .i64 e.sky.nnum, .int .i64 e.sky.nden, .int .i64 e.sky.nstart, .slice p.As e.sun.length p.cs, .slice p.Am e.moon.length p.cm, .slice p.An e.node.length p.cn, .slice p.Af e.feasts.length p.cf, .int .i64 e.nw, .int .i64 e.fl, .int .i64 e.wide] 76))
 have hd : 1 ≤ lo ∧ lo ≤ hi ∧ hi ≤ 9000 ∧ hi - lo ≤ 400 := by
  simp only [Ec.isSpan, Sp.inR, Bool.and_eq_true, decide_eq_true_eq] at c2
  omega
 have hla : 0 ≤ late ∧ late ≤ 30 := by
  simp only [Ec.isLate, Sp.inR, Bool.and_eq_true, decide_eq_true_eq] at c3
  omega
 clear hm hl
 go_enter Tryz.func39, Tryz.ntmps39
 go_wp2_with fail
 obtain ⟨W, hW⟩ : ∃ W, w.alloc (.cells #[.slice p.Ab e.sky.bodies.length p.cb, .int .i64 e.sky.nnum, .int .i64 e.sky.nden, .int .i64 e.sky.nstart, .slice p.As e.sun.length p.cs, .slice p.Am e.moon.length p.cm, .slice p.An e.node.length p.cn, .slice p.Af e.feasts.length p.cf, .int .i64 e.nw, .int .i64 e.fl, .int .i64 e.wide] 76) = W := ⟨_, rfl⟩
 rw [hW] at HR0 HE0 ⊢
 clear hW
 refine Code.wp_mono (Q := fun e' a' w' => e' = .normal ∧ ∃ M4 M5 M b, W.heap.size ≤ b ∧ W.heap.size ≤ M ∧ Ext W w' ∧ Row w' b 105 #[.slice p.Ab e.sky.bodies.length p.cb, .int .i64 e.sky.nnum, .int .i64 e.sky.nden, .int .i64 e.sky.nstart, .slice p.As e.sun.length p.cs, .slice p.Am e.moon.length p.cm, .slice p.An e.node.length p.cn, .slice p.Af e.feasts.length p.cf, .int .i64 e.nw, .int .i64 e.fl, .int .i64 e.wide, .slice p.At set.length p.ct, .map (some M)] ∧ Seen e set M w' ∧ a' = (⟨#[.agg #[.slice p.Ab e.sky.bodies.length p.cb, .int .i64 e.sky.nnum, .int .i64 e.sky.nden, .int .i64 e.sky.nstart, .slice p.As e.sun.length p.cs, .slice p.Am e.moon.length p.cm, .slice p.An e.node.length p.cn, .slice p.Af e.feasts.length p.cf, .int .i64 e.nw, .int .i64 e.fl, .int .i64 e.wide], .slice p.At set.length p.ct, .int .i64 lo, .int .i64 hi, .int .i64 late, .pointer (some ⟨w.heap.size, 0, none⟩), undef, undef, undef, undef, .int .i64 0, .int .i64 0, .pointer (some ⟨b, 0, none⟩), .int .i64 0, undef, undef, undef, undef, undef, undef, .tuple #[.agg #[.slice p.Ab e.sky.bodies.length p.cb, .int .i64 e.sky.nnum, .int .i64 e.sky.nden, .int .i64 e.sky.nstart, .slice p.As e.sun.length p.cs, .slice p.Am e.moon.length p.cm, .slice p.An e.node.length p.cn, .slice p.Af e.feasts.length p.cf, .int .i64 e.nw, .int .i64 e.fl, .int .i64 e.wide, .slice p.At set.length p.ct, .map (some M5)], .int .i64 0], .agg #[.slice p.Ab e.sky.bodies.length p.cb, .int .i64 e.sky.nnum, .int .i64 e.sky.nden, .int .i64 e.sky.nstart, .slice p.As e.sun.length p.cs, .slice p.Am e.moon.length p.cm, .slice p.An e.node.length p.cn, .slice p.Af e.feasts.length p.cf, .int .i64 e.nw, .int .i64 e.fl, .int .i64 e.wide], .slice p.At set.length p.ct, .int .i64 lo, .int .i64 hi, .bool true, .bool true, .int .i64 late, .bool true, .bool true, .tuple #[.agg #[.slice p.Ab e.sky.bodies.length p.cb, .int .i64 e.sky.nnum, .int .i64 e.sky.nden, .int .i64 e.sky.nstart, .slice p.As e.sun.length p.cs, .slice p.Am e.moon.length p.cm, .slice p.An e.node.length p.cn, .slice p.Af e.feasts.length p.cf, .int .i64 e.nw, .int .i64 e.fl, .int .i64 e.wide, .slice p.At set.length p.ct, .map (some M4)], .int .i64 0], .agg #[.slice p.Ab e.sky.bodies.length p.cb, .int .i64 e.sky.nnum, .int .i64 e.sky.nden, .int .i64 e.sky.nstart, .slice p.As e.sun.length p.cs, .slice p.Am e.moon.length p.cm, .slice p.An e.node.length p.cn, .slice p.Af e.feasts.length p.cf, .int .i64 e.nw, .int .i64 e.fl, .int .i64 e.wide, .slice p.At set.length p.ct, .map (some M)], .int .i64 0, undef, undef, undef, undef, undef, undef, undef, undef, undef, undef, undef, undef, undef, undef, undef, undef, undef, undef, undef, undef, undef, undef, undef, undef, undef, undef, undef, undef, undef, undef, undef, undef, undef, undef, undef, undef, undef, undef, undef, undef, undef, undef, undef, undef, undef, undef, undef, undef, undef, undef], []⟩ : Act)) ?hq (wp_region_free_tail 14 12 (widensΦ p e set lo hi late W) (by kernel_rfl) (by simp) (by kernel_rfl) (by kernel_rfl) (by kernel_rfl) (by kernel_rfl) widensΦ_mono ?hob ?hQ ?hZ)
 case hob =>
  intro i o hin ho a wa hE hF
  match i, hin with
  | 0, _ =>
   cases ho
   have h0 : a.tmps[5]?.getD undef = .pointer (some ⟨w.heap.size, 0, none⟩) := evalD (hF.old 5 (by decide))
   have q := (HR0.out.ext hE).cell
   refine Ran.value rfl (v := .agg #[.slice p.Ab e.sky.bodies.length p.cb, .int .i64 e.sky.nnum, .int .i64 e.sky.nden, .int .i64 e.sky.nstart, .slice p.As e.sun.length p.cs, .slice p.Am e.moon.length p.cm, .slice p.An e.node.length p.cn, .slice p.Af e.feasts.length p.cf, .int .i64 e.nw, .int .i64 e.fl, .int .i64 e.wide]) (w1 := wa) ?_ ⟨rfl, Ext.refl _⟩
   go_simp
  | 1, _ =>
   cases ho
   have h0 : a.tmps[1]?.getD undef = .slice p.At set.length p.ct := evalD (hF.old 1 (by decide))
   refine Ran.value rfl (v := .slice p.At set.length p.ct) (w1 := wa) ?_ ⟨rfl, Ext.refl _⟩
   go_simp
  | 2, _ =>
   cases ho
   have h0 : a.tmps[2]?.getD undef = .int .i64 lo := evalD (hF.old 2 (by decide))
   refine Ran.value rfl (v := .int .i64 lo) (w1 := wa) ?_ ⟨rfl, Ext.refl _⟩
   go_simp
  | 3, _ =>
   cases ho
   have h0 : a.tmps[3]?.getD undef = .int .i64 hi := evalD (hF.old 3 (by decide))
   refine Ran.value rfl (v := .int .i64 hi) (w1 := wa) ?_ ⟨rfl, Ext.refl _⟩
   go_simp
  | 4, _ =>
   cases ho
   have h0 : a.tmps[23]?.getD undef = .int .i64 lo := evalD (hF.from_ 2 23 rfl (by decide))
   have h1 : a.tmps[24]?.getD undef = .int .i64 hi := evalD (hF.from_ 3 24 rfl (by decide))
   refine Ran.enter rfl (f := 69) (args := #[.int .i64 lo, .int .i64 hi]) (w1 := wa) ?_ ?_
   ·go_simp
   ·refine (e_isSpan_any lo hi _).mono ?_
    rintro r w1 ⟨rfl, rfl⟩
    exact ⟨_, rfl, by rw [c2]; rfl, Ext.refl _⟩
  | 5, _ =>
   cases ho
   have h0 : a.tmps[25]?.getD undef = .bool true := evalD (hF.from_ 4 25 rfl (by decide))
   refine Ran.value rfl (v := .bool true) (w1 := wa) ?_ ⟨rfl, Ext.refl _⟩
   go_simp
  | 6, _ =>
   cases ho
   have hg : a.eval (.tmp 26) = .bool true := hF.from_ 5 26 rfl (by decide)
   refine Ran.if_ rfl rfl rfl hg (fun _ => ?_) (fun h => absurd rfl h)
   have h0 : a.tmps[4]?.getD undef = .int .i64 late := evalD (hF.old 4 (by decide))
   refine Ran.value rfl (v := .int .i64 late) (w1 := wa) ?_ ⟨rfl, Ext.refl _⟩
   go_simp
  | 7, _ =>
   cases ho
   have hg : a.eval (.tmp 26) = .bool true := hF.from_ 5 26 rfl (by decide)
   refine Ran.if_ rfl rfl rfl hg (fun _ => ?_) (fun h => absurd rfl h)
   have h0 : a.tmps[27]?.getD undef = .int .i64 late := evalD (hF.from_ 6 27 rfl (by decide))
   refine Ran.enter rfl (f := 71) (args := #[.int .i64 late]) (w1 := wa) ?_ ?_
   ·go_simp
   ·refine (e_isLate_any late _).mono ?_
    rintro r w1 ⟨rfl, rfl⟩
    exact ⟨_, rfl, by rw [c3]; rfl, Ext.refl _⟩
  | 8, _ =>
   cases ho
   have h0 : a.tmps[26]?.getD undef = .bool true := evalD (hF.from_ 5 26 rfl (by decide))
   have h1 : a.tmps[28]?.getD undef = .bool true := evalD (hF.from_ 7 28 rfl (by decide))
   refine Ran.value rfl (v := .bool true) (w1 := wa) ?_ ⟨rfl, Ext.refl _⟩
   go_simp
  | 9, _ =>
   cases ho
   have h0 : a.tmps[21]?.getD undef = .agg #[.slice p.Ab e.sky.bodies.length p.cb, .int .i64 e.sky.nnum, .int .i64 e.sky.nden, .int .i64 e.sky.nstart, .slice p.As e.sun.length p.cs, .slice p.Am e.moon.length p.cm, .slice p.An e.node.length p.cn, .slice p.Af e.feasts.length p.cf, .int .i64 e.nw, .int .i64 e.fl, .int .i64 e.wide] := evalD (hF.from_ 0 21 rfl (by decide))
   have h1 : a.tmps[22]?.getD undef = .slice p.At set.length p.ct := evalD (hF.from_ 1 22 rfl (by decide))
   have h2 : a.tmps[29]?.getD undef = .bool true := evalD (hF.from_ 8 29 rfl (by decide))
   refine Ran.enter rfl (f := 62) (args := #[.agg #[.slice p.Ab e.sky.bodies.length p.cb, .int .i64 e.sky.nnum, .int .i64 e.sky.nden, .int .i64 e.sky.nstart, .slice p.As e.sun.length p.cs, .slice p.Am e.moon.length p.cm, .slice p.An e.node.length p.cn, .slice p.Af e.feasts.length p.cf, .int .i64 e.nw, .int .i64 e.fl, .int .i64 e.wide], .slice p.At set.length p.ct, .bool true]) (w1 := wa) ?_ ?_
   ·go_simp
   ·refine (e_asked_ok p e set wa (HM.out.ext (HE0.out.trans hE)) HL.out hs c0 c1).mono ?_
    rintro r w1 ⟨M, rfl, hM, hC, hX⟩
    exact ⟨_, rfl, ⟨M, rfl, Nat.le_trans hE.size hM, hC⟩, hX⟩
  | 10, _ =>
   cases ho
   obtain ⟨M, h0, hM, hC⟩ : AskTup p e set W (a.eval (.tmp 30)) wa := hF.from_ 9 30 rfl (by decide)
   replace h0 := evalD h0
   refine Ran.value rfl (w1 := wa) (v := .tuple #[.agg #[.slice p.Ab e.sky.bodies.length p.cb, .int .i64 e.sky.nnum, .int .i64 e.sky.nden, .int .i64 e.sky.nstart, .slice p.As e.sun.length p.cs, .slice p.Am e.moon.length p.cm, .slice p.An e.node.length p.cn, .slice p.Af e.feasts.length p.cf, .int .i64 e.nw, .int .i64 e.fl, .int .i64 e.wide, .slice p.At set.length p.ct, .map (some M)], .int .i64 0]) ?_ ⟨⟨M, rfl, hM, hC⟩, Ext.refl _⟩
   go_simp
  | 11, _ =>
   cases ho
   obtain ⟨M, h0, hM, hC⟩ : AskTup p e set W (a.eval (.tmp 20)) wa := hF.from_ 10 20 rfl (by decide)
   replace h0 := evalD h0
   refine Ran.value rfl (w1 := wa) (v := .agg #[.slice p.Ab e.sky.bodies.length p.cb, .int .i64 e.sky.nnum, .int .i64 e.sky.nden, .int .i64 e.sky.nstart, .slice p.As e.sun.length p.cs, .slice p.Am e.moon.length p.cm, .slice p.An e.node.length p.cn, .slice p.Af e.feasts.length p.cf, .int .i64 e.nw, .int .i64 e.fl, .int .i64 e.wide, .slice p.At set.length p.ct, .map (some M)]) ?_ ⟨⟨M, rfl, hM, hC⟩, Ext.refl _⟩
   go_simp
  | 12, _ =>
   cases ho
   obtain ⟨M, h0, hM, hC⟩ : AskTup p e set W (a.eval (.tmp 20)) wa := hF.from_ 10 20 rfl (by decide)
   replace h0 := evalD h0
   refine Ran.value rfl (w1 := wa) (v := .int .i64 0) ?_ ⟨rfl, Ext.refl _⟩
   go_simp
  | 13, _ =>
   cases ho
   refine Ran.value rfl (w1 := wa.alloc (.cells zeroEng 105)) (v := .pointer (some ⟨wa.heap.size, 0, none⟩)) (by kernel_rfl) ⟨⟨wa.heap.size, rfl, hE.size, Row.new _ _ _⟩, (Ext.refl _).alloc _⟩
  | k + 14, hin => omega
 case hQ =>
  intro vs w2 hE hΦ
  have f0 : vs 0 = .agg #[.slice p.Ab e.sky.bodies.length p.cb, .int .i64 e.sky.nnum, .int .i64 e.sky.nden, .int .i64 e.sky.nstart, .slice p.As e.sun.length p.cs, .slice p.Am e.moon.length p.cm, .slice p.An e.node.length p.cn, .slice p.Af e.feasts.length p.cf, .int .i64 e.nw, .int .i64 e.fl, .int .i64 e.wide] := hΦ 0 (by omega)
  have f1 : vs 1 = .slice p.At set.length p.ct := hΦ 1 (by omega)
  have f2 : vs 2 = .int .i64 lo := hΦ 2 (by omega)
  have f3 : vs 3 = .int .i64 hi := hΦ 3 (by omega)
  have f4 : vs 4 = .bool true := hΦ 4 (by omega)
  have f5 : vs 5 = .bool true := hΦ 5 (by omega)
  have f6 : vs 6 = .int .i64 late := hΦ 6 (by omega)
  have f7 : vs 7 = .bool true := hΦ 7 (by omega)
  have f8 : vs 8 = .bool true := hΦ 8 (by omega)
  obtain ⟨M4, f9, _, _⟩ : AskTup p e set W (vs 9) w2 := hΦ 9 (by omega)
  obtain ⟨M5, f10, _, _⟩ : AskTup p e set W (vs 10) w2 := hΦ 10 (by omega)
  obtain ⟨M, f11, hM, hC⟩ : AskAgg p e set W (vs 11) w2 := hΦ 11 (by omega)
  have f12 : vs 12 = .int .i64 0 := hΦ 12 (by omega)
  obtain ⟨b, f13, hb, hr⟩ : AskNew W (vs 13) w2 := hΦ 13 (by omega)
  have hrg : List.range 14 = [0, 1, 2, 3, 4, 5, 6, 7, 8, 9, 10, 11, 12, 13] := rfl
  unfold putAll putS
  simp only [List.length_cons, List.length_nil, List.take_succ_cons, List.take_zero, List.drop_succ_cons, List.drop_zero, Nat.reduceAdd, hrg, List.foldl_cons, List.foldl_nil, dstOf, List.getElem?_cons_succ, List.getElem?_cons_zero, Option.bind_some]
  clear hrg
  rw [f0, f1, f2, f3, f4, f5, f6, f7, f8, f9, f10, f11, f12, f13]
  have c := hr.cell
  simp only [zeroEng] at c
  have fz := hr.free
  have hne : b ≠ M := fun h => (hC.not_row hr) h
  go_wp2
  clear c fz
  obtain ⟨W3, hW3⟩ : ∃ W3, setsAt w2 b 0 [.slice p.Ab e.sky.bodies.length p.cb, .int .i64 e.sky.nnum, .int .i64 e.sky.nden, .int .i64 e.sky.nstart, .slice p.As e.sun.length p.cs, .slice p.Am e.moon.length p.cm, .slice p.An e.node.length p.cn, .slice p.Af e.feasts.length p.cf, .int .i64 e.nw, .int .i64 e.fl, .int .i64 e.wide, .slice p.At set.length p.ct, .map (some M)] = W3 := ⟨_, rfl⟩
  have hR3 : Row W3 b 105 #[.slice p.Ab e.sky.bodies.length p.cb, .int .i64 e.sky.nnum, .int .i64 e.sky.nden, .int .i64 e.sky.nstart, .slice p.As e.sun.length p.cs, .slice p.Am e.moon.length p.cm, .slice p.An e.node.length p.cn, .slice p.Af e.feasts.length p.cf, .int .i64 e.nw, .int .i64 e.fl, .int .i64 e.wide, .slice p.At set.length p.ct, .map (some M)] := by rw [← hW3]; exact Row.sets (cs := [.slice none 0 0, .int .i64 0, .int .i64 0, .int .i64 0, .slice none 0 0, .slice none 0 0, .slice none 0 0, .slice none 0 0, .int .i64 0, .int .i64 0, .int .i64 0, .slice none 0 0, .map none]) hr _ rfl
  have hE3 : Ext W W3 := by rw [← hW3]; exact Ext.sets hb _ _ _ hE
  have hC3 : Seen e set M W3 := by rw [← hW3]; exact Cache.sets hne _ _ _ hC
  simp only [setsAt, Nat.reduceAdd] at hW3
  try rw [hW3]
  exact ⟨M4, M5, M, b, hb, hM, hE3, hR3, hC3, by simp⟩
 case hZ =>
  intro _ vs w2 hE hΦ on oz hon hoz
  obtain rfl := Option.some.inj hon
  obtain rfl := Option.some.inj hoz
  have f0 : vs 0 = .agg #[.slice p.Ab e.sky.bodies.length p.cb, .int .i64 e.sky.nnum, .int .i64 e.sky.nden, .int .i64 e.sky.nstart, .slice p.As e.sun.length p.cs, .slice p.Am e.moon.length p.cm, .slice p.An e.node.length p.cn, .slice p.Af e.feasts.length p.cf, .int .i64 e.nw, .int .i64 e.fl, .int .i64 e.wide] := hΦ 0 (by omega) (by omega)
  have f1 : vs 1 = .slice p.At set.length p.ct := hΦ 1 (by omega) (by omega)
  have f2 : vs 2 = .int .i64 lo := hΦ 2 (by omega) (by omega)
  have f3 : vs 3 = .int .i64 hi := hΦ 3 (by omega) (by omega)
  have f4 : vs 4 = .bool true := hΦ 4 (by omega) (by omega)
  have f5 : vs 5 = .bool true := hΦ 5 (by omega) (by omega)
  have f6 : vs 6 = .int .i64 late := hΦ 6 (by omega) (by omega)
  have f7 : vs 7 = .bool true := hΦ 7 (by omega) (by omega)
  have f8 : vs 8 = .bool true := hΦ 8 (by omega) (by omega)
  obtain ⟨M4, f9, _, _⟩ : AskTup p e set W (vs 9) w2 := hΦ 9 (by omega) (by omega)
  obtain ⟨M5, f10, _, _⟩ : AskTup p e set W (vs 10) w2 := hΦ 10 (by omega) (by omega)
  obtain ⟨M, f11, hM, hC⟩ : AskAgg p e set W (vs 11) w2 := hΦ 11 (by omega) (by omega)
  obtain ⟨b, f13, hb, hr⟩ : AskNew W (vs 13) w2 := hΦ 13 (by omega) (by omega)
  have hrg : (List.range 14).filter (· ≠ 12) = [0, 1, 2, 3, 4, 5, 6, 7, 8, 9, 10, 11, 13] := by decide
  rw [hrg]
  unfold putS
  simp only [List.take_succ_cons, List.take_zero, List.drop_succ_cons, List.drop_zero, Nat.reduceAdd, List.foldl_cons, List.foldl_nil, dstOf, List.getElem?_cons_succ, List.getElem?_cons_zero, Option.bind_some]
  clear hrg
  rw [f0, f1, f2, f3, f4, f5, f6, f7, f8, f9, f10, f11, f13]
  have c := hr.cell
  simp only [zeroEng] at c
  have fz := hr.free
  have hne : b ≠ M := fun h => (hC.not_row hr) h
  go_wp2
  clear c fz
  obtain ⟨W3, hW3⟩ : ∃ W3, setsAt w2 b 0 [.slice p.Ab e.sky.bodies.length p.cb, .int .i64 e.sky.nnum, .int .i64 e.sky.nden, .int .i64 e.sky.nstart, .slice p.As e.sun.length p.cs, .slice p.Am e.moon.length p.cm, .slice p.An e.node.length p.cn, .slice p.Af e.feasts.length p.cf, .int .i64 e.nw, .int .i64 e.fl, .int .i64 e.wide, .slice p.At set.length p.ct, .map (some M)] = W3 := ⟨_, rfl⟩
  have hR3 : Row W3 b 105 #[.slice p.Ab e.sky.bodies.length p.cb, .int .i64 e.sky.nnum, .int .i64 e.sky.nden, .int .i64 e.sky.nstart, .slice p.As e.sun.length p.cs, .slice p.Am e.moon.length p.cm, .slice p.An e.node.length p.cn, .slice p.Af e.feasts.length p.cf, .int .i64 e.nw, .int .i64 e.fl, .int .i64 e.wide, .slice p.At set.length p.ct, .map (some M)] := by rw [← hW3]; exact Row.sets (cs := [.slice none 0 0, .int .i64 0, .int .i64 0, .int .i64 0, .slice none 0 0, .slice none 0 0, .slice none 0 0, .slice none 0 0, .int .i64 0, .int .i64 0, .int .i64 0, .slice none 0 0, .map none]) hr _ rfl
  have hE3 : Ext W W3 := by rw [← hW3]; exact Ext.sets hb _ _ _ hE
  have hC3 : Seen e set M W3 := by rw [← hW3]; exact Cache.sets hne _ _ _ hC
  simp only [setsAt, Nat.reduceAdd] at hW3
  try rw [hW3]
  exact ⟨M4, M5, M, b, hb, hM, hE3, hR3, hC3, by simp⟩
 case hq =>
  rintro e' a' w3 ⟨rfl, M4, M5, M, b, hb, hM, hE3, hR3, hC3, rfl⟩
  have hMw := Nat.le_trans HE0.out.size hM
  have HE3 := Lib.hid (HE0.out.trans hE3)
  have HR3 := Lib.hid hR3
  have HC3 := Lib.hid hC3
  have c := hR3.cell
  clear hE3 hR3 hC3
  go_wp2_with fail
  refine (e_real_any p e set M lo hi _ HK.out (HM.out.ext HE3.out) HL.out.sky (by omega) hd.2.1 (by omega) (by omega) (by omega)).mono ?_
  rintro r w4 ⟨v, rfl, hv, hE4⟩
  have hx : max 1 lo = lo := by omega
  rw [hx] at hv
  clear hx c
  have HE4 := Lib.hid (HE3.out.trans hE4)
  have HR4 := Lib.hid (HR3.out.ext hE4)
  have HC4 := Lib.hid (HC3.out.ext hE4)
  have hz4 := HE4.out.size
  have hM4 := HC4.out.lt
  have hll := realL_len e lo hi
  have HD : Hid (∀ x ∈ Ec.realL e lo hi, lo ≤ x.day ∧ x.day ≤ hi) := Lib.hid fun x hx => by
   obtain ⟨a, b, _⟩ := (Ec.ecls_mem _ _ _ _ _ x).1 hx
   exact ⟨a, b⟩
  have HQ : Hid (Ec.widens e set lo hi late = Ec.wideN e set late (Ec.realL e lo hi)) := Lib.hid rfl
  obtain ⟨l, hL⟩ : ∃ l, Ec.realL e lo hi = l := ⟨_, rfl⟩
  rw [hL] at hv hll HD HQ
  clear hL hE4
  obtain ⟨AM, cM, rfl, hcl⟩ := hv
  have HCL := Lib.hid hcl
  clear hcl
  go_wp2_with fail
  go_loopw [14, 41] (fun v d wr => WidRel w4 e set M late l v d wr) (fun _ d _ => l.length - (intOf d).toNat)
  case atStart => exact ⟨0, Nat.zero_le _, rfl, by simp [Ec.wideN], Step.refl HC4.out⟩
  case round =>
   obtain ⟨k, hk, rfl, rfl, hmv⟩ := hrel
   have HMV := Lib.hid hmv
   have hmz := hmv.size
   by_cases hlt : k < l.length
   ·have htake : l.take (k + 1) = l.take k ++ [l[k]] := by rw [List.take_succ_eq_append_getElem hlt]
    have hday := HD.out l[k] (List.getElem_mem hlt)
    obtain ⟨b', o, rfl, hcell⟩ := HCL.out (by omega)
    obtain ⟨q1, q2, q3⟩ := hcell k hlt
    replace q1 := hmv.cell HC4.out q1
    replace q2 := hmv.cell HC4.out q2
    replace q3 := hmv.cell HC4.out q3
    have hnext := wideN_snoc e set late (l.take k) l[k]
    rw [← htake] at hnext
    have hvb := wideN_bounds e set late (l.take k)
    obtain ⟨V, hV⟩ : ∃ V, Ec.wideN e set late (l.take k) = V := ⟨_, rfl⟩
    rw [hV] at hnext hvb ⊢
    have HN := Lib.hid hnext
    obtain ⟨m, hm⟩ : ∃ m, l[k] = m := ⟨_, rfl⟩
    rw [hm] at q1 q2 q3 hday HN
    clear hmv hcell htake hnext hm hV
    obtain ⟨md, mf, mr⟩ := m
    simp only at q1 q2 q3 hday
    have j1 := lts (lt_of_cell q1)
    have HNr := Lib.hid (Row.new wr 87 #[.int .i64 md, .bool mf, .int .i64 mr])
    have HCr := Lib.hid (HMV.out.cache.ext ((Ext.refl wr).alloc (.cells #[.int .i64 md, .bool mf, .int .i64 mr] 87)))
    have HMr := Lib.hid (HMV.out.ext ((Ext.refl wr).alloc (.cells #[.int .i64 md, .bool mf, .int .i64 mr] 87)))
    go_wp2_with fail
    refine (e_phaseOf_any mf _).mono ?_
    rintro r w5 ⟨rfl, hE5⟩
    have HN5 := Lib.hid (HNr.out.ext hE5)
    have HC5 := Lib.hid (HCr.out.ext hE5)
    have HM5 := Lib.hid (HMr.out.ext hE5)
    have n5 := HN5.out.cell
    clear hE5 q1 q2 q3
    go_wp2_with fail
    clear n5
    obtain ⟨lo1, hlo1⟩ : ∃ lo1, max 1 (md - late) = lo1 := ⟨_, rfl⟩
    have hl1 : 1 ≤ lo1 ∧ md - late ≤ lo1 ∧ lo1 ≤ md := by omega
    rw [hlo1]
    have HLO := Lib.hid hlo1
    clear hlo1
    obtain ⟨wo, rfl⟩ : ∃ wo : World, wo = wr := ⟨_, rfl⟩
    obtain ⟨n, hn⟩ : ∃ n, (md + late + 1 - lo1).toNat = n := ⟨_, rfl⟩
    go_loopw [18, 19] (fun v d wr => LeaRel w5 e set M mf lo1 n v d wr) (fun _ d _ => (md + late + 1 - intOf d).toNat)
    case atStart => exact ⟨0, Nat.zero_le _, by simp, by simp [Ec.leastN], Step.refl HC5.out⟩
    case round =>
     obtain ⟨j, hj, rfl, rfl, hmv⟩ := hrel
     have HMj := Lib.hid hmv
     have hjb := leastN_bounds e set mf lo1 j
     have nj := (hmv.row HC5.out HN5.out).cell
     have HRx := Lib.hid (hmv.row HC5.out (HM5.out.row HC4.out HR4.out))
     have HCx := Lib.hid hmv.cache
     have HMx := Lib.hid (HM.out.ext (HE4.out.trans' ((HM5.out.trans hmv).below hMw HE4.out.size)))
     clear hmv
     have hs1 : Ec.leastN e set mf lo1 (j + 1) = if Ec.hasB e set (lo1 + j) mf = true then min (Ec.leastN e set mf lo1 j) (max 0 (Ec.farAt e set (lo1 + j) - Ec.limitOf e mf)) else Ec.leastN e set mf lo1 j := rfl
     have HS := Lib.hid hs1
     clear hs1
     obtain ⟨Lj, hLj⟩ : ∃ Lj, Ec.leastN e set mf lo1 j = Lj := ⟨_, rfl⟩
     rw [hLj] at hjb HS ⊢
     have HLJ := Lib.hid hLj
     clear hLj
     by_cases hjn : j < n
     ·have c := HRx.out.cell
      go_wp2_with fail
      refine (e_has_any p e set M (lo1 + j) mf wr HK.out HMx.out HCx.out (by omega) (by omega)).mono ?_
      rintro r w6 ⟨rfl, hS6⟩
      replace HRx := Lib.hid (hS6.row HCx.out HRx.out)
      replace HMx := Lib.hid (HMx.out.stay (hS6.stays HCx.out))
      replace HMj := Lib.hid (HMj.out.trans hS6)
      have nj6 := (HMj.out.row HC5.out HN5.out).cell
      replace HCx := Lib.hid hS6.cache
      clear hS6 c nj
      cases hb : Ec.hasB e set (lo1 + j) mf
      ·rw [hb] at HS
       have HSS := Lib.hid (HS.out.trans (if_neg (by simp)))
       clear hb
       go_wp2_with fail
       go_roundw
       case rel => exact ⟨j + 1, by omega, by go_num, by rw [HSS.out], HMj.out⟩
       case measure => simp [intOf]; omega
      ·rw [hb] at HS
       have HSS := Lib.hid (HS.out.trans (if_pos rfl))
       have hfb := far_bounds e set (lo1 + j)
       have hlb : 0 ≤ Ec.limitOf e mf ∧ Ec.limitOf e mf ≤ 5400 := by
        obtain ⟨a1, a2, _⟩ := HK.out.limits
        unfold Ec.limitOf
        cases mf <;> simp <;> omega
       clear hb nj6
       go_wp2_with fail
       refine wp_region_free_tailR (Move e set M) (Step.of_ext HCx.out ((Ext.refl _).drew)) (fun h k => Step.trans h k) 10 10 (widΦ p e set M mf Lj (lo1 + j)) (by kernel_rfl) (by simp) (by kernel_rfl) (by kernel_rfl) (by kernel_rfl) (by kernel_rfl) (fun _ _ _ _ h _ => h) ?hob ?hQ (fun h => absurd h (by omega))
       case hob =>
        intro i o hin ho a wa hE hF
        match i, hin with
        | 0, _ =>
         cases ho
         have h0 : a.tmps[18]?.getD undef = .int .i64 Lj := evalD (hF.old 18 (by decide))
         refine Ran.value rfl (v := .int .i64 Lj) (w1 := wa) ?_ ⟨rfl, Step.refl hE.cache⟩
         go_simp
        | 1, _ =>
         cases ho
         have h0 : a.tmps[12]?.getD undef = .pointer (some ⟨b, 0, none⟩) := evalD (hF.old 12 (by decide))
         have q := (hE.row HCx.out HRx.out).cell
         refine Ran.value rfl (v := .agg #[.slice p.Ab e.sky.bodies.length p.cb, .int .i64 e.sky.nnum, .int .i64 e.sky.nden, .int .i64 e.sky.nstart, .slice p.As e.sun.length p.cs, .slice p.Am e.moon.length p.cm, .slice p.An e.node.length p.cn, .slice p.Af e.feasts.length p.cf, .int .i64 e.nw, .int .i64 e.fl, .int .i64 e.wide, .slice p.At set.length p.ct, .map (some M)]) (w1 := wa) ?_ ⟨rfl, Step.refl hE.cache⟩
         go_simp
        | 2, _ =>
         cases ho
         have h0 : a.tmps[19]?.getD undef = .int .i64 (lo1 + j) := evalD (hF.old 19 (by decide))
         refine Ran.value rfl (v := .int .i64 (lo1 + j)) (w1 := wa) ?_ ⟨rfl, Step.refl hE.cache⟩
         go_simp
        | 3, _ =>
         cases ho
         have h0 : a.tmps[66]?.getD undef = .agg #[.slice p.Ab e.sky.bodies.length p.cb, .int .i64 e.sky.nnum, .int .i64 e.sky.nden, .int .i64 e.sky.nstart, .slice p.As e.sun.length p.cs, .slice p.Am e.moon.length p.cm, .slice p.An e.node.length p.cn, .slice p.Af e.feasts.length p.cf, .int .i64 e.nw, .int .i64 e.fl, .int .i64 e.wide, .slice p.At set.length p.ct, .map (some M)] := evalD (hF.from_ 1 66 rfl (by decide))
         have h1 : a.tmps[67]?.getD undef = .int .i64 (lo1 + j) := evalD (hF.from_ 2 67 rfl (by decide))
         refine Ran.enter rfl (f := 76) (args := #[.agg #[.slice p.Ab e.sky.bodies.length p.cb, .int .i64 e.sky.nnum, .int .i64 e.sky.nden, .int .i64 e.sky.nstart, .slice p.As e.sun.length p.cs, .slice p.Am e.moon.length p.cm, .slice p.An e.node.length p.cn, .slice p.Af e.feasts.length p.cf, .int .i64 e.nw, .int .i64 e.fl, .int .i64 e.wide, .slice p.At set.length p.ct, .map (some M)], .int .i64 (lo1 + j)]) (w1 := wa) ?_ ?_
         ·go_simp
         ·refine (e_far_any p e set M (lo1 + j) wa HK.out (HMx.out.stay (hE.stays HCx.out)) hE.cache (by omega) (by omega)).mono ?_
          rintro r w1 ⟨rfl, hS⟩
          exact ⟨_, rfl, rfl, hS⟩
        | 4, _ =>
         cases ho
         have h0 : a.tmps[12]?.getD undef = .pointer (some ⟨b, 0, none⟩) := evalD (hF.old 12 (by decide))
         have q := (hE.row HCx.out HRx.out).cell
         refine Ran.value rfl (v := .agg #[.slice p.Ab e.sky.bodies.length p.cb, .int .i64 e.sky.nnum, .int .i64 e.sky.nden, .int .i64 e.sky.nstart, .slice p.As e.sun.length p.cs, .slice p.Am e.moon.length p.cm, .slice p.An e.node.length p.cn, .slice p.Af e.feasts.length p.cf, .int .i64 e.nw, .int .i64 e.fl, .int .i64 e.wide, .slice p.At set.length p.ct, .map (some M)]) (w1 := wa) ?_ ⟨rfl, Step.refl hE.cache⟩
         go_simp
        | 5, _ =>
         cases ho
         have h0 : a.tmps[17]?.getD undef = phV mf := evalD (hF.old 17 (by decide))
         refine Ran.value rfl (v := phV mf) (w1 := wa) ?_ ⟨rfl, Step.refl hE.cache⟩
         go_simp
        | 6, _ =>
         cases ho
         have h0 : a.tmps[69]?.getD undef = .agg #[.slice p.Ab e.sky.bodies.length p.cb, .int .i64 e.sky.nnum, .int .i64 e.sky.nden, .int .i64 e.sky.nstart, .slice p.As e.sun.length p.cs, .slice p.Am e.moon.length p.cm, .slice p.An e.node.length p.cn, .slice p.Af e.feasts.length p.cf, .int .i64 e.nw, .int .i64 e.fl, .int .i64 e.wide, .slice p.At set.length p.ct, .map (some M)] := evalD (hF.from_ 4 69 rfl (by decide))
         have h1 : a.tmps[70]?.getD undef = phV mf := evalD (hF.from_ 5 70 rfl (by decide))
         refine Ran.enter rfl (f := 77) (args := #[.agg #[.slice p.Ab e.sky.bodies.length p.cb, .int .i64 e.sky.nnum, .int .i64 e.sky.nden, .int .i64 e.sky.nstart, .slice p.As e.sun.length p.cs, .slice p.Am e.moon.length p.cm, .slice p.An e.node.length p.cn, .slice p.Af e.feasts.length p.cf, .int .i64 e.nw, .int .i64 e.fl, .int .i64 e.wide, .slice p.At set.length p.ct, .map (some M)], phV mf]) (w1 := wa) ?_ ?_
         ·go_simp
         ·refine (e_limit_any p e set M mf wa).mono ?_
          rintro r w1 ⟨rfl, hS⟩
          exact ⟨_, rfl, rfl, Step.of_ext hE.cache hS⟩
        | 7, _ =>
         cases ho
         have h0 : a.tmps[68]?.getD undef = .int .i64 (Ec.farAt e set (lo1 + j)) := evalD (hF.from_ 3 68 rfl (by decide))
         have h1 : a.tmps[71]?.getD undef = .int .i64 (Ec.limitOf e mf) := evalD (hF.from_ 6 71 rfl (by decide))
         refine Ran.value rfl (v := .int .i64 (Ec.farAt e set (lo1 + j) - Ec.limitOf e mf)) (w1 := wa) ?_ ⟨rfl, Step.refl hE.cache⟩
         go_simp
         exact IntWalk.i64_in _ ⟨by omega, by omega⟩
        | 8, _ =>
         cases ho
         have h0 : a.tmps[72]?.getD undef = .int .i64 (Ec.farAt e set (lo1 + j) - Ec.limitOf e mf) := evalD (hF.from_ 7 72 rfl (by decide))
         refine Ran.value rfl (v := .int .i64 (max 0 (Ec.farAt e set (lo1 + j) - Ec.limitOf e mf))) (w1 := wa) ?_ ⟨rfl, Step.refl hE.cache⟩
         go_simp
        | 9, _ =>
         cases ho
         have h0 : a.tmps[65]?.getD undef = .int .i64 Lj := evalD (hF.from_ 0 65 rfl (by decide))
         have h1 : a.tmps[73]?.getD undef = .int .i64 (max 0 (Ec.farAt e set (lo1 + j) - Ec.limitOf e mf)) := evalD (hF.from_ 8 73 rfl (by decide))
         refine Ran.value rfl (v := .int .i64 (min Lj (max 0 (Ec.farAt e set (lo1 + j) - Ec.limitOf e mf)))) (w1 := wa) ?_ ⟨rfl, Step.refl hE.cache⟩
         go_simp
        | k + 10, hin => omega
       case hQ =>
        intro vs w2 hE hΦ
        have f0 : vs 0 = .int .i64 Lj := hΦ 0 (by omega)
        have f1 : vs 1 = .agg #[.slice p.Ab e.sky.bodies.length p.cb, .int .i64 e.sky.nnum, .int .i64 e.sky.nden, .int .i64 e.sky.nstart, .slice p.As e.sun.length p.cs, .slice p.Am e.moon.length p.cm, .slice p.An e.node.length p.cn, .slice p.Af e.feasts.length p.cf, .int .i64 e.nw, .int .i64 e.fl, .int .i64 e.wide, .slice p.At set.length p.ct, .map (some M)] := hΦ 1 (by omega)
        have f2 : vs 2 = .int .i64 (lo1 + j) := hΦ 2 (by omega)
        have f3 : vs 3 = .int .i64 (Ec.farAt e set (lo1 + j)) := hΦ 3 (by omega)
        have f4 : vs 4 = .agg #[.slice p.Ab e.sky.bodies.length p.cb, .int .i64 e.sky.nnum, .int .i64 e.sky.nden, .int .i64 e.sky.nstart, .slice p.As e.sun.length p.cs, .slice p.Am e.moon.length p.cm, .slice p.An e.node.length p.cn, .slice p.Af e.feasts.length p.cf, .int .i64 e.nw, .int .i64 e.fl, .int .i64 e.wide, .slice p.At set.length p.ct, .map (some M)] := hΦ 4 (by omega)
        have f5 : vs 5 = phV mf := hΦ 5 (by omega)
        have f6 : vs 6 = .int .i64 (Ec.limitOf e mf) := hΦ 6 (by omega)
        have f7 : vs 7 = .int .i64 (Ec.farAt e set (lo1 + j) - Ec.limitOf e mf) := hΦ 7 (by omega)
        have f8 : vs 8 = .int .i64 (max 0 (Ec.farAt e set (lo1 + j) - Ec.limitOf e mf)) := hΦ 8 (by omega)
        have f9 : vs 9 = .int .i64 (min Lj (max 0 (Ec.farAt e set (lo1 + j) - Ec.limitOf e mf))) := hΦ 9 (by omega)
        have hrg : List.range 10 = [0, 1, 2, 3, 4, 5, 6, 7, 8, 9] := rfl
        unfold putAll putS
        simp only [List.length_cons, List.length_nil, List.take_succ_cons, List.take_zero, List.drop_succ_cons, List.drop_zero, Nat.reduceAdd, hrg, List.foldl_cons, List.foldl_nil, dstOf, List.getElem?_cons_succ, List.getElem?_cons_zero, Option.bind_some]
        clear hrg
        rw [f0, f1, f2, f3, f4, f5, f6, f7, f8, f9]
        have HM9 := Lib.hid (HMj.out.trans hE)
        have n9 := (HM9.out.row HC5.out HN5.out).cell
        clear hΦ f0 f1 f2 f3 f4 f5 f6 f7 f8 f9 hE
        go_wp2_with fail
        go_roundw
        case rel => exact ⟨j + 1, by omega, by go_num, by rw [HSS.out], HM9.out⟩
        case measure => simp [intOf]; omega
     ·obtain rfl : j = n := by omega
      have HF : Hid (Ec.leastOf e set late ⟨md, mf, mr⟩ = Lj) := Lib.hid (by unfold Ec.leastOf; simp only; rw [HLO.out, hn, HLJ.out])
      go_wp2_with fail
      go_roundw
      case rel => exact ⟨k + 1, by omega, by go_num, by rw [HN.out, HF.out], HM5.out.trans HMj.out⟩
      case measure => simp [intOf]; omega
   ·obtain rfl : k = l.length := by omega
    have HEr := Lib.hid (HE4.out.trans' (hmv.below hMw HE4.out.size))
    have hvb := wideN_bounds e set late l
    rw [List.take_length]
    rw [← HQ.out] at hvb ⊢
    obtain ⟨V, hV⟩ : ∃ V, Ec.widens e set lo hi late = V := ⟨_, rfl⟩
    rw [hV] at hvb ⊢
    have HV := Lib.hid hV
    clear hmv hV
    go_wp2_with fail
    refine (e_isLimit_any V _).mono ?_
    rintro r w6 ⟨rfl, rfl⟩
    cases hb : Sp.isLimit V
    ·have HH9 : Hid (wideV (Ec.widens e set lo hi late) = .tuple #[.int .i64 0, .int .i64 5]) := Lib.hid (by rw [HV.out, wideV, hb]; rfl)
     go_wp2_with fail
     go_ret2
     have h9 := HH9.out
     exact ⟨by rw [h9] <;> rfl, HEr.out⟩
    ·have HH9 : Hid (wideV (Ec.widens e set lo hi late) = .tuple #[.int .i64 V, .int .i64 0]) := Lib.hid (by rw [HV.out, wideV, hb]; rfl)
     go_wp2_with fail
     go_ret2
     have h9 := HH9.out
     exact ⟨by rw [h9] <;> rfl, HEr.out⟩
def settingsΦ (p : EP) (e : Ec.Engine) (set : List Int) (lo : Int) (hi : Int) (late : Int) (w0 : World) (i : Nat) (v : Value) (w : World) : Prop :=
 match i with
 | 0 => v = .agg #[.slice p.Ab e.sky.bodies.length p.cb, .int .i64 e.sky.nnum, .int .i64 e.sky.nden, .int .i64 e.sky.nstart, .slice p.As e.sun.length p.cs, .slice p.Am e.moon.length p.cm, .slice p.An e.node.length p.cn, .slice p.Af e.feasts.length p.cf, .int .i64 e.nw, .int .i64 e.fl, .int .i64 e.wide]
 | 1 => v = .int .i64 lo
 | 2 => v = .int .i64 hi
 | 3 => v = .bool true
 | 4 => v = .bool true
 | 5 => v = .int .i64 late
 | 6 => v = .bool true
 | 7 => v = .bool true
 | 8 => AskTup p e set w0 v w
 | 9 => AskTup p e set w0 v w
 | 10 => AskAgg p e set w0 v w
 | 11 => v = .int .i64 0
 | _ => AskNew w0 v w
theorem settingsΦ_mono {p : EP} {e : Ec.Engine} {set : List Int} {lo : Int} {hi : Int} {late : Int} {w0 : World} (i : Nat) (v : Value) (w w' : World) (h : settingsΦ p e set lo hi late w0 i v w) (he : Ext w w') : settingsΦ p e set lo hi late w0 i v w' := by
 unfold settingsΦ at h ⊢
 split at h <;> first
  | exact h
  | exact AskTup.ext h he
  | exact AskAgg.ext h he
  | exact AskNew.ext h he
theorem AllAt.lists {w : World} {bA : Nat} {v : Value} {ls : List (List Int)} (h : AllAt w bA v ls) : ∃ A c, v = .slice A ls.length c ∧ ListsAt w A ls := by
 obtain ⟨xs, ho, hl, hk⟩ := h
 rcases ho.own.2 with ⟨rfl, h0⟩ | ⟨g, cap, cur, hv, _⟩
 ·exact ⟨none, 0, by rw [h0], fun hh => by omega⟩
 ·refine ⟨some ⟨g, 0, none⟩, cap, hv, fun _ => ⟨g, 0, rfl, fun k hk' => ?_⟩⟩
  obtain ⟨x, hx, hown⟩ := hk k hk'
  obtain ⟨B, d, rfl, hI⟩ := hown.ints
  have hc := ho.own.cells (g := g) (by rw [hv]; rfl) k _ hx
  rw [add0] at hc
  exact ⟨B, d, by simpa using hc, hI⟩
theorem AllAt.nil {w w' : World} (he : Ext (w.alloc (.cells #[.slice none 0 0] 125)) w') : AllAt w' w.heap.size (.slice none 0 0) [] :=
 AllAt.ext ⟨[], Out.new w w.heap.size 125 74 1, rfl, fun k hk => by simp at hk⟩ he
theorem found_all (e : Ec.Engine) (lo hi late : Int) : found e lo hi late [] 0 = (Ec.subs e.feasts.length 0).filter (goodB e lo hi late) := by
 unfold found
 congr 1
 exact List.map_id _
theorem progSet_nil {good : List Int → Bool} {n : Nat} (h : [] = (Ec.subs n 0).filter good) : Ec.progSet good n = none := by unfold Ec.progSet; rw [← h]
theorem progSet_cons {good : List Int → Bool} {n : Nat} {x : List Int} {l : List (List Int)} (h : x :: l = (Ec.subs n 0).filter good) : Ec.progSet good n = some (Ec.bestL x l) := by unfold Ec.progSet; rw [← h]
def SetPost (w' : World) (r : Ending) (o : Option (List Int)) : Prop := match o with
 | some y => ∃ A c, r = .returned (.tuple #[.slice A y.length c, .int .i64 0]) ∧ Ints w' A y
 | none => r = .returned (.tuple #[.slice none 0 0, .int .i64 5])
theorem e_Settings_ok' (p : EP) (e : Ec.Engine) (set : List Int) (lo hi late : Int) (w : World) (hAt : p.At = none) (hct : p.ct = 0) (hset : set = []) (hm : EngAt w p e) (hl : EngShort e) (c0 : Ec.engineOk e = true) (c2 : Ec.isSpan lo hi = true) (c3 : Ec.isLate late = true) :
  Calls Tryz.prog 41 #[.agg #[.slice p.Ab e.sky.bodies.length p.cb, .int .i64 e.sky.nnum, .int .i64 e.sky.nden, .int .i64 e.sky.nstart, .slice p.As e.sun.length p.cs, .slice p.Am e.moon.length p.cm, .slice p.An e.node.length p.cn, .slice p.Af e.feasts.length p.cf, .int .i64 e.nw, .int .i64 e.fl, .int .i64 e.wide], .int .i64 lo, .int .i64 hi, .int .i64 late] w fun r w' => SetPost w' r (Ec.progSet (goodB e lo hi late) e.feasts.length) ∧ Ext w w' := by
 have HM := Lib.hid hm
 have HL := Lib.hid hl
 have HR0 : Hid (Row ((((w.alloc (.cells #[.slice p.Ab e.sky.bodies.length p.cb, .int .i64 e.sky.nnum, .int .i64 e.sky.nden, .int .i64 e.sky.nstart, .slice p.As e.sun.length p.cs, .slice p.Am e.moon.length p.cm, .slice p.An e.node.length p.cn, .slice p.Af e.feasts.length p.cf, .int .i64 e.nw, .int .i64 e.fl, .int .i64 e.wide] 76)).alloc (.cells #[.int .i64 lo] 3)).alloc (.cells #[.int .i64 hi] 3)).alloc (.cells #[.int .i64 late] 3)) w.heap.size 76 #[.slice p.Ab e.sky.bodies.length p.cb, .int .i64 e.sky.nnum, .int .i64 e.sky.nden, .int .i64 e.sky.nstart, .slice p.As e.sun.length p.cs, .slice p.Am e.moon.length p.cm, .slice p.An e.node.length p.cn, .slice p.Af e.feasts.length p.cf, .int .i64 e.nw, .int .i64 e.fl, .int .i64 e.wide]) := Lib.hid (fourBlocks w _ _ _ _).1
 have HR1 : Hid (Row ((((w.alloc (.cells #[.slice p.Ab e.sky.bodies.length p.cb, .int .i64 e.sky.nnum, .int .i64 e.sky.nden, .int .i64 e.sky.nstart, .slice p.As e.sun.length p.cs, .slice p.Am e.moon.length p.cm, .slice p.An e.node.length p.cn, .slice p.Af e.feasts.length p.cf, .int .i64 e.nw, .int .i64 e.fl, .int .i64 e.wide] 76)).alloc (.cells #[.int .i64 lo] 3)).alloc (.cells #[.int .i64 hi] 3)).alloc (.cells #[.int .i64 late] 3)) (w.heap.size + 1) 3 #[.int .i64 lo]) := Lib.hid (fourBlocks w _ _ _ _).2.1
 have HR2 : Hid (Row ((((w.alloc (.cells #[.slice p.Ab e.sky.bodies.length p.cb, .int .i64 e.sky.nnum, .int .i64 e.sky.nden, .int .i64 e.sky.nstart, .slice p.As e.sun.length p.cs, .slice p.Am e.moon.length p.cm, .slice p.An e.node.length p.cn, .slice p.Af e.feasts.length p.cf, .int .i64 e.nw, .int .i64 e.fl, .int .i64 e.wide] 76)).alloc (.cells #[.int .i64 lo] 3)).alloc (.cells #[.int .i64 hi] 3)).alloc (.cells #[.int .i64 late] 3)) (w.heap.size + 2) 3 #[.int .i64 hi]) := Lib.hid (fourBlocks w _ _ _ _).2.2.1
 have HR3 : Hid (Row ((((w.alloc (.cells #[.slice p.Ab e.sky.bodies.length p.cb, .int .i64 e.sky.nnum, .int .i64 e.sky.nden, .int .i64 e.sky.nstart, .slice p.As e.sun.length p.cs, .slice p.Am e.moon.length p.cm, .slice p.An e.node.length p.cn, .slice p.Af e.feasts.length p.cf, .int .i64 e.nw, .int .i64 e.fl, .int .i64 e.wide] 76)).alloc (.cells #[.int .i64 lo] 3)).alloc (.cells #[.int .i64 hi] 3)).alloc (.cells #[.int .i64 late] 3)) (w.heap.size + 3) 3 #[.int .i64 late]) := Lib.hid (fourBlocks w _ _ _ _).2.2.2
 have HE0 : Hid (Ext w ((((w.alloc (.cells #[.slice p.Ab e.sky.bodies.length p.cb, .int .i64 e.sky.nnum, .int .i64 e.sky.nden, .int .i64 e.sky.nstart, .slice p.As e.sun.length p.cs, .slice p.Am e.moon.length p.cm, .slice p.An e.node.length p.cn, .slice p.Af e.feasts.length p.cf, .int .i64 e.nw, .int .i64 e.fl, .int .i64 e.wide] 76)).alloc (.cells #[.int .i64 lo] 3)).alloc (.cells #[.int .i64 hi] 3)).alloc (.cells #[.int .i64 late] 3))) := Lib.hid (((((Ext.refl w).alloc _).alloc _).alloc _).alloc _)
 have HASK : Hid (∀ wa, Ext w wa → Calls Tryz.prog 62 #[.agg #[.slice p.Ab e.sky.bodies.length p.cb, .int .i64 e.sky.nnum, .int .i64 e.sky.nden, .int .i64 e.sky.nstart, .slice p.As e.sun.length p.cs, .slice p.Am e.moon.length p.cm, .slice p.An e.node.length p.cn, .slice p.Af e.feasts.length p.cf, .int .i64 e.nw, .int .i64 e.fl, .int .i64 e.wide], .slice none 0 0, .bool true] wa (AskPost p e set wa)) := Lib.hid fun wa hwa => by
  have hs0 : Ec.setOk e.feasts set = true := by rw [hset]; rfl
  have q := e_asked_ok p e set wa ⟨hm.ext hwa, fun h0 => absurd h0 (by rw [hset]; simp)⟩ hl (by rw [hset]; simp) c0 hs0
  have e1 : (Value.slice p.At set.length p.ct) = .slice none 0 0 := by rw [hAt, hct, hset]; rfl
  rw [e1] at q
  exact q
 have hz4 : Hid (((((w.alloc (.cells #[.slice p.Ab e.sky.bodies.length p.cb, .int .i64 e.sky.nnum, .int .i64 e.sky.nden, .int .i64 e.sky.nstart, .slice p.As e.sun.length p.cs, .slice p.Am e.moon.length p.cm, .slice p.An e.node.length p.cn, .slice p.Af e.feasts.length p.cf, .int .i64 e.nw, .int .i64 e.fl, .int .i64 e.wide] 76)).alloc (.cells #[.int .i64 lo] 3)).alloc (.cells #[.int .i64 hi] 3)).alloc (.cells #[.int .i64 late] 3)).heap.size = w.heap.size + 4) := Lib.hid (by simp)
 have hd : 1 ≤ lo ∧ lo ≤ hi ∧ hi ≤ 9000 ∧ hi - lo ≤ 400 := by
  simp only [Ec.isSpan, Sp.inR, Bool.and_eq_true, decide_eq_true_eq] at c2
  omega
 have hla : 0 ≤ late ∧ late ≤ 30 := by
  simp only [Ec.isLate, Sp.inR, Bool.and_eq_true, decide_eq_true_eq] at c3
  omega
 have hf8 : e.feasts.length ≤ 8 := by
  have := (engineOk_parts c0).2.2.1
  simp only [Ec.feastsOk, Bool.and_eq_true, decide_eq_true_eq] at this
  exact this.2
 clear hm hl hAt hct hset
 go_enter Tryz.func41, Tryz.ntmps41
 go_wp2_with fail
 obtain ⟨W, hW⟩ : ∃ W, (((w.alloc (.cells #[.slice p.Ab e.sky.bodies.length p.cb, .int .i64 e.sky.nnum, .int .i64 e.sky.nden, .int .i64 e.sky.nstart, .slice p.As e.sun.length p.cs, .slice p.Am e.moon.length p.cm, .slice p.An e.node.length p.cn, .slice p.Af e.feasts.length p.cf, .int .i64 e.nw, .int .i64 e.fl, .int .i64 e.wide] 76)).alloc (.cells #[.int .i64 lo] 3)).alloc (.cells #[.int .i64 hi] 3)).alloc (.cells #[.int .i64 late] 3) = W := ⟨_, rfl⟩
 rw [hW] at HR0 HR1 HR2 HR3 HE0 hz4 ⊢
 clear hW
 refine Code.wp_mono (Q := fun e' a' w' => e' = .normal ∧ ∃ M4 M5 M b, W.heap.size ≤ b ∧ W.heap.size ≤ M ∧ Ext W w' ∧ Row w' b 105 #[.slice p.Ab e.sky.bodies.length p.cb, .int .i64 e.sky.nnum, .int .i64 e.sky.nden, .int .i64 e.sky.nstart, .slice p.As e.sun.length p.cs, .slice p.Am e.moon.length p.cm, .slice p.An e.node.length p.cn, .slice p.Af e.feasts.length p.cf, .int .i64 e.nw, .int .i64 e.fl, .int .i64 e.wide, .slice p.At set.length p.ct, .map (some M)] ∧ Seen e set M w' ∧ a' = (⟨#[.agg #[.slice p.Ab e.sky.bodies.length p.cb, .int .i64 e.sky.nnum, .int .i64 e.sky.nden, .int .i64 e.sky.nstart, .slice p.As e.sun.length p.cs, .slice p.Am e.moon.length p.cm, .slice p.An e.node.length p.cn, .slice p.Af e.feasts.length p.cf, .int .i64 e.nw, .int .i64 e.fl, .int .i64 e.wide], .int .i64 lo, .int .i64 hi, .int .i64 late, .pointer (some ⟨w.heap.size, 0, none⟩), .pointer (some ⟨w.heap.size + 1, 0, none⟩), .pointer (some ⟨w.heap.size + 2, 0, none⟩), .pointer (some ⟨w.heap.size + 3, 0, none⟩), .slice none 0 0, .int .i64 0, .pointer (some ⟨b, 0, none⟩), .int .i64 0, undef, undef, undef, undef, .tuple #[.agg #[.slice p.Ab e.sky.bodies.length p.cb, .int .i64 e.sky.nnum, .int .i64 e.sky.nden, .int .i64 e.sky.nstart, .slice p.As e.sun.length p.cs, .slice p.Am e.moon.length p.cm, .slice p.An e.node.length p.cn, .slice p.Af e.feasts.length p.cf, .int .i64 e.nw, .int .i64 e.fl, .int .i64 e.wide, .slice p.At set.length p.ct, .map (some M5)], .int .i64 0], .agg #[.slice p.Ab e.sky.bodies.length p.cb, .int .i64 e.sky.nnum, .int .i64 e.sky.nden, .int .i64 e.sky.nstart, .slice p.As e.sun.length p.cs, .slice p.Am e.moon.length p.cm, .slice p.An e.node.length p.cn, .slice p.Af e.feasts.length p.cf, .int .i64 e.nw, .int .i64 e.fl, .int .i64 e.wide], .int .i64 lo, .int .i64 hi, .bool true, .bool true, .int .i64 late, .bool true, .bool true, .tuple #[.agg #[.slice p.Ab e.sky.bodies.length p.cb, .int .i64 e.sky.nnum, .int .i64 e.sky.nden, .int .i64 e.sky.nstart, .slice p.As e.sun.length p.cs, .slice p.Am e.moon.length p.cm, .slice p.An e.node.length p.cn, .slice p.Af e.feasts.length p.cf, .int .i64 e.nw, .int .i64 e.fl, .int .i64 e.wide, .slice p.At set.length p.ct, .map (some M4)], .int .i64 0], .agg #[.slice p.Ab e.sky.bodies.length p.cb, .int .i64 e.sky.nnum, .int .i64 e.sky.nden, .int .i64 e.sky.nstart, .slice p.As e.sun.length p.cs, .slice p.Am e.moon.length p.cm, .slice p.An e.node.length p.cn, .slice p.Af e.feasts.length p.cf, .int .i64 e.nw, .int .i64 e.fl, .int .i64 e.wide, .slice p.At set.length p.ct, .map (some M)], .int .i64 0, undef, undef, undef, undef, undef, undef, undef, undef, undef, undef, undef, undef, undef, undef], []⟩ : Act)) ?hq (wp_region_free_tail 13 11 (settingsΦ p e set lo hi late W) (by kernel_rfl) (by simp) (by kernel_rfl) (by kernel_rfl) (by kernel_rfl) (by kernel_rfl) settingsΦ_mono ?hob ?hQ ?hZ)
 case hob =>
  intro i o hin ho a wa hE hF
  match i, hin with
  | 0, _ =>
   cases ho
   have h0 : a.tmps[4]?.getD undef = .pointer (some ⟨w.heap.size, 0, none⟩) := evalD (hF.old 4 (by decide))
   have q := (HR0.out.ext hE).cell
   refine Ran.value rfl (v := .agg #[.slice p.Ab e.sky.bodies.length p.cb, .int .i64 e.sky.nnum, .int .i64 e.sky.nden, .int .i64 e.sky.nstart, .slice p.As e.sun.length p.cs, .slice p.Am e.moon.length p.cm, .slice p.An e.node.length p.cn, .slice p.Af e.feasts.length p.cf, .int .i64 e.nw, .int .i64 e.fl, .int .i64 e.wide]) (w1 := wa) ?_ ⟨rfl, Ext.refl _⟩
   go_simp
  | 1, _ =>
   cases ho
   have h0 : a.tmps[5]?.getD undef = .pointer (some ⟨w.heap.size + 1, 0, none⟩) := evalD (hF.old 5 (by decide))
   have q := (HR1.out.ext hE).cell
   refine Ran.value rfl (v := .int .i64 lo) (w1 := wa) ?_ ⟨rfl, Ext.refl _⟩
   go_simp
  | 2, _ =>
   cases ho
   have h0 : a.tmps[6]?.getD undef = .pointer (some ⟨w.heap.size + 2, 0, none⟩) := evalD (hF.old 6 (by decide))
   have q := (HR2.out.ext hE).cell
   refine Ran.value rfl (v := .int .i64 hi) (w1 := wa) ?_ ⟨rfl, Ext.refl _⟩
   go_simp
  | 3, _ =>
   cases ho
   have h0 : a.tmps[18]?.getD undef = .int .i64 lo := evalD (hF.from_ 1 18 rfl (by decide))
   have h1 : a.tmps[19]?.getD undef = .int .i64 hi := evalD (hF.from_ 2 19 rfl (by decide))
   refine Ran.enter rfl (f := 69) (args := #[.int .i64 lo, .int .i64 hi]) (w1 := wa) ?_ ?_
   ·go_simp
   ·refine (e_isSpan_any lo hi _).mono ?_
    rintro r w1 ⟨rfl, rfl⟩
    exact ⟨_, rfl, by rw [c2]; rfl, Ext.refl _⟩
  | 4, _ =>
   cases ho
   have h0 : a.tmps[20]?.getD undef = .bool true := evalD (hF.from_ 3 20 rfl (by decide))
   refine Ran.value rfl (v := .bool true) (w1 := wa) ?_ ⟨rfl, Ext.refl _⟩
   go_simp
  | 5, _ =>
   cases ho
   have hg : a.eval (.tmp 21) = .bool true := hF.from_ 4 21 rfl (by decide)
   refine Ran.if_ rfl rfl rfl hg (fun _ => ?_) (fun h => absurd rfl h)
   have h0 : a.tmps[7]?.getD undef = .pointer (some ⟨w.heap.size + 3, 0, none⟩) := evalD (hF.old 7 (by decide))
   have q := (HR3.out.ext hE).cell
   refine Ran.value rfl (v := .int .i64 late) (w1 := wa) ?_ ⟨rfl, Ext.refl _⟩
   go_simp
  | 6, _ =>
   cases ho
   have hg : a.eval (.tmp 21) = .bool true := hF.from_ 4 21 rfl (by decide)
   refine Ran.if_ rfl rfl rfl hg (fun _ => ?_) (fun h => absurd rfl h)
   have h0 : a.tmps[22]?.getD undef = .int .i64 late := evalD (hF.from_ 5 22 rfl (by decide))
   refine Ran.enter rfl (f := 71) (args := #[.int .i64 late]) (w1 := wa) ?_ ?_
   ·go_simp
   ·refine (e_isLate_any late _).mono ?_
    rintro r w1 ⟨rfl, rfl⟩
    exact ⟨_, rfl, by rw [c3]; rfl, Ext.refl _⟩
  | 7, _ =>
   cases ho
   have h0 : a.tmps[21]?.getD undef = .bool true := evalD (hF.from_ 4 21 rfl (by decide))
   have h1 : a.tmps[23]?.getD undef = .bool true := evalD (hF.from_ 6 23 rfl (by decide))
   refine Ran.value rfl (v := .bool true) (w1 := wa) ?_ ⟨rfl, Ext.refl _⟩
   go_simp
  | 8, _ =>
   cases ho
   have h0 : a.tmps[17]?.getD undef = .agg #[.slice p.Ab e.sky.bodies.length p.cb, .int .i64 e.sky.nnum, .int .i64 e.sky.nden, .int .i64 e.sky.nstart, .slice p.As e.sun.length p.cs, .slice p.Am e.moon.length p.cm, .slice p.An e.node.length p.cn, .slice p.Af e.feasts.length p.cf, .int .i64 e.nw, .int .i64 e.fl, .int .i64 e.wide] := evalD (hF.from_ 0 17 rfl (by decide))
   have h1 : a.tmps[24]?.getD undef = .bool true := evalD (hF.from_ 7 24 rfl (by decide))
   refine Ran.enter rfl (f := 62) (args := #[.agg #[.slice p.Ab e.sky.bodies.length p.cb, .int .i64 e.sky.nnum, .int .i64 e.sky.nden, .int .i64 e.sky.nstart, .slice p.As e.sun.length p.cs, .slice p.Am e.moon.length p.cm, .slice p.An e.node.length p.cn, .slice p.Af e.feasts.length p.cf, .int .i64 e.nw, .int .i64 e.fl, .int .i64 e.wide], .slice none 0 0, .bool true]) (w1 := wa) ?_ ?_
   ·go_simp
   ·refine (HASK.out wa (HE0.out.trans hE)).mono ?_
    rintro r w1 ⟨M, rfl, hM, hC, hX⟩
    exact ⟨_, rfl, ⟨M, rfl, Nat.le_trans hE.size hM, hC⟩, hX⟩
  | 9, _ =>
   cases ho
   obtain ⟨M, h0, hM, hC⟩ : AskTup p e set W (a.eval (.tmp 25)) wa := hF.from_ 8 25 rfl (by decide)
   replace h0 := evalD h0
   refine Ran.value rfl (w1 := wa) (v := .tuple #[.agg #[.slice p.Ab e.sky.bodies.length p.cb, .int .i64 e.sky.nnum, .int .i64 e.sky.nden, .int .i64 e.sky.nstart, .slice p.As e.sun.length p.cs, .slice p.Am e.moon.length p.cm, .slice p.An e.node.length p.cn, .slice p.Af e.feasts.length p.cf, .int .i64 e.nw, .int .i64 e.fl, .int .i64 e.wide, .slice p.At set.length p.ct, .map (some M)], .int .i64 0]) ?_ ⟨⟨M, rfl, hM, hC⟩, Ext.refl _⟩
   go_simp
  | 10, _ =>
   cases ho
   obtain ⟨M, h0, hM, hC⟩ : AskTup p e set W (a.eval (.tmp 16)) wa := hF.from_ 9 16 rfl (by decide)
   replace h0 := evalD h0
   refine Ran.value rfl (w1 := wa) (v := .agg #[.slice p.Ab e.sky.bodies.length p.cb, .int .i64 e.sky.nnum, .int .i64 e.sky.nden, .int .i64 e.sky.nstart, .slice p.As e.sun.length p.cs, .slice p.Am e.moon.length p.cm, .slice p.An e.node.length p.cn, .slice p.Af e.feasts.length p.cf, .int .i64 e.nw, .int .i64 e.fl, .int .i64 e.wide, .slice p.At set.length p.ct, .map (some M)]) ?_ ⟨⟨M, rfl, hM, hC⟩, Ext.refl _⟩
   go_simp
  | 11, _ =>
   cases ho
   obtain ⟨M, h0, hM, hC⟩ : AskTup p e set W (a.eval (.tmp 16)) wa := hF.from_ 9 16 rfl (by decide)
   replace h0 := evalD h0
   refine Ran.value rfl (w1 := wa) (v := .int .i64 0) ?_ ⟨rfl, Ext.refl _⟩
   go_simp
  | 12, _ =>
   cases ho
   refine Ran.value rfl (w1 := wa.alloc (.cells zeroEng 105)) (v := .pointer (some ⟨wa.heap.size, 0, none⟩)) (by kernel_rfl) ⟨⟨wa.heap.size, rfl, hE.size, Row.new _ _ _⟩, (Ext.refl _).alloc _⟩
  | k + 13, hin => omega
 case hQ =>
  intro vs w2 hE hΦ
  have f0 : vs 0 = .agg #[.slice p.Ab e.sky.bodies.length p.cb, .int .i64 e.sky.nnum, .int .i64 e.sky.nden, .int .i64 e.sky.nstart, .slice p.As e.sun.length p.cs, .slice p.Am e.moon.length p.cm, .slice p.An e.node.length p.cn, .slice p.Af e.feasts.length p.cf, .int .i64 e.nw, .int .i64 e.fl, .int .i64 e.wide] := hΦ 0 (by omega)
  have f1 : vs 1 = .int .i64 lo := hΦ 1 (by omega)
  have f2 : vs 2 = .int .i64 hi := hΦ 2 (by omega)
  have f3 : vs 3 = .bool true := hΦ 3 (by omega)
  have f4 : vs 4 = .bool true := hΦ 4 (by omega)
  have f5 : vs 5 = .int .i64 late := hΦ 5 (by omega)
  have f6 : vs 6 = .bool true := hΦ 6 (by omega)
  have f7 : vs 7 = .bool true := hΦ 7 (by omega)
  obtain ⟨M4, f8, _, _⟩ : AskTup p e set W (vs 8) w2 := hΦ 8 (by omega)
  obtain ⟨M5, f9, _, _⟩ : AskTup p e set W (vs 9) w2 := hΦ 9 (by omega)
  obtain ⟨M, f10, hM, hC⟩ : AskAgg p e set W (vs 10) w2 := hΦ 10 (by omega)
  have f11 : vs 11 = .int .i64 0 := hΦ 11 (by omega)
  obtain ⟨b, f12, hb, hr⟩ : AskNew W (vs 12) w2 := hΦ 12 (by omega)
  have hrg : List.range 13 = [0, 1, 2, 3, 4, 5, 6, 7, 8, 9, 10, 11, 12] := rfl
  unfold putAll putS
  simp only [List.length_cons, List.length_nil, List.take_succ_cons, List.take_zero, List.drop_succ_cons, List.drop_zero, Nat.reduceAdd, hrg, List.foldl_cons, List.foldl_nil, dstOf, List.getElem?_cons_succ, List.getElem?_cons_zero, Option.bind_some]
  clear hrg
  rw [f0, f1, f2, f3, f4, f5, f6, f7, f8, f9, f10, f11, f12]
  have c := hr.cell
  simp only [zeroEng] at c
  have fz := hr.free
  have hne : b ≠ M := fun h => (hC.not_row hr) h
  go_wp2
  clear c fz
  obtain ⟨W3, hW3⟩ : ∃ W3, setsAt w2 b 0 [.slice p.Ab e.sky.bodies.length p.cb, .int .i64 e.sky.nnum, .int .i64 e.sky.nden, .int .i64 e.sky.nstart, .slice p.As e.sun.length p.cs, .slice p.Am e.moon.length p.cm, .slice p.An e.node.length p.cn, .slice p.Af e.feasts.length p.cf, .int .i64 e.nw, .int .i64 e.fl, .int .i64 e.wide, .slice p.At set.length p.ct, .map (some M)] = W3 := ⟨_, rfl⟩
  have hR3 : Row W3 b 105 #[.slice p.Ab e.sky.bodies.length p.cb, .int .i64 e.sky.nnum, .int .i64 e.sky.nden, .int .i64 e.sky.nstart, .slice p.As e.sun.length p.cs, .slice p.Am e.moon.length p.cm, .slice p.An e.node.length p.cn, .slice p.Af e.feasts.length p.cf, .int .i64 e.nw, .int .i64 e.fl, .int .i64 e.wide, .slice p.At set.length p.ct, .map (some M)] := by rw [← hW3]; exact Row.sets (cs := [.slice none 0 0, .int .i64 0, .int .i64 0, .int .i64 0, .slice none 0 0, .slice none 0 0, .slice none 0 0, .slice none 0 0, .int .i64 0, .int .i64 0, .int .i64 0, .slice none 0 0, .map none]) hr _ rfl
  have hE3 : Ext W W3 := by rw [← hW3]; exact Ext.sets hb _ _ _ hE
  have hC3 : Seen e set M W3 := by rw [← hW3]; exact Cache.sets hne _ _ _ hC
  simp only [setsAt, Nat.reduceAdd] at hW3
  try rw [hW3]
  exact ⟨M4, M5, M, b, hb, hM, hE3, hR3, hC3, by simp⟩
 case hZ =>
  intro _ vs w2 hE hΦ on oz hon hoz
  obtain rfl := Option.some.inj hon
  obtain rfl := Option.some.inj hoz
  have f0 : vs 0 = .agg #[.slice p.Ab e.sky.bodies.length p.cb, .int .i64 e.sky.nnum, .int .i64 e.sky.nden, .int .i64 e.sky.nstart, .slice p.As e.sun.length p.cs, .slice p.Am e.moon.length p.cm, .slice p.An e.node.length p.cn, .slice p.Af e.feasts.length p.cf, .int .i64 e.nw, .int .i64 e.fl, .int .i64 e.wide] := hΦ 0 (by omega) (by omega)
  have f1 : vs 1 = .int .i64 lo := hΦ 1 (by omega) (by omega)
  have f2 : vs 2 = .int .i64 hi := hΦ 2 (by omega) (by omega)
  have f3 : vs 3 = .bool true := hΦ 3 (by omega) (by omega)
  have f4 : vs 4 = .bool true := hΦ 4 (by omega) (by omega)
  have f5 : vs 5 = .int .i64 late := hΦ 5 (by omega) (by omega)
  have f6 : vs 6 = .bool true := hΦ 6 (by omega) (by omega)
  have f7 : vs 7 = .bool true := hΦ 7 (by omega) (by omega)
  obtain ⟨M4, f8, _, _⟩ : AskTup p e set W (vs 8) w2 := hΦ 8 (by omega) (by omega)
  obtain ⟨M5, f9, _, _⟩ : AskTup p e set W (vs 9) w2 := hΦ 9 (by omega) (by omega)
  obtain ⟨M, f10, hM, hC⟩ : AskAgg p e set W (vs 10) w2 := hΦ 10 (by omega) (by omega)
  obtain ⟨b, f12, hb, hr⟩ : AskNew W (vs 12) w2 := hΦ 12 (by omega) (by omega)
  have hrg : (List.range 13).filter (· ≠ 11) = [0, 1, 2, 3, 4, 5, 6, 7, 8, 9, 10, 12] := by decide
  rw [hrg]
  unfold putS
  simp only [List.take_succ_cons, List.take_zero, List.drop_succ_cons, List.drop_zero, Nat.reduceAdd, List.foldl_cons, List.foldl_nil, dstOf, List.getElem?_cons_succ, List.getElem?_cons_zero, Option.bind_some]
  clear hrg
  rw [f0, f1, f2, f3, f4, f5, f6, f7, f8, f9, f10, f12]
  have c := hr.cell
  simp only [zeroEng] at c
  have fz := hr.free
  have hne : b ≠ M := fun h => (hC.not_row hr) h
  go_wp2
  clear c fz
  obtain ⟨W3, hW3⟩ : ∃ W3, setsAt w2 b 0 [.slice p.Ab e.sky.bodies.length p.cb, .int .i64 e.sky.nnum, .int .i64 e.sky.nden, .int .i64 e.sky.nstart, .slice p.As e.sun.length p.cs, .slice p.Am e.moon.length p.cm, .slice p.An e.node.length p.cn, .slice p.Af e.feasts.length p.cf, .int .i64 e.nw, .int .i64 e.fl, .int .i64 e.wide, .slice p.At set.length p.ct, .map (some M)] = W3 := ⟨_, rfl⟩
  have hR3 : Row W3 b 105 #[.slice p.Ab e.sky.bodies.length p.cb, .int .i64 e.sky.nnum, .int .i64 e.sky.nden, .int .i64 e.sky.nstart, .slice p.As e.sun.length p.cs, .slice p.Am e.moon.length p.cm, .slice p.An e.node.length p.cn, .slice p.Af e.feasts.length p.cf, .int .i64 e.nw, .int .i64 e.fl, .int .i64 e.wide, .slice p.At set.length p.ct, .map (some M)] := by rw [← hW3]; exact Row.sets (cs := [.slice none 0 0, .int .i64 0, .int .i64 0, .int .i64 0, .slice none 0 0, .slice none 0 0, .slice none 0 0, .slice none 0 0, .int .i64 0, .int .i64 0, .int .i64 0, .slice none 0 0, .map none]) hr _ rfl
  have hE3 : Ext W W3 := by rw [← hW3]; exact Ext.sets hb _ _ _ hE
  have hC3 : Seen e set M W3 := by rw [← hW3]; exact Cache.sets hne _ _ _ hC
  simp only [setsAt, Nat.reduceAdd] at hW3
  try rw [hW3]
  exact ⟨M4, M5, M, b, hb, hM, hE3, hR3, hC3, by simp⟩
 case hq =>
  rintro e' a' w3 ⟨rfl, M4, M5, M, b, hb, hM, hE3, hR3, hC3, rfl⟩
  have HE3 := Lib.hid (HE0.out.trans hE3)
  have HR0 := Lib.hid (HR0.out.ext hE3)
  have HR1 := Lib.hid (HR1.out.ext hE3)
  have HR2 := Lib.hid (HR2.out.ext hE3)
  have HR3 := Lib.hid (HR3.out.ext hE3)
  have hz3 := hE3.size
  have HB2 : Hid (Row ((w3.alloc (.cells #[.slice none 0 0] 125)).alloc (.cells #[.nilFunc] 126)) (w3.heap.size + 1) 126 #[.nilFunc]) := Lib.hid (blocks2 w3 _ _).2
  have k9 := HB2.out.cell
  have f9 := HB2.out.free
  clear hE3 hR3 hC3
  go_wp2_with fail
  clear k9 f9 HB2
  obtain ⟨FV, hFV⟩ : ∃ FV, FV = Value.func (.func 79) #[] #[.pointer (some ⟨w.heap.size, 0, none⟩), .pointer (some ⟨w3.heap.size + 1, 0, none⟩), .pointer (some ⟨w.heap.size + 1, 0, none⟩), .pointer (some ⟨w.heap.size + 2, 0, none⟩), .pointer (some ⟨w.heap.size + 3, 0, none⟩), .pointer (some ⟨w3.heap.size, 0, none⟩)] := ⟨_, rfl⟩
  rw [← hFV]
  have hX5 := ((Ext.refl w3).alloc (.cells #[.slice none 0 0] 125)).alloc (.cells #[FV] 126)
  have hB5 := (blocks2 w3 (.cells #[.slice none 0 0] 125) (.cells #[FV] 126)).2
  have hA5 := AllAt.nil ((Ext.refl (w3.alloc (.cells #[.slice none 0 0] 125))).alloc (.cells #[FV] 126))
  obtain ⟨w5, hw5⟩ : ∃ w5, (w3.alloc (.cells #[.slice none 0 0] 125)).alloc (.cells #[FV] 126) = w5 := ⟨_, rfl⟩
  rw [hw5] at hX5 hB5 hA5 ⊢
  have hS5 : SIn w p e lo hi late w.heap.size (w3.heap.size + 1) (w.heap.size + 1) (w.heap.size + 2) (w.heap.size + 3) w3.heap.size w5 := ⟨HE3.out.trans hX5, HR0.out.ext hX5, by rw [hFV] at hB5; exact hB5, HR1.out.ext hX5, HR2.out.ext hX5, HR3.out.ext hX5⟩
  have hN : w.heap.size ≤ w3.heap.size := HE3.out.size
  have hpw : 2 ^ e.feasts.length ≤ 256 := Nat.pow_le_pow_right (n := 2) (by omega) hf8
  clear hFV hw5 hB5
  refine (search_any w p e lo hi late w.heap.size (w3.heap.size + 1) (w.heap.size + 1) (w.heap.size + 2) (w.heap.size + 3) w3.heap.size HM.out HL.out c0 hd.1 hd.2.1 hd.2.2.1 hd.2.2.2 hla.1 hla.2 hN hf8 e.feasts.length 0 0 [] (.slice none 0 0) (.slice none 0 0) [] w5 (by omega) rfl trivial hS5 (World.ownsRow_nil _ _ _ _) hA5 (by simp; omega)).mono ?_
  rintro r w6 ⟨⟨u, rfl⟩, v6, hA6, hP6⟩
  have HE6 := Lib.hid ((HE3.out.trans hX5).trans' (hA5.below hP6 hN))
  have hlen := found_len e lo hi late [] e.feasts.length 0 (by omega)
  have hmem : ∀ l ∈ found e lo hi late [] 0, l.length ≤ 100000 := fun l hl => by
   rw [found_all] at hl
   have := incr_len ((Ec.subs_mem _ _ _).1 (List.mem_filter.1 hl).1)
   omega
  rw [List.nil_append] at hA6
  have HQ := Lib.hid (found_all e lo hi late)
  have hbox := hA6.out
  obtain ⟨xs6, ho6⟩ := hbox
  have k6 := ho6.box.cell 0
  simp only [List.getElem?_toArray, List.getElem?_cons_zero] at k6
  obtain ⟨A6, c6, rfl, hL6⟩ := hA6.lists
  obtain ⟨L, hL⟩ : ∃ L, found e lo hi late [] 0 = L := ⟨_, rfl⟩
  rw [hL] at hlen hmem hL6 k6 HQ
  have HMEM := Lib.hid hmem
  have HL6 := Lib.hid hL6
  clear hA5 hA6 hP6 hS5 hX5 hmem hL6 ho6 hL
  go_wp2_with fail
  refine (best_sets A6 c6 L _ HL6.out (by omega) HMEM.out).mono ?_
  rintro r w7 ⟨B, d, rfl, hI, hE7⟩
  have HE7 := Lib.hid (HE6.out.trans hE7)
  have HI := Lib.hid hI
  clear hI hE7 k6
  cases L with
  | nil =>
   go_wp2_with fail
   go_ret2
   refine ⟨?_, HE7.out⟩
   rw [progSet_nil HQ.out]
   rfl
  | cons x l =>
   go_wp2_with fail
   go_ret2
   refine ⟨?_, HE7.out⟩
   rw [progSet_cons HQ.out]
   exact ⟨B, d, rfl, HI.out⟩
theorem e_Settings_ok (p : EP) (e : Ec.Engine) (lo hi late : Int) (w : World) (hm : EngAt w p e) (hl : EngShort e) (c0 : Ec.engineOk e = true) (c2 : Ec.isSpan lo hi = true) (c3 : Ec.isLate late = true) :
  Calls Tryz.prog 41 #[.agg #[.slice p.Ab e.sky.bodies.length p.cb, .int .i64 e.sky.nnum, .int .i64 e.sky.nden, .int .i64 e.sky.nstart, .slice p.As e.sun.length p.cs, .slice p.Am e.moon.length p.cm, .slice p.An e.node.length p.cn, .slice p.Af e.feasts.length p.cf, .int .i64 e.nw, .int .i64 e.fl, .int .i64 e.wide], .int .i64 lo, .int .i64 hi, .int .i64 late] w fun r w' => SetPost w' r (Ec.progSet (goodB e lo hi late) e.feasts.length) ∧ Ext w w' :=
 e_Settings_ok' ⟨p.Ab, p.cb, p.As, p.cs, p.Am, p.cm, p.An, p.cn, p.Af, p.cf, none, 0⟩ e [] lo hi late w rfl rfl rfl ⟨hm.bodies, hm.sun, hm.moon, hm.node, hm.feasts⟩ hl c0 c2 c3
end Go.Proofs.YtfkcbgehcbhjnaaGreatDoor
