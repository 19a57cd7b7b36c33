/- For the walk of the law of starts: bodies that the call itself lays, each with a Road of one 0 in a block of its own. -/
import Derived.Test.YtlcddcnmoajpjaaGreatDoorV17
import Derived.Test.YtlcddcnmoajpjaaGreatDoorV21
import Derived.Test.YtlcddcnmoajpjaaGreatDoorTurned
namespace Go.Proofs.YtlcddcnmoajpjaaGreatDoor
open Go.RowKit
open Sp (rd)
set_option linter.unusedVariables false

/-- Rows of ints are as they were. -/
def KeepsInt (w w' : World) : Prop := ∀ g cs, Row w g 3 cs → Row w' g 3 cs
theorem KeepsInt.of_ext {w w' : World} (h : Ext w w') : KeepsInt w w' := fun _ _ hr => hr.ext h
theorem KeepsInt.trans {w w1 w2 : World} (h : KeepsInt w w1) (k : KeepsInt w1 w2) : KeepsInt w w2 := fun g cs hr => k g cs (h g cs hr)
theorem own_type {w : World} {base : Nat} {e : TypeId} {size : Nat} {v : Value} {n : Nat} {xs : List Value} (h : w.ownsRow base e size v n xs) {g : Nat} (hv : v.ownBlock = some g) {t : TypeId} {cs : Array Value} (hr : Row w g t cs) : t = e := by
  rcases h.2 with ⟨rfl, _⟩ | ⟨g', cap, cur, rfl, _, hh, _⟩
  · simp [Value.ownBlock] at hv
  · simp only [Value.ownBlock, Option.some.injEq] at hv
    subst hv
    unfold Row at hr
    rw [hr] at hh; cases hh; rfl
theorem KeepsInt.of_grown {w w' : World} {base : Nat} {v : Value} {n : Nat} {xs : List Value} (h : w.ownsRow base 80 4 v n xs) (hg : w.grownBy w' v.ownBlock) : KeepsInt w w' := fun g cs hr =>
  (hg.block g hr.lt (fun e => absurd (own_type h e.symm hr) (by decide))).trans hr
theorem KeepsInt.of_set {w : World} {p : Addr} {t : TypeId} {cs : Array Value} (h : Row w p.block t cs) (ht : t ≠ 3) (u : Value) : KeepsInt w (w.setCell p u) := fun g ds hr =>
  hr.far (by rintro rfl; unfold Row at h hr; rw [h] at hr; cases hr; exact ht rfl) u
/-- Bodies that the call has laid, each with a Road of its own. -/
def OwnB (w : World) (base : Nat) (v : Value) (l : List Sp.Body) : Prop :=
  ∃ xs : List Value, w.ownsRow base 80 4 v l.length xs ∧ ∀ j, j < l.length →
    xs[j * 4]? = some (.int .i64 (bd l j).num) ∧ xs[j * 4 + 1]? = some (.int .i64 (bd l j).den) ∧ xs[j * 4 + 2]? = some (.int .i64 (bd l j).start) ∧
    ∃ g c, xs[j * 4 + 3]? = some (.slice (some ⟨g, 0, none⟩) 1 c) ∧ (bd l j).road = [0] ∧ Row w g 3 #[.int .i64 0]
theorem OwnB.nil (w : World) (base : Nat) : OwnB w base (.slice none 0 0) [] := ⟨[], World.ownsRow_nil _ _ _ _, fun j hj => by simp at hj⟩
theorem OwnB.keep {w w' : World} {base : Nat} {v : Value} {l : List Sp.Body} (h : OwnB w base v l) (hb : ∀ g, v.ownBlock = some g → w'.heap[g]? = w.heap[g]?) (hk : KeepsInt w w') : OwnB w' base v l := by
  obtain ⟨xs, hown, hx⟩ := h
  refine ⟨xs, ownsRow_of_block hown hb, fun j hj => ?_⟩
  obtain ⟨c0, c1, c2, g, c, c3, hr, hrow⟩ := hx j hj
  exact ⟨c0, c1, c2, g, c, c3, hr, hk _ _ hrow⟩
theorem OwnB.lt {w : World} {base : Nat} {v : Value} {l : List Sp.Body} (h : OwnB w base v l) {g : Nat} (e : v.ownBlock = some g) : base ≤ g ∧ g < w.heap.size := by
  obtain ⟨xs, hown, _⟩ := h
  exact hown.lt g e
theorem OwnB.ext {w w' : World} {base : Nat} {v : Value} {l : List Sp.Body} (h : OwnB w base v l) (he : Ext w w') : OwnB w' base v l :=
  h.keep (fun g e => he.block g (h.lt e).2) (KeepsInt.of_ext he)
theorem OwnB.type {w : World} {base : Nat} {v : Value} {l : List Sp.Body} (h : OwnB w base v l) {g : Nat} {t : TypeId} {cs : Array Value} (hr : Row w g t cs) (ht : t ≠ 80) : v.ownBlock ≠ some g := fun e => by
  obtain ⟨xs, hown, _⟩ := h
  exact ht (own_type hown e hr)
/-- A store to a block that is neither the list's own nor one of ints. -/
theorem OwnB.set_ {w : World} {base : Nat} {v : Value} {l : List Sp.Body} (h : OwnB w base v l) {p : Addr} {t : TypeId} {cs : Array Value} (hr : Row w p.block t cs) (ht : t ≠ 3) (hne : v.ownBlock ≠ some p.block) (u : Value) : OwnB (w.setCell p u) base v l :=
  h.keep (fun g e => Below.heap_setCell w p u g (by rintro rfl; exact hne e)) (KeepsInt.of_set hr ht u)
/-- Another list's append. -/
theorem OwnB.grown {w w' : World} {base base' : Nat} {v v2 : Value} {l : List Sp.Body} {n : Nat} {xs : List Value} (h : OwnB w base v l) (h2 : w.ownsRow base' 80 4 v2 n xs) (hg : w.grownBy w' v2.ownBlock) (hne : ∀ q, v.ownBlock = some q → v2.ownBlock ≠ some q) : OwnB w' base v l :=
  h.keep (fun g e => hg.block g (h.lt e).2 (fun e2 => hne g e e2.symm)) (KeepsInt.of_grown h2 hg)
theorem OwnB.bodies {w : World} {base : Nat} {v : Value} {l : List Sp.Body} (h : OwnB w base v l) : ∃ A c, v = .slice A l.length c ∧ Bodies w A l := by
  obtain ⟨xs, hown, hx⟩ := h
  rcases hown.2 with ⟨rfl, h0⟩ | ⟨g, cap, cur, hv, _⟩
  · exact ⟨none, 0, by rw [h0], fun hh => by omega⟩
  · have hc := hown.cells (g := g) (by rw [hv]; rfl)
    have cell : ∀ j u, xs[j]? = some u → w.cell? ⟨g, j, none⟩ = some u := fun j u hu => by
      have := hc j u hu
      rwa [add0] at this
    refine ⟨some ⟨g, 0, none⟩, cap, hv, fun _ => ⟨g, 0, rfl, fun k hk => ?_⟩⟩
    obtain ⟨c0, c1, c2, g', c', c3, hr, hrow⟩ := hx k hk
    refine ⟨?_, ?_, ?_, some ⟨g', 0, none⟩, c', ?_, ?_⟩
    · simpa using cell _ _ c0
    · simpa using cell _ _ c1
    · simpa using cell _ _ c2
    · rw [hr]; simpa using cell _ _ c3
    · rw [hr]
      exact ints_row hrow (fun k hk => by
        obtain rfl : k = 0 := by simpa using hk
        rfl)
/-- Behind its own append. -/
theorem OwnB.push {wA w1 : World} {base gg cap g c : Nat} {v : Value} {l : List Sp.Body} {xs : List Value} {B : Sp.Body} (hown : wA.ownsRow base 80 4 v l.length xs)
    (hx : ∀ j, j < l.length → xs[j * 4]? = some (.int .i64 (bd l j).num) ∧ xs[j * 4 + 1]? = some (.int .i64 (bd l j).den) ∧ xs[j * 4 + 2]? = some (.int .i64 (bd l j).start) ∧
      ∃ g c, xs[j * 4 + 3]? = some (.slice (some ⟨g, 0, none⟩) 1 c) ∧ (bd l j).road = [0] ∧ Row wA g 3 #[.int .i64 0])
    (hg : wA.grownBy w1 v.ownBlock)
    (hown1 : w1.ownsRow base 80 4 (.slice (some ⟨gg, 0, none⟩) (l.length + 1) cap) (l.length + 1) (xs ++ [.int .i64 B.num, .int .i64 B.den, .int .i64 B.start, .slice (some ⟨g, 0, none⟩) 1 c]))
    (hr : Row wA g 3 #[.int .i64 0]) (hB : B.road = [0]) : OwnB w1 base (.slice (some ⟨gg, 0, none⟩) (l.length + 1) cap) (l ++ [B]) := by
  have hlen := hown.1
  have hk := KeepsInt.of_grown hown hg
  refine ⟨_, by rw [List.length_append]; exact hown1, fun j hj => ?_⟩
  rw [List.length_append, List.length_singleton] at hj
  by_cases hjl : j < l.length
  · obtain ⟨c0, c1, c2, g', c', c3, hr', hrow⟩ := hx j hjl
    rw [bd_app_left hjl]
    rw [List.getElem?_append_left (by omega), List.getElem?_append_left (by omega), List.getElem?_append_left (by omega), List.getElem?_append_left (by omega)]
    exact ⟨c0, c1, c2, g', c', c3, hr', hk _ _ hrow⟩
  · obtain rfl : j = l.length := by omega
    rw [bd_app_last]
    rw [List.getElem?_append_right (by omega), List.getElem?_append_right (by omega), List.getElem?_append_right (by omega), List.getElem?_append_right (by omega), hlen]
    rw [show l.length * 4 - l.length * 4 = 0 by omega, show l.length * 4 + 1 - l.length * 4 = 1 by omega, show l.length * 4 + 2 - l.length * 4 = 2 by omega, show l.length * 4 + 3 - l.length * 4 = 3 by omega]
    exact ⟨rfl, rfl, rfl, g, c, rfl, hB, hk _ _ hr⟩
theorem OwnB.mk {w : World} {base : Nat} {v : Value} {l : List Sp.Body} {xs : List Value} (hown : w.ownsRow base 80 4 v l.length xs)
    (hx : ∀ j, j < l.length → xs[j * 4]? = some (.int .i64 (bd l j).num) ∧ xs[j * 4 + 1]? = some (.int .i64 (bd l j).den) ∧ xs[j * 4 + 2]? = some (.int .i64 (bd l j).start) ∧
      ∃ g c, xs[j * 4 + 3]? = some (.slice (some ⟨g, 0, none⟩) 1 c) ∧ (bd l j).road = [0] ∧ Row w g 3 #[.int .i64 0]) : OwnB w base v l := ⟨xs, hown, hx⟩
theorem Row.grown {w w' : World} {base : Nat} {v : Value} {n : Nat} {xs : List Value} {g : Nat} {t : TypeId} {cs : Array Value} (hr : Row w g t cs) (h : w.ownsRow base 80 4 v n xs) (hg : w.grownBy w' v.ownBlock) (ht : t ≠ 80) : Row w' g t cs :=
  (hg.block g hr.lt (fun e => ht (own_type h e.symm hr))).trans hr
/-- Behind the first append of a round. -/
theorem turn_one {wr w5 : World} {base bA bB g1 cap1 : Nat} {v1 v2 : Value} {l1 l2 : List Sp.Body} {xs1 xs2 : List Value} {csA csB : Array Value} {B : Sp.Body} (hbase : base ≤ wr.heap.size)
    (hown1 : wr.ownsRow base 80 4 v1 l1.length xs1)
    (hx1 : ∀ j, j < l1.length → xs1[j * 4]? = some (.int .i64 (bd l1 j).num) ∧ xs1[j * 4 + 1]? = some (.int .i64 (bd l1 j).den) ∧ xs1[j * 4 + 2]? = some (.int .i64 (bd l1 j).start) ∧
      ∃ g c, xs1[j * 4 + 3]? = some (.slice (some ⟨g, 0, none⟩) 1 c) ∧ (bd l1 j).road = [0] ∧ Row wr g 3 #[.int .i64 0])
    (hown2 : wr.ownsRow base 80 4 v2 l2.length xs2)
    (hx2 : ∀ j, j < l2.length → xs2[j * 4]? = some (.int .i64 (bd l2 j).num) ∧ xs2[j * 4 + 1]? = some (.int .i64 (bd l2 j).den) ∧ xs2[j * 4 + 2]? = some (.int .i64 (bd l2 j).start) ∧
      ∃ g c, xs2[j * 4 + 3]? = some (.slice (some ⟨g, 0, none⟩) 1 c) ∧ (bd l2 j).road = [0] ∧ Row wr g 3 #[.int .i64 0])
    (hdis : ∀ q, v1.ownBlock = some q → v2.ownBlock ≠ some q) (rA : Row wr bA 28 csA) (rB : Row wr bB 28 csB)
    (hgrow : (((wr.alloc (.cells #[.int .i64 B.num, .int .i64 B.den, .int .i64 B.start, .slice (some ⟨wr.heap.size + 1, 0, none⟩) 1 1] 80)).alloc (.cells #[.int .i64 0] 3)).alloc (.cells #[.int .i64 B.num, .int .i64 B.den, .int .i64 B.start, .slice (some ⟨wr.heap.size + 1, 0, none⟩) 1 1] 80)).grownBy w5 v1.ownBlock)
    (hat : v1.ownBlock = some g1 ∨ g1 = (((wr.alloc (.cells #[.int .i64 B.num, .int .i64 B.den, .int .i64 B.start, .slice (some ⟨wr.heap.size + 1, 0, none⟩) 1 1] 80)).alloc (.cells #[.int .i64 0] 3)).alloc (.cells #[.int .i64 B.num, .int .i64 B.den, .int .i64 B.start, .slice (some ⟨wr.heap.size + 1, 0, none⟩) 1 1] 80)).heap.size)
    (hown5 : w5.ownsRow base 80 4 (.slice (some ⟨g1, 0, none⟩) (l1.length + 1) cap1) (l1.length + 1) (xs1 ++ [.int .i64 B.num, .int .i64 B.den, .int .i64 B.start, .slice (some ⟨wr.heap.size + 1, 0, none⟩) 1 1])) :
    Row w5 bA 28 csA ∧ Row w5 bB 28 csB ∧ Row w5 wr.heap.size 80 #[.int .i64 B.num, .int .i64 B.den, .int .i64 B.start, .slice (some ⟨wr.heap.size + 1, 0, none⟩) 1 1] ∧
      Row w5 (wr.heap.size + 1) 3 #[.int .i64 0] ∧ OwnB w5 base (.slice (some ⟨g1, 0, none⟩) (l1.length + 1) cap1) (l1 ++ [plainB B]) ∧ w5.ownsRow base 80 4 v2 l2.length xs2 ∧
      (∀ j, j < l2.length → xs2[j * 4]? = some (.int .i64 (bd l2 j).num) ∧ xs2[j * 4 + 1]? = some (.int .i64 (bd l2 j).den) ∧ xs2[j * 4 + 2]? = some (.int .i64 (bd l2 j).start) ∧
        ∃ g c, xs2[j * 4 + 3]? = some (.slice (some ⟨g, 0, none⟩) 1 c) ∧ (bd l2 j).road = [0] ∧ Row w5 g 3 #[.int .i64 0]) ∧
      wr.heap.size + 3 ≤ w5.heap.size ∧ g1 ≠ wr.heap.size ∧ v2.ownBlock ≠ some g1 ∧ v2.ownBlock ≠ some wr.heap.size ∧ (∀ w0, Ext w0 wr → w0.heap.size ≤ base → Ext w0 w5) := by
  obtain ⟨b1, b2, b3⟩ := blocks3 wr (.cells #[.int .i64 B.num, .int .i64 B.den, .int .i64 B.start, .slice (some ⟨wr.heap.size + 1, 0, none⟩) 1 1] 80) (.cells #[.int .i64 0] 3) (.cells #[.int .i64 B.num, .int .i64 B.den, .int .i64 B.start, .slice (some ⟨wr.heap.size + 1, 0, none⟩) 1 1] 80)
  have hX : Ext wr (((wr.alloc (.cells #[.int .i64 B.num, .int .i64 B.den, .int .i64 B.start, .slice (some ⟨wr.heap.size + 1, 0, none⟩) 1 1] 80)).alloc (.cells #[.int .i64 0] 3)).alloc (.cells #[.int .i64 B.num, .int .i64 B.den, .int .i64 B.start, .slice (some ⟨wr.heap.size + 1, 0, none⟩) 1 1] 80)) := (((Ext.refl wr).alloc _).alloc _).alloc _
  have hsz : (((wr.alloc (.cells #[.int .i64 B.num, .int .i64 B.den, .int .i64 B.start, .slice (some ⟨wr.heap.size + 1, 0, none⟩) 1 1] 80)).alloc (.cells #[.int .i64 0] 3)).alloc (.cells #[.int .i64 B.num, .int .i64 B.den, .int .i64 B.start, .slice (some ⟨wr.heap.size + 1, 0, none⟩) 1 1] 80)).heap.size = wr.heap.size + 3 := by simp
  generalize ((wr.alloc (.cells #[.int .i64 B.num, .int .i64 B.den, .int .i64 B.start, .slice (some ⟨wr.heap.size + 1, 0, none⟩) 1 1] 80)).alloc (.cells #[.int .i64 0] 3)).alloc (.cells #[.int .i64 B.num, .int .i64 B.den, .int .i64 B.start, .slice (some ⟨wr.heap.size + 1, 0, none⟩) 1 1] 80) = wA at *
  have hownA : wA.ownsRow base 80 4 v1 l1.length xs1 := ownsRow_of_block hown1 (fun q hq => hX.block q (hown1.lt q hq).2)
  have hown2A : wA.ownsRow base 80 4 v2 l2.length xs2 := ownsRow_of_block hown2 (fun q hq => hX.block q (hown2.lt q hq).2)
  have hs5 := hgrow.size
  have hk := KeepsInt.of_grown hownA hgrow
  have hlt1 : ∀ q, v1.ownBlock = some q → q < wr.heap.size := fun q hq => (hown1.lt q hq).2
  have hlt2 : ∀ q, v2.ownBlock = some q → q < wr.heap.size := fun q hq => (hown2.lt q hq).2
  have rX : Row wA wr.heap.size 80 #[.int .i64 B.num, .int .i64 B.den, .int .i64 B.start, .slice (some ⟨wr.heap.size + 1, 0, none⟩) 1 1] := b1
  have rR : Row wA (wr.heap.size + 1) 3 #[.int .i64 0] := b2
  refine ⟨(rA.ext hX).grown hownA hgrow (by decide), (rB.ext hX).grown hownA hgrow (by decide), (hgrow.block _ rX.lt (fun e => by have := hlt1 _ e.symm; omega)).trans rX, hk _ _ rR,
    OwnB.push (B := plainB B) hownA (fun j hj => ?_) hgrow hown5 rR rfl, ownsRow_of_block hown2A (fun q hq => hgrow.block q (hown2A.lt q hq).2 (fun e => hdis q e.symm hq)), fun j hj => ?_, by omega, ?_, ?_, ?_, fun w0 h0 hb => ?_⟩
  · obtain ⟨c0, c1, c2, g, c, c3, hr, hrow⟩ := hx1 j hj
    exact ⟨c0, c1, c2, g, c, c3, hr, hrow.ext hX⟩
  · obtain ⟨c0, c1, c2, g, c, c3, hr, hrow⟩ := hx2 j hj
    exact ⟨c0, c1, c2, g, c, c3, hr, hk _ _ (hrow.ext hX)⟩
  · rintro rfl
    rcases hat with e | e
    · have := hlt1 _ e; omega
    · omega
  · intro e
    rcases hat with e2 | e2
    · exact hdis _ e2 e
    · have := hlt2 _ e; omega
  · intro e
    have := hlt2 _ e; omega
  · exact (h0.trans hX).grown hgrow (fun q hq => by have := (hownA.lt q hq).1; omega)
theorem turn_mid {w5 : World} {base bA x : Nat} {v2 : Value} {l2 : List Sp.Body} {xs2 : List Value} {csA : Array Value} (rA : Row w5 bA 28 csA) (hown2 : w5.ownsRow base 80 4 v2 l2.length xs2) (hd2 : v2.ownBlock ≠ some x) (S r : Value) :
    ((w5.setCell ⟨bA, 0, none⟩ S).setCell ⟨x, 2, none⟩ r).ownsRow base 80 4 v2 l2.length xs2 :=
  ownsRow_of_block hown2 (fun q hq => (Below.heap_setCell _ _ _ q (by rintro rfl; exact hd2 hq)).trans (Below.heap_setCell _ _ _ q (by rintro rfl; exact absurd (own_type hown2 hq rA) (by decide))))
/-- Behind the second append of a round, and the store. -/
theorem turn_two {w5 w8 : World} {base bA bB x g1 cap1 g2 cap2 : Nat} {v1 v2 : Value} {l1 l2 : List Sp.Body} {xs2 : List Value} {n0 n1 n2 m0 m1 m2 : Value} {B : Sp.Body} {d r : Int} {rr : Nat} (hbase : base ≤ x) (hAB : bA ≠ bB) (hxA : x ≠ bA) (hxB : x ≠ bB) (hxs : x < w5.heap.size)
    (rA : Row w5 bA 28 #[v1, n0, n1, n2]) (rB : Row w5 bB 28 #[v2, m0, m1, m2]) (rX : Row w5 x 80 #[.int .i64 B.num, .int .i64 B.den, .int .i64 B.start, .slice (some ⟨rr, 0, none⟩) 1 1])
    (rR : Row w5 rr 3 #[.int .i64 0]) (o1 : OwnB w5 base (.slice (some ⟨g1, 0, none⟩) (l1.length + 1) cap1) (l1 ++ [plainB B])) (hown2 : w5.ownsRow base 80 4 v2 l2.length xs2)
    (hx2 : ∀ j, j < l2.length → xs2[j * 4]? = some (.int .i64 (bd l2 j).num) ∧ xs2[j * 4 + 1]? = some (.int .i64 (bd l2 j).den) ∧ xs2[j * 4 + 2]? = some (.int .i64 (bd l2 j).start) ∧
      ∃ g c, xs2[j * 4 + 3]? = some (.slice (some ⟨g, 0, none⟩) 1 c) ∧ (bd l2 j).road = [0] ∧ Row w5 g 3 #[.int .i64 0])
    (hne1 : g1 ≠ x) (hd1 : v2.ownBlock ≠ some g1) (hd2 : v2.ownBlock ≠ some x) (hr : r = (B.start + d) % 21600)
    (hgrow : (((w5.setCell ⟨bA, 0, none⟩ (.slice (some ⟨g1, 0, none⟩) (l1.length + 1) cap1)).setCell ⟨x, 2, none⟩ (.int .i64 r)).alloc (.cells #[.int .i64 B.num, .int .i64 B.den, .int .i64 r, .slice (some ⟨rr, 0, none⟩) 1 1] 80)).grownBy w8 v2.ownBlock)
    (hat : v2.ownBlock = some g2 ∨ w5.heap.size ≤ g2)
    (hown8 : w8.ownsRow base 80 4 (.slice (some ⟨g2, 0, none⟩) (l2.length + 1) cap2) (l2.length + 1) (xs2 ++ [.int .i64 B.num, .int .i64 B.den, .int .i64 r, .slice (some ⟨rr, 0, none⟩) 1 1])) :
    Row (w8.setCell ⟨bB, 0, none⟩ (.slice (some ⟨g2, 0, none⟩) (l2.length + 1) cap2)) bA 28 #[.slice (some ⟨g1, 0, none⟩) (l1.length + 1) cap1, n0, n1, n2] ∧
      Row (w8.setCell ⟨bB, 0, none⟩ (.slice (some ⟨g2, 0, none⟩) (l2.length + 1) cap2)) bB 28 #[.slice (some ⟨g2, 0, none⟩) (l2.length + 1) cap2, m0, m1, m2] ∧
      OwnB (w8.setCell ⟨bB, 0, none⟩ (.slice (some ⟨g2, 0, none⟩) (l2.length + 1) cap2)) base (.slice (some ⟨g1, 0, none⟩) (l1.length + 1) cap1) (l1 ++ [plainB B]) ∧
      OwnB (w8.setCell ⟨bB, 0, none⟩ (.slice (some ⟨g2, 0, none⟩) (l2.length + 1) cap2)) base (.slice (some ⟨g2, 0, none⟩) (l2.length + 1) cap2) (l2 ++ [turnB d B]) ∧ g1 ≠ g2 ∧
      (∀ w0, Ext w0 w5 → w0.heap.size ≤ base → w0.heap.size ≤ bA → w0.heap.size ≤ bB → Ext w0 (w8.setCell ⟨bB, 0, none⟩ (.slice (some ⟨g2, 0, none⟩) (l2.length + 1) cap2))) ∧ w5.heap.size ≤ w8.heap.size ∧ Row w8 bB 28 #[v2, m0, m1, m2] := by
  have hbAl := rA.lt
  have hbBl := rB.lt
  have hg1 := (o1.lt (g := g1) rfl).2
  have hA6 : (w5.setCell ⟨bA, 0, none⟩ (.slice (some ⟨g1, 0, none⟩) (l1.length + 1) cap1)).heap.size = w5.heap.size := by simp
  have rA6 : Row (w5.setCell ⟨bA, 0, none⟩ (.slice (some ⟨g1, 0, none⟩) (l1.length + 1) cap1)) bA 28 #[.slice (some ⟨g1, 0, none⟩) (l1.length + 1) cap1, n0, n1, n2] := by simpa using rA.set_ 0 (.slice (some ⟨g1, 0, none⟩) (l1.length + 1) cap1)
  have rB6 := rB.far (p := ⟨bA, 0, none⟩) (Ne.symm hAB) (.slice (some ⟨g1, 0, none⟩) (l1.length + 1) cap1)
  have rX6 := rX.far (p := ⟨bA, 0, none⟩) hxA (.slice (some ⟨g1, 0, none⟩) (l1.length + 1) cap1)
  have k6 := KeepsInt.of_set (p := ⟨bA, 0, none⟩) rA (by decide) (.slice (some ⟨g1, 0, none⟩) (l1.length + 1) cap1)
  have o16 := o1.set_ (p := ⟨bA, 0, none⟩) rA (by decide) (o1.type rA (by decide)) (.slice (some ⟨g1, 0, none⟩) (l1.length + 1) cap1)
  have h26 : (w5.setCell ⟨bA, 0, none⟩ (.slice (some ⟨g1, 0, none⟩) (l1.length + 1) cap1)).ownsRow base 80 4 v2 l2.length xs2 := ownsRow_of_block hown2 (fun q hq => Below.heap_setCell _ _ _ q (by rintro rfl; exact absurd (own_type hown2 hq rA) (by decide)))
  have e6 : ∀ w0, Ext w0 w5 → w0.heap.size ≤ bA → Ext w0 (w5.setCell ⟨bA, 0, none⟩ (.slice (some ⟨g1, 0, none⟩) (l1.length + 1) cap1)) := fun w0 h hb => h.setCell hb _
  generalize w5.setCell ⟨bA, 0, none⟩ (.slice (some ⟨g1, 0, none⟩) (l1.length + 1) cap1) = w6 at *
  have hA7 : (w6.setCell ⟨x, 2, none⟩ (.int .i64 r)).heap.size = w6.heap.size := by simp
  have rA7 := rA6.far (p := ⟨x, 2, none⟩) (Ne.symm hxA) (.int .i64 r)
  have rB7 := rB6.far (p := ⟨x, 2, none⟩) (Ne.symm hxB) (.int .i64 r)
  have k7 := KeepsInt.of_set (p := ⟨x, 2, none⟩) rX6 (by decide) (.int .i64 r)
  have o17 := o16.set_ (p := ⟨x, 2, none⟩) rX6 (by decide) (by simpa [Value.ownBlock] using hne1) (.int .i64 r)
  have h27 : (w6.setCell ⟨x, 2, none⟩ (.int .i64 r)).ownsRow base 80 4 v2 l2.length xs2 := ownsRow_of_block h26 (fun q hq => Below.heap_setCell _ _ _ q (by rintro rfl; exact hd2 hq))
  have e7 : ∀ w0, Ext w0 w6 → w0.heap.size ≤ x → Ext w0 (w6.setCell ⟨x, 2, none⟩ (.int .i64 r)) := fun w0 h hb => h.setCell hb _
  generalize w6.setCell ⟨x, 2, none⟩ (.int .i64 r) = w7 at *
  have hX : Ext w7 (w7.alloc (.cells #[.int .i64 B.num, .int .i64 B.den, .int .i64 r, .slice (some ⟨rr, 0, none⟩) 1 1] 80)) := (Ext.refl w7).alloc _
  have hAB7 : (w7.alloc (.cells #[.int .i64 B.num, .int .i64 B.den, .int .i64 r, .slice (some ⟨rr, 0, none⟩) 1 1] 80)).heap.size = w7.heap.size + 1 := by simp
  generalize w7.alloc (.cells #[.int .i64 B.num, .int .i64 B.den, .int .i64 r, .slice (some ⟨rr, 0, none⟩) 1 1] 80) = wB at *
  have h2B : wB.ownsRow base 80 4 v2 l2.length xs2 := ownsRow_of_block h27 (fun q hq => hX.block q (h27.lt q hq).2)
  have kB : KeepsInt w5 wB := (k6.trans k7).trans (KeepsInt.of_ext hX)
  have rA8 := (rA7.ext hX).grown h2B hgrow (by decide)
  have rB8 := (rB7.ext hX).grown h2B hgrow (by decide)
  have o18 := (o17.ext hX).grown h2B hgrow (fun q e e2 => by
    have : q = g1 := by simpa [Value.ownBlock] using e.symm
    subst this
    exact hd1 e2)
  subst hr
  have o28 : OwnB w8 base (.slice (some ⟨g2, 0, none⟩) (l2.length + 1) cap2) (l2 ++ [turnB d B]) := OwnB.push (B := turnB d B) h2B (fun j hj => by
    obtain ⟨c0, c1, c2, g, c, c3, hr, hrow⟩ := hx2 j hj
    exact ⟨c0, c1, c2, g, c, c3, hr, kB _ _ hrow⟩) hgrow hown8 (kB _ _ rR) rfl
  have hs8 := hgrow.size
  refine ⟨rA8.far (p := ⟨bB, 0, none⟩) hAB _, by simpa using rB8.set_ 0 (.slice (some ⟨g2, 0, none⟩) (l2.length + 1) cap2), o18.set_ (p := ⟨bB, 0, none⟩) rB8 (by decide) (o18.type rB8 (by decide)) _, o28.set_ (p := ⟨bB, 0, none⟩) rB8 (by decide) (o28.type rB8 (by decide)) _, ?_, fun w0 h hb ha hb' => ?_, by omega, rB8⟩
  · rintro rfl
    rcases hat with e | e
    · exact hd1 e
    · omega
  · exact (((e7 w0 (e6 w0 h ha) (by omega)).trans hX).grown hgrow (fun q hq => by have := (h2B.lt q hq).1; omega)).setCell hb' _
theorem take_map_succ (f : Sp.Body → Sp.Body) (l : List Sp.Body) (k : Nat) (h : k < l.length) : (l.take (k + 1)).map f = (l.take k).map f ++ [f (bd l k)] := by
  rw [List.take_succ_eq_append_getElem h, List.map_append]
  rw [getD_bd h]
  rfl
end Go.Proofs.YtlcddcnmoajpjaaGreatDoor
