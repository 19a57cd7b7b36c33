/- Volume 3 of the texts that the laws of this seat use: EcWorld EcEng EcAt EcSets EcSets2 EcCmp EcRefA TpRefSky V07N TpRange TpRangeAll EcFree EcFree2: walks of the program's functions, and plain laws. -/
import Derived.Maps.Own
import Derived.Maps.OwnOps
import Derived.Outline
import Derived.Carry
import Derived.Laws.StructEq
import Derived.BigQuiet
import Derived.RangeFuncNested
import Derived.RangeFuncBound
import Derived.RangeFuncCalls
import Derived.RangeFuncLeaves
import Derived.Great.Frames
import Derived.Test.YtimkmokomohgjaaGreatT01
import Derived.Test.YtimkmokomohgjaaGreatT02
namespace Go.Proofs.YtimkmokomohgjaaGreat
open Go.RowKit Go.Shelf
open Go.WideElems (Fit)
open Go.ChangeMaps Go.MapKept
attribute [local go_sem] Oper.semAt_some
/-- A list without doubles, whose elements lie below N, has at most N of them. -/
theorem nodup_le : ∀ (N : Nat) (l : List Nat), l.Nodup → (∀ x ∈ l, x < N) → l.length ≤ N := by
  intro N
  induction N with
  | zero =>
    intro l _ h
    cases l with
    | nil => simp
    | cons x l => have := h x (by simp); omega
  | succ N ih =>
    intro l hd h
    by_cases hN : N ∈ l
    · have h1 := ih (l.erase N) (hd.erase N) (fun x hx => by
        have h2 := (hd.mem_erase_iff).1 hx
        have h3 := h x h2.2
        have := h2.1
        omega)
      rw [List.length_erase_of_mem hN] at h1
      omega
    · have := ih l hd (fun x hx => by
        have h3 := h x hx
        have : x ≠ N := fun e => hN (e ▸ hx)
        omega)
      omega
/-- Every element reads as the same: of the elements the entries themselves tell. -/
def oneR : Value → Option (DataW Unit × List MemPlace) := fun _ => some (.lit (.bool true), [])
/-- Block M is a map from days to what f says. -/
def Cache (P : Program) (kt : TypeId) (f : Int → Value) (M : Nat) (w : World) : Prop :=
  ∃ es clock, w.heap[M]? = some (.map es clock) ∧ Fit P kt oneR es clock ∧ ∀ x ∈ es.toList, ∃ d : Int, 0 ≤ d ∧ d < 10000 ∧ x.key = .int .i64 d ∧ x.val = f d
section
variable {P : Program} {kt : TypeId} {f : Int → Value} {M : Nat} {w w' : World}
theorem Cache.of_block (h : Cache P kt f M w) (hb : w'.heap[M]? = w.heap[M]?) : Cache P kt f M w' := by
  obtain ⟨es, c, h1, h2, h3⟩ := h
  exact ⟨es, c, hb.trans h1, h2, h3⟩
theorem Cache.lt (h : Cache P kt f M w) : M < w.heap.size := by
  obtain ⟨es, c, h1, _⟩ := h
  exact (Array.getElem?_eq_some_iff.1 h1).1
theorem Cache.ext (h : Cache P kt f M w) (he : Ext w w') : Cache P kt f M w' := h.of_block (he.block M h.lt)
theorem Cache.kept (h : Cache P kt f M w) {row : Option Nat} (hg : w.grownBy w' row) (hne : some M ≠ row) : Cache P kt f M w' := h.of_block (hg.block M h.lt hne)
theorem Cache.far (h : Cache P kt f M w) (p : Addr) (v : Value) (hp : p.block ≠ M) : Cache P kt f M (w.setCell p v) := h.of_block (Below.heap_setCell w p v M (Ne.symm hp))
theorem Cache.new (P : Program) (kt : TypeId) (f : Int → Value) (w : World) : Cache P kt f w.heap.size (w.alloc (.map #[] 0)) :=
  ⟨#[], 0, heap_alloc_new w _, ⟨by simp, ⟨by simp, by simp, by simp⟩, by simp⟩, by simp⟩
theorem Cache.not_row (h : Cache P kt f M w) {g : Nat} {t : TypeId} {cs : Array Value} (hr : Row w g t cs) : g ≠ M := by
  rintro rfl
  obtain ⟨es, c, h1, _⟩ := h
  unfold Row at hr
  rw [hr] at h1; cases h1
theorem Cache.not_cell (h : Cache P kt f M w) {p : Addr} {v : Value} (hc : w.cell? p = some v) : p.block ≠ M := by
  intro e
  obtain ⟨es, c, h1, _⟩ := h
  obtain ⟨o, ho, hcc⟩ := cells_of_cell hc
  rw [e, h1] at ho; cases ho; cases hcc
theorem Cache.not_own (h : Cache P kt f M w) {base : Nat} {e : TypeId} {size : Nat} {v : Value} {n : Nat} {xs : List Value} (ho : w.ownsRow base e size v n xs) : v.ownBlock ≠ some M := by
  intro hv
  obtain ⟨es, c, h1, _⟩ := h
  rcases ho.2 with ⟨rfl, _⟩ | ⟨g, cap, cur, rfl, _, hh, _⟩
  · cases hv
  · simp only [Value.ownBlock, Option.some.injEq] at hv
    subst hv
    rw [hh] at h1; cases h1
theorem Cache.size {es : Array MapEntry} {clock : Nat} (F : Fit P kt oneR es clock) (h : ∀ x ∈ es.toList, ∃ d : Int, 0 ≤ d ∧ d < 10000 ∧ x.key = .int .i64 d ∧ x.val = f d) : es.size ≤ 10000 := by
  have hd : (es.toList.map (·.key)).Nodup := F.stamped.2.2
  have h1 := nodup_le 10000 ((es.toList.map (·.key)).map fun v => (intOf v).toNat) (by
    rw [List.Nodup, List.pairwise_map]
    refine (List.pairwise_map.1 hd |> fun h0 => List.pairwise_map.2 (h0.imp_of_mem ?_))
    intro a b ha hb hne e
    obtain ⟨da, h0, h2, h3, _⟩ := h a ha
    obtain ⟨db, k0, k2, k3, _⟩ := h b hb
    rw [h3, k3] at hne e
    simp only [intOf] at e
    exact hne (by congr 1; omega)) (by
    intro x hx
    simp only [List.map_map, List.mem_map, Function.comp] at hx
    obtain ⟨y, hy, rfl⟩ := hx
    obtain ⟨d, h0, h2, h3, _⟩ := h y hy
    rw [h3]
    simp only [intOf]
    omega)
  simpa using h1
theorem Cache.store {t e : TypeId} (h : Cache P kt f M w) (hk : P.underlying kt = some (.int .i64)) (ht : P.underlying t = some (.map kt e)) {d : Int} (hd : (Lit.int .i64 d).wf = true) (h0 : 0 ≤ d) (h9 : d < 10000) :
    ∃ w', (Instr.mapUpdate t (.map (some M)) (.int .i64 d) (f d)).run P w = .ok () w' ∧ Cache P kt f M w' ∧ w.grownBy w' (some M) := by
  obtain ⟨es, c, h1, F, h3⟩ := h
  have hs := Cache.size F h3
  obtain ⟨es', c', hr, F', _, _, _, h6⟩ := Maps.fit_store (R' := oneR) (Maps.int_keyed hk) ht h1 F (by simp only [maxLen]; omega) (fun _ _ _ _ hz => hz) (Maps.keyOf_int_mk hk hd) (yv := (.lit (.bool true), [])) (val := f d) rfl
  refine ⟨_, hr, ⟨es', c', heap_setBlock_same h1 _, F', fun x hx => ?_⟩, ⟨rfl, rfl, rfl, by simp [ChangeMaps.setBlock], fun i _ hi => heap_setBlock_other h1 _ (fun e => hi (by rw [e]))⟩⟩
  rcases h6 x hx with ⟨hx', _⟩ | ⟨e1, e2⟩
  · exact h3 x hx'
  · exact ⟨d, h0, h9, e1, e2⟩
end
/-- What a call on an engine does to the world: only block M has turned, and it still holds what f says. -/
def Step (P : Program) (kt : TypeId) (f : Int → Value) (M : Nat) (w w' : World) : Prop := w.grownBy w' (some M) ∧ Cache P kt f M w'
section
variable {P : Program} {kt : TypeId} {f : Int → Value} {M : Nat} {w w1 w2 : World}
theorem Step.size (h : Step P kt f M w w1) : w.heap.size ≤ w1.heap.size := h.1.size
theorem Step.of_ext (h : Cache P kt f M w) (he : Ext w w1) : Step P kt f M w w1 := ⟨⟨he.os, he.tape, he.output, he.size, fun k hk _ => he.block k hk⟩, h.ext he⟩
theorem Step.refl (h : Cache P kt f M w) : Step P kt f M w w := Step.of_ext h (Ext.refl w)
theorem Step.trans (h : Step P kt f M w w1) (k : Step P kt f M w1 w2) : Step P kt f M w w2 :=
  ⟨⟨k.1.os.trans h.1.os, k.1.tape.trans h.1.tape, k.1.output.trans h.1.output, Nat.le_trans h.1.size k.1.size, fun i hi hne => (k.1.block i (Nat.lt_of_lt_of_le hi h.1.size) hne).trans (h.1.block i hi hne)⟩, k.2⟩
theorem Step.ext (h : Step P kt f M w w1) (he : Ext w1 w2) : Step P kt f M w w2 := h.trans (Step.of_ext h.2 he)
theorem Step.row (h : Step P kt f M w w1) (hc : Cache P kt f M w) {g : Nat} {t : TypeId} {cs : Array Value} (hr : Row w g t cs) : Row w1 g t cs :=
  (h.1.block g hr.lt (fun e => hc.not_row hr (Option.some.inj e))).trans hr
theorem Step.cell (h : Step P kt f M w w1) (hc : Cache P kt f M w) {p : Addr} {v : Value} (hp : w.cell? p = some v) : w1.cell? p = some v :=
  h.1.cell hp (fun e => hc.not_cell hp (Option.some.inj e))
theorem Step.own (h : Step P kt f M w w1) (hc : Cache P kt f M w) {base : Nat} {e : TypeId} {size : Nat} {v : Value} {n : Nat} {xs : List Value} (ho : w.ownsRow base e size v n xs) : w1.ownsRow base e size v n xs :=
  ownsRow_of_block ho fun k hk => h.1.block k (ho.lt k hk).2 (fun e' => hc.not_own ho (by rw [hk, e']))
theorem Step.out (h : Step P kt f M w w1) (hc : Cache P kt f M w) {base bO : Nat} {ty e : TypeId} {size : Nat} {v : Value} {n : Nat} {xs : List Value} (ho : Out w base bO ty e size v n xs) : Out w1 base bO ty e size v n xs :=
  ⟨h.row hc ho.box, h.own hc ho.own, ho.ne⟩
theorem Step.below (h : Step P kt f M w w1) {N : Nat} (hN : N ≤ M) (hw : N ≤ w.heap.size) : Below N w w1 :=
  ⟨h.1.os, h.1.tape, h.1.output, h.1.size, fun k hk => h.1.block k (by omega) (fun e => by have := Option.some.inj e; omega)⟩
theorem Step.keeps (h : Step P kt f M w w1) {B : Nat} (hB : M < B) : KeepsFrom B w w1 := KeepsFrom.of_grownBy h.1 (fun j e => by have := Option.some.inj e; omega)
theorem Step.setCell (h : Step P kt f M w w1) (hc : Cache P kt f M w) {p : Addr} (hp : w.heap.size ≤ p.block) (v : Value) : Step P kt f M w (w1.setCell p v) :=
  ⟨⟨h.1.os, h.1.tape, h.1.output, by have := h.1.size; simpa using this, fun k hk hne => (Below.heap_setCell w1 p v k (by omega)).trans (h.1.block k hk hne)⟩, h.2.far p v (by have := hc.lt; omega)⟩
/-- Blocks that are not M's lie as they lay. -/
theorem Step.block (h : Step P kt f M w w1) {k : Nat} (hk : k < w.heap.size) (hne : k ≠ M) : w1.heap[k]? = w.heap[k]? := h.1.block k hk (fun e => hne (Option.some.inj e))
end
/-- What an iterator promises that itself turns the world between two rounds, by St. -/
def SeqStep {α : Type} (F : Fence) (n : Nat) (P : Program) (g : Nat) (lb : Array Value) (encs : α → Array Value) (Kp St : World → World → Prop) (S Sp : List α → Prop) (N : Nat) (W : World) : Prop :=
  ∀ (l : Nat) (J Jx : List α → World → Prop), (∀ s A B, J s A → St A B → J s B) →
    (∀ pre x A, J pre A → pre.length < N → YieldAt F (n - 1) P l (encs x) A fun e B =>
      (e = .returned (.bool true) ∧ J (pre ++ [x]) B ∧ Kp A B) ∨ (e = .returned (.bool false) ∧ Jx (pre ++ [x]) B)) →
    J [] W →
    CallsIn F n P g (#[.func (.yield l) #[] #[]] ++ lb) W fun e B => (∃ v, e = .returned v) ∧ ((∃ xs, S xs ∧ J xs B) ∨ (∃ pre, Sp pre ∧ Jx pre B))
/-- What the caller holds while the loop goes on: its own, the loop's record, the block for deferred calls. -/
structure RangeOn (I : World → Prop) (B : Nat) (r : Loop) (W : World) : Prop where
  own : I W
  loop : W.heap[B + 1]? = some (.loop r)
  late : W.heap[B]? = some (.deferred (some []))
theorem RangeOn.put {α : Type} {I : List α → World → Prop} {s : List α} {B : Nat} {r : Loop} {W : World} (hI : OwnFrom B I) (h : RangeOn (I s) B r W) (r' : Loop) : RangeOn (I s) B r' (W.putObj (B + 1) (.loop r')) :=
  ⟨hI.putObj _ h.own (by omega) h.loop rfl, World.putObj_heap_same (Array.getElem?_eq_some_iff.1 h.loop).1, (World.putObj_heap_other (by omega)).trans h.late⟩
variable {F : Fence} {n : Nat} {P : Program}
/-- A range over a function, outside of another one, whose iterator turns the world by St between two rounds. -/
theorem wpIn_range_step {α : Type} {g : Operand} {ps : Array Tmp} {assign body : Code} {Q : Exit → Act → World → Prop} {a : Act} {w : World}
    (hro : F.round = none) (h1 : 1 ≤ n) {gf : Nat} {lb : Array Value} (hg : a.eval g = .func (.func gf) #[] lb) (hFg : F.fn gf) (eg : ∀ args w, (callFunc gf args).run P w = .ok (.enter gf args) w)
    {encs : α → Array Value} {Kp St : World → World → Prop} {S Sp : List α → Prop} {N : Nat} (hseq : ∀ W, Ext w W → SeqStep F (n - 1) P gf lb encs Kp St S Sp N W)
    (hKt : ∀ {A B C : World}, Kp A B → Kp B C → Kp A C) (hKb : ∀ (W : World) (l : Nat) (o o' : Obj), w.heap.size ≤ l → W.heap[l]? = some o → o.isCells = false → o.isWalk = false → Kp W (W.putObj l o'))
    (hSt : ∀ A B, St A B → KeepsFrom w.heap.size A B) (hps : ∀ x, (encs x).size = ps.size)
    (I : List α → World → Prop) (Ix : Code → List α → World → Prop) (hI : OwnFrom w.heap.size I) (hIx : ∀ c, OwnFrom w.heap.size (Ix c)) (hIS : ∀ s A B, I s A → St A B → I s B) (h0 : I [] w)
    (Ax : α → Act → World → Prop) (hAx : ∀ x a', OwnFrom w.heap.size (fun (_ : Unit) W => Ax x a' W))
    (hassign : ∀ (l : Nat) (pre : List α) (x : α) (W : World) (K : Act → World → Prop), I pre W → (∀ a' W', KeepsFrom w.heap.size W W' → Kp W W' → I pre W' → Ax x a' W' → K a' W') →
      assign.wpIn (F.inRound l) (n - 1 - 1) P (Exit.then K (fun _ _ _ => False)) { tmps := (ps.zip (encs x)).foldl (fun t (p, v) => t.setIfInBounds p v) a.tmps, defers := [] } W)
    (hbody : ∀ (l : Nat) (pre : List α) (x : α) (a' : Act) (W : World), w.heap.size ≤ l → I pre W → Ax x a' W → pre.length < N → body.wpIn (F.inRound l) (n - 1 - 1) P (ownPostG w.heap.size Kp I Ix (pre ++ [x]) W) a' W)
    (hdone : ∀ (D : Nat) (xs : List α) (W : World), w.heap.size ≤ D → S xs → I xs W → W.heap[D]? = some (.deferred (some [])) → Q .normal { a with defers := { target := .collected D, args := #[] } :: a.defers } W)
    (hstop : ∀ (D : Nat) (c : Code) (pre : List α) (W : World), w.heap.size ≤ D → Sp pre → Ix c pre W → W.heap[D]? = some (.deferred (some [])) → c.wpIn F n P Q { a with defers := { target := .collected D, args := #[] } :: a.defers } W) :
    (Code.rangeFunc g ps assign body).wpIn F n P Q a w := by
  refine wpIn_rangeFunc fun fn hfn => ?_
  rw [hro]
  obtain ⟨B, hB⟩ : ∃ B, w.heap.size = B := ⟨_, rfl⟩
  obtain ⟨mk, hmk⟩ : ∃ mk : LoopState → Option Code → Loop, mk = fun st pe => { state := st, pending := pe, fn, tmps := a.tmps, params := ps, assign, body, defers := B } := ⟨_, rfl⟩
  have hnew := World.alloc_heap_new (w.alloc (.deferred (some []))) (.loop (mk .ready none))
  rw [World.size_alloc, hB] at hnew
  have on0 : RangeOn (I []) B (mk .ready none) ((w.alloc (.deferred (some []))).alloc (.loop (mk .ready none))) :=
    ⟨hI.alloc _ (hI.alloc _ h0), hnew, by rw [← hB]; exact (Below.heap_alloc _ _ _ (by simp)).trans (World.alloc_heap_new w _)⟩
  have he0 : Ext w ((w.alloc (.deferred (some []))).alloc (.loop (mk .ready none))) := ((Ext.refl w).alloc _).alloc _
  rw [hB] at hI hIx hAx hKb hSt hassign hbody hdone hstop
  refine ⟨B + 1, [{ target := .collected B, args := #[] }], (w.alloc (.deferred (some []))).alloc (.loop (mk .ready none)), { target := .fn (.func gf) lb, args := #[.func (.yield (B + 1)) #[] #[]] }, (w.alloc (.deferred (some []))).alloc (.loop (mk .ready none)), gf, #[.func (.yield (B + 1)) #[] #[]] ++ lb, (w.alloc (.deferred (some []))).alloc (.loop (mk .ready none)), ?_, ?_, ?_, ?_, fun _ => h1, ?_⟩
  · have := run_enterLoop_outer (P := P) (w := w) fn a.tmps ps assign body
    rw [hB] at this
    rw [hmk]
    exact this
  · simp only [resolve, hg]
    simp [go_sem]
  · intro f' hf'
    simp [Target.leads] at hf'
    subst hf'
    exact hFg
  · simp [invoke, go_sem, eg]
  · refine (hseq _ he0 (B + 1) (fun pre => RangeOn (I pre) B (mk .ready none)) (fun pre W => ∃ c, RangeOn (Ix c pre) B (mk .done (some c)) W) ?_ ?_ on0).mono ?_
    · intro s X Y h hs
      have hk := hSt X Y hs
      exact ⟨hIS s X Y h.own hs, hk.same _ _ (by omega) h.loop rfl, hk.same _ _ (Nat.le_refl _) h.late rfl⟩
    · intro pre x W h hlen
      have hy := run_yield (P := P) (args := encs x) h.loop (by rw [hmk]; exact hps x)
      rw [hmk] at hy
      refine ⟨fn, _, assign, body, hy, roundIn_of_wpIn hfn (hassign _ pre x W _ h.own fun a' W1 hk1 hp1 hi1 hx1 => ?_)⟩
      have h1' : RangeOn (I pre) B (mk .ready none) W1 := ⟨hi1, hk1.same _ _ (by omega) h.loop rfl, hk1.same _ _ (Nat.le_refl _) h.late rfl⟩
      refine ⟨_, run_beginRound h1'.loop (by rw [hmk]), ?_⟩
      obtain ⟨W2, hW2⟩ : ∃ W2, W1.putObj (B + 1) (.loop (mk .busy none)) = W2 := ⟨_, rfl⟩
      have h2' : RangeOn (I pre) B (mk .busy none) W2 := by rw [← hW2]; exact h1'.put hI _
      have hx2 : Ax x a' W2 := by rw [← hW2]; exact (hAx x a').putObj (s := ()) _ hx1 (by omega) h1'.loop rfl
      have hp2 : Kp W W2 := by rw [← hW2]; exact hKt hp1 (hKb _ _ _ _ (by omega) h1'.loop rfl rfl)
      have hsame : W1.putObj (B + 1) (.loop { mk .ready none with state := .busy }) = W2 := by rw [← hW2, hmk]
      rw [hsame]
      refine wpIn_mono (hbody (B + 1) pre x a' W2 (by omega) h2'.own hx2 hlen) ?_
      have stop : ∀ (c : Code) (W3 : World), KeepsFrom B W2 W3 → Ix c (pre ++ [x]) W3 → ∃ v W4, (Instr.endRound (B + 1) (some c)).run P W3 = .ok v W4 ∧
          ((Ending.returned v = .returned (.bool true) ∧ RangeOn (I (pre ++ [x])) B (mk .ready none) W4 ∧ Kp W W4) ∨ (Ending.returned v = .returned (.bool false) ∧ ∃ c, RangeOn (Ix c (pre ++ [x])) B (mk .done (some c)) W4)) := by
        intro c W3 hk3 hi3
        have h3 : RangeOn (Ix c (pre ++ [x])) B (mk .busy none) W3 := ⟨hi3, hk3.same _ _ (by omega) h2'.loop rfl, hk3.same _ _ (Nat.le_refl _) h2'.late rfl⟩
        have hr := run_endRound (P := P) (some c) h3.loop
        rw [hmk] at hr
        refine ⟨_, _, hr, .inr ⟨rfl, c, ?_⟩⟩
        have := h3.put (hIx c) (mk .done (some c))
        rw [hmk] at this ⊢
        exact this
      intro e a3 W3 hp
      cases e with
      | normal =>
        obtain ⟨hk3, hp3, hi3⟩ := hp
        have h3 : RangeOn (I (pre ++ [x])) B (mk .busy none) W3 := ⟨hi3, hk3.same _ _ (by omega) h2'.loop rfl, hk3.same _ _ (Nat.le_refl _) h2'.late rfl⟩
        have hr := run_endRound (P := P) none h3.loop
        rw [hmk] at hr
        refine ⟨_, _, hr, .inl ⟨rfl, ?_, hKt (hKt hp2 hp3) (hKb _ _ _ _ (by omega) h3.loop rfl rfl)⟩⟩
        have := h3.put hI (mk .ready none)
        rw [hmk] at this ⊢
        exact this
      | ret => exact stop _ _ hp.1 hp.2
      | exit id => exact stop _ _ hp.1 hp.2
      | goto t => exact stop _ _ hp.1 hp.2
      | panic ch => exact hp.elim
      | outgrown => exact hp.elim
    · rintro e W2 ⟨⟨v, rfl⟩, (⟨xs, hS, h⟩ | ⟨pre, hSp, c, h⟩)⟩
      · have hr := run_endLoop (P := P) h.loop (by rw [hmk]; simp)
        rw [hmk] at hr
        exact ⟨none, _, hr, hdone B xs _ (Nat.le_refl _) hS (hI.putObj _ h.own (by omega) h.loop rfl) ((World.putObj_heap_other (by omega)).trans h.late)⟩
      · have hr := run_endLoop (P := P) h.loop (by rw [hmk]; simp)
        rw [hmk] at hr
        exact ⟨some c, _, hr, hstop B c pre _ (Nat.le_refl _) hSp ((hIx c).putObj _ h.own (by omega) h.loop rfl) ((World.putObj_heap_other (by omega)).trans h.late)⟩
section
variable {P : Program} {ops : Array Oper} {md : Region.Mode} {C : World → Prop} {Q : Exit → Act → World → Prop}
theorem opWide_of_op {K : Act → World → Prop} {n : Nat} {o : Oper} {a : Act} {w : World} (hL : ¬ LetsOut Q) (h : o.wp P a w K Q ∨ (o.asks P a w ∧ LetsOut Q)) : o.wpIn Fence.wide n P a w K Q := by
  replace h := h.resolve_right fun h => hL h.2
  refine ⟨fun _ _ => trivial, ?_⟩
  rw [show Fence.wide.round = none from rfl, Oper.semAt_none]
  unfold Oper.wp at h
  generalize (execOp a.eval o).run P w = r at *
  cases r with
  | ok x w' =>
    cases x <;> simp only [Oper.upon, Oper.uponIn] at h ⊢
    all_goals first
      | exact h
      | exact ⟨fun hh => by simp [Fence.wide] at hh, callsIn_wide.2 h⟩
      | exact ⟨fun hh => by simp [Fence.wide] at hh, fun c cs _ => let ⟨v, w', r, s⟩ := h c cs; ⟨v, w', r, stepsIn_wide.2 s⟩⟩
  | halt x w' => cases x <;> simp only [Oper.upon, Oper.uponIn] at h ⊢ <;> exact h
theorem anyIn_of_seq {F : Fence} {n : Nat} : ∀ (l : List Oper) (k : Nat) (listed : Array Bool) (a : Act) (w : World), (∀ j, l[j]? = ops[k + j]?) →
    Region.seqB md ops l.length k listed = true → wpListIn F n P ops Q l a w → wpAnyIn F n P md ops Q l.length listed a w
  | [], _, _, _, _, _, hB, h => ⟨by simpa [Region.seqB] using hB, h⟩
  | o :: l, k, listed, a, w, hl, hB, h => by
    have h0 : ops[k]? = some o := by simpa using (hl 0).symm
    simp only [List.length_cons, Region.seqB, Bool.and_eq_true, decide_eq_true_eq] at hB
    refine ⟨fun h1 => (by rw [hB.1] at h1; cases h1), fun i hi => ?_⟩
    rw [hB.1] at hi
    obtain rfl : i = k := by simpa using hi
    have hw : wpOpIn F n P ops Q i (wpListIn F n P ops Q l) a w := by unfold wpOpIn; simp only [h0]; exact h
    exact wpOpIn_mono (fun a' w' h' => anyIn_of_seq l (i + 1) _ a' w' (fun j => by have := hl (j + 1); simpa [Nat.add_assoc, Nat.add_comm 1 j] using this) hB.2 h') hw
theorem anyIn_of_headQ {n m g : Nat} {L : Array Bool → Act → Prop} (hQ : ¬ LetsOut Q) (hL : ∀ listed a w, C w → L listed a → wpAnyIn Fence.wide m P md ops Q g listed a w) (f : Nat) :
    ∀ (listed : Array Bool) (a : Act) (w : World), C w → headQ P md ops C n L f listed a → wpAnyIn Fence.wide m P md ops Q (f + g) listed a w := by
  induction f with
  | zero => intro listed a w hw h; rw [Nat.zero_add]; exact hL _ _ _ hw h
  | succ f ih =>
    intro listed a w hw h
    rw [Nat.add_right_comm]
    refine ⟨fun h0 => absurd h0 h.1, fun i hi => ?_⟩
    have h1 : wpOp P ops Q i (wpAnyIn Fence.wide m P md ops Q (f + g) (listed.setIfInBounds i true)) a w := wpOp_of_qOp hw (fun a' w' hw' h' => ih _ a' w' hw' h') (h.2 i hi).2
    unfold wpOp at h1
    unfold wpOpIn
    split
    · rename_i ho; simp only [ho] at h1; exact h1
    · rename_i o ho
      simp only [ho] at h1
      split
      · rename_i hwd; rw [if_pos hwd] at h1; exact opWide_of_op hQ h1
      · rename_i hwd; rw [if_neg hwd] at h1; exact ⟨fun _ _ => trivial, h1⟩
theorem wpIn_region_tail_wide {id m : Nat} {a : Act} {w : World} {l : List Oper} (n : Nat) (hm : P.follows .mixedOrders = true) (hB : Region.lexTailB .any l.toArray n = true)
    (hC : C { w with drawn := w.drawn + 1 }) (h : wpQuiet P l.toArray C (fun a' => ∀ w', C w' → wpListIn Fence.wide m P l.toArray (OnlyEnd Q) (l.drop n) a' w') (l.take n) a) : (Code.region id l.toArray true).wpIn Fence.wide m P Q a w := by
  simp only [Region.lexTailB, Bool.and_eq_true, decide_eq_true_eq] at hB
  obtain ⟨⟨⟨⟨hsel, hn⟩, hs⟩, hc⟩, hlex⟩ := hB
  have hn' : n < l.length := by simpa using hn
  have htl : (l.take n).length = n := by simp; omega
  have hdl : (l.drop n).length = l.toArray.size - n := by simp
  have inv0 : HeadInv .any l.toArray n (Array.replicate l.toArray.size false) :=
    ⟨by simp, fun j oj _ hl => (by rw [getD_replicate_false] at hl; cases hl), fun t _ ht => getD_in (by simpa using ht) (getD_replicate_false _ _)⟩
  have H := headQ_lex (md := .any) (g := l.toArray.size - n) hsel hs hc hn (l.take n) 0 _ a (fun j hj => by
    rw [htl] at hj
    simp [hj]) (by simpa using htl) inv0 (by rw [htl]; exact hlex) h
  refine wpIn_mono (wpIn_region_any (Q := OnlyEnd Q) hm ?_) fun e _ _ hq => by cases e <;> first | exact hq | exact hq.elim
  have := anyIn_of_headQ (Q := OnlyEnd Q) (m := m) (g := l.toArray.size - n) (fun ⟨_, _, hh⟩ => hh) (fun listed a' w' hw' hL => by
    have := anyIn_of_seq (F := Fence.wide) (n := m) (md := .any) (Q := OnlyEnd Q) (l.drop n) n listed a' w' (fun j => by simp [List.getElem?_drop]) (by rw [hdl]; exact hL.1) (hL.2 w' hw')
    rwa [hdl] at this) _ _ _ _ hC H
  rw [htl, show n + (l.toArray.size - n) = l.toArray.size by omega] at this
  exact this
/-- The first n operations over all later worlds, the rest one by one, inside the wide fence. The world gets a name. -/
theorem wpIn_region_later_tail {id m : Nat} {a : Act} {w : World} {l : List Oper} (n : Nat) (hm : P.follows .mixedOrders = true) (hB : Region.lexTailB .any l.toArray n = true)
    (h : ∀ W, W = w → wpQuiet P l.toArray (fun w' => ∃ x : Later W, w' = x.world) (fun a' => ∀ x : Later W, wpListIn Fence.wide m P l.toArray (OnlyEnd Q) (l.drop n) a' x.world) (l.take n) a) : (Code.region id l.toArray true).wpIn Fence.wide m P Q a w :=
  wpIn_region_tail_wide (C := fun w' => ∃ x : Later w, w' = x.world) n hm hB ⟨⟨w.drew, (Ext.refl w).drew⟩, rfl⟩ (by
    have := h w rfl
    simpa using this)
end
end Go.Proofs.YtimkmokomohgjaaGreat
namespace Go.Proofs.YtimkmokomohgjaaGreat
open Go.RowKit
open Sp (rd)
/-- Where the lists of an engine and its settings lie. -/
structure EP where
  Ab : Option Addr
  cb : Nat
  As : Option Addr
  cs : Nat
  Am : Option Addr
  cm : Nat
  An : Option Addr
  cn : Nat
  Af : Option Addr
  cf : Nat
  At : Option Addr
  ct : Nat
/-- What is there stays there. -/
def Stays (w w' : World) : Prop := ∀ p v, w.cell? p = some v → w'.cell? p = some v
theorem Ext.stays {w w' : World} (h : Ext w w') : Stays w w' := fun _ _ hc => h.cell hc
theorem Step.stays {P : Program} {kt : TypeId} {f : Int → Value} {M : Nat} {w w' : World} (h : Step P kt f M w w') (hc : Cache P kt f M w) : Stays w w' := fun _ _ hp => h.cell hc hp
theorem Ints.stay {w w' : World} {A : Option Addr} {l : List Int} (h : Ints w A l) (he : Stays w w') : Ints w' A l := fun h0 =>
  let ⟨b, o, e, hc⟩ := h h0
  ⟨b, o, e, fun k hk => he _ _ (hc k hk)⟩
theorem Pairs.stay {w w' : World} {A : Option Addr} {l : List Ec.Pair} (h : Pairs w A l) (he : Stays w w') : Pairs w' A l := fun h0 =>
  let ⟨b, o, e, hc⟩ := h h0
  ⟨b, o, e, fun k hk => ⟨he _ _ (hc k hk).1, he _ _ (hc k hk).2⟩⟩
theorem Bodies.stay {w w' : World} {A : Option Addr} {l : List Sp.Body} (h : Bodies w A l) (he : Stays w w') : Bodies w' A l := fun h0 =>
  let ⟨b, o, e, hc⟩ := h h0
  ⟨b, o, e, fun k hk => let hb := hc k hk
    let ⟨R, c, h1, h2⟩ := hb.road
    ⟨he _ _ hb.num, he _ _ hb.den, he _ _ hb.start, R, c, he _ _ h1, h2.stay he⟩⟩
/-- An engine's lists in memory. -/
structure EngAt (w : World) (p : EP) (e : Ec.Engine) : Prop where
  bodies : Bodies w p.Ab e.sky.bodies
  sun : Pairs w p.As e.sun
  moon : Pairs w p.Am e.moon
  node : Pairs w p.An e.node
  feasts : Ints w p.Af e.feasts
/-- .. with settings. -/
structure EngSet (w : World) (p : EP) (e : Ec.Engine) (set : List Int) : Prop where
  eng : EngAt w p e
  set : Ints w p.At set
theorem EngAt.stay {w w' : World} {p : EP} {e : Ec.Engine} (h : EngAt w p e) (he : Stays w w') : EngAt w' p e := ⟨h.bodies.stay he, h.sun.stay he, h.moon.stay he, h.node.stay he, h.feasts.stay he⟩
theorem EngAt.ext {w w' : World} {p : EP} {e : Ec.Engine} (h : EngAt w p e) (he : Ext w w') : EngAt w' p e := h.stay he.stays
theorem EngSet.stay {w w' : World} {p : EP} {e : Ec.Engine} {set : List Int} (h : EngSet w p e set) (he : Stays w w') : EngSet w' p e set := ⟨h.eng.stay he, h.set.stay he⟩
theorem EngSet.ext {w w' : World} {p : EP} {e : Ec.Engine} {set : List Int} (h : EngSet w p e set) (he : Ext w w') : EngSet w' p e set := h.stay he.stays
/-- An engine and settings as defined. -/
structure Fine (e : Ec.Engine) (set : List Int) : Prop where
  eng : Ec.engineOk e = true
  set : Ec.setOk e.feasts set = true
theorem engineOk_parts {e : Ec.Engine} (h : Ec.engineOk e = true) : (Ec.trainOk e.sun = true ∧ Ec.trainOk e.moon = true ∧ Ec.trainOk e.node = true) ∧ (Sp.skyOk e.sky = true ∧ Sp.isMonth e.sky = true) ∧ Ec.feastsOk e.feasts = true ∧
    (Sp.isLimit e.nw = true ∧ Sp.isLimit e.fl = true ∧ Sp.isLimit e.wide = true) := by
  simp only [Ec.engineOk, Bool.and_eq_true] at h
  exact h
theorem Fine.sky {e : Ec.Engine} {set : List Int} (h : Fine e set) : SkyOk e.sky := skyOk_iff.1 (engineOk_parts h.eng).2.1.1
theorem Fine.feasts {e : Ec.Engine} {set : List Int} (h : Fine e set) : Ec.feastsOk e.feasts = true := (engineOk_parts h.eng).2.2.1
end Go.Proofs.YtimkmokomohgjaaGreat
namespace Go.Proofs.YtimkmokomohgjaaGreat
open Go.RowKit
open Sp (rd)
set_option maxRecDepth 100000
set_option maxHeartbeats 1000000
theorem lead_bounds (e : Ec.Engine) (set : List Int) (d : Int) : 0 ≤ Ec.leadAt e set d ∧ Ec.leadAt e set d < 21600 := emod_bounds _ 21600 (by omega)
end Go.Proofs.YtimkmokomohgjaaGreat
namespace Go.Proofs.YtimkmokomohgjaaGreat
open Sp (rd)
set_option linter.unusedSimpArgs false
set_option linter.unusedVariables false
namespace Ec
/-- Numbers from k on, below n, that increase. -/
def Incr (n : Int) : Int → List Int → Prop
  | _, [] => True
  | k, x :: l => k ≤ x ∧ x < n ∧ Incr n (x + 1) l
theorem Incr.mono {n k k' : Int} {l : List Int} (h : k' ≤ k) (hi : Incr n k l) : Incr n k' l := by
  cases l with
  | nil => trivial
  | cons x l => exact ⟨by have := hi.1; omega, hi.2⟩
end Ec
end Go.Proofs.YtimkmokomohgjaaGreat
namespace Go.Proofs.YtimkmokomohgjaaGreat
open Sp (rd)
set_option linter.unusedSimpArgs false
set_option linter.unusedVariables false
namespace Ec
theorem Incr.len {n : Int} : ∀ {l : List Int} {k : Int}, Incr n k l → l.length ≤ (n - k).toNat
  | [], _, _ => Nat.zero_le _
  | x :: l, k, ⟨h1, h2, h3⟩ => by
    have := Incr.len h3
    simp only [List.length_cons]
    omega
end Ec
end Go.Proofs.YtimkmokomohgjaaGreat
namespace Go.Proofs.YtimkmokomohgjaaGreat
open Go.RowKit
open Sp (rd)
set_option maxRecDepth 100000
set_option maxHeartbeats 1000000
def cmpI (a b : Int) : Int := if a < b then -1 else if b < a then 1 else 0
theorem c_isNaN_any (x : Int) (w : World) : Calls Tryz.prog 205 #[.int .i64 x] w fun e w' => e = .returned (.bool false) ∧ w = w' := by
  go_enter Tryz.func205, Tryz.ntmps205
  go_wp2_with fail
  go_ret
  exact ⟨by simp, rfl⟩
theorem c_Compare_any (a b : Int) (w : World) : Calls Tryz.prog 192 #[.int .i64 a, .int .i64 b] w fun e w' => e = .returned (.int .i64 (cmpI a b)) ∧ w = w' := by
  rcases (show a < b ∨ a = b ∨ b < a by omega) with h | rfl | h
  · have hc : cmpI a b = -1 := by unfold cmpI; rw [if_pos h]
    rw [hc]
    clear hc
    go_enter Tryz.func192, Tryz.ntmps192
    go_wp2_with fail
    refine (c_isNaN_any _ _).mono ?_
    rintro e w1 ⟨rfl, rfl⟩
    go_wp2_with fail
    refine (c_isNaN_any _ _).mono ?_
    rintro e w1 ⟨rfl, rfl⟩
    go_wp2_with fail
    go_ret
    exact ⟨rfl, rfl⟩
  · have hc : cmpI a a = 0 := by unfold cmpI; simp
    rw [hc]
    clear hc
    go_enter Tryz.func192, Tryz.ntmps192
    go_wp2_with fail
    refine (c_isNaN_any _ _).mono ?_
    rintro e w1 ⟨rfl, rfl⟩
    go_wp2_with fail
    refine (c_isNaN_any _ _).mono ?_
    rintro e w1 ⟨rfl, rfl⟩
    go_wp2_with fail
    go_ret
    exact ⟨rfl, rfl⟩
  · have hc : cmpI a b = 1 := by unfold cmpI; rw [if_neg (by omega), if_pos h]
    rw [hc]
    clear hc
    go_enter Tryz.func192, Tryz.ntmps192
    go_wp2_with fail
    refine (c_isNaN_any _ _).mono ?_
    rintro e w1 ⟨rfl, rfl⟩
    go_wp2_with fail
    refine (c_isNaN_any _ _).mono ?_
    rintro e w1 ⟨rfl, rfl⟩
    go_wp2_with fail
    go_ret
    exact ⟨rfl, rfl⟩
/-- A slice value that holds lists of integers. -/
def ListsAt (w : World) (A : Option Addr) (ls : List (List Int)) : Prop := 0 < ls.length → ∃ b o, A = some ⟨b, o, none⟩ ∧ ∀ k, (hk : k < ls.length) → ∃ B d, w.cell? ⟨b, o + k, none⟩ = some (.slice B (ls[k]).length d) ∧ Ints w B ls[k]
theorem ListsAt.ext {w w' : World} {A : Option Addr} {ls : List (List Int)} (h : ListsAt w A ls) (he : Ext w w') : ListsAt w' A ls := fun h0 =>
  let ⟨b, o, e, hk⟩ := h h0
  ⟨b, o, e, fun k hk' => let ⟨B, d, h1, h2⟩ := hk k hk'; ⟨B, d, he.cell h1, h2.ext he⟩⟩
end Go.Proofs.YtimkmokomohgjaaGreat
namespace Go.Proofs.YtimkmokomohgjaaGreat
open Go.RowKit
open Sp (rd)
theorem r_in_any (x lo hi : Int) (w : World) : Calls Tryz.prog 33 #[.int .i64 x, .int .i64 lo, .int .i64 hi] w fun e w' => e = .returned (.bool (Sp.inR x lo hi)) ∧ w = w' := by
  go_enter Tryz.func33, Tryz.ntmps33
  go_wp2
  all_goals
    go_ret
    exact ⟨ret_bool (by simp [Sp.inR, *] <;> omega), rfl⟩
theorem r_Spot_any (n : Int) (w : World) : Calls Tryz.prog 32 #[.int .i64 n] w fun e w' => e = .returned (.bool (Sp.spot n)) ∧ w = w' := by
  go_enter Tryz.func32, Tryz.ntmps32
  go_wp2_with (go_at_call 33; refine (r_in_any _ _ _ _).mono ?_; rintro e w' ⟨rfl, rfl⟩)
  go_ret
  exact ⟨rfl, rfl⟩
theorem r_period_any (num den : Int) (w : World) : Calls Tryz.prog 31 #[.agg #[.int .i64 num, .int .i64 den]] w fun e w' => e = .returned (.bool (Sp.period num den)) ∧ Ext w w' := by
  by_cases hn : 1 ≤ num ∧ num ≤ 10000
  · obtain ⟨n1, n2⟩ := hn
    have hn' : Sp.inR num 1 10000 = true := inR_iff.2 ⟨n1, n2⟩
    by_cases hd : 1 ≤ den ∧ den ≤ 10000
    · obtain ⟨d1, d2⟩ := hd
      have hd' : Sp.inR den 1 10000 = true := inR_iff.2 ⟨d1, d2⟩
      go_enter Tryz.func31, Tryz.ntmps31
      go_wp2_with (go_at_call 33; refine (r_in_any _ _ _ _).mono ?_; rintro e w' ⟨rfl, rfl⟩)
      all_goals
        go_ret
        exact ⟨ret_bool (by simp_all [Sp.period]), (Ext.refl _).alloc _⟩
    · have hd' : Sp.inR den 1 10000 = false := inR_no.2 hd
      clear hd
      go_enter Tryz.func31, Tryz.ntmps31
      go_wp2_with (go_at_call 33; refine (r_in_any _ _ _ _).mono ?_; rintro e w' ⟨rfl, rfl⟩)
      all_goals
        go_ret
        exact ⟨ret_bool (by simp_all [Sp.period]), (Ext.refl _).alloc _⟩
  · have hn' : Sp.inR num 1 10000 = false := inR_no.2 hn
    clear hn
    go_enter Tryz.func31, Tryz.ntmps31
    go_wp2_with (go_at_call 33; refine (r_in_any _ _ _ _).mono ?_; rintro e w' ⟨rfl, rfl⟩)
    all_goals
      go_ret
      exact ⟨ret_bool (by simp_all [Sp.period]), (Ext.refl _).alloc _⟩
end Go.Proofs.YtimkmokomohgjaaGreat
namespace Go.Proofs.YtimkmokomohgjaaGreat
open Go.RowKit
open Sp (rd)
end Go.Proofs.YtimkmokomohgjaaGreat
namespace Go.Proofs.YtimkmokomohgjaaGreat
open Go.RowKit
open Sp (rd)
end Go.Proofs.YtimkmokomohgjaaGreat
namespace Go.Proofs.YtimkmokomohgjaaGreat
open Go.RowKit
open Sp (rd)
end Go.Proofs.YtimkmokomohgjaaGreat
namespace Go.Proofs.YtimkmokomohgjaaGreat
open Go.RowKit
open Sp (rd)
set_option linter.unusedVariables false
theorem skyOk_no {s : Sp.Sky} {k : Nat} (hk : k < s.bodies.length) (h : Sp.bodyOk (bd s.bodies k) = false) : Sp.skyOk s = false := by
  have hm : bd s.bodies k ∈ s.bodies := by
    unfold bd
    rw [List.getD_eq_getElem?_getD, List.getElem?_eq_getElem hk]
    exact List.getElem_mem hk
  have ha : s.bodies.all Sp.bodyOk = false := by
    rw [List.all_eq_false]
    exact ⟨_, hm, by rw [h]; simp⟩
  simp [Sp.skyOk, ha]
theorem bodies_take_succ {l : List Sp.Body} {k : Nat} (hk : k < l.length) (h : (l.take k).all Sp.bodyOk = true) (hb : Sp.bodyOk (bd l k) = true) : (l.take (k + 1)).all Sp.bodyOk = true := by
  have e : bd l k = l[k] := by
    unfold bd
    rw [List.getD_eq_getElem?_getD, List.getElem?_eq_getElem hk]
    rfl
  rw [List.take_succ_eq_append_getElem hk, List.all_append, h, ← e]
  simp [hb]
theorem road_no {l : List Int} {k : Nat} (hk : k < l.length) (h : Sp.inR (rd l k) (-600) 600 = false) : Sp.roadOk l = false := by
  have e : rd l k = l[k] := by
    unfold Sp.rd
    rw [List.getD_eq_getElem?_getD, List.getElem?_eq_getElem hk]
    rfl
  unfold Sp.roadOk
  rw [List.all_eq_false]
  exact ⟨_, List.getElem_mem hk, by rw [← e, h]; simp⟩
theorem road_take_succ {l : List Int} {k : Nat} (hk : k < l.length) (h : Sp.roadOk (l.take k) = true) (hb : Sp.inR (rd l k) (-600) 600 = true) : Sp.roadOk (l.take (k + 1)) = true := by
  have e : rd l k = l[k] := by
    unfold Sp.rd
    rw [List.getD_eq_getElem?_getD, List.getElem?_eq_getElem hk]
    rfl
  unfold Sp.roadOk at h ⊢
  rw [List.take_succ_eq_append_getElem hk, List.all_append, h, ← e]
  simp [hb]
set_option maxRecDepth 100000 in
set_option maxHeartbeats 1000000 in
theorem r_Sky_any (s : Sp.Sky) (A : Option Addr) (c : Nat) (w : World) (hm : Bodies w A s.bodies) (hl : Short s.bodies) :
    Calls Tryz.prog 7 #[.agg #[.slice A s.bodies.length c, .int .i64 s.nnum, .int .i64 s.nden, .int .i64 s.nstart]] w fun e w' => e = .returned (.bool (Sp.skyOk s)) ∧ Ext w w' := by
  have hl1 := hl.1
  have HL := Lib.hid hl
  have HM := Lib.hid hm
  clear hm hl
  go_enter Tryz.func7, Tryz.ntmps7
  go_wp2_with fail
  have hr0 := Row.new w 28 #[.slice A s.bodies.length c, .int .i64 s.nnum, .int .i64 s.nden, .int .i64 s.nstart]
  have hE0 : Ext w (w.alloc (.cells #[.slice A s.bodies.length c, .int .i64 s.nnum, .int .i64 s.nden, .int .i64 s.nstart] 28)) := (Ext.refl w).alloc _
  generalize w.alloc (.cells #[.slice A s.bodies.length c, .int .i64 s.nnum, .int .i64 s.nden, .int .i64 s.nstart] 28) = w1 at *
  go_loopw [3] (fun i wr => ∃ k : Nat, k ≤ s.bodies.length ∧ i = .int .i64 k ∧ (s.bodies.take k).all Sp.bodyOk = true ∧ Ext w1 wr) (fun i _ => s.bodies.length - (intOf i).toNat)
  case atStart => exact ⟨0, Nat.zero_le _, rfl, rfl, Ext.refl _⟩
  case round =>
    obtain ⟨k, hk, rfl, hall, hE⟩ := hrel
    have b0 := (hr0.ext hE).cell
    have HE := Lib.hid hE
    by_cases hlt : k < s.bodies.length
    · obtain ⟨b, o, rfl, hB⟩ := HM.out (by omega)
      have HB := (hB k hlt).ext (hE0.trans hE)
      have HNX := Lib.hid (fun h => bodies_take_succ hlt hall h)
      have HNO := Lib.hid (fun h => skyOk_no (s := s) hlt h)
      have hrl := HL.out.2 k hlt
      clear hall hE hB
      generalize bd s.bodies k = B at *
      obtain ⟨A1, r1, hr1, I1⟩ := HB.road
      have HI := Lib.hid I1
      have q0 := HB.num
      have q1 := HB.den
      have q2 := HB.start
      have hbo : (0 : Int) ≤ (k : Int) ∧ (k : Int) < (s.bodies.length : Int) := by omega
      clear HB I1
      go_wp2_with fail
      have hrb := Row.new wr 72 #[.int .i64 B.num, .int .i64 B.den, .int .i64 B.start, .slice A1 B.road.length r1]
      refine (r_period_any _ _ _).mono ?_
      rintro e w3 ⟨rfl, hE3⟩
      have rB := hrb.ext hE3
      have cB := rB.cell
      have I3 := Lib.hid (HI.out.ext (((Ext.refl wr).alloc _).trans hE3))
      have HE3 := Lib.hid (HE.out.trans (((Ext.refl wr).alloc _).trans hE3))
      clear hE3 hrb q0 q1 q2 hr1 b0
      cases p1 : Sp.period B.num B.den
      · have HN := Lib.hid (HNO.out (by simp [Sp.bodyOk, p1]))
        go_wp2_with fail
        go_ret
        exact ⟨ret_bool HN.out.symm, hE0.trans HE3.out⟩
      · cases p2 : Sp.spot B.start
        · have HN := Lib.hid (HNO.out (by simp [Sp.bodyOk, p2]))
          go_wp2_with (go_at_call 32; refine (r_Spot_any _ _).mono ?_; rintro e w' ⟨rfl, rfl⟩)
          go_ret
          exact ⟨ret_bool HN.out.symm, hE0.trans HE3.out⟩
        · cases p3 : Sp.inR (B.road.length : Int) 1 8
          · have HN := Lib.hid (HNO.out (by simp [Sp.bodyOk, p3]))
            go_wp2_with (first | (go_at_call 32; refine (r_Spot_any _ _).mono ?_; rintro e w' ⟨rfl, rfl⟩) | (go_at_call 33; refine (r_in_any _ _ _ _).mono ?_; rintro e w' ⟨rfl, rfl⟩))
            go_ret
            exact ⟨ret_bool HN.out.symm, hE0.trans HE3.out⟩
          · have HBK : Hid (Sp.bodyOk B = Sp.roadOk B.road) := Lib.hid (by simp [Sp.bodyOk, p1, p2, p3])
            go_wp2_with (first | (go_at_call 32; refine (r_Spot_any _ _).mono ?_; rintro e w' ⟨rfl, rfl⟩) | (go_at_call 33; refine (r_in_any _ _ _ _).mono ?_; rintro e w' ⟨rfl, rfl⟩))
            clear cB p1 p2 p3
            go_loopw [5] (fun j ws => ∃ m : Nat, m ≤ B.road.length ∧ j = .int .i64 m ∧ Sp.roadOk (B.road.take m) = true ∧ Ext w3 ws) (fun j _ => B.road.length - (intOf j).toNat)
            case atStart => exact ⟨0, Nat.zero_le _, rfl, rfl, Ext.refl _⟩
            case round =>
              obtain ⟨m, hmm, rfl, hal2, hEs⟩ := hrel
              have cB := (rB.ext hEs).cell
              by_cases hlt2 : m < B.road.length
              · obtain ⟨g, q, rfl, hI⟩ := I3.out (by omega)
                have x1 := hEs.cell (hI m hlt2)
                have HX := Lib.hid (fun h => road_take_succ hlt2 hal2 h)
                have HY := Lib.hid (fun h => road_no hlt2 h)
                have HES := Lib.hid hEs
                clear hal2 hEs hI
                cases p4 : Sp.inR (rd B.road m) (-600) 600
                · have HN := Lib.hid (HNO.out (by rw [HBK.out]; exact HY.out p4))
                  go_wp2_with (go_at_call 33; refine (r_in_any _ _ _ _).mono ?_; rintro e w' ⟨rfl, rfl⟩)
                  go_ret
                  exact ⟨ret_bool HN.out.symm, hE0.trans (HE3.out.trans HES.out)⟩
                · have HN := Lib.hid (HX.out p4)
                  go_wp2_with (go_at_call 33; refine (r_in_any _ _ _ _).mono ?_; rintro e w' ⟨rfl, rfl⟩)
                  refine ⟨⟨m + 1, by omega, by go_num, HN.out, HES.out⟩, by simp [intOf]; omega⟩
              · obtain rfl : m = B.road.length := by omega
                rw [List.take_length] at hal2
                have HN := Lib.hid (HNX.out (by rw [HBK.out]; exact hal2))
                have HES := Lib.hid (HE3.out.trans hEs)
                clear hal2 hEs
                go_wp2_with fail
                refine ⟨⟨k + 1, by omega, by go_num, HN.out, HES.out⟩, by simp [intOf]; omega⟩
    · obtain rfl : k = s.bodies.length := by omega
      rw [List.take_length] at hall
      have HSO : Hid (Sp.skyOk s = (Sp.inR s.bodies.length 2 4 && (Sp.period s.nnum s.nden && Sp.spot s.nstart))) := Lib.hid (by simp [Sp.skyOk, hall])
      clear hall hE
      cases p1 : Sp.inR (s.bodies.length : Int) 2 4
      · go_wp2_with (go_at_call 33; refine (r_in_any _ _ _ _).mono ?_; rintro e w' ⟨rfl, rfl⟩)
        go_ret
        exact ⟨ret_bool (by rw [HSO.out]; simp_all), hE0.trans HE.out⟩
      · cases p2 : Sp.period s.nnum s.nden
        · go_wp2_with (first | (go_at_call 33; refine (r_in_any _ _ _ _).mono ?_; rintro e w' ⟨rfl, rfl⟩) | (go_at_call 31; refine (r_period_any _ _ _).mono ?_; rintro e w3 ⟨rfl, hE3⟩; have b3 := (hr0.ext (HE.out.trans hE3)).cell))
          go_ret
          exact ⟨ret_bool (by rw [HSO.out]; simp_all), hE0.trans (HE.out.trans ‹_›)⟩
        · go_wp2_with (first | (go_at_call 33; refine (r_in_any _ _ _ _).mono ?_; rintro e w' ⟨rfl, rfl⟩) | (go_at_call 31; refine (r_period_any _ _ _).mono ?_; rintro e w3 ⟨rfl, hE3⟩; have b3 := (hr0.ext (HE.out.trans hE3)).cell) | (go_at_call 32; refine (r_Spot_any _ _).mono ?_; rintro e w' ⟨rfl, rfl⟩))
          go_ret
          exact ⟨ret_bool (by rw [HSO.out]; simp_all), hE0.trans (HE.out.trans ‹_›)⟩
theorem r6_in_any (x lo hi : Int) (w : World) : Calls Tryz.prog 46 #[.int .i64 x, .int .i64 lo, .int .i64 hi] w fun e w' => e = .returned (.bool (Sp.inR x lo hi)) ∧ w = w' := by
  go_enter Tryz.func46, Tryz.ntmps46
  go_wp2
  · go_ret
    exact ⟨ret_bool (by simp [Sp.inR, *]), rfl⟩
  · go_ret
    exact ⟨ret_bool (by simp [Sp.inR, *]; omega), rfl⟩
/-- A month that a dial can have. -/
def Tp.moonOk (n d : Int) : Bool := Sp.inR d 1 1000 && Sp.inR n (29 * d) (30 * d)
set_option maxRecDepth 100000 in
set_option maxHeartbeats 2000000 in
theorem r6_Moon_any (n d : Int) (w : World) (hn : 1 ≤ n ∧ n ≤ 1000000000) (hd : 1 ≤ d ∧ d ≤ 1000000000) :
    Calls Tryz.prog 10 #[.agg #[.int .i64 n, .int .i64 d, .int .i64 0]] w fun e w' => e = .returned (.bool (Tp.moonOk n d)) ∧ Ext w w' := by
  have HI1 := Lib.hid (fun W => r6_in_any d 1 1000 W)
  have HI2 := Lib.hid (fun W => r6_in_any n (29 * d) (30 * d) W)
  have HI3 := Lib.hid (fun W => r6_in_any 0 0 (n - 1) W)
  rw [show Sp.inR 0 0 (n - 1) = true by simp [Sp.inR]; omega] at HI3
  have HM : Hid (Tp.moonOk n d = (Sp.inR d 1 1000 && Sp.inR n (29 * d) (30 * d))) := Lib.hid rfl
  obtain ⟨x, hx⟩ : ∃ x, Sp.inR d 1 1000 = x := ⟨_, rfl⟩
  obtain ⟨y, hy⟩ : ∃ y, Sp.inR n (29 * d) (30 * d) = y := ⟨_, rfl⟩
  rw [hx] at HI1 HM
  rw [hy] at HI2 HM
  clear hx hy
  have HR : Hid (Row (w.alloc (.cells #[.int .i64 n, .int .i64 d, .int .i64 0] 36)) w.heap.size 36 #[.int .i64 n, .int .i64 d, .int .i64 0]) := Lib.hid (Row.new w 36 _)
  have HE : Hid (Ext w (w.alloc (.cells #[.int .i64 n, .int .i64 d, .int .i64 0] 36))) := Lib.hid ((Ext.refl w).alloc _)
  have a0 := HR.out.cell
  go_enter Tryz.func10, Tryz.ntmps10
  go_wp2_with fail
  refine (HI1.out _).mono ?_
  rintro e w1 ⟨rfl, rfl⟩
  dsimp only
  cases x
  · go_wp2_with fail
    go_ret
    exact ⟨by rw [HM.out] <;> rfl, HE.out⟩
  · go_wp2_with fail
    refine (HI2.out _).mono ?_
    rintro e w1 ⟨rfl, rfl⟩
    dsimp only
    cases y
    · go_wp2_with fail
      go_ret
      exact ⟨by rw [HM.out] <;> rfl, HE.out⟩
    · go_wp2_with fail
      refine (HI3.out _).mono ?_
      rintro e w1 ⟨rfl, rfl⟩
      dsimp only
      go_wp2_with fail
      go_ret
      exact ⟨by rw [HM.out] <;> rfl, HE.out⟩
end Go.Proofs.YtimkmokomohgjaaGreat
namespace Go.Proofs.YtimkmokomohgjaaGreat
open Go.RowKit Go.Shelf
open Sp (rd)
def moonV : Bool → Value
  | true => .iface 179 (.agg #[])
  | false => .iface 181 (.agg #[])
theorem moonOf_any (full : Bool) (w : World) : Calls Tryz.prog 50 #[.bool full] w fun e w' => e = .returned (moonV full) ∧ Ext w w' := by
  cases full
  · go_enter Tryz.func50, Tryz.ntmps50
    go_wp2_with fail
    go_ret
    exact ⟨rfl, Ext.refl _⟩
  · go_enter Tryz.func50, Tryz.ntmps50
    go_wp2_with fail
    go_ret
    exact ⟨rfl, Ext.refl _⟩
theorem has_any (s : Sp.Sky) (A : Option Addr) (c : Nat) (day : Int) (full : Bool) (w : World) (hs : SkyOk s) (hm : Bodies w A s.bodies) (h2 : 1 ≤ day) (h3 : day ≤ 20000) :
    Calls Tryz.prog 49 #[.agg #[.slice A s.bodies.length c, .int .i64 s.nnum, .int .i64 s.nden, .int .i64 s.nstart, .int .i64 day], moonV full] w fun e w' => e = .returned (.bool (Sp.moonB s day full)) ∧ Ext w w' := by
  cases full
  · exact hasNew s A c day w hs hm h2 h3
  · exact hasFull s A c day w hs hm h2 h3
theorem blocks4 (w : World) (o1 o2 o3 o4 : Obj) : ((((w.alloc o1).alloc o2).alloc o3).alloc o4).heap[w.heap.size]? = some o1 ∧ ((((w.alloc o1).alloc o2).alloc o3).alloc o4).heap[w.heap.size + 1]? = some o2 ∧ ((((w.alloc o1).alloc o2).alloc o3).alloc o4).heap[w.heap.size + 2]? = some o3 ∧ ((((w.alloc o1).alloc o2).alloc o3).alloc o4).heap[w.heap.size + 3]? = some o4 :=
  ⟨(Below.heap_alloc _ _ _ (by simp; omega)).trans (blocks3 w o1 o2 o3).1, (Below.heap_alloc _ _ _ (by simp)).trans (blocks3 w o1 o2 o3).2.1, (Below.heap_alloc _ _ _ (by simp)).trans (blocks3 w o1 o2 o3).2.2, by have := heap_alloc_new (((w.alloc o1).alloc o2).alloc o3) o4; simpa using this⟩
theorem next_results (tmps : Array Value) (W : World) (b2 b3 : Nat) (x e : Int) (h6 : tmps[6]?.getD undef = .pointer (some ⟨b2, 0, none⟩)) (h7 : tmps[7]?.getD undef = .pointer (some ⟨b3, 0, none⟩))
    (c2 : W.cell? ⟨b2, 0, none⟩ = some (.int .i64 x)) (c3 : W.cell? ⟨b3, 0, none⟩ = some (.int .i64 e)) : (results Tryz.f11 tmps).run Tryz.prog W = .ok (.tuple #[.int .i64 x, .int .i64 e]) W := by
  simp [results, Tryz.results11, go_sem, h6, h7, c2, c3]
def nextV (s : Sp.Sky) (day : Int) (full : Bool) : Value := match Sp.nextO s day full with
  | some d => .tuple #[.int .i64 d, .int .i64 0]
  | none => .tuple #[.int .i64 0, .int .i64 5]
attribute [local go_sem] Oper.semAt_some
theorem nextN_none (s : Sp.Sky) (full : Bool) : ∀ (n : Nat) (lo : Int), (∀ k : Nat, k < n → Sp.moonB s (lo + k) full = false) → Sp.nextN s full lo n = none
  | 0, _, _ => rfl
  | n + 1, lo, h => by
    have h0 := h 0 (by omega)
    simp only [Int.natCast_zero, Int.add_zero] at h0
    simp only [Sp.nextN, h0, Bool.false_eq_true, if_false]
    refine nextN_none s full n (lo + 1) fun k hk => ?_
    have := h (k + 1) (by omega)
    rwa [show lo + 1 + (k : Int) = lo + ((k + 1 : Nat) : Int) by omega]
theorem nextN_some (s : Sp.Sky) (full : Bool) : ∀ (n : Nat) (lo : Int) (j : Nat), j < n → (∀ k : Nat, k < j → Sp.moonB s (lo + k) full = false) → Sp.moonB s (lo + j) full = true → Sp.nextN s full lo n = some (lo + j)
  | 0, _, _, h, _, _ => by omega
  | n + 1, lo, 0, _, _, h1 => by
    simp only [Int.natCast_zero, Int.add_zero] at h1 ⊢
    simp [Sp.nextN, h1]
  | n + 1, lo, j + 1, hj, h, h1 => by
    have h0 := h 0 (by omega)
    simp only [Int.natCast_zero, Int.add_zero] at h0
    simp only [Sp.nextN, h0, Bool.false_eq_true, if_false]
    have := nextN_some s full n (lo + 1) j (by omega) (fun k hk => by
      have := h (k + 1) (by omega)
      rwa [show lo + 1 + (k : Int) = lo + ((k + 1 : Nat) : Int) by omega]) (by rwa [show lo + 1 + (j : Int) = lo + ((j + 1 : Nat) : Int) by omega])
    rw [this]
    congr 1
    omega
theorem days_get {pre : List Day1} {lo : Int} {n : Nat} (h : pre.map Subtype.val = daysL lo n) : pre.length = n ∧ ∀ k (hk : k < pre.length), (pre[k]).1 = lo + (k : Nat) := by
  have hl : pre.length = n := by have := congrArg List.length h; simpa [daysL] using this
  refine ⟨hl, fun k hk => ?_⟩
  have h1 : (pre.map Subtype.val)[k]? = (daysL lo n)[k]? := by rw [h]
  simp only [List.getElem?_map, daysL] at h1
  rw [List.getElem?_eq_getElem hk, List.getElem?_range (by omega)] at h1
  simpa using h1
theorem next_none (s : Sp.Sky) (day lo : Int) (full : Bool) (hlo : max 1 day = lo) (xs : List Day1) (h : DaysAll lo 20000 xs) (hn : ∀ x ∈ xs, Sp.moonB s x.1 full = false) : nextV s day full = .tuple #[.int .i64 0, .int .i64 5] := by
  obtain ⟨hl, hg⟩ := days_get (n := (20000 + 1 - lo).toNat) h
  have : Sp.nextO s day full = none := by
    unfold Sp.nextO
    rw [hlo]
    refine nextN_none s full _ lo fun k hk => ?_
    have hk' : k < xs.length := by omega
    rw [← hg k hk']
    exact hn _ (List.getElem_mem hk')
  simp [nextV, this]
theorem next_some (s : Sp.Sky) (day lo : Int) (full : Bool) (hlo : max 1 day = lo) (init : List Day1) (x : Day1) (h : DaysSome lo 20000 (init ++ [x])) (hn : ∀ y ∈ init, Sp.moonB s y.1 full = false) (h1 : Sp.moonB s x.1 full = true) : nextV s day full = .tuple #[.int .i64 x.1, .int .i64 0] := by
  obtain ⟨k, hk, h⟩ := h
  obtain ⟨hl, hg⟩ := days_get h
  simp only [List.length_append, List.length_cons, List.length_nil] at hl
  have hx : x.1 = lo + (init.length : Nat) := by
    have := hg init.length (by simp)
    simpa using this
  have : Sp.nextO s day full = some (lo + (init.length : Nat)) := by
    unfold Sp.nextO
    rw [hlo]
    refine nextN_some s full _ lo init.length (by omega) (fun k hk => ?_) (by rw [← hx]; exact h1)
    have hg' := hg k (by simp; omega)
    rw [List.getElem_append_left hk] at hg'
    rw [← hg']
    exact hn _ (List.getElem_mem hk)
  simp [nextV, this, hx]
def NextI (w : World) (s : Sp.Sky) (full : Bool) (pre : List Day1) (W : World) : Prop := (∀ x ∈ pre, Sp.moonB s x.1 full = false) ∧ (Below w.heap.size w W ∧ w.heap.size + 3 ≤ W.heap.size)
def NextX (w0 : World) (s : Sp.Sky) (full : Bool) (c : Code) (pre : List Day1) (W : World) : Prop := c = .ret ∧ ∃ init x, pre = init ++ [x] ∧ (∀ y ∈ init, Sp.moonB s y.1 full = false) ∧ Sp.moonB s x.1 full = true ∧
  Row W (w0.heap.size + 2) 3 #[.int .i64 x.1] ∧ Row W (w0.heap.size + 3) 32 #[.int .i64 0] ∧ Below w0.heap.size w0 W
theorem nextI_own (w : World) (s : Sp.Sky) (full : Bool) (B : Nat) (hB : w.heap.size ≤ B) : OwnFrom B (NextI w s full) := fun _ _ _ _ ⟨h, hb, hz⟩ hg hr =>
  ⟨h, hb.grown hg hb.size (fun k e => Nat.le_trans hB (hr k e).1), Nat.le_trans hz hg.size⟩
theorem nextX_own (w : World) (s : Sp.Sky) (full : Bool) (B : Nat) (hB : w.heap.size ≤ B) (c : Code) : OwnFrom B (NextX w s full c) := fun _ _ _ _ ⟨e, i, x, h1, h2, h3, h4, h5, hb⟩ hg hr =>
  ⟨e, i, x, h1, h2, h3, h4.kept hg fun r e => (hr r e).2, h5.kept hg fun r e => (hr r e).2, hb.grown hg hb.size (fun k e => Nat.le_trans hB (hr k e).1)⟩
theorem keepsFrom_ext {W W' : World} (h : Ext W W') (B : Nat) : KeepsFrom B W W' := ⟨h.size, fun k _ _ hk _ => (h.block k (Array.getElem?_eq_some_iff.1 hk).1).trans hk⟩
set_option maxRecDepth 100000 in
set_option maxHeartbeats 1000000 in
theorem Next_ok0 (s : Sp.Sky) (A : Option Addr) (c : Nat) (day : Int) (full : Bool) (w : World) (hm : Bodies w A s.bodies) (hl : Short s.bodies) (c0 : Sp.skyOk s = true) (c1 : Sp.isDay day = true) (hday : day ≤ 1) :
    Calls Tryz.prog 11 #[.agg #[.slice A s.bodies.length c, .int .i64 s.nnum, .int .i64 s.nden, .int .i64 s.nstart], .int .i64 day, .bool full] w fun e w' => e = .returned (nextV s day full) ∧ Ext w w' := by
  have hl1 := hl.1
  have HL := Lib.hid hl
  have HM := Lib.hid hm
  clear hm hl
  obtain ⟨d1, d2⟩ := isDay_of c1
  refine (callsIn_wide (n := 8)).1 ?_
  refine callsIn_of_wp_marks Tryz.func11 rfl trivial ?_ rfl
  simp only [Tryz.ntmps11, List.size_toArray, List.length_cons, List.length_nil, Nat.reduceAdd, Nat.reduceSub, Array.replicate_succ, Array.replicate_zero, List.push_toArray, List.append_toArray, List.nil_append, List.cons_append]
  gi_wp2
  refine ⟨trivial, (callsIn_wide.2 (isSky_any s A c _ (HM.out.ext (((((Ext.refl w).alloc _).alloc _).alloc _).alloc _)) HL.out)).mono ?_⟩
  rintro e w1 ⟨rfl, hE1⟩
  have hE := (((((Ext.refl w).alloc _).alloc _).alloc _).alloc _).trans hE1
  have hr : Row w1 w.heap.size 28 _ := Row.ext (blocks4 w _ _ _ _).1 hE1
  have hr1 : Row w1 (w.heap.size + 1) 4 _ := Row.ext (blocks4 w _ _ _ _).2.1 hE1
  have hr2 : Row w1 (w.heap.size + 2) 3 _ := Row.ext (blocks4 w _ _ _ _).2.2.1 hE1
  have hr3 : Row w1 (w.heap.size + 3) 32 _ := Row.ext (blocks4 w _ _ _ _).2.2.2 hE1
  have hz1 : w.heap.size + 4 ≤ w1.heap.size := by have := hE1.size; simpa using this
  have b0 := hr.cell
  clear hE1
  rw [c0]
  have HK := Lib.hid (skyOk_iff.1 c0)
  gi_wp2
  refine ⟨trivial, (callsIn_wide.2 (isDay_any day _)).mono ?_⟩
  rintro e w0 ⟨rfl, rfl⟩
  rw [c1]
  gi_wp2
  refine ⟨trivial, (callsIn_wide.2 (days_any A _ c s 1 20000 _)).mono ?_⟩
  rintro e w' ⟨rfl, rfl⟩
  gi_wp2
  have hlo : max 1 day = 1 := by omega
  have rS := daysW_S A s.bodies.length c s 1 20000 w1
  have rF := daysW_F A s.bodies.length c s 1 20000 w1
  have rT := daysW_T A s.bodies.length c s 1 20000 w1
  have hsz := daysW_size A s.bodies.length c s 1 20000 w1
  have hE2 := daysW_ext A s.bodies.length c s 1 20000 w1
  obtain ⟨W0, hW0⟩ : ∃ W0, daysW A s.bodies.length c s 1 20000 w1 = W0 := ⟨_, rfl⟩
  rw [hW0] at hE2 rS rF rT hsz ⊢
  clear hW0 b0
  have HE := Lib.hid hE
  have h0 : NextI w1 s full [] W0 := ⟨by simp, hE2, by omega⟩
  clear hE hE2
  refine wpIn_rangeFunc_ownH rfl (by omega) (gf := 103) (lb := #[.pointer (some ⟨w1.heap.size + 1, 0, none⟩), .pointer (some ⟨w1.heap.size + 2, 0, none⟩), .pointer (some ⟨w1.heap.size, 0, none⟩)]) rfl trivial (enters_of Tryz.func103 (by kernel_rfl) rfl)
    (days_stops (8 - 1) (by omega) A s.bodies.length c s 1 20000 (by omega) (by omega) w1.heap.size W0 rS rF rT) (fun h k => keepsTwo_t _ _ h k) (keepsTwo_b (by omega) (by omega)) (Below.refl _ _) (fun _ => rfl)
    (NextI w1 s full)
    (NextX w s full)
    (nextI_own w1 s full _ (by omega))
    (nextX_own w s full _ (by omega))
    h0
    (fun x a' W => ∃ Bx, w1.heap.size + 3 ≤ Bx ∧ Row W Bx 115 #[.slice A s.bodies.length c, .int .i64 s.nnum, .int .i64 s.nden, .int .i64 s.nstart, .int .i64 x.1] ∧ a' = (⟨#[.agg #[.slice A s.bodies.length c, .int .i64 s.nnum, .int .i64 s.nden, .int .i64 s.nstart], .int .i64 day, .bool full, .pointer (some ⟨w.heap.size, 0, none⟩), undef, .pointer (some ⟨w.heap.size + 1, 0, none⟩), .pointer (some ⟨w.heap.size + 1 + 1, 0, none⟩), .pointer (some ⟨w.heap.size + 1 + 1 + 1, 0, none⟩), .pointer (some ⟨Bx, 0, none⟩), .agg #[.slice A s.bodies.length c, .int .i64 s.nnum, .int .i64 s.nden, .int .i64 s.nstart], .bool true, .bool false, .bool false, .int .i64 day, .bool true, .bool false, .bool false, .agg #[.slice A s.bodies.length c, .int .i64 s.nnum, .int .i64 s.nden, .int .i64 s.nstart], .int .i64 day, .int .i64 1, daysV w1.heap.size, .agg #[.slice A s.bodies.length c, .int .i64 s.nnum, .int .i64 s.nden, .int .i64 s.nstart, .int .i64 x.1], undef, undef, undef, undef, undef, undef], []⟩ : Act))
    (fun x a' _ X Y row hs hg hr => by obtain ⟨Bx, h0, h1, h2⟩ := hs; exact ⟨Bx, h0, h1.kept hg fun r e => (hr r e).2, h2⟩)
    ?assign ?body ?done ?stop
  case assign =>
    rintro l pre x W K hi hK
    simp only [skyV]
    gi_wp2
    obtain ⟨hI, hB, hz⟩ := hi
    exact hK _ _ ((KeepsOthers.alloc _ _).from _) ⟨Below.heap_alloc _ _ _ (by omega), Below.heap_alloc _ _ _ (by omega)⟩ ⟨hI, hB.alloc hB.size _, by simp; omega⟩ ⟨_, by omega, Row.new _ _ _, rfl⟩
  case body =>
    rintro l pre x a' W hl ⟨r, hr'⟩ ⟨hI, hB, hz⟩ ⟨Bx, hBx, rX, rfl⟩ hlt
    have hx := x.2
    have hE1 : Ext w1 W := hB
    have HE1 := Lib.hid hE1
    have HI := Lib.hid hI
    have HE3 := Lib.hid (HE.out.trans hE1)
    clear hB hI
    gi_wp2
    refine wpIn_region_later (by kernel_rfl) (by kernel_rfl) (by kernel_rfl) (fun WW hW => ?_)
    have q1 := Later.block (w := WW) (by rw [hW]; exact rX)
    have q2 := Later.block (w := WW) (by rw [hW]; exact hr1.ext hE1)
    have HB := Lib.hid (fun X : Later WW => HM.out.ext ((by rw [hW]; exact HE3.out : Ext w WW).trans X.ext))
    clear hE1
    repeat (go_big_quiet_step ((first | (go_at_call 50; exact Later.call (moonOf_any _ _)) | (go_at_call 49; exact Later.call (has_any s A c _ full _ HK.out (by exact HB.out _) (by omega) (by omega))))))
    refine wpQuiet_nil ?_
    rintro ⟨W2, hE4⟩
    subst hW
    have hz4 := Nat.le_trans hz hE4.size
    cases hb : Sp.moonB s x.1 full
    · have HE4 := Lib.hid hE4
      clear q1 q2
      gi_wp2
      refine ⟨keepsFrom_ext HE4.out _, ⟨HE4.out.block _ (by omega), HE4.out.block _ (by omega)⟩, ?_, HE1.out.trans HE4.out, hz4⟩
      intro y hy
      rcases List.mem_append.1 hy with hy | hy
      · exact HI.out y hy
      · rw [List.mem_singleton.1 hy]; exact hb
    · have HE4 := Lib.hid hE4
      have c4 := (rX.ext hE4).cell
      have s2 := (hr2.ext HE1.out).ext hE4
      have s3 := (hr3.ext HE1.out).ext hE4
      have cc2 := s2.cell
      have cc3 := s3.cell
      have ff2 := s2.free
      have ff3 := s3.free
      have ne1 : w.heap.size + 2 ≠ Bx := by omega
      have ne2 : w.heap.size + 3 ≠ Bx := by omega
      clear q1 q2
      gi_wp2
      refine ⟨(keepsFrom_ext HE4.out _).trans (((KeepsOthers.setCell _ _ _).trans (KeepsOthers.setCell _ _ _)).from _), rfl, pre, x, rfl, HI.out, hb, ?_, ?_, ?_⟩
      · simpa using (s2.set_ 0 (.int .i64 x.1)).far (p := ⟨w.heap.size + 3, 0, none⟩) (by simp) (.int .i64 0)
      · simpa using (s3.far (p := ⟨w.heap.size + 2, 0, none⟩) (by simp) (.int .i64 x.1)).set_ 0 (.int .i64 0)
      · exact ((HE3.out.trans HE4.out).setCell (by simp; omega) _).setCell (by simp; omega) _
  case done =>
    rintro D xs W hD hS ⟨hI, hB, hz⟩ hK
    have hB' : Ext w1 W := hB
    have s2 := hr2.ext hB'
    have s3 := hr3.ext hB'
    have HB := Lib.hid hB'
    have cc2 := s2.cell
    have cc3 := s3.cell
    have ff2 := s2.free
    have ff3 := s3.free
    have HI := Lib.hid hI
    clear hB hB' hI
    gi_wp2
    have hK' := ((KeepsOthers.setCell W ⟨w.heap.size + 2, 0, none⟩ (.int .i64 0)).trans (KeepsOthers.setCell _ ⟨w.heap.size + 3, 0, none⟩ (.int .i64 5))).same D _ hK rfl
    refine ⟨by simp, .inl ⟨_, _, rfl, run_takeDeferred hK', ?_⟩⟩
    have s2' : Row ((W.setCell ⟨w.heap.size + 2, 0, none⟩ (.int .i64 0)).setCell ⟨w.heap.size + 3, 0, none⟩ (.int .i64 5)) (w.heap.size + 2) 3 #[.int .i64 0] := by simpa using (s2.set_ 0 (.int .i64 0)).far (p := ⟨w.heap.size + 3, 0, none⟩) (by simp) (.int .i64 5)
    have s3' : Row ((W.setCell ⟨w.heap.size + 2, 0, none⟩ (.int .i64 0)).setCell ⟨w.heap.size + 3, 0, none⟩ (.int .i64 5)) (w.heap.size + 3) 32 #[.int .i64 5] := by simpa using (s3.far (p := ⟨w.heap.size + 2, 0, none⟩) (by simp) (.int .i64 0)).set_ 0 (.int .i64 5)
    have k2 := s2'.kept (grownBy_putObj' _ D (.deferred none)) (fun r e => by cases e; exact ⟨_, hK', rfl⟩)
    have k3 := s3'.kept (grownBy_putObj' _ D (.deferred none)) (fun r e => by cases e; exact ⟨_, hK', rfl⟩)
    refine ⟨_, next_results _ _ (w.heap.size + 2) (w.heap.size + 3) 0 5 rfl rfl (by simpa using k2.cell 0) (by simpa using k3.cell 0), by rw [next_none s day 1 full hlo xs hS HI.out], ?_⟩
    have hF := ((HE.out.trans HB.out).setCell (p := ⟨w.heap.size + 2, 0, none⟩) (by simp) (.int .i64 0)).setCell (p := ⟨w.heap.size + 3, 0, none⟩) (by simp) (.int .i64 5)
    exact Below.grown hF (grownBy_putObj' _ D (.deferred none)) hF.size (fun k e => by cases e; omega)
  case stop =>
    rintro D c' pre W hD hS ⟨rfl, init, x, rfl, hn, h1, s2, s3, hB⟩ hK
    gi_wp2
    refine ⟨by simp, .inl ⟨_, _, rfl, run_takeDeferred hK, ?_⟩⟩
    have k2 := s2.kept (grownBy_putObj' _ D (.deferred none)) (fun r e => by cases e; exact ⟨_, hK, rfl⟩)
    have k3 := s3.kept (grownBy_putObj' _ D (.deferred none)) (fun r e => by cases e; exact ⟨_, hK, rfl⟩)
    refine ⟨_, next_results _ _ (w.heap.size + 2) (w.heap.size + 3) x.1 0 rfl rfl (by simpa using k2.cell 0) (by simpa using k3.cell 0), by rw [next_some s day 1 full hlo init x hS hn h1], ?_⟩
    exact Below.grown hB (grownBy_putObj' _ D (.deferred none)) hB.size (fun k e => by cases e; omega)
set_option maxRecDepth 100000 in
set_option maxHeartbeats 1000000 in
theorem Next_ok1 (s : Sp.Sky) (A : Option Addr) (c : Nat) (day : Int) (full : Bool) (w : World) (hm : Bodies w A s.bodies) (hl : Short s.bodies) (c0 : Sp.skyOk s = true) (c1 : Sp.isDay day = true) (hday : 1 < day) :
    Calls Tryz.prog 11 #[.agg #[.slice A s.bodies.length c, .int .i64 s.nnum, .int .i64 s.nden, .int .i64 s.nstart], .int .i64 day, .bool full] w fun e w' => e = .returned (nextV s day full) ∧ Ext w w' := by
  have hl1 := hl.1
  have HL := Lib.hid hl
  have HM := Lib.hid hm
  clear hm hl
  obtain ⟨d1, d2⟩ := isDay_of c1
  refine (callsIn_wide (n := 8)).1 ?_
  refine callsIn_of_wp_marks Tryz.func11 rfl trivial ?_ rfl
  simp only [Tryz.ntmps11, List.size_toArray, List.length_cons, List.length_nil, Nat.reduceAdd, Nat.reduceSub, Array.replicate_succ, Array.replicate_zero, List.push_toArray, List.append_toArray, List.nil_append, List.cons_append]
  gi_wp2
  refine ⟨trivial, (callsIn_wide.2 (isSky_any s A c _ (HM.out.ext (((((Ext.refl w).alloc _).alloc _).alloc _).alloc _)) HL.out)).mono ?_⟩
  rintro e w1 ⟨rfl, hE1⟩
  have hE := (((((Ext.refl w).alloc _).alloc _).alloc _).alloc _).trans hE1
  have hr : Row w1 w.heap.size 28 _ := Row.ext (blocks4 w _ _ _ _).1 hE1
  have hr1 : Row w1 (w.heap.size + 1) 4 _ := Row.ext (blocks4 w _ _ _ _).2.1 hE1
  have hr2 : Row w1 (w.heap.size + 2) 3 _ := Row.ext (blocks4 w _ _ _ _).2.2.1 hE1
  have hr3 : Row w1 (w.heap.size + 3) 32 _ := Row.ext (blocks4 w _ _ _ _).2.2.2 hE1
  have hz1 : w.heap.size + 4 ≤ w1.heap.size := by have := hE1.size; simpa using this
  have b0 := hr.cell
  clear hE1
  rw [c0]
  have HK := Lib.hid (skyOk_iff.1 c0)
  gi_wp2
  refine ⟨trivial, (callsIn_wide.2 (isDay_any day _)).mono ?_⟩
  rintro e w0 ⟨rfl, rfl⟩
  rw [c1]
  gi_wp2
  refine ⟨trivial, (callsIn_wide.2 (days_any A _ c s day 20000 _)).mono ?_⟩
  rintro e w' ⟨rfl, rfl⟩
  gi_wp2
  have hlo : max 1 day = day := by omega
  have rS := daysW_S A s.bodies.length c s day 20000 w1
  have rF := daysW_F A s.bodies.length c s day 20000 w1
  have rT := daysW_T A s.bodies.length c s day 20000 w1
  have hsz := daysW_size A s.bodies.length c s day 20000 w1
  have hE2 := daysW_ext A s.bodies.length c s day 20000 w1
  obtain ⟨W0, hW0⟩ : ∃ W0, daysW A s.bodies.length c s day 20000 w1 = W0 := ⟨_, rfl⟩
  rw [hW0] at hE2 rS rF rT hsz ⊢
  clear hW0 b0
  have HE := Lib.hid hE
  have h0 : NextI w1 s full [] W0 := ⟨by simp, hE2, by omega⟩
  clear hE hE2
  refine wpIn_rangeFunc_ownH rfl (by omega) (gf := 103) (lb := #[.pointer (some ⟨w1.heap.size + 1, 0, none⟩), .pointer (some ⟨w1.heap.size + 2, 0, none⟩), .pointer (some ⟨w1.heap.size, 0, none⟩)]) rfl trivial (enters_of Tryz.func103 (by kernel_rfl) rfl)
    (days_stops (8 - 1) (by omega) A s.bodies.length c s day 20000 (by omega) (by omega) w1.heap.size W0 rS rF rT) (fun h k => keepsTwo_t _ _ h k) (keepsTwo_b (by omega) (by omega)) (Below.refl _ _) (fun _ => rfl)
    (NextI w1 s full)
    (NextX w s full)
    (nextI_own w1 s full _ (by omega))
    (nextX_own w s full _ (by omega))
    h0
    (fun x a' W => ∃ Bx, w1.heap.size + 3 ≤ Bx ∧ Row W Bx 115 #[.slice A s.bodies.length c, .int .i64 s.nnum, .int .i64 s.nden, .int .i64 s.nstart, .int .i64 x.1] ∧ a' = (⟨#[.agg #[.slice A s.bodies.length c, .int .i64 s.nnum, .int .i64 s.nden, .int .i64 s.nstart], .int .i64 day, .bool full, .pointer (some ⟨w.heap.size, 0, none⟩), undef, .pointer (some ⟨w.heap.size + 1, 0, none⟩), .pointer (some ⟨w.heap.size + 1 + 1, 0, none⟩), .pointer (some ⟨w.heap.size + 1 + 1 + 1, 0, none⟩), .pointer (some ⟨Bx, 0, none⟩), .agg #[.slice A s.bodies.length c, .int .i64 s.nnum, .int .i64 s.nden, .int .i64 s.nstart], .bool true, .bool false, .bool false, .int .i64 day, .bool true, .bool false, .bool false, .agg #[.slice A s.bodies.length c, .int .i64 s.nnum, .int .i64 s.nden, .int .i64 s.nstart], .int .i64 day, .int .i64 day, daysV w1.heap.size, .agg #[.slice A s.bodies.length c, .int .i64 s.nnum, .int .i64 s.nden, .int .i64 s.nstart, .int .i64 x.1], undef, undef, undef, undef, undef, undef], []⟩ : Act))
    (fun x a' _ X Y row hs hg hr => by obtain ⟨Bx, h0, h1, h2⟩ := hs; exact ⟨Bx, h0, h1.kept hg fun r e => (hr r e).2, h2⟩)
    ?assign ?body ?done ?stop
  case assign =>
    rintro l pre x W K hi hK
    simp only [skyV]
    gi_wp2
    obtain ⟨hI, hB, hz⟩ := hi
    exact hK _ _ ((KeepsOthers.alloc _ _).from _) ⟨Below.heap_alloc _ _ _ (by omega), Below.heap_alloc _ _ _ (by omega)⟩ ⟨hI, hB.alloc hB.size _, by simp; omega⟩ ⟨_, by omega, Row.new _ _ _, rfl⟩
  case body =>
    rintro l pre x a' W hl ⟨r, hr'⟩ ⟨hI, hB, hz⟩ ⟨Bx, hBx, rX, rfl⟩ hlt
    have hx := x.2
    have hE1 : Ext w1 W := hB
    have HE1 := Lib.hid hE1
    have HI := Lib.hid hI
    have HE3 := Lib.hid (HE.out.trans hE1)
    clear hB hI
    gi_wp2
    refine wpIn_region_later (by kernel_rfl) (by kernel_rfl) (by kernel_rfl) (fun WW hW => ?_)
    have q1 := Later.block (w := WW) (by rw [hW]; exact rX)
    have q2 := Later.block (w := WW) (by rw [hW]; exact hr1.ext hE1)
    have HB := Lib.hid (fun X : Later WW => HM.out.ext ((by rw [hW]; exact HE3.out : Ext w WW).trans X.ext))
    clear hE1
    repeat (go_big_quiet_step ((first | (go_at_call 50; exact Later.call (moonOf_any _ _)) | (go_at_call 49; exact Later.call (has_any s A c _ full _ HK.out (by exact HB.out _) (by omega) (by omega))))))
    refine wpQuiet_nil ?_
    rintro ⟨W2, hE4⟩
    subst hW
    have hz4 := Nat.le_trans hz hE4.size
    cases hb : Sp.moonB s x.1 full
    · have HE4 := Lib.hid hE4
      clear q1 q2
      gi_wp2
      refine ⟨keepsFrom_ext HE4.out _, ⟨HE4.out.block _ (by omega), HE4.out.block _ (by omega)⟩, ?_, HE1.out.trans HE4.out, hz4⟩
      intro y hy
      rcases List.mem_append.1 hy with hy | hy
      · exact HI.out y hy
      · rw [List.mem_singleton.1 hy]; exact hb
    · have HE4 := Lib.hid hE4
      have c4 := (rX.ext hE4).cell
      have s2 := (hr2.ext HE1.out).ext hE4
      have s3 := (hr3.ext HE1.out).ext hE4
      have cc2 := s2.cell
      have cc3 := s3.cell
      have ff2 := s2.free
      have ff3 := s3.free
      have ne1 : w.heap.size + 2 ≠ Bx := by omega
      have ne2 : w.heap.size + 3 ≠ Bx := by omega
      clear q1 q2
      gi_wp2
      refine ⟨(keepsFrom_ext HE4.out _).trans (((KeepsOthers.setCell _ _ _).trans (KeepsOthers.setCell _ _ _)).from _), rfl, pre, x, rfl, HI.out, hb, ?_, ?_, ?_⟩
      · simpa using (s2.set_ 0 (.int .i64 x.1)).far (p := ⟨w.heap.size + 3, 0, none⟩) (by simp) (.int .i64 0)
      · simpa using (s3.far (p := ⟨w.heap.size + 2, 0, none⟩) (by simp) (.int .i64 x.1)).set_ 0 (.int .i64 0)
      · exact ((HE3.out.trans HE4.out).setCell (by simp; omega) _).setCell (by simp; omega) _
  case done =>
    rintro D xs W hD hS ⟨hI, hB, hz⟩ hK
    have hB' : Ext w1 W := hB
    have s2 := hr2.ext hB'
    have s3 := hr3.ext hB'
    have HB := Lib.hid hB'
    have cc2 := s2.cell
    have cc3 := s3.cell
    have ff2 := s2.free
    have ff3 := s3.free
    have HI := Lib.hid hI
    clear hB hB' hI
    gi_wp2
    have hK' := ((KeepsOthers.setCell W ⟨w.heap.size + 2, 0, none⟩ (.int .i64 0)).trans (KeepsOthers.setCell _ ⟨w.heap.size + 3, 0, none⟩ (.int .i64 5))).same D _ hK rfl
    refine ⟨by simp, .inl ⟨_, _, rfl, run_takeDeferred hK', ?_⟩⟩
    have s2' : Row ((W.setCell ⟨w.heap.size + 2, 0, none⟩ (.int .i64 0)).setCell ⟨w.heap.size + 3, 0, none⟩ (.int .i64 5)) (w.heap.size + 2) 3 #[.int .i64 0] := by simpa using (s2.set_ 0 (.int .i64 0)).far (p := ⟨w.heap.size + 3, 0, none⟩) (by simp) (.int .i64 5)
    have s3' : Row ((W.setCell ⟨w.heap.size + 2, 0, none⟩ (.int .i64 0)).setCell ⟨w.heap.size + 3, 0, none⟩ (.int .i64 5)) (w.heap.size + 3) 32 #[.int .i64 5] := by simpa using (s3.far (p := ⟨w.heap.size + 2, 0, none⟩) (by simp) (.int .i64 0)).set_ 0 (.int .i64 5)
    have k2 := s2'.kept (grownBy_putObj' _ D (.deferred none)) (fun r e => by cases e; exact ⟨_, hK', rfl⟩)
    have k3 := s3'.kept (grownBy_putObj' _ D (.deferred none)) (fun r e => by cases e; exact ⟨_, hK', rfl⟩)
    refine ⟨_, next_results _ _ (w.heap.size + 2) (w.heap.size + 3) 0 5 rfl rfl (by simpa using k2.cell 0) (by simpa using k3.cell 0), by rw [next_none s day day full hlo xs hS HI.out], ?_⟩
    have hF := ((HE.out.trans HB.out).setCell (p := ⟨w.heap.size + 2, 0, none⟩) (by simp) (.int .i64 0)).setCell (p := ⟨w.heap.size + 3, 0, none⟩) (by simp) (.int .i64 5)
    exact Below.grown hF (grownBy_putObj' _ D (.deferred none)) hF.size (fun k e => by cases e; omega)
  case stop =>
    rintro D c' pre W hD hS ⟨rfl, init, x, rfl, hn, h1, s2, s3, hB⟩ hK
    gi_wp2
    refine ⟨by simp, .inl ⟨_, _, rfl, run_takeDeferred hK, ?_⟩⟩
    have k2 := s2.kept (grownBy_putObj' _ D (.deferred none)) (fun r e => by cases e; exact ⟨_, hK, rfl⟩)
    have k3 := s3.kept (grownBy_putObj' _ D (.deferred none)) (fun r e => by cases e; exact ⟨_, hK, rfl⟩)
    refine ⟨_, next_results _ _ (w.heap.size + 2) (w.heap.size + 3) x.1 0 rfl rfl (by simpa using k2.cell 0) (by simpa using k3.cell 0), by rw [next_some s day day full hlo init x hS hn h1], ?_⟩
    exact Below.grown hB (grownBy_putObj' _ D (.deferred none)) hB.size (fun k e => by cases e; omega)
end Go.Proofs.YtimkmokomohgjaaGreat
namespace Go.Proofs.YtimkmokomohgjaaGreat
open Go.RowKit
open Sp (rd)
set_option linter.unusedVariables false
theorem Tp.room_of_none {F : Fence} (hd : F.depth = none) (k : Nat) : F.room k := fun d h => by rw [hd] at h; cases h
/-- Where no depth is asked the figures are all one. -/
theorem Tp.roundAny {F : Fence} (hd : F.depth = none) {m m' : Nat} {P : Program} {l : Nat} {f : FuncId} {tmps : Array Value} {assign body : Code} {w : World} {R : Ending → World → Prop}
    (h : RoundIn F m P l f tmps assign body w R) : RoundIn F m' P l f tmps assign body w R := ⟨h.1, fun c cs _ => h.2 c cs (Tp.room_of_none hd _)⟩
theorem Tp.yieldAny {F : Fence} (hd : F.depth = none) {m : Nat} (m' : Nat) {P : Program} {l : Nat} {args : Array Value} {W : World} {R : Ending → World → Prop} (h : YieldAt F m P l args W R) : YieldAt F m' P l args W R := by
  obtain ⟨fn, tmps, assign, body, hy, hR⟩ := h
  exact ⟨fn, tmps, assign, body, hy, Tp.roundAny hd hR⟩
/-- What a round keeps: what lay below n, and all rows but those of the types x, y. -/
def Tp.KP (n : Nat) (x y : TypeId) (A B : World) : Prop := Below n A B ∧ ∀ g t cs, t ≠ x → t ≠ y → Row A g t cs → Row B g t cs
theorem Tp.KP.refl (n : Nat) (x y : TypeId) (A : World) : Tp.KP n x y A A := ⟨Below.refl _ _, fun _ _ _ _ _ h => h⟩
theorem Tp.KP.trans {n : Nat} {x y : TypeId} {A B C : World} (h : Tp.KP n x y A B) (k : Tp.KP n x y B C) : Tp.KP n x y A C := ⟨h.1.trans k.1, fun g t cs h1 h2 hr => k.2 g t cs h1 h2 (h.2 g t cs h1 h2 hr)⟩
theorem Tp.KP.of_ext {n : Nat} {x y : TypeId} {A B : World} (h : Ext A B) (hn : n ≤ A.heap.size) : Tp.KP n x y A B := ⟨Below.mono h hn, fun _ _ _ _ _ hr => hr.ext h⟩
theorem Tp.KP.book {n : Nat} {x y : TypeId} {B : Nat} (hn : n ≤ B) (W : World) (l : Nat) (o o' : Obj) (hl : B ≤ l) (h : W.heap[l]? = some o) (h1 : o.isCells = false) (_ : o.isWalk = false) : Tp.KP n x y W (W.putObj l o') :=
  ⟨(Below.refl n W).grown (grownBy_putObj' W l o') (by have := (Array.getElem?_eq_some_iff.1 h).1; omega) (fun k e => by cases e; omega), fun g t cs _ _ hr => by
    have hne : g ≠ l := by
      rintro rfl
      unfold Row at hr
      rw [hr] at h; cases h; cases h1
    unfold Row at hr ⊢
    rw [World.putObj_heap_other hne]; exact hr⟩
/-- A store into a row of type x. -/
theorem Tp.KP.store {n : Nat} {x y : TypeId} {A B : World} {g : Nat} {cs : Array Value} (h : Tp.KP n x y A B) (hr : Row B g x cs) (hn : n ≤ g) (i : Nat) (v : Value) : Tp.KP n x y A (B.setCell ⟨g, i, none⟩ v) :=
  ⟨h.1.setCell (p := ⟨g, i, none⟩) hn v, fun g' t cs' h1 h2 hr' => by
    have hr2 := h.2 g' t cs' h1 h2 hr'
    have hne : g' ≠ g := by
      rintro rfl
      unfold Row at hr hr2
      rw [hr] at hr2; cases hr2; exact h1 rfl
    exact hr2.far (p := ⟨g, i, none⟩) (by simpa using hne) v⟩
theorem Tp.KP.ext {n : Nat} {x y : TypeId} {A B w : World} (h : Tp.KP n x y A B) (hw : w.heap.size ≤ n) (hA : Ext w A) : Ext w B := Below.trans hA (Below.mono h.1 hw)
end Go.Proofs.YtimkmokomohgjaaGreat
namespace Go.Proofs.YtimkmokomohgjaaGreat
open Go.RowKit Go.Shelf
attribute [local go_sem] Oper.semAt_some
set_option linter.unusedVariables false
/-- What an iterator promises to a body that never leaves. -/
def Tp.SeqAll {α : Type} (F : Fence) (n : Nat) (P : Program) (g : Nat) (lb : Array Value) (encs : α → Array Value) (Kp St : World → World → Prop) (S : List α → Prop) (N : Nat) (W : World) : Prop :=
  ∀ (l : Nat) (J : List α → World → Prop), (∀ s A B, J s A → St A B → J s B) →
    (∀ pre x A, J pre A → pre.length < N → YieldAt F (n - 1) P l (encs x) A fun e B => e = .returned (.bool true) ∧ J (pre ++ [x]) B ∧ Kp A B) →
    J [] W →
    CallsIn F n P g (#[.func (.yield l) #[] #[]] ++ lb) W fun e B => (∃ v, e = .returned v) ∧ ∃ xs, S xs ∧ J xs B
variable {F : Fence} {n : Nat} {P : Program}
theorem Tp.range_all {α : Type} {g : Operand} {ps : Array Tmp} {assign body : Code} {Q : Exit → Act → World → Prop} {a : Act} {w : World}
    (hro : F.round = none) (h1 : 1 ≤ n) {gf : Nat} {lb : Array Value} (hg : a.eval g = .func (.func gf) #[] lb) (hFg : F.fn gf) (eg : ∀ args w, (callFunc gf args).run P w = .ok (.enter gf args) w)
    {encs : α → Array Value} {Kp St : World → World → Prop} {S : List α → Prop} {N : Nat} (hseq : ∀ W, Ext w W → Tp.SeqAll F (n - 1) P gf lb encs Kp St S N W)
    (hKt : ∀ {A B C : World}, Kp A B → Kp B C → Kp A C) (hKb : ∀ (W : World) (l : Nat) (o o' : Obj), w.heap.size ≤ l → W.heap[l]? = some o → o.isCells = false → o.isWalk = false → Kp W (W.putObj l o'))
    (hSt : ∀ A B, St A B → KeepsFrom w.heap.size A B) (hps : ∀ x, (encs x).size = ps.size)
    (I : List α → World → Prop) (hI : OwnFrom w.heap.size I) (hIS : ∀ s A B, I s A → St A B → I s B) (h0 : I [] w)
    (Ax : α → Act → World → Prop) (hAx : ∀ x a', OwnFrom w.heap.size (fun (_ : Unit) W => Ax x a' W))
    (hassign : ∀ (l : Nat) (pre : List α) (x : α) (W : World) (K : Act → World → Prop), I pre W → (∀ a' W', KeepsFrom w.heap.size W W' → Kp W W' → I pre W' → Ax x a' W' → K a' W') →
      assign.wpIn (F.inRound l) (n - 1 - 1) P (Exit.then K (fun _ _ _ => False)) { tmps := (ps.zip (encs x)).foldl (fun t (p, v) => t.setIfInBounds p v) a.tmps, defers := [] } W)
    (hbody : ∀ (l : Nat) (pre : List α) (x : α) (a' : Act) (W : World), w.heap.size ≤ l → I pre W → Ax x a' W → pre.length < N → body.wpIn (F.inRound l) (n - 1 - 1) P (ownPostG w.heap.size Kp I (fun _ _ _ => False) (pre ++ [x]) W) a' W)
    (hdone : ∀ (D : Nat) (xs : List α) (W : World), w.heap.size ≤ D → S xs → I xs W → W.heap[D]? = some (.deferred (some [])) → Q .normal { a with defers := { target := .collected D, args := #[] } :: a.defers } W) :
    (Code.rangeFunc g ps assign body).wpIn F n P Q a w := by
  refine wpIn_rangeFunc fun fn hfn => ?_
  rw [hro]
  obtain ⟨B, hB⟩ : ∃ B, w.heap.size = B := ⟨_, rfl⟩
  obtain ⟨mk, hmk⟩ : ∃ mk : LoopState → Option Code → Loop, mk = fun st pe => { state := st, pending := pe, fn, tmps := a.tmps, params := ps, assign, body, defers := B } := ⟨_, rfl⟩
  have hnew := World.alloc_heap_new (w.alloc (.deferred (some []))) (.loop (mk .ready none))
  rw [World.size_alloc, hB] at hnew
  have on0 : RangeOn (I []) B (mk .ready none) ((w.alloc (.deferred (some []))).alloc (.loop (mk .ready none))) :=
    ⟨hI.alloc _ (hI.alloc _ h0), hnew, by rw [← hB]; exact (Below.heap_alloc _ _ _ (by simp)).trans (World.alloc_heap_new w _)⟩
  have he0 : Ext w ((w.alloc (.deferred (some []))).alloc (.loop (mk .ready none))) := ((Ext.refl w).alloc _).alloc _
  rw [hB] at hI hAx hKb hSt hassign hbody hdone
  refine ⟨B + 1, [{ target := .collected B, args := #[] }], (w.alloc (.deferred (some []))).alloc (.loop (mk .ready none)), { target := .fn (.func gf) lb, args := #[.func (.yield (B + 1)) #[] #[]] }, (w.alloc (.deferred (some []))).alloc (.loop (mk .ready none)), gf, #[.func (.yield (B + 1)) #[] #[]] ++ lb, (w.alloc (.deferred (some []))).alloc (.loop (mk .ready none)), ?_, ?_, ?_, ?_, fun _ => h1, ?_⟩
  · have := run_enterLoop_outer (P := P) (w := w) fn a.tmps ps assign body
    rw [hB] at this
    rw [hmk]
    exact this
  · simp only [resolve, hg]
    simp [go_sem]
  · intro f' hf'
    simp [Target.leads] at hf'
    subst hf'
    exact hFg
  · simp [invoke, go_sem, eg]
  · refine (hseq _ he0 (B + 1) (fun pre => RangeOn (I pre) B (mk .ready none)) ?_ ?_ on0).mono ?_
    · intro s X Y h hs
      have hk := hSt X Y hs
      exact ⟨hIS s X Y h.own hs, hk.same _ _ (by omega) h.loop rfl, hk.same _ _ (Nat.le_refl _) h.late rfl⟩
    · intro pre x W h hlen
      have hy := run_yield (P := P) (args := encs x) h.loop (by rw [hmk]; exact hps x)
      rw [hmk] at hy
      refine ⟨fn, _, assign, body, hy, roundIn_of_wpIn hfn (hassign _ pre x W _ h.own fun a' W1 hk1 hp1 hi1 hx1 => ?_)⟩
      have h1' : RangeOn (I pre) B (mk .ready none) W1 := ⟨hi1, hk1.same _ _ (by omega) h.loop rfl, hk1.same _ _ (Nat.le_refl _) h.late rfl⟩
      refine ⟨_, run_beginRound h1'.loop (by rw [hmk]), ?_⟩
      obtain ⟨W2, hW2⟩ : ∃ W2, W1.putObj (B + 1) (.loop (mk .busy none)) = W2 := ⟨_, rfl⟩
      have h2' : RangeOn (I pre) B (mk .busy none) W2 := by rw [← hW2]; exact h1'.put hI _
      have hx2 : Ax x a' W2 := by rw [← hW2]; exact (hAx x a').putObj (s := ()) _ hx1 (by omega) h1'.loop rfl
      have hp2 : Kp W W2 := by rw [← hW2]; exact hKt hp1 (hKb _ _ _ _ (by omega) h1'.loop rfl rfl)
      have hsame : W1.putObj (B + 1) (.loop { mk .ready none with state := .busy }) = W2 := by rw [← hW2, hmk]
      rw [hsame]
      refine wpIn_mono (hbody (B + 1) pre x a' W2 (by omega) h2'.own hx2 hlen) ?_
      intro e a3 W3 hp
      cases e with
      | normal =>
        obtain ⟨hk3, hp3, hi3⟩ := hp
        have h3 : RangeOn (I (pre ++ [x])) B (mk .busy none) W3 := ⟨hi3, hk3.same _ _ (by omega) h2'.loop rfl, hk3.same _ _ (Nat.le_refl _) h2'.late rfl⟩
        have hr := run_endRound (P := P) none h3.loop
        rw [hmk] at hr
        refine ⟨_, _, hr, rfl, ?_, hKt (hKt hp2 hp3) (hKb _ _ _ _ (by omega) h3.loop rfl rfl)⟩
        have := h3.put hI (mk .ready none)
        rw [hmk] at this ⊢
        exact this
      | ret => exact hp.2.elim
      | exit id => exact hp.2.elim
      | goto t => exact hp.2.elim
      | panic ch => exact hp.elim
      | outgrown => exact hp.elim
    · rintro e W2 ⟨⟨v, rfl⟩, xs, hS, h⟩
      have hr := run_endLoop (P := P) h.loop (by rw [hmk]; simp)
      rw [hmk] at hr
      exact ⟨none, _, hr, hdone B xs _ (Nat.le_refl _) hS (hI.putObj _ h.own (by omega) h.loop rfl) ((World.putObj_heap_other (by omega)).trans h.late)⟩
end Go.Proofs.YtimkmokomohgjaaGreat
namespace Go.Proofs.YtimkmokomohgjaaGreat
open Go.RowKit
theorem nodup_sub_le : ∀ (A S : List Nat), A.Nodup → (∀ x ∈ A, x ∈ S) → A.length ≤ S.length
  | [], _, _, _ => Nat.zero_le _
  | x :: A, S, hd, h => by
    obtain ⟨hx, hd'⟩ := List.nodup_cons.1 hd
    have hm := h x (by simp)
    have h1 := nodup_sub_le A (S.erase x) hd' (fun y hy => (List.mem_erase_of_ne (fun e => by subst e; exact hx hy)).2 (h y (by simp [hy])))
    rw [List.length_erase_of_mem hm] at h1
    have := List.length_pos_of_mem hm
    simp only [List.length_cons]
    omega
theorem nodup_le' {S : List Nat} {N : Nat} (hd : S.Nodup) (h : ∀ x ∈ S, x < N) : S.length ≤ N := by
  simpa using nodup_sub_le S (List.range N) hd fun x hx => List.mem_range.2 (h x hx)
/-- The slot that an operation of a list writes. -/
def dstOf (l : List Oper) (i : Nat) : Option Tmp := (l[i]?).bind (·.dst)
/-- The values vs of the operations S, laid into a frame. -/
def putS (l : List Oper) (vs : Nat → Value) (S : List Nat) (a : Act) : Act := S.foldl (fun a i => a.put (dstOf l i) (vs i)) a
def putAll (l : List Oper) (vs : Nat → Value) (a : Act) : Act := putS l vs (List.range l.length) a
theorem putS_off {l : List Oper} {vs : Nat → Value} {d : Tmp} : ∀ (S : List Nat) (a : Act), (∀ i ∈ S, dstOf l i ≠ some d) → (putS l vs S a).eval (.tmp d) = a.eval (.tmp d)
  | [], _, _ => rfl
  | x :: S, a, h => by
    have h1 := putS_off (vs := vs) S (a.put (dstOf l x) (vs x)) (fun i hi => h i (by simp [hi]))
    refine h1.trans (Act.eval_put fun d' hd e => ?_)
    have := h x (by simp)
    rw [hd] at this
    exact this (by cases e; rfl)
theorem put_size (a : Act) (d : Option Tmp) (v : Value) : (a.put d v).tmps.size = a.tmps.size := by cases d <;> simp [Act.put]
theorem putS_on {l : List Oper} {vs : Nat → Value} {d : Tmp} {j : Nat} (hj : dstOf l j = some d) : ∀ (S : List Nat) (a : Act), d < a.tmps.size → (∀ i ∈ S, dstOf l i = some d → i = j) → j ∈ S → (putS l vs S a).eval (.tmp d) = vs j
  | [], _, _, _, h => by cases h
  | x :: S, a, hd, hu, h => by
    by_cases hS : j ∈ S
    · exact putS_on hj S (a.put (dstOf l x) (vs x)) (by rw [put_size]; exact hd) (fun i hi => hu i (by simp [hi])) hS
    · obtain rfl : j = x := by
        rcases List.mem_cons.1 h with e | e
        · exact e
        · exact absurd e hS
      have h1 := putS_off (l := l) (vs := vs) (d := d) S (a.put (dstOf l j) (vs j)) (fun i hi e => hS (hu i (by simp [hi]) e ▸ hi))
      refine h1.trans ?_
      rw [hj]
      exact Act.eval_put_same a d (vs j) hd
theorem putS_congr {l : List Oper} {vs us : Nat → Value} : ∀ (S : List Nat) (a : Act), (∀ i ∈ S, vs i = us i) → putS l vs S a = putS l us S a
  | [], _, _ => rfl
  | x :: S, a, h => by
    show putS l vs S (a.put (dstOf l x) (vs x)) = putS l us S (a.put (dstOf l x) (us x))
    rw [h x (by simp)]
    exact putS_congr S _ fun i hi => h i (by simp [hi])
def noSel (o : Oper) : Bool := match o.op with | .select _ _ => false | _ => true
theorem noSel_spec {o : Oper} (h : noSel o = true) : ∀ cs b, o.op ≠ .select cs b := by
  intro cs b e
  unfold noSel at h
  rw [e] at h
  cases h
/-- No select; edges and guards point backwards; slots are written once, and read behind that alone. -/
def freeB (l : List Oper) (N : Nat) : Bool :=
  (List.range l.length).all fun i => match l[i]? with
    | none => true
    | some o => (match o.guard with | none => true | some (g, _) => decide (g < i)) && (noSel o && ((o.after.all fun e => !Region.binds .any e || decide (e.on < i)) && ((match o.dst with | none => true | some d => decide (d < N) && !(o.looksAt l.toArray).contains d) &&
      ((List.range l.length).all fun j => decide (j = i) || (match dstOf l j with | none => true | some d => o.dst != some d && (!(o.looksAt l.toArray).contains d || Region.waitsFor .any l.toArray i j))))))
structure FreeOp (l : List Oper) (N : Nat) (i : Nat) (o : Oper) : Prop where
  guard : ∀ g b, o.guard = some (g, b) → g < i
  sel : ∀ cs b, o.op ≠ .select cs b
  back : ∀ e ∈ o.after, Region.binds .any e = true → e.on < i
  own : ∀ d, o.dst = some d → d < N ∧ d ∉ o.looksAt l.toArray
  apart : ∀ j d, j < l.length → j ≠ i → dstOf l j = some d → o.dst ≠ some d ∧ (d ∈ o.looksAt l.toArray → ∃ e ∈ o.after, Region.binds .any e = true ∧ e.on = j)
theorem freeB_spec {l : List Oper} {N : Nat} (h : freeB l N = true) {i : Nat} {o : Oper} (ho : l[i]? = some o) : FreeOp l N i o := by
  have hi : i < l.length := (List.getElem?_eq_some_iff.1 ho).1
  have h1 := List.all_eq_true.1 h i (List.mem_range.2 hi)
  simp only [ho, Bool.and_eq_true] at h1
  obtain ⟨hg, hs, hb, hw, ha⟩ := h1
  refine ⟨fun g b hgb => by rw [hgb] at hg; simpa using hg, noSel_spec hs, fun e he hbi => by simpa [hbi] using (Array.all_eq_true_iff_forall_mem.1 hb) e he, fun d hd => ?_, fun j d hj hji hd => ?_⟩
  · rw [hd] at hw
    simp only [Bool.and_eq_true, decide_eq_true_eq, Bool.not_eq_true', List.contains_eq_mem, decide_eq_false_iff_not] at hw
    exact hw
  · have h2 := List.all_eq_true.1 ha j (List.mem_range.2 hj)
    simp only [hd, Bool.or_eq_true, decide_eq_true_eq, Bool.and_eq_true, bne_iff_ne, Bool.not_eq_true', List.contains_eq_mem, decide_eq_false_iff_not] at h2
    rcases h2 with h2 | ⟨h2, h3⟩
    · exact absurd h2 hji
    · refine ⟨h2, fun hl => ?_⟩
      rcases h3 with h3 | h3
      · exact absurd hl h3
      · obtain ⟨oj, hoj, hh⟩ := Region.waitsFor_spec h3
        have : oj = o := by
          simp only [List.getElem?_toArray] at hoj
          rw [ho] at hoj
          exact (Option.some.inj hoj).symm
        rw [this] at hh
        exact hh
/-- What an operation finds in the slots that it reads. -/
structure Finds (l : List Oper) (Φ : Nat → Value → World → Prop) (a0 : Act) (o : Oper) (a : Act) (w : World) : Prop where
  from_ : ∀ j d, dstOf l j = some d → d ∈ o.looksAt l.toArray → Φ j (a.eval (.tmp d)) w
  old : ∀ d, (∀ j, j < l.length → dstOf l j ≠ some d) → a.eval (.tmp d) = a0.eval (.tmp d)
/-- An operation runs, or is passed over, and what it yields is as G says. -/
def Ran (P : Program) (ops : Array Oper) (o : Oper) (a : Act) (w : World) (G : Value → World → Prop) : Prop :=
  if Region.wanted o (yielded ops a.tmps) = true then Oper.wp P o a w (fun a' w' => ∃ v, a' = a.put o.dst v ∧ G v w') (fun _ _ _ => False) else G undef w
theorem Ran.plain {P : Program} {ops : Array Oper} {o : Oper} {a : Act} {w : World} {G : Value → World → Prop} (hg : o.guard = none) (h : Oper.wp P o a w (fun a' w' => ∃ v, a' = a.put o.dst v ∧ G v w') (fun _ _ _ => False)) : Ran P ops o a w G := by
  unfold Ran
  rw [if_pos (by simp [Region.wanted, hg])]
  exact h
end Go.Proofs.YtimkmokomohgjaaGreat
namespace Go.Proofs.YtimkmokomohgjaaGreat
open Go.RowKit
def headTail (n m : Nat) : Array Bool := (List.replicate n true ++ List.replicate (m - n) false).toArray
/-- The tail waits for the whole head, and each of it for the one before. -/
def tailB (m : List Oper) (n z : Nat) : Bool :=
  ((List.range n).all fun j => decide (n = m.length) || decide (j = z) || Region.waitsFor .any m.toArray n j) && ((List.range m.length).all fun t => decide (t ≤ n) || Region.waitsFor .any m.toArray t (t - 1))
theorem tailB_spec {m : List Oper} {n z : Nat} (h : tailB m n z = true) {t : Nat} (ht : n ≤ t) (htm : t < m.length) :
    (n = t ∧ ∀ q, q < n → q ≠ z → ∀ o, m[t]? = some o → ∃ e ∈ o.after, Region.binds .any e = true ∧ e.on = q) ∨ (n < t ∧ ∀ o, m[t]? = some o → ∃ e ∈ o.after, Region.binds .any e = true ∧ e.on = t - 1) := by
  simp only [tailB, Bool.and_eq_true, List.all_eq_true, List.mem_range, Bool.or_eq_true, decide_eq_true_eq] at h
  have conv : ∀ q o, m[t]? = some o → Region.waitsFor .any m.toArray t q = true → ∃ e ∈ o.after, Region.binds .any e = true ∧ e.on = q := by
    intro q o ho hw
    obtain ⟨oj, hoj, hh⟩ := Region.waitsFor_spec hw
    have : oj = o := by
      simp only [List.getElem?_toArray] at hoj
      rw [ho] at hoj
      exact (Option.some.inj hoj).symm
    rw [this] at hh
    exact hh
  rcases Nat.eq_or_lt_of_le ht with rfl | hlt
  · refine .inl ⟨rfl, fun q hq hqz o ho => ?_⟩
    rcases h.1 q hq with (h1 | h1) | h1
    · omega
    · exact absurd h1 hqz
    · exact conv q o ho h1
  · refine .inr ⟨hlt, fun o ho => ?_⟩
    rcases h.2 t htm with h1 | h1
    · omega
    · exact conv _ o ho h1
/-- The head but for z, and the first of the tail. -/
def lazyTail (n z m : Nat) : Array Bool := ((List.range m).map fun i => decide (i ≤ n) && decide (i ≠ z)).toArray
/-- Where the tail's first is taken ahead of z: z comes next, and then the tail's rest. -/
def lazyB (m : List Oper) (n z : Nat) : Bool :=
  decide (n ≤ z) || (decide (n < m.length) && decide (Region.ready .any m.toArray (lazyTail n z m.length) = [z]) && Region.seqB .any m.toArray (m.length - (n + 1)) (n + 1) (headTail (n + 1) m.length))
theorem putS_perm {l : List Oper} {vs : Nat → Value} {S S' : List Nat} {a : Act} (hB : freeB l a.tmps.size = true) (hp : S.Perm S') (hS : ∀ x ∈ S, x < l.length) : putS l vs S a = putS l vs S' a := by
  refine hp.foldl_eq' (fun x hx y hy z => ?_) a
  by_cases hxy : x = y
  · rw [hxy]
  · refine Act.put_comm z (vs x) (vs y) fun d hdx hdy => ?_
    have hx' := hS x hx
    have hy' := hS y hy
    have hox : l[x]? = some l[x] := List.getElem?_eq_getElem hx'
    have := (freeB_spec hB hox).apart y d hy' (Ne.symm hxy) hdy
    exact this.1 (by simpa [dstOf, hox] using hdx)
/-- The same over any relation of worlds that is handed on, in the place of Ext. -/
theorem wp_region_free_tailR {P : Program} {id : Nat} {Q : Exit → Act → World → Prop} {a0 : Act} {w0 : World} {m : List Oper} (R : World → World → Prop) (hR0 : R w0 w0.drew) (hRt : ∀ {x y z : World}, R x y → R y z → R x z) (n z : Nat) (Φ : Nat → Value → World → Prop) (hm : P.follows .mixedOrders = true) (hn : n ≤ m.length) (hB : freeB (m.take n) a0.tmps.size = true)
    (hT : tailB m n z = true) (hL : lazyB m n z = true) (hS : Region.seqB .any m.toArray (m.length - n) n (headTail n m.length) = true)
    (hmono : ∀ i v w w', Φ i v w → R w w' → Φ i v w')
    (hob : ∀ i o, i < n → m[i]? = some o → ∀ a w, R w0 w → Finds (m.take n) Φ a0 o a w → Ran P m.toArray o a w (fun v w' => Φ i v w' ∧ R w w'))
    (hQ : ∀ vs : Nat → Value, ∀ w, R w0 w → (∀ i, i < n → Φ i (vs i) w) → wpList P m.toArray Q (m.drop n) (putAll (m.take n) vs a0) w)
    (hZ : z < n → ∀ vs : Nat → Value, ∀ w, R w0 w → (∀ i, i < n → i ≠ z → Φ i (vs i) w) → ∀ on oz, m[n]? = some on → m[z]? = some oz → wpList P m.toArray Q (on :: oz :: m.drop (n + 1)) (putS (m.take n) vs ((List.range n).filter (· ≠ z)) a0) w) : (Code.region id m.toArray true).wp P Q a0 w0 := by
  refine wp_region_any hm ?_
  obtain ⟨l, hl⟩ : ∃ l, m.take n = l := ⟨_, rfl⟩
  have hln : l.length = n := by rw [← hl, List.length_take]; omega
  have hget : ∀ i, i < n → m[i]? = l[i]? := fun i hi => by rw [← hl, List.getElem?_take]; simp [hi]
  rw [hl] at hB hob hQ hZ
  have key : ∀ (f : Nat) (S : List Nat) (vs : Nat → Value) (listed : Array Bool) (w : World), R w0 w → S.Nodup → (∀ i, i ∈ S ↔ i < l.length ∧ listed.getD i false = true) → listed.size = m.length ∧ (∀ i, l.length ≤ i → listed.getD i false = false) → S.length + f = l.length →
      (∀ i ∈ S, Φ i (vs i) w) → wpAny P .any m.toArray Q (f + (m.length - n)) listed (putS l vs S a0) w := by
    intro f
    induction f with
    | zero =>
      intro S vs listed w hE hd hmem hsz hlen hΦ
      have hall : ∀ i, i < l.length → i ∈ S := by
        intro i hi
        rcases Classical.em (i ∈ S) with h | h
        · exact h
        · have h1 := nodup_le' (S := i :: S) (N := l.length) (by simp [h, hd]) (by
            intro x hx
            rcases List.mem_cons.1 hx with rfl | hx
            · exact hi
            · exact ((hmem x).1 hx).1)
          simp at h1
          omega
      have hp : S.Perm (List.range l.length) := (List.perm_ext_iff_of_nodup hd List.nodup_range).2 fun i => ⟨fun h => List.mem_range.2 ((hmem i).1 h).1, fun h => hall i (List.mem_range.1 h)⟩
      have he : putS l vs S a0 = putAll l vs a0 := putS_perm hB hp fun x hx => ((hmem x).1 hx).1
      rw [he, Nat.zero_add]
      have hs1 := hsz.1
      have hlist : listed = headTail n m.length := by
        refine Array.ext_getElem? fun i => ?_
        rcases Nat.lt_or_ge i m.length with hi | hi
        · have h1 : listed[i]? = some (listed.getD i false) := by
            have : i < listed.size := by omega
            simp [Array.getD, this]
          rw [h1]
          rcases Nat.lt_or_ge i n with h2 | h2
          · rw [((hmem i).1 (hall i (by omega))).2]
            simp [headTail, List.getElem?_append, h2]
          · rw [hsz.2 i (by omega)]
            simp only [headTail, List.getElem?_toArray, List.getElem?_append, List.length_replicate, Nat.not_lt.2 h2, if_false, List.getElem?_replicate]
            rw [if_pos (by omega)]
        · rw [Array.getElem?_eq_none (by omega)]
          simp [headTail]
          omega
      rw [hlist]
      have hdl : (m.drop n).length = m.length - n := by simp
      have := wpAny_of_seq (md := .any) (Q' := Q) (m.drop n) n (headTail n m.length) _ w (fun j => by simp [List.getElem?_drop]) (by rw [hdl]; exact hS) (hQ vs w hE fun i hi => hΦ i (hall i (by omega)))
      rwa [hdl] at this
    | succ f ih =>
      intro S vs listed w hE hd hmem hsz hlen hΦ
      rw [Nat.add_right_comm]
      have hex : ∃ i, i < l.length ∧ i ∉ S := by
        rcases Classical.em (∃ i, i < l.length ∧ i ∉ S) with h | h
        · exact h
        · have hsub : (List.range l.length).length ≤ S.length := nodup_sub_le _ _ List.nodup_range fun i hi => by
            rcases Classical.em (i ∈ S) with h2 | h2
            · exact h2
            · exact absurd ⟨i, List.mem_range.1 hi, h2⟩ h
          simp at hsub
          omega
      refine ⟨fun hr => ?_, fun i hi => ?_⟩
      · -- some operation is still to come: the first of them is ready
        exfalso
        have hmin : ∀ (k i : Nat), i ≤ k → i < l.length → i ∉ S → False := by
          intro k
          induction k with
          | zero =>
            intro i hik hi hiS
            obtain rfl : i = 0 := by omega
            have ho : l[0]? = some l[0] := List.getElem?_eq_getElem hi
            have hfr := freeB_spec hB ho
            have : 0 ∈ Region.ready .any m.toArray listed := mem_ready.2 ⟨getD_in (by have := hsz.1; omega) (by
              cases hh : listed.getD 0 false
              · rfl
              · exact absurd ((hmem 0).2 ⟨hi, hh⟩) hiS), l[0], by rw [List.getElem?_toArray, hget 0 (by omega)]; simp, fun e he hbi => absurd (hfr.back e he hbi) (by omega)⟩
            rw [hr] at this
            cases this
          | succ k ihk =>
            intro i hik hi hiS
            have ho : l[i]? = some l[i] := List.getElem?_eq_getElem hi
            have hfr := freeB_spec hB ho
            have : i ∈ Region.ready .any m.toArray listed := mem_ready.2 ⟨getD_in (by have := hsz.1; omega) (by
              cases hh : listed.getD i false
              · rfl
              · exact absurd ((hmem i).2 ⟨hi, hh⟩) hiS), l[i], by rw [List.getElem?_toArray, hget i (by omega)]; simp, fun e he hbi => by
                have hlt := hfr.back e he hbi
                rcases Classical.em (e.on ∈ S) with h | h
                · exact ((hmem _).1 h).2
                · exact (ihk e.on (by omega) (by omega) h).elim⟩
            rw [hr] at this
            cases this
        obtain ⟨i, hi, hiS⟩ := hex
        exact hmin i i (Nat.le_refl _) hi hiS
      · obtain ⟨hun, o, ho, hall⟩ := mem_ready.1 hi
        have hcase : i < n ∨ (i = n ∧ z < n ∧ z ∉ S ∧ ∀ q, q < n → q ≠ z → q ∈ S) := by
          rcases Nat.lt_or_ge i n with h | h
          · exact .inl h
          · refine .inr ?_
            obtain ⟨q, hq, hqS⟩ := hex
            rcases tailB_spec hT h (by simpa using (Array.getElem?_eq_some_iff.1 ho).1) with ⟨rfl, hw⟩ | ⟨hlt, hw⟩
            · have hall2 : ∀ q, q < n → q ≠ z → q ∈ S := by
                intro q hq hqz
                obtain ⟨e, he, hb, hon⟩ := hw q hq hqz o (by simpa using ho)
                have h1 := hall e he hb
                rw [hon] at h1
                exact (hmem q).2 ⟨by omega, h1⟩
              have hqz : q = z := by
                rcases Classical.em (q = z) with h3 | h3
                · exact h3
                · exact absurd (hall2 q (by omega) h3) hqS
              exact ⟨rfl, by omega, hqz ▸ hqS, hall2⟩
            · obtain ⟨e, he, hb, hon⟩ := hw o (by simpa using ho)
              have h1 := hall e he hb
              rw [hon, hsz.2 (i - 1) (by omega)] at h1
              cases h1
        rcases hcase with hin | ⟨rfl, hzn, hzS, hall2⟩
        case inr =>
          have hperm : S.Perm ((List.range i).filter (· ≠ z)) := (List.perm_ext_iff_of_nodup hd ((List.Pairwise.filter _ List.nodup_range))).2 fun q => by
            simp only [List.mem_filter, List.mem_range, decide_eq_true_eq]
            exact ⟨fun h => ⟨by have := ((hmem q).1 h).1; omega, fun e => hzS (e ▸ h)⟩, fun h => hall2 q h.1 h.2⟩
          have hf0 : f = 0 := by
            have h1 := hperm.length_eq
            have h2 : ((List.range i).filter (· ≠ z)).length + 1 = i := by
              have h3 := nodup_sub_le (List.range i) (z :: (List.range i).filter (· ≠ z)) List.nodup_range fun q hq => by
                rcases Classical.em (q = z) with h4 | h4
                · simp [h4]
                · simp [h4, List.mem_range.1 hq]
              have h5 := nodup_sub_le (z :: (List.range i).filter (· ≠ z)) (List.range i) (by
                rw [List.nodup_cons]
                exact ⟨by simp, (List.Pairwise.filter _ List.nodup_range)⟩) fun q hq => by
                rcases List.mem_cons.1 hq with rfl | h4
                · exact List.mem_range.2 hzn
                · exact (List.mem_filter.1 h4).1
              simp only [List.length_cons, List.length_range] at h3 h5
              omega
            omega
          subst hf0
          have him : i < m.length := by simpa using (Array.getElem?_eq_some_iff.1 ho).1
          simp only [lazyB, Bool.or_eq_true, decide_eq_true_eq, Bool.and_eq_true] at hL
          obtain ⟨⟨_, hrz⟩, hsq⟩ := hL.resolve_left (by omega)
          have hs1 := hsz.1
          have hset : listed.setIfInBounds i true = lazyTail i z m.length := by
            refine Array.ext_getElem? fun k => ?_
            rcases Nat.lt_or_ge k m.length with hk | hk
            · have h1 : (listed.setIfInBounds i true)[k]? = some ((listed.setIfInBounds i true).getD k false) := by
                have hk2 : k < listed.size := by omega
                simp [Array.getD, hk2]
              rw [h1]
              have h2 : (lazyTail i z m.length)[k]? = some (decide (k ≤ i) && decide (k ≠ z)) := by simp [lazyTail, hk]
              rw [h2]
              congr 1
              by_cases hki : k = i
              · subst hki
                have : (listed.setIfInBounds k true).getD k false = true := by simp [show k < listed.size by omega]
                rw [this]
                simp
                omega
              · have : (listed.setIfInBounds i true).getD k false = listed.getD k false := getD_set_ne false (Ne.symm hki)
                rw [this]
                rcases Nat.lt_or_ge k i with h3 | h3
                · by_cases hkz : k = z
                  · subst hkz
                    have : listed.getD k false = false := by
                      cases hh : listed.getD k false
                      · rfl
                      · exact absurd ((hmem k).2 ⟨by omega, hh⟩) hzS
                    rw [this]
                    simp
                  · rw [((hmem k).1 (hall2 k h3 hkz)).2]
                    simp [hkz]
                    omega
                · rw [hsz.2 k (by omega)]
                  simp
                  omega
            · exact (Array.getElem?_eq_none (by simp; omega)).trans (Array.getElem?_eq_none (by simp [lazyTail]; omega)).symm
          have hzm : z < m.length := by omega
          have hoz : m[z]? = some m[z] := List.getElem?_eq_getElem hzm
          have hon : m[i]? = some o := by simpa using ho
          have hall3 := hZ hzn vs w hE (fun q hq hqz => hΦ q (hall2 q hq hqz)) o m[z] hon hoz
          rw [← putS_perm hB hperm fun x hx => ((hmem x).1 hx).1] at hall3
          have hw : wpOp P m.toArray Q i (wpList P m.toArray Q (m[z] :: m.drop (i + 1))) (putS l vs S a0) w := by
            unfold wpOp
            simp only [ho]
            exact hall3
          refine wpOp_mono (fun a' w' h' => ?_) hw
          rw [hset]
          have hlen2 : 0 + (m.length - i) = (m.length - (i + 1)) + 1 := by omega
          rw [hlen2]
          refine ⟨fun h1 => (by rw [hrz] at h1; cases h1), fun k hk => ?_⟩
          rw [hrz] at hk
          obtain rfl : k = z := by simpa using hk
          have hw2 : wpOp P m.toArray Q k (wpList P m.toArray Q (m.drop (i + 1))) a' w' := by
            unfold wpOp
            simp only [List.getElem?_toArray, hoz]
            exact h'
          refine wpOp_mono (fun a2 w2 h2 => ?_) hw2
          have hset2 : (lazyTail i k m.length).setIfInBounds k true = headTail (i + 1) m.length := by
            refine Array.ext_getElem? fun j => ?_
            rcases Nat.lt_or_ge j m.length with hj | hj
            · by_cases hjk : j = k
              · subst hjk
                rw [Array.getElem?_setIfInBounds_self_of_lt (by simp [lazyTail]; omega)]
                simp [headTail, List.getElem?_append, show j < i + 1 by omega]
              · rw [Array.getElem?_setIfInBounds_ne (Ne.symm hjk)]
                simp only [lazyTail, headTail, List.getElem?_toArray, List.getElem?_map, List.getElem?_range hj, Option.map_some]
                rcases Nat.lt_or_ge j (i + 1) with h3 | h3
                · simp [List.getElem?_append, h3, hjk]
                  omega
                · simp [List.getElem?_append, Nat.not_lt.2 h3, List.getElem?_replicate]
                  omega
            · exact (Array.getElem?_eq_none (by simp [lazyTail]; omega)).trans (Array.getElem?_eq_none (by simp [headTail]; omega)).symm
          rw [hset2]
          have hdl : (m.drop (i + 1)).length = m.length - (i + 1) := by simp
          have := wpAny_of_seq (md := .any) (Q' := Q) (m.drop (i + 1)) (i + 1) (headTail (i + 1) m.length) a2 w2 (fun j => by simp [List.getElem?_drop]) (by rw [hdl]; exact hsq) h2
          rwa [hdl] at this
        have ho' : l[i]? = some o := by rw [← hget i hin]; simpa using ho
        have hil : i < l.length := (List.getElem?_eq_some_iff.1 ho').1
        have hiS : i ∉ S := fun h => by
          have := ((hmem i).1 h).2
          rw [getD_both hun] at this
          cases this
        have hfr := freeB_spec hB ho'
        have hF : Finds l Φ a0 o (putS l vs S a0) w := by
          constructor
          · intro j d hjd hlook
            have hj : j < l.length := by
              rcases Nat.lt_or_ge j l.length with h | h
              · exact h
              · simp [dstOf, List.getElem?_eq_none h] at hjd
            by_cases hji : j = i
            · subst hji
              have hod : o.dst = some d := by simpa [dstOf, ho'] using hjd
              exact absurd hlook (hfr.own d hod).2
            · obtain ⟨e, he, hb, hon⟩ := (hfr.apart j d hj hji hjd).2 hlook
              have hjS : j ∈ S := (hmem j).2 ⟨hj, by rw [← hon]; exact hall e he hb⟩
              have hoj : l[j]? = some l[j] := List.getElem?_eq_getElem hj
              have hsize : d < a0.tmps.size := ((freeB_spec hB hoj).own d (by simpa [dstOf, hoj] using hjd)).1
              rw [putS_on hjd S a0 hsize (fun k hk hkd => by
                rcases Classical.em (k = j) with h | h
                · exact h
                · exact absurd (by simpa [dstOf, hoj] using hjd) ((freeB_spec hB hoj).apart k d ((hmem k).1 hk).1 h hkd).1) hjS]
              exact hΦ j hjS
          · intro d hno
            exact putS_off S a0 fun k hk => hno k ((hmem k).1 hk).1
        have hw := hob i o hin (by rw [hget i hin]; exact ho') (putS l vs S a0) w hE hF
        have next : ∀ v w', (Φ i v w' ∧ R w w') → wpAny P .any m.toArray Q (f + (m.length - n)) (listed.setIfInBounds i true) ((putS l vs S a0).put o.dst v) w' := by
          rintro v w' ⟨hv, hE'⟩
          have hdo : dstOf l i = o.dst := by simp [dstOf, ho']
          have hvs : (putS l vs S a0).put o.dst v = putS l (fun k => if k = i then v else vs k) (S ++ [i]) a0 := by
            unfold putS
            rw [List.foldl_append]
            simp only [List.foldl_cons, List.foldl_nil, if_true, hdo]
            congr 1
            exact putS_congr S a0 fun k hk => by
              have : k ≠ i := fun e => hiS (e ▸ hk)
              simp [this]
          rw [hvs]
          refine ih (S ++ [i]) _ _ w' (hRt hE hE') ?_ ?_ ⟨by simpa using hsz.1, fun k hk => ?_⟩ (by simp; omega) ?_
          · rw [List.nodup_append]
            exact ⟨hd, by simp, fun x hx y hy e => by simp at hy; subst hy; exact hiS (e ▸ hx)⟩
          · intro k
            simp only [List.mem_append, List.mem_singleton, hmem k]
            by_cases hki : k = i
            · subst hki
              have := hsz.1
              simp [hil, show k < listed.size by omega]
            · have : (listed.setIfInBounds i true).getD k false = listed.getD k false := getD_set_ne false (Ne.symm hki)
              rw [this]
              simp [hki]
          · have : (listed.setIfInBounds i true).getD k false = listed.getD k false := getD_set_ne false (by omega)
            rw [this]
            exact hsz.2 k hk
          · intro k hk
            by_cases hki : k = i
            · subst hki; simpa using hv
            · rw [if_neg hki]
              rcases List.mem_append.1 hk with h | h
              · exact hmono _ _ _ _ (hΦ k h) hE'
              · exact absurd (by simpa using h) hki
        unfold wpOp
        rw [ho]
        simp only []
        unfold Ran at hw
        split
        · rename_i hwd
          rw [if_pos hwd] at hw
          refine .inl ?_
          have hw2 : Oper.wp P o (putS l vs S a0) w (fun a' w' => ∃ v, a' = (putS l vs S a0).put o.dst v ∧ Φ i v w' ∧ R w w') Q := by
            unfold Oper.wp at hw ⊢
            generalize (execOp (putS l vs S a0).eval o).run P w = r at *
            cases r with
            | ok x w' =>
              cases x <;> simp only [Oper.upon] at hw ⊢
              all_goals first
                | exact hw
                | exact Calls.mono hw (fun e w'' he => by cases e <;> first | exact he | exact (he : False).elim | (obtain ⟨_, _, hh⟩ := he; exact hh.elim))
                | exact Rows.mono hw (fun _ _ he => he)
            | halt x w' => cases x <;> simp only [Oper.upon] at hw
          refine Oper.wp_mono ?_ hw2
          rintro a' w' ⟨v, rfl, hv⟩
          exact next v w' hv
        · rename_i hwd
          rw [if_neg hwd] at hw
          exact next undef w hw
  have := key n [] (fun _ => undef) (Array.replicate m.toArray.size false) _ hR0 (by simp) (by
    intro i
    have h0 := getD_replicate_false m.toArray.size i
    simp only [h0]
    simp) ⟨by simp, by
    intro i hi
    exact getD_replicate_false _ _⟩ (by simp; omega) (by simp)
  rw [show n + (m.length - n) = m.toArray.size by simp; omega] at this
  exact this
theorem wp_region_free_tail {P : Program} {id : Nat} {Q : Exit → Act → World → Prop} {a0 : Act} {w0 : World} {m : List Oper} (n z : Nat) (Φ : Nat → Value → World → Prop) (hm : P.follows .mixedOrders = true) (hn : n ≤ m.length) (hB : freeB (m.take n) a0.tmps.size = true)
    (hT : tailB m n z = true) (hL : lazyB m n z = true) (hS : Region.seqB .any m.toArray (m.length - n) n (headTail n m.length) = true)
    (hmono : ∀ i v w w', Φ i v w → Ext w w' → Φ i v w')
    (hob : ∀ i o, i < n → m[i]? = some o → ∀ a w, Ext w0 w → Finds (m.take n) Φ a0 o a w → Ran P m.toArray o a w (fun v w' => Φ i v w' ∧ Ext w w'))
    (hQ : ∀ vs : Nat → Value, ∀ w, Ext w0 w → (∀ i, i < n → Φ i (vs i) w) → wpList P m.toArray Q (m.drop n) (putAll (m.take n) vs a0) w)
    (hZ : z < n → ∀ vs : Nat → Value, ∀ w, Ext w0 w → (∀ i, i < n → i ≠ z → Φ i (vs i) w) → ∀ on oz, m[n]? = some on → m[z]? = some oz → wpList P m.toArray Q (on :: oz :: m.drop (n + 1)) (putS (m.take n) vs ((List.range n).filter (· ≠ z)) a0) w) : (Code.region id m.toArray true).wp P Q a0 w0 :=
  wp_region_free_tailR Ext ((Ext.refl w0).drew) (fun h k => h.trans k) n z Φ hm hn hB hT hL hS hmono hob hQ hZ
end Go.Proofs.YtimkmokomohgjaaGreat
