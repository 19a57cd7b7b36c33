/- Volume 2 of the texts that the laws of this seat use: V04 V05 V07E V08: walks of the program's functions, and plain laws. -/
import Derived.RangeFuncNested
import Derived.RangeFuncBound
import Derived.RangeFuncCalls
import Derived.RangeFuncLeaves
import Derived.Shelf.Abstract
import Derived.Shelf.RegionOpen
import Derived.OwnWalkIn
import Derived.TacticsInMore
import Derived.LoopNIn
import Derived.LoopIn
import Derived.Deep.AppendLies
import Derived.OwnWalk
import Derived.Outline
import Derived.Deep.RegionHeld3
import Derived.Handy
import Derived.OrdersHeld
import Derived.OrdersIn
import Derived.Recover
import Derived.Defers
import Derived.Test.YtimkmokomohgjaaGreatR01
namespace Go.Proofs.YtimkmokomohgjaaGreat
open Go.RowKit
open Sp (rd)
theorem ta_new_meet (w : World) : (Instr.typeAssert (.iface 181 (.agg #[])) 118 177 true).run Tryz.prog w = .ok (.tuple #[.agg #[.int .i64 0, .int .i64 0], .bool false]) w := by kernel_rfl
theorem ta_new_full (w : World) : (Instr.typeAssert (.iface 181 (.agg #[])) 118 179 true).run Tryz.prog w = .ok (.tuple #[.agg #[], .bool false]) w := by kernel_rfl
theorem ta_full_meet (w : World) : (Instr.typeAssert (.iface 179 (.agg #[])) 118 177 true).run Tryz.prog w = .ok (.tuple #[.agg #[.int .i64 0, .int .i64 0], .bool false]) w := by kernel_rfl
theorem ta_full_full (w : World) : (Instr.typeAssert (.iface 179 (.agg #[])) 118 179 true).run Tryz.prog w = .ok (.tuple #[.agg #[], .bool true]) w := by kernel_rfl
theorem ahead_bounds {s : Sp.Sky} (hs : SkyOk s) {i j day : Int} (i1 : 0 ≤ i) (i2 : i < s.bodies.length) (j1 : 0 ≤ j) (j2 : j < s.bodies.length) (h2 : 0 ≤ day) (h3 : day ≤ 20000) : -200000000 ≤ Sp.ahead s i j day ∧ Sp.ahead s i j day ≤ 200000000 := by
  have h4 := way_sky_bounds hs i1 i2 h2 h3
  have h5 := way_sky_bounds hs j1 j2 h2 h3
  unfold Sp.ahead
  omega
theorem blocks3 (w : World) (o1 o2 o3 : Obj) : (((w.alloc o1).alloc o2).alloc o3).heap[w.heap.size]? = some o1 ∧ (((w.alloc o1).alloc o2).alloc o3).heap[w.heap.size + 1]? = some o2 ∧ (((w.alloc o1).alloc o2).alloc o3).heap[w.heap.size + 2]? = some o3 :=
  ⟨(Below.heap_alloc _ _ _ (by simp; omega)).trans (blocks2 w o1 o2).1, (Below.heap_alloc _ _ _ (by simp)).trans (blocks2 w o1 o2).2, by have := heap_alloc_new ((w.alloc o1).alloc o2) o3; simpa using this⟩
set_option maxRecDepth 100000 in
set_option maxHeartbeats 400000 in
theorem hasNew (s : Sp.Sky) (A : Option Addr) (c : Nat) (day : Int) (w : World) (hs : SkyOk s) (hm : Bodies w A s.bodies) (h2 : 1 ≤ day) (h3 : day ≤ 20000) :
    Calls Tryz.prog 49 #[.agg #[.slice A s.bodies.length c, .int .i64 s.nnum, .int .i64 s.nden, .int .i64 s.nstart, .int .i64 day], .iface 181 (.agg #[])] w fun e w' => e = .returned (.bool (Sp.moonB s day false)) ∧ Ext w w' := by
  have n2 := hs.n2
  have hb1 := ahead_bounds hs (i := 1) (j := 0) (by omega) (by omega) (by omega) (by omega) (day := day) (by omega) h3
  have hb0 := ahead_bounds hs (i := 1) (j := 0) (by omega) (by omega) (by omega) (by omega) (day := day - 1) (by omega) (by omega)
  have HS := Lib.hid hs
  have HM := Lib.hid hm
  clear hs hm
  have t1 := ta_new_meet
  have t2 := ta_new_full
  go_enter Tryz.func49, Tryz.ntmps49
  go_wp2_with fail
  refine wp_region_later (by kernel_rfl) (by kernel_rfl) (fun W hW => ?_)
  have q1 := Later.block (w := W) (by rw [hW]; exact (blocks2 _ _ _).1)
  have q2 := Later.block (w := W) (by rw [hW]; exact (blocks2 _ _ _).2)
  have hE0 : Ext w W := by rw [hW]; exact ((Ext.refl _).alloc _).alloc _
  clear hW
  have HB := Lib.hid (fun X : Later W => HM.out.ext (hE0.trans X.ext))
  repeat (go_big_quiet_step ((first | (go_at_call 106; exact Later.call (lunar_any s A c _ _ _ _ _ HS.out (by exact HB.out _) (by omega) (by omega))) | (go_at_call 105; exact Later.call (passes_any _ _ _ (by omega) (by omega) (by omega) (by omega))))))
  refine wpQuiet_nil ?_
  rintro ⟨W1, hE⟩
  replace hE := hE0.trans hE
  go_wp2_with fail
  go_ret
  exact ⟨ret_bool (by simp [Sp.moonB, Sp.halfOf]), hE⟩
set_option maxRecDepth 100000 in
set_option maxHeartbeats 400000 in
theorem hasFull (s : Sp.Sky) (A : Option Addr) (c : Nat) (day : Int) (w : World) (hs : SkyOk s) (hm : Bodies w A s.bodies) (h2 : 1 ≤ day) (h3 : day ≤ 20000) :
    Calls Tryz.prog 49 #[.agg #[.slice A s.bodies.length c, .int .i64 s.nnum, .int .i64 s.nden, .int .i64 s.nstart, .int .i64 day], .iface 179 (.agg #[])] w fun e w' => e = .returned (.bool (Sp.moonB s day true)) ∧ Ext w w' := by
  have n2 := hs.n2
  have hb1 := ahead_bounds hs (i := 1) (j := 0) (by omega) (by omega) (by omega) (by omega) (day := day) (by omega) h3
  have hb0 := ahead_bounds hs (i := 1) (j := 0) (by omega) (by omega) (by omega) (by omega) (day := day - 1) (by omega) (by omega)
  have HS := Lib.hid hs
  have HM := Lib.hid hm
  clear hs hm
  have t1 := ta_full_meet
  have t2 := ta_full_full
  go_enter Tryz.func49, Tryz.ntmps49
  go_wp2_with fail
  refine wp_region_later (by kernel_rfl) (by kernel_rfl) (fun W hW => ?_)
  have q1 := Later.block (w := W) (by rw [hW]; exact (blocks3 _ _ _ _).1)
  have q2 := Later.block (w := W) (by rw [hW]; exact (blocks3 _ _ _ _).2.1)
  have q3 := Later.block (w := W) (by rw [hW]; exact (blocks3 _ _ _ _).2.2)
  have hE0 : Ext w W := by rw [hW]; exact (((Ext.refl _).alloc _).alloc _).alloc _
  clear hW
  have HB := Lib.hid (fun X : Later W => HM.out.ext (hE0.trans X.ext))
  repeat (go_big_quiet_step ((first | (go_at_call 106; exact Later.call (lunar_any s A c _ _ _ _ _ HS.out (by exact HB.out _) (by omega) (by omega))) | (go_at_call 105; exact Later.call (passes_any _ _ _ (by omega) (by omega) (by omega) (by omega))))))
  refine wpQuiet_nil ?_
  rintro ⟨W1, hE⟩
  replace hE := hE0.trans hE
  go_wp2_with fail
  go_ret
  exact ⟨ret_bool (by simp [Sp.moonB, Sp.halfOf]), hE⟩
end Go.Proofs.YtimkmokomohgjaaGreat
namespace Go.Proofs.YtimkmokomohgjaaGreat
open Go.RowKit Go.Shelf
open Sp (rd)
attribute [local go_sem] Oper.semAt_some
/-- A day that can have a moon. -/
abbrev Day1 := { d : Int // 1 ≤ d ∧ d ≤ 20000 }
/-- k days from lo on. -/
def daysL (lo : Int) (k : Nat) : List Int := (List.range k).map fun i => lo + (i : Nat)
theorem daysL_succ (lo : Int) (k : Nat) : daysL lo (k + 1) = daysL lo k ++ [lo + (k : Nat)] := by simp [daysL, List.range_succ]
/-- What a round must keep. -/
def KeepsTwo (bT bS : Nat) (W W' : World) : Prop := W'.heap[bT]? = W.heap[bT]? ∧ W'.heap[bS]? = W.heap[bS]?
def skyV (A : Option Addr) (n c : Nat) (s : Sp.Sky) (d : Int) : Value := .agg #[.slice A n c, .int .i64 s.nnum, .int .i64 s.nden, .int .i64 s.nstart, .int .i64 d]
def DaysPost (lo hi : Int) (J Jx : List Day1 → World → Prop) (e : Ending) (W' : World) : Prop := (∃ v, e = .returned v) ∧
  ((∃ xs : List Day1, xs.map Subtype.val = daysL lo (hi + 1 - lo).toNat ∧ J xs W') ∨ (∃ pre : List Day1, (∃ k, k ≤ (hi + 1 - lo).toNat ∧ pre.map Subtype.val = daysL lo k) ∧ Jx pre W'))
def DaysRel (lo hi : Int) (J : List Day1 → World → Prop) (bT bS : Nat) (W : World) (d : Value) (wr : World) : Prop :=
  ∃ pre : List Day1, d = .int .i64 (lo + (pre.length : Int)) ∧ pre.map Subtype.val = daysL lo pre.length ∧ pre.length ≤ (hi + 1 - lo).toNat ∧ J pre wr ∧ wr.heap[bT]? = W.heap[bT]? ∧ wr.heap[bS]? = W.heap[bS]?
set_option maxHeartbeats 400000 in
theorem days1_in (n : Nat) (hn : 1 ≤ n) (l bF bT bS : Nat) (A : Option Addr) (m c : Nat) (s : Sp.Sky) (lo hi : Int) (J Jx : List Day1 → World → Prop) (h1 : 1 ≤ lo) (h2 : hi ≤ 20000)
    (hY : ∀ pre x W, J pre W → pre.length < (hi + 1 - lo).toNat → YieldAt Fence.wide (n - 1) Tryz.prog l #[skyV A m c s x.1] W fun e W' =>
      (e = .returned (.bool true) ∧ J (pre ++ [x]) W' ∧ KeepsTwo bT bS W W') ∨ (e = .returned (.bool false) ∧ Jx (pre ++ [x]) W'))
    (W : World) (hF : Row W bF 3 #[.int .i64 lo]) (hT : Row W bT 3 #[.int .i64 hi]) (hS : Row W bS 28 #[.slice A m c, .int .i64 s.nnum, .int .i64 s.nden, .int .i64 s.nstart]) (h0 : J [] W) :
    CallsIn Fence.wide n Tryz.prog 103 #[.func (.yield l) #[] #[], .pointer (some ⟨bF, 0, none⟩), .pointer (some ⟨bT, 0, none⟩), .pointer (some ⟨bS, 0, none⟩)] W (DaysPost lo hi J Jx) := by
  refine callsIn_of_wp Tryz.func103 rfl trivial ?_ rfl
  simp only [Tryz.ntmps103, List.size_toArray, List.length_cons, List.length_nil, Nat.reduceAdd, Nat.reduceSub, Array.replicate_succ, Array.replicate_zero, List.push_toArray, List.append_toArray, List.nil_append, List.cons_append]
  have cF := hF.cell
  have cT := hT.cell
  have cS := hS.cell
  gi_wp2
  clear cF cT cS
  gi_loopw [5] (fun d wr => DaysRel lo hi J bT bS W d wr) (fun d _ => (hi + 1 - intOf d).toNat)
  case atStart => exact ⟨[], by simp, rfl, Nat.zero_le _, h0, rfl, rfl⟩
  case round =>
    obtain ⟨pre, rfl, hp, hk, hJ, eT, eS⟩ := hrel
    have cT : Row wr bT 3 #[.int .i64 hi] := eT.trans hT
    have cS : Row wr bS 28 #[.slice A m c, .int .i64 s.nnum, .int .i64 s.nden, .int .i64 s.nstart] := eS.trans hS
    replace cT := cT.cell
    replace cS := cS.cell
    have HP := Lib.hid hp
    have ET := Lib.hid eT
    have ES := Lib.hid eS
    clear hp eT eS
    by_cases hlt : pre.length < (hi + 1 - lo).toNat
    · obtain ⟨fn, tmps, assign, body, hy, hR⟩ := hY pre ⟨lo + (pre.length : Int), by omega, by omega⟩ wr hJ hlt
      have HR := Lib.hid hR
      simp only [skyV] at hy
      have hnow : ((pre ++ [⟨lo + (pre.length : Int), by omega, by omega⟩] : List Day1)).map Subtype.val = daysL lo (pre.length + 1) := by
        rw [List.map_append, HP.out, daysL_succ]; rfl
      have HN := Lib.hid hnow
      clear hR hY hnow
      gi_wp2
      refine HR.out.mono ?_
      rintro e W' (⟨rfl, hJ', hk'⟩ | ⟨rfl, hJx'⟩)
      · gi_wp2
        go_roundw
        case rel => exact ⟨_, by simp; omega, by rw [List.length_append]; exact HN.out, by simp; omega, hJ', hk'.1.trans ET.out, hk'.2.trans ES.out⟩
        case measure => simp [intOf]; omega
      · gi_wp2
        refine bodyPost_ret (results_none rfl _ _ _) rfl ?_
        exact ⟨⟨_, rfl⟩, .inr ⟨_, ⟨pre.length + 1, by omega, HN.out⟩, hJx'⟩⟩
    · clear hY
      gi_wp2
      go_end0
      exact ⟨⟨_, rfl⟩, .inl ⟨pre, by rw [HP.out]; congr 1; omega, hJ⟩⟩
end Go.Proofs.YtimkmokomohgjaaGreat
namespace Go.Proofs.YtimkmokomohgjaaGreat
open Go.RowKit
/-- Box bO holds the slice v, whose row is owned and holds xs. -/
structure Out (w : World) (base bO : Nat) (ty e : TypeId) (size : Nat) (v : Value) (n : Nat) (xs : List Value) : Prop where
  box : Row w bO ty #[v]
  own : w.ownsRow base e size v n xs
  ne : v.ownBlock ≠ some bO
/-- What was there is as it was, but for the box and its row. -/
structure Push (bO : Nat) (v v' : Value) (w w' : World) : Prop where
  os : w'.os = w.os
  tape : w'.tape = w.tape
  output : w'.output = w.output
  size : w.heap.size ≤ w'.heap.size
  block : ∀ k, k < w.heap.size → k ≠ bO → v.ownBlock ≠ some k → w'.heap[k]? = w.heap[k]? ∧ v'.ownBlock ≠ some k
theorem Push.of_ext {bO : Nat} {v : Value} {w w' : World} (h : Ext w w') : Push bO v v w w' := ⟨h.os, h.tape, h.output, h.size, fun k hk _ hne => ⟨h.block k hk, hne⟩⟩
theorem Push.trans {bO : Nat} {v v' v'' : Value} {w w1 w2 : World} (h : Push bO v v' w w1) (k : Push bO v' v'' w1 w2) : Push bO v v'' w w2 :=
  ⟨k.os.trans h.os, k.tape.trans h.tape, k.output.trans h.output, Nat.le_trans h.size k.size, fun i hi hb hv =>
    let ⟨e1, n1⟩ := h.block i hi hb hv
    let ⟨e2, n2⟩ := k.block i (Nat.lt_of_lt_of_le hi h.size) hb n1
    ⟨e2.trans e1, n2⟩⟩
theorem Push.row {bO : Nat} {v v' : Value} {w w' : World} (h : Push bO v v' w w') {g : Nat} {t : TypeId} {cs : Array Value} (hr : Row w g t cs) (hb : g ≠ bO) (hv : v.ownBlock ≠ some g) : Row w' g t cs := (h.block g hr.lt hb hv).1.trans hr
theorem Push.ne {bO : Nat} {v v' : Value} {w w' : World} (h : Push bO v v' w w') {g : Nat} (hr : g < w.heap.size) (hb : g ≠ bO) (hv : v.ownBlock ≠ some g) : v'.ownBlock ≠ some g := (h.block g hr hb hv).2
theorem ownsRow_of_block {w w' : World} {base : Nat} {e : TypeId} {size : Nat} {v : Value} {n : Nat} {xs : List Value} (h : w.ownsRow base e size v n xs) (hb : ∀ k, v.ownBlock = some k → w'.heap[k]? = w.heap[k]?) : w'.ownsRow base e size v n xs := by
  refine ⟨h.1, ?_⟩
  rcases h.2 with hn | ⟨g, cap, cur, hv, hg, hh, rest⟩
  · exact .inl hn
  · exact .inr ⟨g, cap, cur, hv, hg, by rw [hb g (by rw [hv]; rfl)]; exact hh, rest⟩
theorem Out.new (w : World) (base : Nat) (ty e : TypeId) (size : Nat) : Out (w.alloc (.cells #[.slice none 0 0] ty)) base w.heap.size ty e size (.slice none 0 0) 0 [] :=
  ⟨Row.new _ _ _, World.ownsRow_nil _ _ _ _, by simp [Value.ownBlock]⟩
theorem Out.ext {w w' : World} {base bO : Nat} {ty e : TypeId} {size : Nat} {v : Value} {n : Nat} {xs : List Value} (h : Out w base bO ty e size v n xs) (he : Ext w w') : Out w' base bO ty e size v n xs :=
  ⟨h.box.ext he, ownsRow_of_block h.own fun k hk => he.block k (h.own.lt k hk).2, h.ne⟩
/-- Behind the append and the store. -/
theorem Out.pushed {w wA w1 : World} {base base' bO : Nat} {ty e e' : TypeId} {size size' : Nat} {v : Value} {n n' : Nat} {xs xs' : List Value} {g cap : Nat}
    (h : Out w base bO ty e size v n xs) (hE : Ext w wA) (hown : w1.ownsRow base' e' size' (.slice (some ⟨g, 0, none⟩) n' cap) n' xs') (hg : wA.grownBy w1 v.ownBlock) (hat : v.ownBlock = some g ∨ g = wA.heap.size) :
    Out (w1.setCell ⟨bO, 0, none⟩ (.slice (some ⟨g, 0, none⟩) n' cap)) base' bO ty e' size' (.slice (some ⟨g, 0, none⟩) n' cap) n' xs' ∧
      Push bO v (.slice (some ⟨g, 0, none⟩) n' cap) w (w1.setCell ⟨bO, 0, none⟩ (.slice (some ⟨g, 0, none⟩) n' cap)) := by
  have hs := hE.size
  have hlt := h.box.lt
  have gne : g ≠ bO := by
    rcases hat with e | e
    · intro hh; exact h.ne (by rw [e, hh])
    · omega
  have hb1 : Row w1 bO ty #[v] := (hg.block bO (by omega) (by intro hh; exact h.ne hh.symm)).trans (h.box.ext hE)
  refine ⟨⟨by simpa using hb1.set_ 0 (.slice (some ⟨g, 0, none⟩) n' cap), ?_, by simp [Value.ownBlock, gne]⟩, ?_⟩
  · refine ownsRow_of_block hown fun k hk => ?_
    simp only [Value.ownBlock, Option.some.injEq] at hk
    subst hk
    exact Below.heap_setCell _ _ _ _ gne
  · refine ⟨hg.os.trans hE.os, hg.tape.trans hE.tape, hg.output.trans hE.output, ?_, fun k hk hb hv => ⟨?_, ?_⟩⟩
    · have := hg.size
      simp only [World.size_setCell]
      omega
    · exact (Below.heap_setCell _ _ _ _ hb).trans ((hg.block k (by omega) (by intro hh; exact hv hh.symm)).trans (hE.block k hk))
    · simp only [Value.ownBlock, ne_eq, Option.some.injEq]
      rintro rfl
      rcases hat with e | e
      · exact hv e
      · omega
end Go.Proofs.YtimkmokomohgjaaGreat
namespace Go.Proofs.YtimkmokomohgjaaGreat
open Go.RowKit
section
variable {P : Program} {ops : Array Oper} {md : Region.Mode} {C : World → Prop} {Q : Exit → Act → World → Prop}
/-- The like of 'sinkB' for the heads from k on. -/
def sinkFrom (md : Region.Mode) (ops : Array Oper) (k n : Nat) : Bool :=
  (List.range n).all fun i => decide (i < k) || (List.range (n + 1)).any fun j => decide (i < j) && Region.waitsFor md ops j i
structure HeadFrom (md : Region.Mode) (ops : Array Oper) (k n : Nat) (listed : Array Bool) : Prop where
  inv : HeadInv md ops n listed
  from_ : ∀ i, i < k → listed.getD i true = true
theorem HeadFrom.set {k n i : Nat} {listed : Array Bool} (h : HeadFrom md ops k n listed) (hi : i ∈ Region.ready md ops listed) (hin : i < n) : HeadFrom md ops k n (listed.setIfInBounds i true) := by
  refine ⟨h.inv.set hi hin, fun j hj => ?_⟩
  by_cases hij : i = j
  · subst hij
    have := h.from_ i hj
    have h0 := (mem_ready.1 hi).1
    rw [this] at h0; cases h0
  · rw [getD_set_ne true hij]; exact h.from_ j hj
theorem tail_waits_from {k n : Nat} {listed : Array Bool} (hs : sinkFrom md ops k n = true) (hc : Region.chainB md ops n = true) (hn : n < ops.size) (hh : HeadFrom md ops k n listed) :
    ∀ (d i : Nat), n - i = d → i < n → listed.getD i true = false → ∀ t, n ≤ t → t ∉ Region.ready md ops listed := by
  have inv := hh.inv
  intro d
  induction d using Nat.strongRecOn with
  | _ d ih =>
    intro i hd hi hun t ht hr
    obtain ⟨_, ot, hot, hall⟩ := mem_ready.1 hr
    have htlt : t < ops.size := (Array.getElem?_eq_some_iff.1 hot).1
    by_cases htn : t = n
    · subst htn
      have h1 := List.all_eq_true.1 hs i (List.mem_range.2 hi)
      simp only [Bool.or_eq_true, decide_eq_true_eq] at h1
      rcases h1 with h1 | h1
      · rw [hh.from_ i h1] at hun; cases hun
      obtain ⟨j, hj, hj2⟩ := List.any_eq_true.1 h1
      simp only [Bool.and_eq_true, decide_eq_true_eq] at hj2
      obtain ⟨oj, hoj, e, he, hb, hon⟩ := Region.waitsFor_spec hj2.2
      have hjle : j ≤ t := by have := List.mem_range.1 hj; omega
      by_cases hjt : j = t
      · subst hjt
        have : oj = ot := Option.some.inj (hoj.symm.trans hot)
        subst this
        have h2 := hall e he hb
        rw [hon, getD_both hun] at h2
        cases h2
      · cases hl : listed.getD j false with
        | true =>
          have h2 := inv.closed j oj hoj hl e he hb
          rw [hon, getD_both hun] at h2
          cases h2
        | false =>
          have hjs : j < listed.size := by rw [inv.size]; omega
          exact ih (t - j) (by omega) j rfl (by omega) (getD_in hjs hl) t (Nat.le_refl _) hr
    · have h1 := List.all_eq_true.1 hc t (List.mem_range.2 htlt)
      simp only [Bool.or_eq_true, decide_eq_true_eq] at h1
      rcases h1 with h1 | h1
      · omega
      · obtain ⟨o', ho', e, he, hb, hon⟩ := Region.waitsFor_spec h1
        have : o' = ot := Option.some.inj (ho'.symm.trans hot)
        subst this
        have h2 := hall e he hb
        rw [hon, getD_both (inv.tail (t - 1) (by omega) (by omega))] at h2
        cases h2
theorem headQ_first_from {k n i : Nat} {oi : Oper} {v : Value} {L : Array Bool → Act → Prop} (hi : ops[i]? = some oi) (hsel : ∀ (j : Nat) (o : Oper) cs b, ops[j]? = some o → o.op ≠ .select cs b)
    (hs : sinkFrom md ops k n = true) (hc : Region.chainB md ops n = true) (hn : n < ops.size) (hin : i < n)
    (hdone : ∀ listed a, L listed a → ∀ j ∈ Region.ready md ops listed, n ≤ j) (f : Nat) :
    ∀ (listed : Array Bool) (a : Act), HeadFrom md ops k n listed →
      (∀ j oj, ops[j]? = some oj → j ≠ i → listed.getD j true = false → (∀ e ∈ oj.after, Region.binds md e = true → e.on ≠ i) → oi.apart ops oj = true) →
      i ∈ Region.ready md ops listed → YieldsIn P ops C oi v a →
      headQ P md ops C n L f (listed.setIfInBounds i true) (a.put oi.dst v) → headQ P md ops C n L (f + 1) listed a := by
  induction f with
  | zero =>
    intro listed a inv hfree hr hy H
    have hun := (mem_ready.1 hr).1
    refine ⟨fun h => (by rw [h] at hr; cases hr), fun j hj => ?_⟩
    have hjn : j < n := (Nat.lt_or_ge j n).resolve_right fun h => tail_waits_from hs hc hn inv _ i rfl hin hun j h hj
    refine ⟨hjn, ?_⟩
    by_cases hji : j = i
    · subst hji; exact hy.qOp hi H
    · exact absurd (hdone _ _ H j (ready_mono hj hji)) (by omega)
  | succ f ih =>
    intro listed a inv hfree hr hy H
    have hun := (mem_ready.1 hr).1
    refine ⟨fun h => (by rw [h] at hr; cases hr), fun j hj => ?_⟩
    have hjn : j < n := (Nat.lt_or_ge j n).resolve_right fun h => tail_waits_from hs hc hn inv _ i rfl hin hun j h hj
    refine ⟨hjn, ?_⟩
    by_cases hji : j = i
    · subst hji; exact hy.qOp hi H
    · obtain ⟨hjun, oj, hoj, hall⟩ := mem_ready.1 hj
      have hnot : ∀ e ∈ oj.after, Region.binds md e = true → e.on ≠ i := fun e he hb heq => by
        have h1 := hall e he hb
        rw [heq, getD_both hun] at h1
        cases h1
      have h2 := qOp_put hoj (hfree j oj hoj hji hjun hnot) (fun cs b => hsel i oi cs b hi) (fun cs b => hsel j oj cs b hoj) hy (H.2 j (ready_mono hj hji)).2
      refine qOp_mono (fun a' h3 => ih (listed.setIfInBounds j true) a' (inv.set hj hjn) ?_ (ready_mono hr (Ne.symm hji)) h3.1 ?_) h2
      · intro k ok hk hki hunk hno
        refine hfree k ok hk hki ?_ hno
        by_cases hjk : j = k
        · subst hjk; exact hjun
        · rw [getD_set_ne true hjk] at hunk; exact hunk
      · rw [Array.setIfInBounds_comm _ _ hji]
        exact h3.2
theorem headQ_lex_from {k0 n g : Nat} {Lq : Act → Prop} (hsel : Region.noSelect ops = true) (hs : sinkFrom md ops k0 n = true) (hc : Region.chainB md ops n = true) (hn : n < ops.size) (l : List Oper) :
    ∀ (k : Nat) (listed : Array Bool) (a : Act), (∀ j, j < l.length → l[j]? = ops[k + j]?) → k + l.length = n → HeadFrom md ops k0 n listed →
    Region.lexHead md ops g l.length k listed = true → wpQuiet P ops C Lq l a →
    headQ P md ops C n (fun listed' a' => Region.seqB md ops g n listed' = true ∧ Lq a') l.length listed a := by
  induction l with
  | nil =>
    intro k listed a _ hk _ hB h
    obtain rfl : k = n := by simpa using hk
    exact ⟨by simpa [Region.lexHead] using hB, h⟩
  | cons o l ih =>
    intro k listed a hl hk inv hB h
    have h0 : ops[k]? = some o := by simpa using (hl 0 (by simp)).symm
    simp only [List.length_cons, Region.lexHead, Bool.and_eq_true] at hB
    obtain ⟨⟨hr, hf⟩, hB'⟩ := hB
    simp only [List.length_cons] at hk
    have hr' : k ∈ Region.ready md ops listed := by simpa using hr
    have hst : qOp P ops C k (wpQuiet P ops C Lq l) a := by unfold qOp; simp only [h0]; exact h
    obtain ⟨v, hy, hK⟩ := yieldsIn_of_qOp h0 hst
    refine headQ_first_from h0 (Region.noSelect_spec hsel) hs hc hn (by omega) (fun listed' a' hL => seqB_ready hL.1) l.length listed a inv (Region.free_spec h0 hf) hr' hy
      (ih (k + 1) _ _ (fun j hj => ?_) (by omega) (inv.set hr' (by omega)) hB' hK)
    have := hl (j + 1) (by simp; omega)
    simpa [Nat.add_assoc, Nat.add_comm 1 j] using this
/-- Some first operations, in whatever order, each of which keeps the class; then L. -/
def midH (P : Program) (md : Region.Mode) (ops : Array Oper) (Q : Exit → Act → World → Prop) (S : World → Prop) (n : Nat) (L : Array Bool → Act → World → Prop) : Nat → Array Bool → Act → World → Prop
  | 0, listed, a, w => L listed a w
  | f + 1, listed, a, w => Region.ready md ops listed ≠ [] ∧ ∀ i ∈ Region.ready md ops listed, i < n ∧ wpOp P ops Q i (fun a' w' => S w' ∧ midH P md ops Q S n L f (listed.setIfInBounds i true) a' w') a w
theorem any_of_midH {n g : Nat} {L : Array Bool → Act → World → Prop} {S : World → Prop} (hL : ∀ listed a w, L listed a w → wpAny P md ops Q g listed a w) :
    ∀ (f : Nat) (listed : Array Bool) (a : Act) (w : World), midH P md ops Q S n L f listed a w → wpAny P md ops Q (f + g) listed a w
  | 0, listed, a, w, h => by rw [Nat.zero_add]; exact hL _ _ _ h
  | f + 1, listed, a, w, h => by
    rw [Nat.add_right_comm]
    exact ⟨fun h0 => absurd h0 h.1, fun i hi => wpOp_mono (fun a' w' h' => any_of_midH hL f _ a' w' h'.2) (h.2 i hi).2⟩
theorem midH_of_headQ {n m g : Nat} (hmn : n ≤ m) {L : Array Bool → Act → Prop} {L' : Array Bool → Act → World → Prop} (hL : ∀ listed a w, C w → L listed a → midH P md ops Q C m L' g listed a w) :
    ∀ (f : Nat) (listed : Array Bool) (a : Act) (w : World), C w → headQ P md ops C n L f listed a → midH P md ops Q C m L' (f + g) listed a w
  | 0, listed, a, w, hw, h => by rw [Nat.zero_add]; exact hL _ _ _ hw h
  | f + 1, listed, a, w, hw, h => by
    rw [Nat.add_right_comm]
    exact ⟨h.1, fun i hi => ⟨Nat.lt_of_lt_of_le (h.2 i hi).1 hmn, wpOp_of_qOp hw (fun a' w' hw' h' => ⟨hw', midH_of_headQ hmn hL f _ a' w' hw' h'⟩) (h.2 i hi).2⟩⟩
theorem midH_first {n i : Nat} {oi : Oper} {v : Value} {S : World → Prop} {L : Array Bool → Act → World → Prop} (hi : ops[i]? = some oi) (hsel : ∀ (j : Nat) (o : Oper) cs b, ops[j]? = some o → o.op ≠ .select cs b)
    (hs : Region.sinkB md ops n = true) (hc : Region.chainB md ops n = true) (hn : n < ops.size) (hin : i < n)
    (hQ : ∀ c a w, Q (.panic c) (a.put oi.dst v) w → Q (.panic c) a w)
    (hdone : ∀ listed a w, L listed a w → ∀ j ∈ Region.ready md ops listed, n ≤ j) (f : Nat) :
    ∀ (listed : Array Bool) (a : Act) (w : World), HeadInv md ops n listed →
      (∀ j oj, ops[j]? = some oj → j ≠ i → listed.getD j true = false → (∀ e ∈ oj.after, Region.binds md e = true → e.on ≠ i) → oi.apart ops oj = true) →
      i ∈ Region.ready md ops listed → YieldsIf P ops S oi v a → S w →
      midH P md ops Q S n L f (listed.setIfInBounds i true) (a.put oi.dst v) w → midH P md ops Q S n L (f + 1) listed a w := by
  induction f with
  | zero =>
    intro listed a w inv hfree hr hy hS H
    have hun := (mem_ready.1 hr).1
    refine ⟨fun h => (by rw [h] at hr; cases hr), fun j hj => ?_⟩
    have hjn : j < n := (Nat.lt_or_ge j n).resolve_right fun h => tail_waits hs hc hn inv _ i rfl hin hun j h hj
    refine ⟨hjn, ?_⟩
    by_cases hji : j = i
    · subst hji; exact hy.wpOp hi hS ⟨hS, H⟩
    · exact absurd (hdone _ _ _ H j (ready_mono hj hji)) (by omega)
  | succ f ih =>
    intro listed a w inv hfree hr hy hS H
    have hun := (mem_ready.1 hr).1
    refine ⟨fun h => (by rw [h] at hr; cases hr), fun j hj => ?_⟩
    have hjn : j < n := (Nat.lt_or_ge j n).resolve_right fun h => tail_waits hs hc hn inv _ i rfl hin hun j h hj
    refine ⟨hjn, ?_⟩
    by_cases hji : j = i
    · subst hji; exact hy.wpOp hi hS ⟨hS, H⟩
    · obtain ⟨hjun, oj, hoj, hall⟩ := mem_ready.1 hj
      have hnot : ∀ e ∈ oj.after, Region.binds md e = true → e.on ≠ i := fun e he hb heq => by
        have h1 := hall e he hb
        rw [heq, getD_both hun] at h1
        cases h1
      have h2 := wpOp_putIf hoj (hfree j oj hoj hji hjun hnot) (fun cs b => hsel i oi cs b hi) (fun cs b => hsel j oj cs b hoj) hQ hy (H.2 j (ready_mono hj hji)).2
      refine wpOp_mono (fun a' w' h3 => ⟨h3.2.1, ih (listed.setIfInBounds j true) a' w' (inv.set hj hjn) ?_ (ready_mono hr (Ne.symm hji)) h3.1 h3.2.1 ?_⟩) h2
      · intro k ok hk hki hunk hno
        refine hfree k ok hk hki ?_ hno
        by_cases hjk : j = k
        · subst hjk; exact hjun
        · rw [getD_set_ne true hjk] at hunk; exact hunk
      · rw [Array.setIfInBounds_comm _ _ hji]
        exact h3.2.2
/-- Behind the laying of the element. -/
def midPost (P : Program) (ops : Array Oper) (Q : Exit → Act → World → Prop) (S : World → Prop) (rest : List Oper) : Exit → Act → World → Prop
  | .normal, a, w => S w ∧ wpList P ops (NoPanic Q) rest a w
  | e, a, w => NoPanic Q e a w
def mixB (ops : Array Oper) (m : Nat) : Bool :=
  Region.noSelect ops && decide (0 < m) && decide (m + 1 < ops.size) && Region.sinkB .any ops (m + 1) && Region.chainB .any ops (m + 1) && sinkFrom .any ops 1 m && Region.chainB .any ops m &&
    (Region.ready .any ops (Array.replicate ops.size false)).contains 0 && Region.free .any ops (Array.replicate ops.size false) 0 &&
    Region.lexHead .any ops (ops.size - m) (m - 1) 1 ((Array.replicate ops.size false).setIfInBounds 0 true)
theorem wp_single {o : Oper} {i : Nat} (hi : ops[i]? = some o) {S : World → Prop} {rest : List Oper} {a : Act} {w : World} (h : wpList P ops (midPost P ops Q S rest) [o] a w) :
    wpOp P ops (NoPanic Q) i (fun a' w' => S w' ∧ wpList P ops (NoPanic Q) rest a' w') a w := by
  unfold wpOp
  simp only [hi]
  unfold wpList at h
  split
  · rename_i hw
    rw [if_pos hw] at h
    rcases h with h | ⟨h1, a', w', h2⟩
    · refine .inl ?_
      unfold Oper.wp at h ⊢
      generalize (execOp a.eval o).run P w = r at *
      cases r with
      | ok n w' =>
        cases n <;> simp only [Oper.upon] at h ⊢ <;>
          first
            | exact h
            | exact Calls.mono h (fun e w'' he => by cases e <;> exact he)
            | exact Rows.mono h (fun _ _ he => he)
      | halt x w' => cases x <;> simp only [Oper.upon] at h ⊢ <;> exact h
    · exact .inr ⟨h1, a', w', h2⟩
  · rename_i hw
    rw [if_neg hw] at h
    exact h
theorem any_mix {a : Act} {w : World} {o0 om : Oper} {v0 : Value} {l : List Oper} (m : Nat) (hB : mixB l.toArray m = true)
    (h0 : l[0]? = some o0) (hom : l[m]? = some om) (hC : C { w with drawn := w.drawn + 1 }) (hy : YieldsIf P l.toArray C o0 v0 a)
    (h : wpQuiet P l.toArray C (fun a' => ∀ w', C w' → wpList P l.toArray (midPost P l.toArray Q C (l.drop (m + 1))) [om] a' w') ((l.take m).drop 1) (a.put o0.dst v0)) :
    wpAny P .any l.toArray (NoPanic Q) l.toArray.size (Array.replicate l.toArray.size false) a { w with drawn := w.drawn + 1 } := by
  simp only [mixB, Bool.and_eq_true, decide_eq_true_eq] at hB
  obtain ⟨⟨⟨⟨⟨⟨⟨⟨⟨hsel, hm0⟩, hn⟩, hs⟩, hc⟩, hs'⟩, hc'⟩, hr⟩, hf⟩, hlex⟩ := hB
  have hn' : m + 1 < l.length := by simpa using hn
  have hr' : 0 ∈ Region.ready .any l.toArray (Array.replicate l.toArray.size false) := by simpa using hr
  have inv0 : ∀ n, HeadInv .any l.toArray n (Array.replicate l.toArray.size false) := fun n =>
    ⟨by simp, fun j oj _ hl => (by rw [getD_replicate_false] at hl; cases hl), fun t _ ht => getD_in (by simpa using ht) (getD_replicate_false _ _)⟩
  have inv1 : HeadFrom .any l.toArray 1 m ((Array.replicate l.toArray.size false).setIfInBounds 0 true) :=
    ⟨(inv0 m).set hr' hm0, fun i hi => by obtain rfl : i = 0 := by omega
                                          simp [show 0 < l.length by omega]⟩
  have hlen : ((l.take m).drop 1).length = m - 1 := by simp; omega
  have hfin : ∀ listed a' w', C w' → (Region.seqB .any l.toArray (l.toArray.size - m) m listed = true ∧ ∀ w', C w' → wpList P l.toArray (midPost P l.toArray Q C (l.drop (m + 1))) [om] a' w') →
      midH P .any l.toArray (NoPanic Q) C (m + 1) (fun listed' a'' w'' => Region.seqB .any l.toArray (l.toArray.size - (m + 1)) (m + 1) listed' = true ∧ wpList P l.toArray (NoPanic Q) (l.drop (m + 1)) a'' w'') 1 listed a' w' := by
    intro listed a' w' hw' ⟨hseq, hK⟩
    rw [show l.toArray.size - m = (l.toArray.size - (m + 1)) + 1 by simp; omega] at hseq
    simp only [Region.seqB, Bool.and_eq_true, decide_eq_true_eq] at hseq
    refine ⟨by rw [hseq.1]; simp, fun i hi => ?_⟩
    rw [hseq.1] at hi
    obtain rfl : i = m := by simpa using hi
    refine ⟨by omega, wpOp_mono (fun a'' w'' hh => ⟨hh.1, hseq.2, hh.2⟩) (wp_single (by simpa using hom) (hK w' hw'))⟩
  have H1 := headQ_lex_from (md := .any) (g := l.toArray.size - m) hsel hs' hc' (by simp; omega) ((l.take m).drop 1) 1 _ (a.put o0.dst v0) (fun j hj => by
    rw [hlen] at hj
    simp [show j + 1 < m by omega, Nat.add_comm 1 j]) (by rw [hlen]; omega) inv1 (by rw [hlen]; exact hlex) h
  have H2 := midH_of_headQ (md := .any) (Q := NoPanic Q) (n := m) (m := m + 1) (by omega) hfin _ _ _ _ hC H1
  rw [hlen, show m - 1 + 1 = m by omega] at H2
  have H3 := midH_first (md := .any) (Q := NoPanic Q) (n := m + 1) (i := 0) (by simpa using h0) (Region.noSelect_spec hsel) hs hc (by simpa using hn') (by omega) (fun c a w hh => hh)
    (fun listed a' w' hL => seqB_ready hL.1) m _ a _ (inv0 _) (Region.free_spec (by simpa using h0) hf) hr' hy hC H2
  have H4 := any_of_midH (g := l.toArray.size - (m + 1)) (fun listed a' w' hL => by
    have := wpAny_of_seq (md := .any) (Q' := NoPanic Q) (l.drop (m + 1)) (m + 1) listed a' w' (fun j => by simp [List.getElem?_drop]) (by rw [List.length_drop]; simpa using hL.1) hL.2
    rw [List.length_drop] at this
    simpa using this) _ _ _ _ H3
  rw [show m + 1 + (l.toArray.size - (m + 1)) = l.toArray.size by simp; omega] at H4
  exact H4
theorem wp_region_mix {id : Nat} {a : Act} {w : World} {o0 om : Oper} {v0 : Value} {l : List Oper} (m : Nat) (hm : P.follows .mixedOrders = true) (hB : mixB l.toArray m = true)
    (h0 : l[0]? = some o0) (hom : l[m]? = some om) (hC : C { w with drawn := w.drawn + 1 }) (hy : YieldsIf P l.toArray C o0 v0 a)
    (h : wpQuiet P l.toArray C (fun a' => ∀ w', C w' → wpList P l.toArray (midPost P l.toArray Q C (l.drop (m + 1))) [om] a' w') ((l.take m).drop 1) (a.put o0.dst v0)) :
    (Code.region id l.toArray true).wp P Q a w := wp_region_noPanic (wp_region_any hm (any_mix m hB h0 hom hC hy h))
/-- The post, but only at the end of the region. -/
def OnlyEnd (Q : Exit → Act → World → Prop) : Exit → Act → World → Prop
  | .normal, a, w => Q .normal a w
  | _, _, _ => False
/-- In a round of a range over a function: what a region does there it does anywhere, if it defers nothing. -/
theorem opIn_of_op {K : Act → World → Prop} {l n : Nat} {o : Oper} {a : Act} {w : World} (hd : ∀ c, o.op ≠ .defer c) (hL : ¬ LetsOut Q) (h : o.wp P a w K Q ∨ (o.asks P a w ∧ LetsOut Q)) : o.wpIn (Fence.wide.inRound l) n P a w K Q := by
  replace h := h.resolve_right fun h => hL h.2
  refine ⟨fun _ _ => trivial, ?_⟩
  rw [Oper.semAt_eq _ _ _ hd]
  unfold Oper.wp at h
  generalize (execOp a.eval o).run P w = r at *
  cases r with
  | ok x w' =>
    cases x <;> simp only [Oper.upon, Oper.uponIn] at h ⊢
    all_goals first
      | exact h
      | exact ⟨fun hh => by simp [Fence.wide] at hh, CallsIn.inRound l (callsIn_wide.2 h)⟩
      | exact ⟨fun hh => by simp [Fence.wide] at hh, fun c cs _ => let ⟨v, w', r, s⟩ := h c cs; ⟨v, w', r, stepsIn_wide.2 s⟩⟩
  | halt x w' => cases x <;> simp only [Oper.upon, Oper.uponIn] at h ⊢ <;> exact h
theorem anyIn_of_any {l n : Nat} (hd : ∀ (j : Nat) (o : Oper), ops[j]? = some o → ∀ c, o.op ≠ .defer c) (hL : ¬ LetsOut Q) :
    ∀ (f : Nat) (listed : Array Bool) (a : Act) (w : World), wpAny P md ops Q f listed a w → wpAnyIn (Fence.wide.inRound l) n P md ops Q f listed a w
  | 0, _, _, _, h => h
  | f + 1, listed, a, w, h => ⟨h.1, fun i hi => by
      have h1 := wpOp_mono (fun a' w' h' => anyIn_of_any hd hL (l := l) (n := n) f _ a' w' h') (h.2 i hi)
      unfold wpOp at h1
      unfold wpOpIn
      split
      · rename_i ho; simp only [ho] at h1; exact h1
      · rename_i o ho
        simp only [ho] at h1
        split
        · rename_i hw; rw [if_pos hw] at h1; exact opIn_of_op (hd i o ho) hL h1
        · rename_i hw; rw [if_neg hw] at h1; exact ⟨fun _ _ => trivial, h1⟩⟩
def noDefer (ops : Array Oper) : Bool := ops.all fun o => match o.op with | .defer _ => false | _ => true
theorem noDefer_spec (h : noDefer ops = true) : ∀ (j : Nat) (o : Oper), ops[j]? = some o → ∀ c, o.op ≠ .defer c := by
  intro j o ho c hc
  obtain ⟨hj, rfl⟩ := Array.getElem?_eq_some_iff.1 ho
  have := Array.all_eq_true.1 h j hj
  rw [hc] at this
  cases this
/-- A quiet region in a round. -/
theorem wpIn_region_later {id r n : Nat} {a : Act} {w : World} {l : List Oper} (hm : P.follows .mixedOrders = true) (hB : Region.lexB .any l.toArray = true) (hd : noDefer l.toArray = true)
    (h : ∀ W, W = w → wpQuiet P l.toArray (fun w' => ∃ x : Later W, w' = x.world) (fun a' => ∀ x : Later W, Q .normal a' x.world) l a) : (Code.region id l.toArray true).wpIn (Fence.wide.inRound r) n P Q a w := by
  have h1 : wpAny P .any l.toArray (OnlyEnd Q) l.toArray.size (Array.replicate l.toArray.size false) a { w with drawn := w.drawn + 1 } := by
    simp only [Region.lexB, Bool.and_eq_true] at hB
    refine wpAny_of_quiet (C := fun w' => ∃ x : Later w, w' = x.world) (Q := fun a' => ∀ x : Later w, Q .normal a' x.world) (fun _ w' hw' h => by obtain ⟨x, rfl⟩ := hw'; exact h x) _ _ _ _ ⟨⟨w.drew, (Ext.refl w).drew⟩, rfl⟩ ?_
    have := wpAnyQ_lex (C := fun w' => ∃ x : Later w, w' = x.world) (md := .any) hB.1 l 0 (Array.replicate l.toArray.size false) a (by simp) (by simpa using hB.2) (h w rfl)
    simpa using this
  refine wpIn_mono (wpIn_region_any hm (anyIn_of_any (noDefer_spec hd) (fun ⟨_, _, hh⟩ => hh) _ _ _ _ h1)) fun e _ _ hq => by cases e <;> first | exact hq | exact hq.elim
/-- The class: the later worlds. The world gets a name. -/
theorem wp_region_later_mix {id : Nat} {a : Act} {w : World} {o0 om : Oper} {v0 : Value} {l : List Oper} (m : Nat) (hm : P.follows .mixedOrders = true) (hB : mixB l.toArray m = true)
    (h0 : l[0]? = some o0) (hom : l[m]? = some om) (hw : Region.wanted o0 (yielded l.toArray a.tmps) = true)
    (hy : ∀ x : Later w, (execOp a.eval o0).run P x.world = .ok (.value v0) x.world)
    (h : ∀ W, W = w → wpQuiet P l.toArray (fun w' => ∃ x : Later W, w' = x.world) (fun a' => ∀ x : Later W, wpList P l.toArray (midPost P l.toArray Q (fun w' => ∃ x : Later W, w' = x.world) (l.drop (m + 1))) [om] a' x.world) ((l.take m).drop 1) (a.put o0.dst v0)) :
    (Code.region id l.toArray true).wp P Q a w :=
  wp_region_mix (C := fun w' => ∃ x : Later w, w' = x.world) m hm hB h0 hom ⟨⟨w.drew, (Ext.refl w).drew⟩, rfl⟩ (.inl ⟨hw, by rintro _ ⟨x, rfl⟩; exact hy x⟩) (by
    have := h w rfl
    simpa using this)
end
end Go.Proofs.YtimkmokomohgjaaGreat
namespace Go.Proofs.YtimkmokomohgjaaGreat
open Go.RowKit
open Sp (rd)
theorem info_moon : (Tryz.prog.info? 45).map (fun i => (i.zero, i.size, i.bytes)) = some (some (.agg #[.int .i64 0, .bool false]), 2, 16) := by kernel_rfl
def moonCells (l : List (Int × Bool)) : List Value := l.flatMap fun m => [.int .i64 m.1, .bool m.2]
theorem moonCells_append (l m : List (Int × Bool)) : moonCells (l ++ m) = moonCells l ++ moonCells m := by simp [moonCells]
abbrev moonsOut (w : World) (base bO : Nat) (v : Value) (l : List (Int × Bool)) : Prop := Out w base bO 41 45 2 v l.length (moonCells l)
theorem grown_row {w w' : World} {row : Option Nat} (hg : w.grownBy w' row) {g : Nat} {t : TypeId} {cs : Array Value} (h : Row w g t cs) (hne : row ≠ some g) : Row w' g t cs := (hg.block g h.lt (Ne.symm hne)).trans h
theorem grown_cell {w w' : World} {row : Option Nat} (hg : w.grownBy w' row) {g : Nat} {t : TypeId} {cs : Array Value} (h : Row w g t cs) (hne : row ≠ some g) (i : Nat) : w'.cell? ⟨g, i, none⟩ = cs[i]? := (grown_row hg h hne).cell i
theorem grown_free {w w' : World} {row : Option Nat} (hg : w.grownBy w' row) {g : Nat} {t : TypeId} {cs : Array Value} (h : Row w g t cs) (hne : row ≠ some g) (i : Nat) : w'.frozen? ⟨g, i, none⟩ = false := (grown_row hg h hne).free i
theorem full_new (w : World) : Calls Tryz.prog 229 #[.agg #[]] w fun e w' => e = .returned (.bool false) ∧ Ext w w' := by
  go_enter Tryz.func229, Tryz.ntmps229
  go_wp2_with fail
  go_ret
  exact ⟨rfl, (Ext.refl _).alloc _⟩
theorem full_full (w : World) : Calls Tryz.prog 228 #[.agg #[]] w fun e w' => e = .returned (.bool true) ∧ Ext w w' := by
  go_enter Tryz.func228, Tryz.ntmps228
  go_wp2_with fail
  go_ret
  exact ⟨rfl, (Ext.refl _).alloc _⟩
set_option maxRecDepth 100000 in
theorem look_new (base bX bO : Nat) (s : Sp.Sky) (A : Option Addr) (c : Nat) (day : Int) (w : World) (hs : SkyOk s) (hm : Bodies w A s.bodies) (h2 : 1 ≤ day) (h3 : day ≤ 20000)
    (hX : Row w bX 115 #[.slice A s.bodies.length c, .int .i64 s.nnum, .int .i64 s.nden, .int .i64 s.nstart, .int .i64 day]) (v : Value) (l : List (Int × Bool)) (hO : moonsOut w base bO v l)
    (hbase : base ≤ w.heap.size) (hl : l.length ≤ 2000) :
    Calls Tryz.prog 109 #[.iface 181 (.agg #[]), .pointer (some ⟨bX, 0, none⟩), .pointer (some ⟨bO, 0, none⟩)] w fun e w' => e = .returned (.tuple #[]) ∧ ∃ v', moonsOut w' base bO v' (l ++ if Sp.moonB s day false then [(day, false)] else []) ∧ Push bO v v' w w' := by
  obtain ⟨i0, hi0, hz0, hz1, hz2⟩ := info_parts info_moon
  have cX := hX.cell
  cases hb : Sp.moonB s day false
  · go_enter Tryz.func109, Tryz.ntmps109
    go_wp2_with fail
    refine (hasNew s A c day _ hs hm h2 h3).mono ?_
    rintro e w1 ⟨rfl, hE⟩
    have HE := Lib.hid hE
    clear hE
    rw [hb]
    go_wp2_with fail
    go_end0
    exact ⟨rfl, v, by simpa using hO.ext HE.out, Push.of_ext HE.out⟩
  · go_enter Tryz.func109, Tryz.ntmps109
    go_wp2_with fail
    refine (hasNew s A c day _ hs hm h2 h3).mono ?_
    rintro e w1 ⟨rfl, hE⟩
    replace hO := hO.ext hE
    replace hX := hX.ext hE
    have hP := Push.of_ext (bO := bO) (v := v) hE
    replace hbase : base ≤ w1.heap.size := Nat.le_trans hbase hE.size
    clear hE cX
    rw [hb]
    go_wp2_with fail
    refine wp_region_later_mix (v0 := v) 6 (by kernel_rfl) (by kernel_rfl) rfl rfl (by kernel_rfl) ?_ (fun W hW => ?_)
    · intro x
      have c2 := (hO.box.ext x.ext).cell 0
      simp only [List.getElem?_toArray, List.getElem?_cons_zero] at c2
      simp [go_sem, c2]
    have q1 := Later.block (w := W) (by rw [hW]; exact hX)
    have q2 := Later.block (w := W) (by rw [hW]; exact hO.box)
    simp only [List.take_succ_cons, List.take_zero, List.drop_succ_cons, List.drop_zero, Act.put, List.setIfInBounds_toArray, List.set_cons_succ, List.set_cons_zero]
    have hn : ∀ w, (nilAhead 378 181 (.agg #[]) "tellurion/sky.full").run Tryz.prog w = .ok (some false) w := fun _ => by kernel_rfl
    have hn' : ∀ w, (method 378 181 (.agg #[]) "tellurion/sky.full").run Tryz.prog w = .ok (229, .agg #[]) w := fun _ => by kernel_rfl
    repeat (go_big_quiet_step ((exact Later.call (full_new _))))
    refine wpQuiet_nil ?_
    intro x
    go_wp2
    refine ⟨⟨⟨_, x.ext.alloc _⟩, rfl⟩, ?_⟩
    subst hW
    replace hbase : base ≤ x.world.heap.size := Nat.le_trans hbase x.ext.size
    have hO2 := (hO.ext x.ext).ext ((Ext.refl _).alloc (.cells #[.int .i64 day, .bool false] 45))
    refine wpList_append_lies _ rfl _ _ _ rfl base 45 i0 _ 2 16 Tryz.underlying41 hi0 hz0 hz1 hz2 rfl (by omega) v l.length (moonCells l) rfl hO2.own
      ⟨x.world.heap.size, 0, none⟩ 1 1 [.int .i64 day, .bool false] rfl rfl (World.news_of_block (cs := #[.int .i64 day, .bool false]) (t := 45) (fr := (0, 0)) (heap_alloc_new _ _)) (by simp [Value.oneCell'])
      (by omega) (by simp only [maxLen]; omega) (by omega) (by simp; omega) _ rfl ?_
    intro gg cap w3 hown1 hgrow hat hlt
    have hc3 := grown_cell hgrow hO2.box hO2.ne 0
    have hf3 := grown_free hgrow hO2.box hO2.ne 0
    simp only [List.getElem?_toArray, List.getElem?_cons_zero] at hc3
    have hpush := hO2.pushed (Ext.refl _) hown1 hgrow hat
    have hP2 := (hP.trans (Push.of_ext x.ext)).trans (Push.of_ext ((Ext.refl _).alloc (.cells #[.int .i64 day, .bool false] 45)))
    clear q1 q2 hO2 hO hX hgrow hown1 hP
    go_wp2
    refine NoPanic.normal ?_
    go_end0
    exact ⟨rfl, _, by simpa [moonsOut, moonCells_append, moonCells] using hpush.1, hP2.trans hpush.2⟩
set_option maxRecDepth 100000 in
theorem look_full (base bX bO : Nat) (s : Sp.Sky) (A : Option Addr) (c : Nat) (day : Int) (w : World) (hs : SkyOk s) (hm : Bodies w A s.bodies) (h2 : 1 ≤ day) (h3 : day ≤ 20000)
    (hX : Row w bX 115 #[.slice A s.bodies.length c, .int .i64 s.nnum, .int .i64 s.nden, .int .i64 s.nstart, .int .i64 day]) (v : Value) (l : List (Int × Bool)) (hO : moonsOut w base bO v l)
    (hbase : base ≤ w.heap.size) (hl : l.length ≤ 2000) :
    Calls Tryz.prog 109 #[.iface 179 (.agg #[]), .pointer (some ⟨bX, 0, none⟩), .pointer (some ⟨bO, 0, none⟩)] w fun e w' => e = .returned (.tuple #[]) ∧ ∃ v', moonsOut w' base bO v' (l ++ if Sp.moonB s day true then [(day, true)] else []) ∧ Push bO v v' w w' := by
  obtain ⟨i0, hi0, hz0, hz1, hz2⟩ := info_parts info_moon
  have cX := hX.cell
  cases hb : Sp.moonB s day true
  · go_enter Tryz.func109, Tryz.ntmps109
    go_wp2_with fail
    refine (hasFull s A c day _ hs hm h2 h3).mono ?_
    rintro e w1 ⟨rfl, hE⟩
    have HE := Lib.hid hE
    clear hE
    rw [hb]
    go_wp2_with fail
    go_end0
    exact ⟨rfl, v, by simpa using hO.ext HE.out, Push.of_ext HE.out⟩
  · go_enter Tryz.func109, Tryz.ntmps109
    go_wp2_with fail
    refine (hasFull s A c day _ hs hm h2 h3).mono ?_
    rintro e w1 ⟨rfl, hE⟩
    replace hO := hO.ext hE
    replace hX := hX.ext hE
    have hP := Push.of_ext (bO := bO) (v := v) hE
    replace hbase : base ≤ w1.heap.size := Nat.le_trans hbase hE.size
    clear hE cX
    rw [hb]
    go_wp2_with fail
    refine wp_region_later_mix (v0 := v) 6 (by kernel_rfl) (by kernel_rfl) rfl rfl (by kernel_rfl) ?_ (fun W hW => ?_)
    · intro x
      have c2 := (hO.box.ext x.ext).cell 0
      simp only [List.getElem?_toArray, List.getElem?_cons_zero] at c2
      simp [go_sem, c2]
    have q1 := Later.block (w := W) (by rw [hW]; exact hX)
    have q2 := Later.block (w := W) (by rw [hW]; exact hO.box)
    simp only [List.take_succ_cons, List.take_zero, List.drop_succ_cons, List.drop_zero, Act.put, List.setIfInBounds_toArray, List.set_cons_succ, List.set_cons_zero]
    have hn : ∀ w, (nilAhead 378 179 (.agg #[]) "tellurion/sky.full").run Tryz.prog w = .ok (some false) w := fun _ => by kernel_rfl
    have hn' : ∀ w, (method 378 179 (.agg #[]) "tellurion/sky.full").run Tryz.prog w = .ok (228, .agg #[]) w := fun _ => by kernel_rfl
    repeat (go_big_quiet_step ((exact Later.call (full_full _))))
    refine wpQuiet_nil ?_
    intro x
    go_wp2
    refine ⟨⟨⟨_, x.ext.alloc _⟩, rfl⟩, ?_⟩
    subst hW
    replace hbase : base ≤ x.world.heap.size := Nat.le_trans hbase x.ext.size
    have hO2 := (hO.ext x.ext).ext ((Ext.refl _).alloc (.cells #[.int .i64 day, .bool true] 45))
    refine wpList_append_lies _ rfl _ _ _ rfl base 45 i0 _ 2 16 Tryz.underlying41 hi0 hz0 hz1 hz2 rfl (by omega) v l.length (moonCells l) rfl hO2.own
      ⟨x.world.heap.size, 0, none⟩ 1 1 [.int .i64 day, .bool true] rfl rfl (World.news_of_block (cs := #[.int .i64 day, .bool true]) (t := 45) (fr := (0, 0)) (heap_alloc_new _ _)) (by simp [Value.oneCell'])
      (by omega) (by simp only [maxLen]; omega) (by omega) (by simp; omega) _ rfl ?_
    intro gg cap w3 hown1 hgrow hat hlt
    have hc3 := grown_cell hgrow hO2.box hO2.ne 0
    have hf3 := grown_free hgrow hO2.box hO2.ne 0
    simp only [List.getElem?_toArray, List.getElem?_cons_zero] at hc3
    have hpush := hO2.pushed (Ext.refl _) hown1 hgrow hat
    have hP2 := (hP.trans (Push.of_ext x.ext)).trans (Push.of_ext ((Ext.refl _).alloc (.cells #[.int .i64 day, .bool true] 45)))
    clear q1 q2 hO2 hO hX hgrow hown1 hP
    go_wp2
    refine NoPanic.normal ?_
    go_end0
    exact ⟨rfl, _, by simpa [moonsOut, moonCells_append, moonCells] using hpush.1, hP2.trans hpush.2⟩
end Go.Proofs.YtimkmokomohgjaaGreat
namespace Go.Proofs.YtimkmokomohgjaaGreat
open Go.RowKit Go.Shelf
open Sp (rd)
attribute [local go_sem] Oper.semAt_some
/-- The world behind the call of days. -/
def daysW (A : Option Addr) (n c : Nat) (s : Sp.Sky) (lo hi : Int) (w : World) : World :=
  ((w.alloc (.cells #[.slice A n c, .int .i64 s.nnum, .int .i64 s.nden, .int .i64 s.nstart] 28)).alloc (.cells #[.int .i64 lo] 3)).alloc (.cells #[.int .i64 hi] 3)
theorem daysW_size (A : Option Addr) (n c : Nat) (s : Sp.Sky) (lo hi : Int) (w : World) : (daysW A n c s lo hi w).heap.size = w.heap.size + 3 := by simp [daysW]
theorem daysW_ext (A : Option Addr) (n c : Nat) (s : Sp.Sky) (lo hi : Int) (w : World) : Ext w (daysW A n c s lo hi w) := (((Ext.refl w).alloc _).alloc _).alloc _
theorem daysW_S (A : Option Addr) (n c : Nat) (s : Sp.Sky) (lo hi : Int) (w : World) : Row (daysW A n c s lo hi w) w.heap.size 28 #[.slice A n c, .int .i64 s.nnum, .int .i64 s.nden, .int .i64 s.nstart] := (blocks3 w _ _ _).1
theorem daysW_F (A : Option Addr) (n c : Nat) (s : Sp.Sky) (lo hi : Int) (w : World) : Row (daysW A n c s lo hi w) (w.heap.size + 1) 3 #[.int .i64 lo] := (blocks3 w _ _ _).2.1
theorem daysW_T (A : Option Addr) (n c : Nat) (s : Sp.Sky) (lo hi : Int) (w : World) : Row (daysW A n c s lo hi w) (w.heap.size + 2) 3 #[.int .i64 hi] := (blocks3 w _ _ _).2.2
attribute [irreducible] daysW
def daysV (b : Nat) : Value := .func (.func 103) #[] #[.pointer (some ⟨b + 1, 0, none⟩), .pointer (some ⟨b + 2, 0, none⟩), .pointer (some ⟨b, 0, none⟩)]
theorem days_any (A : Option Addr) (n c : Nat) (s : Sp.Sky) (lo hi : Int) (w : World) :
    Calls Tryz.prog 48 #[.agg #[.slice A n c, .int .i64 s.nnum, .int .i64 s.nden, .int .i64 s.nstart], .int .i64 lo, .int .i64 hi] w fun e w' => e = .returned (daysV w.heap.size) ∧ w' = daysW A n c s lo hi w := by
  have hmf : ∀ fn first cap w, (Instr.makeFunc fn first cap).run Tryz.prog w = .ok (.func fn first cap) w := fun _ _ _ _ => rfl
  go_enter Tryz.func48, Tryz.ntmps48
  go_wp2_with fail
  go_ret
  exact ⟨rfl, by unfold daysW; rfl⟩
def DaysAll (lo hi : Int) (xs : List Day1) : Prop := xs.map Subtype.val = daysL lo (hi + 1 - lo).toNat
def DaysSome (lo hi : Int) (pre : List Day1) : Prop := ∃ k, k ≤ (hi + 1 - lo).toNat ∧ pre.map Subtype.val = daysL lo k
theorem days_stops (n : Nat) (hn : 1 ≤ n) (A : Option Addr) (m c : Nat) (s : Sp.Sky) (lo hi : Int) (h1 : 1 ≤ lo) (h2 : hi ≤ 20000) (b : Nat) (w : World) (hS : Row w b 28 #[.slice A m c, .int .i64 s.nnum, .int .i64 s.nden, .int .i64 s.nstart])
    (hF : Row w (b + 1) 3 #[.int .i64 lo]) (hT : Row w (b + 2) 3 #[.int .i64 hi]) :
    SeqStopsK Fence.wide n Tryz.prog 103 #[.pointer (some ⟨b + 1, 0, none⟩), .pointer (some ⟨b + 2, 0, none⟩), .pointer (some ⟨b, 0, none⟩)] (fun x : Day1 => #[skyV A m c s x.1]) (KeepsTwo (b + 2) b) (DaysAll lo hi) (DaysSome lo hi) (hi + 1 - lo).toNat w := fun l J Jx W hW _ _ hY h0 =>
  days1_in n hn l (b + 1) (b + 2) b A m c s lo hi J Jx h1 h2 hY W (hF.ext hW) (hT.ext hW) (hS.ext hW) h0
theorem keepsTwo_t (bT bS : Nat) {A B C : World} (h : KeepsTwo bT bS A B) (k : KeepsTwo bT bS B C) : KeepsTwo bT bS A C := ⟨k.1.trans h.1, k.2.trans h.2⟩
theorem keepsTwo_b {bT bS B : Nat} (h1 : bT < B) (h2 : bS < B) (W : World) (l : Nat) (_o o' : Obj) (hl : B ≤ l) (_ : W.heap[l]? = some _o) (_ : _o.isCells = false) (_ : _o.isWalk = false) : KeepsTwo bT bS W (W.putObj l o') :=
  ⟨World.putObj_heap_other (by omega), World.putObj_heap_other (by omega)⟩
/-- What is cells is no loop's record. -/
theorem row_ne_of_other {W : World} {g : Nat} {t : TypeId} {cs : Array Value} (h : Row W g t cs) {row : Option Nat} (hrow : ∀ r, row = some r → ∃ o : Obj, W.heap[r]? = some o ∧ o.isCells = false) : some g ≠ row := by
  intro e
  obtain ⟨o, ho, hc⟩ := hrow g e.symm
  unfold Row at h
  rw [h] at ho; cases ho; cases hc
theorem Row.kept {W W' : World} {g : Nat} {t : TypeId} {cs : Array Value} (h : Row W g t cs) {row : Option Nat} (hg : W.grownBy W' row) (hrow : ∀ r, row = some r → ∃ o : Obj, W.heap[r]? = some o ∧ o.isCells = false) : Row W' g t cs :=
  (hg.block g h.lt (row_ne_of_other h hrow)).trans h
theorem own_ne_of_other {W : World} {base : Nat} {e : TypeId} {size : Nat} {v : Value} {n : Nat} {xs : List Value} (h : W.ownsRow base e size v n xs) {row : Option Nat} (hrow : ∀ r, row = some r → ∃ o : Obj, W.heap[r]? = some o ∧ o.isCells = false) {k : Nat} (hk : v.ownBlock = some k) : some k ≠ row := by
  intro e'
  obtain ⟨o, ho, hc⟩ := hrow k e'.symm
  rcases h.2 with ⟨rfl, _⟩ | ⟨g, cap, cur, rfl, _, hh, _⟩
  · cases hk
  · simp only [Value.ownBlock, Option.some.injEq] at hk
    subst hk
    rw [hh] at ho; cases ho; cases hc
theorem Out.kept {W W' : World} {base bO : Nat} {ty e : TypeId} {size : Nat} {v : Value} {n : Nat} {xs : List Value} (h : Out W base bO ty e size v n xs) {row : Option Nat} (hg : W.grownBy W' row) (hrow : ∀ r, row = some r → ∃ o : Obj, W.heap[r]? = some o ∧ o.isCells = false) : Out W' base bO ty e size v n xs :=
  ⟨h.box.kept hg hrow, ownsRow_of_block h.own fun k hk => hg.block k (h.own.lt k hk).2 (own_ne_of_other h.own hrow hk), h.ne⟩
/-- A row of another type is not the list's own. -/
theorem Out.far {W : World} {base bO : Nat} {ty e : TypeId} {size : Nat} {v : Value} {n : Nat} {xs : List Value} (h : Out W base bO ty e size v n xs) {g : Nat} {t : TypeId} {cs : Array Value} (hr : Row W g t cs) (ht : t ≠ e) : v.ownBlock ≠ some g := by
  rcases h.own.2 with ⟨rfl, _⟩ | ⟨g', cap, cur, rfl, _, hh, _⟩
  · simp [Value.ownBlock]
  · simp only [Value.ownBlock, ne_eq, Option.some.injEq]
    rintro rfl
    unfold Row at hr
    rw [hr] at hh; cases hh; exact ht rfl
theorem Out.nbox {W : World} {base bO : Nat} {ty e : TypeId} {size : Nat} {v : Value} {n : Nat} {xs : List Value} (h : Out W base bO ty e size v n xs) {g : Nat} {t : TypeId} {cs : Array Value} (hr : Row W g t cs) (ht : t ≠ ty) : g ≠ bO := by
  rintro rfl
  have hb := h.box
  unfold Row at hr hb
  rw [hr] at hb; cases hb; exact ht rfl
/-- What a push leaves is enough for a round. -/
theorem Push.keepsFrom {W W' : World} {base bO : Nat} {ty e : TypeId} {size : Nat} {v v' : Value} {n : Nat} {xs : List Value} (h : Out W base bO ty e size v n xs) (hp : Push bO v v' W W') (B : Nat) : KeepsFrom B W W' := by
  refine ⟨hp.size, fun k o _ hk hc => ?_⟩
  have h1 : k ≠ bO := by
    rintro rfl
    have hb := h.box
    unfold Row at hb
    rw [hb] at hk; cases hk; cases hc
  have h2 : v.ownBlock ≠ some k := by
    rcases h.own.2 with ⟨rfl, _⟩ | ⟨g', cap, cur, rfl, _, hh, _⟩
    · simp [Value.ownBlock]
    · simp only [Value.ownBlock, ne_eq, Option.some.injEq]
      rintro rfl
      rw [hh] at hk; cases hk; cases hc
  exact (hp.block k (Array.getElem?_eq_some_iff.1 hk).1 h1 h2).1.trans hk
/-- What lies below the list's rows and is not its box is as it was. -/
theorem Push.old {W W' : World} {base bO : Nat} {ty e : TypeId} {size : Nat} {v v' : Value} {n : Nat} {xs : List Value} (h : Out W base bO ty e size v n xs) (hp : Push bO v v' W W') {k : Nat} (hk : k < base) (hl : base ≤ W.heap.size) (hb : k ≠ bO) : W'.heap[k]? = W.heap[k]? :=
  (hp.block k (by omega) hb (fun e => by have := (h.own.lt k e).1; omega)).1
theorem Push.below {W W' : World} {base bO : Nat} {ty e : TypeId} {size : Nat} {v v' : Value} {n : Nat} {xs : List Value} (h : Out W base bO ty e size v n xs) (hp : Push bO v v' W W') {N : Nat} (hk : N ≤ bO) (hl : bO ≤ base) (hl' : base ≤ W.heap.size) : Below N W W' :=
  ⟨hp.os, hp.tape, hp.output, hp.size, fun k hk' => Push.old h hp (by omega) hl' (by omega)⟩
end Go.Proofs.YtimkmokomohgjaaGreat
namespace Go.Proofs.YtimkmokomohgjaaGreat
open Go.RowKit Go.Shelf
open Sp (rd)
attribute [local go_sem] Oper.semAt_some
def MoonsI (w : World) (s : Sp.Sky) (pre : List Day1) (W : World) : Prop := (∃ v, moonsOut W (w.heap.size + 5) (w.heap.size + 1) v (pre.flatMap fun x => Sp.dayMoons s x.1)) ∧ (Below w.heap.size w W ∧ w.heap.size + 5 ≤ W.heap.size)
theorem moonsI_own (w : World) (s : Sp.Sky) (B : Nat) (hB : w.heap.size ≤ B) : OwnFrom B (MoonsI w s) := fun _ _ _ _ ⟨⟨v, h⟩, hb, hz⟩ hg hr =>
  ⟨⟨v, h.kept hg fun r e => (hr r e).2⟩, hb.grown hg hb.size (fun k e => Nat.le_trans hB (hr k e).1), Nat.le_trans hz hg.size⟩
theorem moons_le (s : Sp.Sky) (pre : List Day1) : (pre.flatMap fun x => Sp.dayMoons s x.1).length ≤ 2 * pre.length := by
  induction pre with
  | nil => simp
  | cons x l ih =>
    simp only [List.flatMap_cons, List.length_append, List.length_cons]
    have : (Sp.dayMoons s x.1).length ≤ 2 := by
      unfold Sp.dayMoons
      split <;> split <;> simp
    omega
theorem moonsN_flat (s : Sp.Sky) (lo : Int) (k : Nat) : (daysL lo k).flatMap (Sp.dayMoons s) = Sp.moonsN s lo k := by
  induction k with
  | zero => simp [daysL, Sp.moonsN]
  | succ k ih => rw [daysL_succ, List.flatMap_append, ih]; simp [Sp.moonsN]
theorem moons_all (s : Sp.Sky) (lo hi : Int) (xs : List Day1) (h : DaysAll lo hi xs) : (xs.flatMap fun x => Sp.dayMoons s x.1) = Sp.moonsL s lo hi := by
  unfold DaysAll at h
  unfold Sp.moonsL
  rw [← moonsN_flat, ← h, List.flatMap_map]
theorem Ext.trans' {w w1 w2 : World} (h : Ext w w1) (k : Below w.heap.size w1 w2) : Ext w w2 := Below.trans h k
set_option maxRecDepth 100000 in
set_option maxHeartbeats 400000 in
theorem moons_in (n : Nat) (hn : 6 ≤ n) (s : Sp.Sky) (A : Option Addr) (c : Nat) (lo hi : Int) (w : World) (hs : SkyOk s) (hm : Bodies w A s.bodies) (h1 : 1 ≤ lo) (h2 : hi ≤ 20000) (h3 : hi - lo ≤ 800) :
    CallsIn Fence.wide n Tryz.prog 55 #[.agg #[.slice A s.bodies.length c, .int .i64 s.nnum, .int .i64 s.nden, .int .i64 s.nstart], .int .i64 lo, .int .i64 hi] w fun e w' =>
      ∃ v base, e = .returned v ∧ w.heap.size < base ∧ w'.ownsRow base 45 2 v (Sp.moonsL s lo hi).length (moonCells (Sp.moonsL s lo hi)) ∧ Ext w w' := by
  have hmf : ∀ fn first cap w, (Instr.makeFunc fn first cap).run Tryz.prog w = .ok (.func fn first cap) w := fun _ _ _ _ => rfl
  refine callsIn_of_wp_marks Tryz.func55 rfl trivial ?_ rfl
  simp only [Tryz.ntmps55, List.size_toArray, List.length_cons, List.length_nil, Nat.reduceAdd, Nat.reduceSub, Array.replicate_succ, Array.replicate_zero, List.push_toArray, List.append_toArray, List.nil_append, List.cons_append]
  gi_wp2
  refine ⟨trivial, fun _ => by omega, (callsIn_wide.2 (days_any A _ c s lo hi _)).mono ?_⟩
  rintro e w' ⟨rfl, rfl⟩
  gi_wp2
  have bO := (Out.new (w.alloc (.cells #[.slice A s.bodies.length c, .int .i64 s.nnum, .int .i64 s.nden, .int .i64 s.nstart] 28)) (w.heap.size + 5) 41 45 2)
  have hE : Ext w ((w.alloc (.cells #[.slice A s.bodies.length c, .int .i64 s.nnum, .int .i64 s.nden, .int .i64 s.nstart] 28)).alloc (.cells #[.slice none 0 0] 41)) := ((Ext.refl w).alloc _).alloc _
  obtain ⟨W1, hW1⟩ : ∃ W1, (w.alloc (.cells #[.slice A s.bodies.length c, .int .i64 s.nnum, .int .i64 s.nden, .int .i64 s.nstart] 28)).alloc (.cells #[.slice none 0 0] 41) = W1 := ⟨_, rfl⟩
  have hsz1 : W1.heap.size = w.heap.size + 1 + 1 := by rw [← hW1]; simp
  rw [hW1] at bO hE ⊢
  clear hW1
  simp only [World.size_alloc] at bO
  have rS := daysW_S A s.bodies.length c s lo hi W1
  have rF := daysW_F A s.bodies.length c s lo hi W1
  have rT := daysW_T A s.bodies.length c s lo hi W1
  have hsz := daysW_size A s.bodies.length c s lo hi W1
  replace bO := bO.ext (daysW_ext A s.bodies.length c s lo hi W1)
  replace hE := hE.trans (daysW_ext A s.bodies.length c s lo hi W1)
  obtain ⟨W0, hW0⟩ : ∃ W0, daysW A s.bodies.length c s lo hi W1 = W0 := ⟨_, rfl⟩
  rw [hW0] at bO hE rS rF rT hsz ⊢
  clear hW0
  rw [hsz1] at rS rF rT hsz
  have HM := Lib.hid hm
  have HS := Lib.hid hs
  clear hm hs
  refine wpIn_rangeFunc_ownH rfl (by omega) (gf := 103) (lb := #[.pointer (some ⟨w.heap.size + 1 + 1 + 1, 0, none⟩), .pointer (some ⟨w.heap.size + 1 + 1 + 2, 0, none⟩), .pointer (some ⟨w.heap.size + 1 + 1, 0, none⟩)]) rfl trivial (enters_of Tryz.func103 (by kernel_rfl) rfl)
    (days_stops (n - 1) (by omega) A s.bodies.length c s lo hi h1 h2 (w.heap.size + 1 + 1) W0 rS rF rT) (fun h k => keepsTwo_t _ _ h k) (keepsTwo_b (by omega) (by omega)) (Below.refl _ _) (fun _ => rfl)
    (MoonsI w s)
    (fun _ _ _ => False)
    (moonsI_own w s _ (by omega))
    (fun _ _ _ _ _ hs _ _ => hs)
    ⟨⟨_, bO⟩, hE, by omega⟩
    (fun x a' W => ∃ Bx, Row W Bx 115 #[.slice A s.bodies.length c, .int .i64 s.nnum, .int .i64 s.nden, .int .i64 s.nstart, .int .i64 x.1] ∧ a' = (⟨#[.agg #[.slice A s.bodies.length c, .int .i64 s.nnum, .int .i64 s.nden, .int .i64 s.nstart], .int .i64 lo, .int .i64 hi, .pointer (some ⟨w.heap.size, 0, none⟩), undef, undef, .slice none 0 0, .pointer (some ⟨w.heap.size + 1, 0, none⟩), .pointer (some ⟨Bx, 0, none⟩), undef, .agg #[.slice A s.bodies.length c, .int .i64 s.nnum, .int .i64 s.nden, .int .i64 s.nstart], .int .i64 lo, .int .i64 hi, daysV (w.heap.size + 1 + 1), (.agg #[.slice A s.bodies.length c, .int .i64 s.nnum, .int .i64 s.nden, .int .i64 s.nstart, .int .i64 x.1]), undef, undef, undef, undef, undef, undef, undef, undef, undef, undef], []⟩ : Act))
    (fun x a' _ X Y row hs hg hr => by obtain ⟨Bx, h1, h2⟩ := hs; exact ⟨Bx, h1.kept hg fun r e => (hr r e).2, h2⟩)
    ?assign ?body ?done ?stop
  case assign =>
    rintro l pre x W K hi hK
    simp only [skyV]
    gi_wp2
    obtain ⟨⟨v, hO⟩, hB, hz⟩ := hi
    exact hK _ _ ((KeepsOthers.alloc _ _).from _) ⟨Below.heap_alloc _ _ _ (by omega), Below.heap_alloc _ _ _ (by omega)⟩ ⟨⟨v, hO.ext ((Ext.refl _).alloc _)⟩, hB.alloc hB.size _, by simp; omega⟩ ⟨_, Row.new _ _ _, rfl⟩
  case body =>
    rintro l pre x a' W hl ⟨r, hr⟩ ⟨⟨v, hO⟩, hB, hz⟩ ⟨Bx, rX, rfl⟩ hlt
    have hl2 := moons_le s pre
    have hx := x.2
    have hne1 := hO.nbox rX (by decide)
    have hne2 := hO.far rX (by decide)
    have hE1 : Ext w W := hB
    have HE := Lib.hid hE1
    have hlen : pre.length < 801 := by omega
    clear hE1 hB
    gi_wp2
    refine ⟨trivial, fun _ => by omega, CallsIn.inRound l ((callsIn_wide.2 (look_new (w.heap.size + 5) Bx (w.heap.size + 1) s A c x.1 W HS.out (HM.out.ext HE.out) hx.1 hx.2 rX v _ hO hz (by omega))).mono ?_)⟩
    rintro e W2 ⟨rfl, v2, hO2, hP2⟩
    gi_wp2
    have rX2 := hP2.row rX hne1 hne2
    have hB2 : Ext w W2 := HE.out.trans' (hP2.below hO (N := w.heap.size) (by omega) (by omega) hz)
    refine ⟨trivial, fun _ => by omega, CallsIn.inRound l ((callsIn_wide.2 (look_full (w.heap.size + 5) Bx (w.heap.size + 1) s A c x.1 W2 HS.out (HM.out.ext hB2) hx.1 hx.2 rX2 v2 _ hO2 (Nat.le_trans hz hP2.size) (by rw [List.length_append]; split <;> (simp only [List.length_cons, List.length_nil]; omega)))).mono ?_)⟩
    rintro e W3 ⟨rfl, v3, hO3, hP3⟩
    gi_wp2
    have hP := hP2.trans hP3
    refine ⟨Push.keepsFrom hO hP _, ⟨Push.old hO hP (by omega) hz (by omega), Push.old hO hP (by omega) hz (by omega)⟩, ⟨v3, ?_⟩, HE.out.trans' (hP.below hO (N := w.heap.size) (by omega) (by omega) hz), Nat.le_trans hz hP.size⟩
    simpa [Sp.dayMoons, List.flatMap_append] using hO3
  case done =>
    rintro D xs W hD hS ⟨⟨v, hO⟩, hB, hz⟩ hK
    have cO := hO.box.cell 0
    simp only [List.getElem?_toArray, List.getElem?_cons_zero] at cO
    gi_wp2
    refine ⟨by simp, .inl ⟨_, _, rfl, run_takeDeferred hK, ?_⟩⟩
    refine ⟨_, results_tmp rfl _ _ _, v, w.heap.size + 5, rfl, by omega, ?_, ?_⟩
    · have := (hO.kept (grownBy_putObj' W D (.deferred none)) (fun r e => by cases e; exact ⟨_, hK, rfl⟩)).own
      rwa [moons_all s lo hi xs hS] at this
    · exact hB.grown (grownBy_putObj' W D (.deferred none)) hB.size (fun k e => by cases e; omega)
  case stop =>
    rintro D c' pre W _ _ h _
    exact h.elim
theorem moons_any (s : Sp.Sky) (A : Option Addr) (c : Nat) (lo hi : Int) (w : World) (hs : SkyOk s) (hm : Bodies w A s.bodies) (h1 : 1 ≤ lo) (h2 : hi ≤ 20000) (h3 : hi - lo ≤ 800) :
    Calls Tryz.prog 55 #[.agg #[.slice A s.bodies.length c, .int .i64 s.nnum, .int .i64 s.nden, .int .i64 s.nstart], .int .i64 lo, .int .i64 hi] w fun e w' =>
      ∃ v base, e = .returned v ∧ w.heap.size < base ∧ w'.ownsRow base 45 2 v (Sp.moonsL s lo hi).length (moonCells (Sp.moonsL s lo hi)) ∧ Ext w w' :=
  callsIn_wide.1 (moons_in 6 (Nat.le_refl _) s A c lo hi w hs hm h1 h2 h3)
end Go.Proofs.YtimkmokomohgjaaGreat
namespace Go.Proofs.YtimkmokomohgjaaGreat
open Go.RowKit
open Sp (rd)
/-- A list of moons in memory. -/
def MoonsVal (w : World) (v : Value) (l : List (Int × Bool)) : Prop := ∃ A c, v = .slice A l.length c ∧
  (0 < l.length → ∃ b o, A = some ⟨b, o, none⟩ ∧ ∀ k, (hk : k < l.length) → w.cell? ⟨b, o + k * 2, none⟩ = some (.int .i64 l[k].1) ∧ w.cell? ⟨b, o + k * 2 + 1, none⟩ = some (.bool l[k].2))
theorem MoonsVal.ext {w w' : World} {v : Value} {l : List (Int × Bool)} (h : MoonsVal w v l) (he : Ext w w') : MoonsVal w' v l :=
  let ⟨A, c, e, hc⟩ := h
  ⟨A, c, e, fun h0 => let ⟨b, o, e2, hk⟩ := hc h0; ⟨b, o, e2, fun k hk' => ⟨he.cell (hk k hk').1, he.cell (hk k hk').2⟩⟩⟩
theorem add0 (g j : Nat) : (⟨g, 0, none⟩ : Addr).add j = ⟨g, j, none⟩ := by
  unfold Addr.add
  split <;> simp_all
theorem moonCells_get (l : List (Int × Bool)) : ∀ k (hk : k < l.length), (moonCells l)[k * 2]? = some (.int .i64 l[k].1) ∧ (moonCells l)[k * 2 + 1]? = some (.bool l[k].2) := by
  induction l with
  | nil => intro k hk; simp at hk
  | cons m l ih =>
    intro k hk
    cases k with
    | zero => simp [moonCells]
    | succ k =>
      have := ih k (by simpa using hk)
      simp only [moonCells, List.flatMap_cons] at this ⊢
      rw [show (k + 1) * 2 = k * 2 + 2 by omega]
      simpa using this
theorem MoonsVal.of_own {w : World} {base : Nat} {v : Value} {l : List (Int × Bool)} (h : w.ownsRow base 45 2 v l.length (moonCells l)) : MoonsVal w v l := by
  rcases h.2 with ⟨rfl, h0⟩ | ⟨g, cap, cur, hv, _⟩
  · exact ⟨none, 0, by rw [h0], fun hh => by omega⟩
  · refine ⟨some ⟨g, 0, none⟩, cap, hv, fun _ => ⟨g, 0, rfl, fun k hk => ?_⟩⟩
    have hc := h.cells (g := g) (by rw [hv]; rfl)
    have h1 := hc _ _ (moonCells_get l k hk).1
    have h2 := hc _ _ (moonCells_get l k hk).2
    rw [add0] at h1 h2
    exact ⟨by simpa using h1, by simpa using h2⟩
theorem span_of {lo hi : Int} (h : Sp.isSpan lo hi = true) : 1 ≤ lo ∧ lo ≤ hi ∧ hi ≤ 20000 ∧ hi - lo ≤ 800 := by
  simp only [Sp.isSpan, Bool.and_eq_true, decide_eq_true_eq] at h
  have h1 := inR_iff.1 h.1
  have h2 := inR_iff.1 h.2.1
  omega
end Go.Proofs.YtimkmokomohgjaaGreat
namespace Go.Proofs.YtimkmokomohgjaaGreat
open Go.RowKit
open Sp (rd)
def eclCells (l : List Sp.Ecl) : List Value := l.flatMap fun m => [.int .i64 m.day, .bool m.full, .int .i64 m.far]
theorem eclCells_append (l m : List Sp.Ecl) : eclCells (l ++ m) = eclCells l ++ eclCells m := by simp [eclCells]
theorem eclsOf_append (s : Sp.Sky) (nw fl : Int) (l : List (Int × Bool)) (m : Int × Bool) : Sp.eclsOf s nw fl (l ++ [m]) = Sp.eclsOf s nw fl l ++ Sp.eclOf s nw fl m := by
  induction l with
  | nil => simp [Sp.eclsOf]
  | cons x l ih => simp [Sp.eclsOf, ih]
theorem eclOf_le (s : Sp.Sky) (nw fl : Int) (m : Int × Bool) : (Sp.eclOf s nw fl m).length ≤ 1 := by
  unfold Sp.eclOf
  by_cases h : Sp.far s m.1 ≤ (if m.2 = true then fl else nw)
  · rw [if_pos h]; exact Nat.le_refl _
  · rw [if_neg h]; exact Nat.zero_le _
theorem ecls_le (s : Sp.Sky) (nw fl : Int) (l : List (Int × Bool)) : (Sp.eclsOf s nw fl l).length ≤ l.length := by
  induction l with
  | nil => simp [Sp.eclsOf]
  | cons x l ih =>
    have := eclOf_le s nw fl x
    simp only [Sp.eclsOf, List.length_append, List.length_cons]
    omega
theorem moonsN_le (s : Sp.Sky) (lo : Int) (k : Nat) : (Sp.moonsN s lo k).length ≤ 2 * k := by
  induction k with
  | zero => simp [Sp.moonsN]
  | succ k ih =>
    have : (Sp.dayMoons s (lo + (k : Nat))).length ≤ 2 := by
      unfold Sp.dayMoons
      split <;> split <;> simp
    simp only [Sp.moonsN, List.length_append]
    omega
theorem moonsN_days (s : Sp.Sky) (lo : Int) (k : Nat) : ∀ m ∈ Sp.moonsN s lo k, lo ≤ m.1 ∧ m.1 < lo + k := by
  induction k with
  | zero => intro m hm; simp [Sp.moonsN] at hm
  | succ k ih =>
    intro m hm
    simp only [Sp.moonsN, List.mem_append] at hm
    rcases hm with hm | hm
    · have := ih m hm
      omega
    · have hd : m.1 = lo + (k : Nat) := by
        unfold Sp.dayMoons at hm
        simp only [List.mem_append] at hm
        rcases hm with hm | hm <;> split at hm <;> simp at hm <;> rw [hm]
      omega
theorem info_ecl : (Tryz.prog.info? 156).map (fun i => (i.zero, i.size, i.bytes)) = some (some (.agg #[.int .i64 0, .bool false, .int .i64 0]), 3, 24) := by kernel_rfl
/-- A list of eclipses in memory. -/
def EclVal (w : World) (v : Value) (l : List Sp.Ecl) : Prop := ∃ A c, v = .slice A l.length c ∧
  (0 < l.length → ∃ b o, A = some ⟨b, o, none⟩ ∧ ∀ k, (hk : k < l.length) → w.cell? ⟨b, o + k * 3, none⟩ = some (.int .i64 l[k].day) ∧ w.cell? ⟨b, o + k * 3 + 1, none⟩ = some (.bool l[k].full) ∧ w.cell? ⟨b, o + k * 3 + 2, none⟩ = some (.int .i64 l[k].far))
theorem EclVal.ext {w w' : World} {v : Value} {l : List Sp.Ecl} (h : EclVal w v l) (he : Ext w w') : EclVal w' v l :=
  let ⟨A, c, e, hc⟩ := h
  ⟨A, c, e, fun h0 => let ⟨b, o, e2, hk⟩ := hc h0; ⟨b, o, e2, fun k hk' => ⟨he.cell (hk k hk').1, he.cell (hk k hk').2.1, he.cell (hk k hk').2.2⟩⟩⟩
theorem eclCells_get (l : List Sp.Ecl) : ∀ k (hk : k < l.length), (eclCells l)[k * 3]? = some (.int .i64 l[k].day) ∧ (eclCells l)[k * 3 + 1]? = some (.bool l[k].full) ∧ (eclCells l)[k * 3 + 2]? = some (.int .i64 l[k].far) := by
  induction l with
  | nil => intro k hk; simp at hk
  | cons m l ih =>
    intro k hk
    cases k with
    | zero => simp [eclCells]
    | succ k =>
      have := ih k (by simpa using hk)
      simp only [eclCells, List.flatMap_cons] at this ⊢
      rw [show (k + 1) * 3 = k * 3 + 3 by omega]
      simpa using this
theorem EclVal.of_own {w : World} {base : Nat} {v : Value} {l : List Sp.Ecl} (h : w.ownsRow base 156 3 v l.length (eclCells l)) : EclVal w v l := by
  rcases h.2 with ⟨rfl, h0⟩ | ⟨g, cap, cur, hv, _⟩
  · exact ⟨none, 0, by rw [h0], fun hh => by omega⟩
  · refine ⟨some ⟨g, 0, none⟩, cap, hv, fun _ => ⟨g, 0, rfl, fun k hk => ?_⟩⟩
    have hc := h.cells (g := g) (by rw [hv]; rfl)
    have h1 := hc _ _ (eclCells_get l k hk).1
    have h2 := hc _ _ (eclCells_get l k hk).2.1
    have h3 := hc _ _ (eclCells_get l k hk).2.2
    rw [add0] at h1 h2 h3
    exact ⟨by simpa using h1, by simpa using h2, by simpa using h3⟩
theorem limit_of {n : Int} (h : Sp.isLimit n = true) : 0 ≤ n ∧ n ≤ 5400 := inR_iff.1 h
/-- Between two rounds. -/
def EclRel (w : World) (s : Sp.Sky) (nw fl : Int) (l : List (Int × Bool)) (v d : Value) (wr : World) : Prop :=
  ∃ k : Nat, k ≤ l.length ∧ d = .int .i64 k ∧ wr.ownsRow w.heap.size 156 3 v (Sp.eclsOf s nw fl (l.take k)).length (eclCells (Sp.eclsOf s nw fl (l.take k))) ∧ Ext w wr
set_option maxHeartbeats 1000000
set_option maxRecDepth 100000
theorem Ecl_ok (s : Sp.Sky) (A : Option Addr) (c : Nat) (nw fl lo hi : Int) (w : World) (hm : Bodies w A s.bodies) (hl : Short s.bodies)  (c0 : Sp.skyOk s = true) (c1 : Sp.isLimit nw = true) (c2 : Sp.isLimit fl = true) (c3 : Sp.isSpan lo hi = true) :
    Calls Tryz.prog 140 #[.agg #[.slice A s.bodies.length c, .int .i64 s.nnum, .int .i64 s.nden, .int .i64 s.nstart], .int .i64 nw, .int .i64 fl, .int .i64 lo, .int .i64 hi] w fun e w' => ∃ v, e = .returned (.tuple #[v, .int .i64 0]) ∧ EclVal w' v (Sp.ecls s nw fl lo hi) ∧ Ext w w' := by
  have hl1 := hl.1
  have HL := Lib.hid hl
  have HM := Lib.hid hm
  clear hm hl
  go_enter Tryz.func140, Tryz.ntmps140
  go_wp2_with fail
  refine (isSky_any s A c _ (HM.out.ext ((Ext.refl w).alloc _)) HL.out).mono ?_
  rintro e w1 ⟨rfl, hE1⟩
  have hE := ((Ext.refl w).alloc _).trans hE1
  have hr : Row w1 w.heap.size 28 _ := (Row.new w _ _).ext hE1
  have b0 := hr.cell
  clear hE1
  go_wp2_with fail
  refine (isLimit_any nw _).mono ?_
  rintro e w0 ⟨rfl, rfl⟩
  go_wp2_with fail
  refine (isLimit_any fl _).mono ?_
  rintro e w0 ⟨rfl, rfl⟩
  go_wp2_with fail
  refine (isSpan_any lo hi _).mono ?_
  rintro e w0 ⟨rfl, rfl⟩
  have HK := Lib.hid (skyOk_iff.1 c0)
  obtain ⟨d1, d2, d3, d4⟩ := span_of c3
  obtain ⟨e1, e2⟩ := limit_of c1
  obtain ⟨e3, e4⟩ := limit_of c2
  obtain ⟨i0, hi0, hi1, hi2, hi3⟩ := info_parts info_ecl
  go_wp2_with fail
  refine (moons_any s A c lo hi _ HK.out (HM.out.ext hE) d1 d3 d4).mono ?_
  rintro e w2 ⟨v, base, rfl, _, hown, hE1⟩
  have hv := MoonsVal.of_own hown
  have hll := moonsN_le s lo (hi + 1 - lo).toNat
  have HD := Lib.hid (moonsN_days s lo (hi + 1 - lo).toNat)
  obtain ⟨l, hL⟩ : ∃ l, Sp.moonsL s lo hi = l := ⟨_, rfl⟩
  rw [show Sp.moonsN s lo (hi + 1 - lo).toNat = l from hL] at hll HD
  have hEq : Sp.ecls s nw fl lo hi = Sp.eclsOf s nw fl l := by rw [← hL]; rfl
  rw [hL] at hv
  obtain ⟨AM, cM, rfl, hc⟩ := hv
  replace hE := hE.trans hE1
  replace hr := hr.ext hE1
  clear hE1 hown b0
  have HC := Lib.hid hc
  have HQ := Lib.hid hEq
  have HE := Lib.hid hE
  have hz := hE.size
  clear hc hEq hL hE
  go_wp2_with fail
  go_loopw [12, 41] (fun v d wr => EclRel w2 s nw fl l v d wr) (fun _ d _ => l.length - (intOf d).toNat)
  case atStart => exact ⟨0, Nat.zero_le _, rfl, by simp [Sp.eclsOf, eclCells, World.ownsRow], Ext.refl _⟩
  case round =>
    obtain ⟨k, hk, rfl, hown, hE⟩ := hrel
    have HE2 := Lib.hid hE
    have hz2 := hE.size
    have b0 := (hr.ext hE).cell
    by_cases hlt : k < l.length
    · have hle := ecls_le s nw fl (l.take k)
      rw [List.length_take] at hle
      have htake : l.take (k + 1) = l.take k ++ [l[k]] := by rw [List.take_succ_eq_append_getElem hlt]
      have hday := HD.out l[k] (List.getElem_mem hlt)
      have hcc := HC.out (by omega)
      obtain ⟨b, o, rfl, hcell⟩ := hcc
      obtain ⟨q1, q2⟩ := hcell k hlt
      replace q1 := hE.cell q1
      replace q2 := hE.cell q2
      have hnext : Sp.eclsOf s nw fl (l.take (k + 1)) = Sp.eclsOf s nw fl (l.take k) ++ Sp.eclOf s nw fl l[k] := by rw [htake, eclsOf_append]
      obtain ⟨L, hL⟩ : ∃ L, Sp.eclsOf s nw fl (l.take k) = L := ⟨_, rfl⟩
      rw [hL] at hown hle hnext
      have HN := Lib.hid hnext
      obtain ⟨m, hm⟩ : ∃ m, l[k] = m := ⟨_, rfl⟩
      rw [hm] at q1 q2 hday HN
      clear hE hcell htake hnext hL hm
      obtain ⟨md, mf⟩ := m
      simp only at q1 q2 hday
      have j1 := lts (lt_of_cell q1)
      have j0 := lts (show w.heap.size < wr.heap.size by have := hr.lt; omega)
      have HO := Lib.hid hown
      cases mf
      · go_wp2_with fail
        refine (far_any s A c md _ HK.out (HM.out.ext ((HE.out.trans HE2.out).alloc _)) (by omega) (by omega)).mono ?_
        rintro e w3 ⟨rfl, hE3⟩
        have n3 := ((Row.new wr 45 #[.int .i64 md, .bool false]).ext hE3).cell
        have HE3 := Lib.hid hE3
        have hz3 := hE3.size
        rw [World.size_alloc] at hz3
        clear b0 q1 q2
        have hown3 := ownsRow_of_block (hown.alloc (.cells #[.int .i64 md, .bool false] 45)) (fun g hg => hE3.block g ((hown.alloc _).lt g hg).2)
        clear hown hE3
        by_cases hf : Sp.far s md ≤ nw <;> have HF := Lib.hid hf
        · have hown4 := hown3.alloc (.cells #[.int .i64 md, .bool false, .int .i64 (Sp.far s md)] 156)
          have HO4 := Lib.hid hown4
          go_wp2_with (at_builtin; refine wpList_append_lies _ rfl _ _ 92 rfl w2.heap.size 156 i0 _ 3 24 Tryz.underlying92 hi0 hi1 hi2 hi3 rfl (by decide) _ L.length (eclCells L) rfl hown4 ⟨w3.heap.size, 0, none⟩ 1 1 [.int .i64 md, .bool false, .int .i64 (Sp.far s md)] rfl rfl (World.news_of_block (cs := #[.int .i64 md, .bool false, .int .i64 (Sp.far s md)]) (t := 156) (fr := (0, 0)) (heap_alloc_new _ _)) (by simp [Value.oneCell']) (by omega) (by simp only [maxLen]; omega) (by omega) (by simp; omega) _ rfl ?_; intro gg cap w4 hown5 hgrow hat hlt4; have HO5 := Lib.hid hown5; have HG := Lib.hid hgrow; clear hown5 hgrow)
          refine ⟨⟨k + 1, by omega, by go_num, ?_, (((HE2.out.alloc _).trans HE3.out).alloc _).grown HG.out (fun g hg => (HO4.out.lt g hg).1)⟩, by simp [intOf]; omega⟩
          rw [HN.out]
          simpa [Sp.eclOf, HF.out, eclCells_append, eclCells] using HO5.out
        · go_wp2_with fail
          refine ⟨⟨k + 1, by omega, by go_num, ?_, (HE2.out.alloc _).trans HE3.out⟩, by simp [intOf]; omega⟩
          rw [HN.out, show Sp.eclOf s nw fl (md, false) = [] from if_neg (Int.not_le.2 HF.out)]
          simpa using hown3
      · go_wp2_with fail
        refine (far_any s A c md _ HK.out (HM.out.ext ((HE.out.trans HE2.out).alloc _)) (by omega) (by omega)).mono ?_
        rintro e w3 ⟨rfl, hE3⟩
        have n3 := ((Row.new wr 45 #[.int .i64 md, .bool true]).ext hE3).cell
        have HE3 := Lib.hid hE3
        have hz3 := hE3.size
        rw [World.size_alloc] at hz3
        clear b0 q1 q2
        have hown3 := ownsRow_of_block (hown.alloc (.cells #[.int .i64 md, .bool true] 45)) (fun g hg => hE3.block g ((hown.alloc _).lt g hg).2)
        clear hown hE3
        by_cases hf : Sp.far s md ≤ fl <;> have HF := Lib.hid hf
        · have hown4 := hown3.alloc (.cells #[.int .i64 md, .bool true, .int .i64 (Sp.far s md)] 156)
          have HO4 := Lib.hid hown4
          go_wp2_with (at_builtin; refine wpList_append_lies _ rfl _ _ 92 rfl w2.heap.size 156 i0 _ 3 24 Tryz.underlying92 hi0 hi1 hi2 hi3 rfl (by decide) _ L.length (eclCells L) rfl hown4 ⟨w3.heap.size, 0, none⟩ 1 1 [.int .i64 md, .bool true, .int .i64 (Sp.far s md)] rfl rfl (World.news_of_block (cs := #[.int .i64 md, .bool true, .int .i64 (Sp.far s md)]) (t := 156) (fr := (0, 0)) (heap_alloc_new _ _)) (by simp [Value.oneCell']) (by omega) (by simp only [maxLen]; omega) (by omega) (by simp; omega) _ rfl ?_; intro gg cap w4 hown5 hgrow hat hlt4; have HO5 := Lib.hid hown5; have HG := Lib.hid hgrow; clear hown5 hgrow)
          refine ⟨⟨k + 1, by omega, by go_num, ?_, (((HE2.out.alloc _).trans HE3.out).alloc _).grown HG.out (fun g hg => (HO4.out.lt g hg).1)⟩, by simp [intOf]; omega⟩
          rw [HN.out]
          simpa [Sp.eclOf, HF.out, eclCells_append, eclCells] using HO5.out
        · go_wp2_with fail
          refine ⟨⟨k + 1, by omega, by go_num, ?_, (HE2.out.alloc _).trans HE3.out⟩, by simp [intOf]; omega⟩
          rw [HN.out, show Sp.eclOf s nw fl (md, true) = [] from if_neg (Int.not_le.2 HF.out)]
          simpa using hown3
    · obtain rfl : k = l.length := by omega
      clear b0
      have HO := Lib.hid hown
      clear hown
      go_wp2_with fail
      go_ret2
      refine ⟨_, rfl, ?_, HE.out.trans HE2.out⟩
      have := EclVal.of_own (l := Sp.eclsOf s nw fl (l.take l.length)) HO.out
      rwa [List.take_length, ← HQ.out] at this
end Go.Proofs.YtimkmokomohgjaaGreat
namespace Go.Proofs.YtimkmokomohgjaaGreat
open Go.RowKit
open Sp (rd)
set_option maxRecDepth 100000 in
set_option maxHeartbeats 1000000 in
theorem month_ok (s : Sp.Sky) (A : Option Addr) (c : Nat) (w : World) (hs : SkyOk s) (hm : Bodies w A s.bodies) (h : Sp.isMonth s = true) :
    Calls Tryz.prog 44 #[.agg #[.slice A s.bodies.length c, .int .i64 s.nnum, .int .i64 s.nden, .int .i64 s.nstart]] w fun e w' => e = .returned (.tuple #[.int .i64 (Sp.monthNum s), .int .i64 (Sp.monthDen s)]) ∧ Ext w w' := by
  have n2 := hs.n2
  obtain ⟨b, o, rfl, hc⟩ := hm (by omega)
  have e0 := hc 0 (by omega)
  have e1 := hc 1 (by omega)
  have b0 : bd s.bodies 0 = Sp.body s 0 := rfl
  have b1 : bd s.bodies 1 = Sp.body s 1 := rfl
  rw [b0] at e0
  rw [b1] at e1
  obtain ⟨p0, p1, _, _⟩ := e0
  obtain ⟨p2, p3, _, _⟩ := e1
  simp only [Nat.zero_mul, Nat.one_mul, Nat.add_zero] at p0 p1 p2 p3
  have n0 := lts (lt_of_cell p0)
  clear hc
  have q := (Row.new w 28 #[.slice (some ⟨b, o, none⟩) s.bodies.length c, .int .i64 s.nnum, .int .i64 s.nden, .int .i64 s.nstart]).cell 0
  simp only [List.getElem?_toArray, List.getElem?_cons_zero] at q
  have hE : Ext w (w.alloc (.cells #[.slice (some ⟨b, o, none⟩) s.bodies.length c, .int .i64 s.nnum, .int .i64 s.nden, .int .i64 s.nstart] 28)) := (Ext.refl w).alloc _
  replace p0 := hE.cell p0
  replace p1 := hE.cell p1
  replace p2 := hE.cell p2
  replace p3 := hE.cell p3
  go_enter Tryz.func44, Tryz.ntmps44
  go_wp2_with fail
  obtain ⟨W, hW⟩ : ∃ W, w.alloc (.cells #[.slice (some ⟨b, o, none⟩) s.bodies.length c, .int .i64 s.nnum, .int .i64 s.nden, .int .i64 s.nstart] 28) = W := ⟨_, rfl⟩
  have hz : W.heap.size = w.heap.size + 1 := by rw [← hW]; simp
  rw [hW] at q p0 p1 p2 p3 hE ⊢
  clear hW n0
  have m0 := World.new_ne W _ q
  have m1 := World.new_ne W _ p0
  have k0 := lts (lt_of_cell q)
  have k1 := lts (lt_of_cell p0)
  simp only at m0 m1 k0 k1
  have h01 : (0 : Int) < s.bodies.length := by omega
  have h11 : (1 : Int) < s.bodies.length := by omega
  have h00 : 0 < s.bodies.length := by omega
  refine Code.wp_mono (Q := fun e a' w' => e = .normal ∧ ∃ b4 b5, w.heap.size < b4 ∧ w.heap.size < b5 ∧ b4 ≠ b5 ∧ Ext W w' ∧ Row w' b4 23 #[.int .i64 (Sp.body s 0).num, .int .i64 (Sp.body s 0).den] ∧ Row w' b5 23 #[.int .i64 (Sp.body s 1).num, .int .i64 (Sp.body s 1).den] ∧ a' = (⟨#[.agg #[.slice (some ⟨b, o, none⟩) s.bodies.length c, .int .i64 s.nnum, .int .i64 s.nden, .int .i64 s.nstart], .pointer (some ⟨w.heap.size, 0, none⟩), .int .i64 0, .int .i64 0, .pointer (some ⟨b4, 0, none⟩), .pointer (some ⟨b5, 0, none⟩), undef, undef, .pointer (some ⟨w.heap.size, 0, none⟩), .slice (some ⟨b, o, none⟩) s.bodies.length c, .pointer (some ⟨b, o, none⟩), .pointer (some ⟨b, o, none⟩), .agg #[.int .i64 (Sp.body s 0).num, .int .i64 (Sp.body s 0).den], .pointer (some ⟨w.heap.size, 0, none⟩), .slice (some ⟨b, o, none⟩) s.bodies.length c, .pointer (some ⟨b, o + 4, none⟩), .pointer (some ⟨b, o + 4, none⟩), .agg #[.int .i64 (Sp.body s 1).num, .int .i64 (Sp.body s 1).den], undef, undef, undef, undef, undef, undef, undef, undef, undef, undef, undef, undef, undef, undef, undef, undef, undef, undef, undef, undef, undef, undef], []⟩ : Act)) ?hq ?hr
  case hr =>
    go_region_held3 (fun w' => w'.cell? ⟨w.heap.size, 0, none⟩ = some (.slice (some ⟨b, o, none⟩) s.bodies.length c) ∧ w'.cell? ⟨b, o, none⟩ = some (.int .i64 (Sp.body s 0).num) ∧ w'.cell? ⟨b, o + 1, none⟩ = some (.int .i64 (Sp.body s 0).den) ∧ w'.cell? ⟨b, o + 4, none⟩ = some (.int .i64 (Sp.body s 1).num) ∧ w'.cell? ⟨b, o + 4 + 1, none⟩ = some (.int .i64 (Sp.body s 1).den)) (go_keep) (fail)
    · have hE3 : Ext W ((W.alloc (.cells #[.int .i64 (Sp.body s 0).num, .int .i64 (Sp.body s 0).den] 23)).alloc (.cells #[.int .i64 (Sp.body s 1).num, .int .i64 (Sp.body s 1).den] 23)).drew := (((Ext.refl W).alloc _).alloc _).drew
      exact ⟨rfl, w.heap.size + 1, w.heap.size + 1 + 1, by omega, by omega, by omega, hE3, by rw [← hz]; exact (blocks2 W _ _).1, by rw [← hz]; exact (blocks2 W _ _).2, rfl⟩
    · have hE3 : Ext W ((W.alloc (.cells #[.int .i64 (Sp.body s 1).num, .int .i64 (Sp.body s 1).den] 23)).alloc (.cells #[.int .i64 (Sp.body s 0).num, .int .i64 (Sp.body s 0).den] 23)).drew := (((Ext.refl W).alloc _).alloc _).drew
      exact ⟨rfl, w.heap.size + 1 + 1, w.heap.size + 1, by omega, by omega, by omega, hE3, by rw [← hz]; exact (blocks2 W _ _).2, by rw [← hz]; exact (blocks2 W _ _).1, rfl⟩
  case hq =>
    rintro e a' w1 ⟨rfl, b4, b5, hb4, hb5, hne, hE1, r4, r5, rfl⟩
    have c4 := r4.cell
    have c5 := r5.cell
    have g0 := hs.all 0 (by omega)
    have g1 := hs.all 1 (by omega)
    rw [b0] at g0
    rw [b1] at g1
    obtain ⟨n0, hn0⟩ : ∃ n0, (Sp.body s 0).num = n0 := ⟨_, rfl⟩
    obtain ⟨x0, hx0⟩ : ∃ x0, (Sp.body s 0).den = x0 := ⟨_, rfl⟩
    obtain ⟨n1, hn1⟩ : ∃ n1, (Sp.body s 1).num = n1 := ⟨_, rfl⟩
    obtain ⟨x1, hx1⟩ : ∃ x1, (Sp.body s 1).den = x1 := ⟨_, rfl⟩
    obtain ⟨u1, u2, u3, u4, _, _, _, _, _⟩ := g0
    obtain ⟨v1, v2, v3, v4, _, _, _, _, _⟩ := g1
    simp only [hn0, hx0] at u1 u2 u3 u4 c4 ⊢
    simp only [hn1, hx1] at v1 v2 v3 v4 c5 ⊢
    have t1 := mul_bounds (a := n1) (b := n0) (A := 10000) (B := 10000) (by omega) (by omega) (by omega) (by omega)
    have t2 := mul_bounds (a := x1) (b := n0) (A := 10000) (B := 10000) (by omega) (by omega) (by omega) (by omega)
    have t3 := mul_bounds (a := x0) (b := n1) (A := 10000) (B := 10000) (by omega) (by omega) (by omega) (by omega)
    have hden : 0 < x1 * n0 - x0 * n1 := by
      have h' : 0 < Sp.monthDen s := of_decide_eq_true h
      unfold Sp.monthDen at h'
      rw [hx1, hn0, hx0, hn1] at h'
      exact h'
    have hnum : Sp.monthNum s = n1 * n0 := by simp only [Sp.monthNum, hn1, hn0]
    have hd : Sp.monthDen s = x1 * n0 - x0 * n1 := by simp only [Sp.monthDen, hn1, hn0, hx0, hx1]
    have HN := Lib.hid hnum
    have HD := Lib.hid hd
    have HE := Lib.hid (hE.trans hE1)
    clear hnum hd hn0 hx0 hn1 hx1 hE hE1 b0 b1 h
    go_wp2
    go_quiet (fail)
    go_wp2
    go_ret2
    exact ⟨by rw [HN.out, HD.out]; rfl, HE.out.drewN _⟩
set_option maxRecDepth 100000 in
set_option maxHeartbeats 1000000 in
theorem month_no (s : Sp.Sky) (A : Option Addr) (c : Nat) (w : World) (hs : SkyOk s) (hm : Bodies w A s.bodies) (h : Sp.isMonth s = false) :
    Calls Tryz.prog 44 #[.agg #[.slice A s.bodies.length c, .int .i64 s.nnum, .int .i64 s.nden, .int .i64 s.nstart]] w fun e w' => e = .panicked [{ v := .iface 174 (.agg #[.int .i64 7]), recovered := false }] ∧ Ext w w' := by
  have n2 := hs.n2
  obtain ⟨b, o, rfl, hc⟩ := hm (by omega)
  have e0 := hc 0 (by omega)
  have e1 := hc 1 (by omega)
  have b0 : bd s.bodies 0 = Sp.body s 0 := rfl
  have b1 : bd s.bodies 1 = Sp.body s 1 := rfl
  rw [b0] at e0
  rw [b1] at e1
  obtain ⟨p0, p1, _, _⟩ := e0
  obtain ⟨p2, p3, _, _⟩ := e1
  simp only [Nat.zero_mul, Nat.one_mul, Nat.add_zero] at p0 p1 p2 p3
  have n0 := lts (lt_of_cell p0)
  clear hc
  have q := (Row.new w 28 #[.slice (some ⟨b, o, none⟩) s.bodies.length c, .int .i64 s.nnum, .int .i64 s.nden, .int .i64 s.nstart]).cell 0
  simp only [List.getElem?_toArray, List.getElem?_cons_zero] at q
  have hE : Ext w (w.alloc (.cells #[.slice (some ⟨b, o, none⟩) s.bodies.length c, .int .i64 s.nnum, .int .i64 s.nden, .int .i64 s.nstart] 28)) := (Ext.refl w).alloc _
  replace p0 := hE.cell p0
  replace p1 := hE.cell p1
  replace p2 := hE.cell p2
  replace p3 := hE.cell p3
  go_enter Tryz.func44, Tryz.ntmps44
  go_wp2_with fail
  obtain ⟨W, hW⟩ : ∃ W, w.alloc (.cells #[.slice (some ⟨b, o, none⟩) s.bodies.length c, .int .i64 s.nnum, .int .i64 s.nden, .int .i64 s.nstart] 28) = W := ⟨_, rfl⟩
  have hz : W.heap.size = w.heap.size + 1 := by rw [← hW]; simp
  rw [hW] at q p0 p1 p2 p3 hE ⊢
  clear hW n0
  have m0 := World.new_ne W _ q
  have m1 := World.new_ne W _ p0
  have k0 := lts (lt_of_cell q)
  have k1 := lts (lt_of_cell p0)
  simp only at m0 m1 k0 k1
  have h01 : (0 : Int) < s.bodies.length := by omega
  have h11 : (1 : Int) < s.bodies.length := by omega
  have h00 : 0 < s.bodies.length := by omega
  refine Code.wp_mono (Q := fun e a' w' => e = .normal ∧ ∃ b4 b5, w.heap.size < b4 ∧ w.heap.size < b5 ∧ b4 ≠ b5 ∧ Ext W w' ∧ Row w' b4 23 #[.int .i64 (Sp.body s 0).num, .int .i64 (Sp.body s 0).den] ∧ Row w' b5 23 #[.int .i64 (Sp.body s 1).num, .int .i64 (Sp.body s 1).den] ∧ a' = (⟨#[.agg #[.slice (some ⟨b, o, none⟩) s.bodies.length c, .int .i64 s.nnum, .int .i64 s.nden, .int .i64 s.nstart], .pointer (some ⟨w.heap.size, 0, none⟩), .int .i64 0, .int .i64 0, .pointer (some ⟨b4, 0, none⟩), .pointer (some ⟨b5, 0, none⟩), undef, undef, .pointer (some ⟨w.heap.size, 0, none⟩), .slice (some ⟨b, o, none⟩) s.bodies.length c, .pointer (some ⟨b, o, none⟩), .pointer (some ⟨b, o, none⟩), .agg #[.int .i64 (Sp.body s 0).num, .int .i64 (Sp.body s 0).den], .pointer (some ⟨w.heap.size, 0, none⟩), .slice (some ⟨b, o, none⟩) s.bodies.length c, .pointer (some ⟨b, o + 4, none⟩), .pointer (some ⟨b, o + 4, none⟩), .agg #[.int .i64 (Sp.body s 1).num, .int .i64 (Sp.body s 1).den], undef, undef, undef, undef, undef, undef, undef, undef, undef, undef, undef, undef, undef, undef, undef, undef, undef, undef, undef, undef, undef, undef], []⟩ : Act)) ?hq ?hr
  case hr =>
    go_region_held3 (fun w' => w'.cell? ⟨w.heap.size, 0, none⟩ = some (.slice (some ⟨b, o, none⟩) s.bodies.length c) ∧ w'.cell? ⟨b, o, none⟩ = some (.int .i64 (Sp.body s 0).num) ∧ w'.cell? ⟨b, o + 1, none⟩ = some (.int .i64 (Sp.body s 0).den) ∧ w'.cell? ⟨b, o + 4, none⟩ = some (.int .i64 (Sp.body s 1).num) ∧ w'.cell? ⟨b, o + 4 + 1, none⟩ = some (.int .i64 (Sp.body s 1).den)) (go_keep) (fail)
    · have hE3 : Ext W ((W.alloc (.cells #[.int .i64 (Sp.body s 0).num, .int .i64 (Sp.body s 0).den] 23)).alloc (.cells #[.int .i64 (Sp.body s 1).num, .int .i64 (Sp.body s 1).den] 23)).drew := (((Ext.refl W).alloc _).alloc _).drew
      exact ⟨rfl, w.heap.size + 1, w.heap.size + 1 + 1, by omega, by omega, by omega, hE3, by rw [← hz]; exact (blocks2 W _ _).1, by rw [← hz]; exact (blocks2 W _ _).2, rfl⟩
    · have hE3 : Ext W ((W.alloc (.cells #[.int .i64 (Sp.body s 1).num, .int .i64 (Sp.body s 1).den] 23)).alloc (.cells #[.int .i64 (Sp.body s 0).num, .int .i64 (Sp.body s 0).den] 23)).drew := (((Ext.refl W).alloc _).alloc _).drew
      exact ⟨rfl, w.heap.size + 1 + 1, w.heap.size + 1, by omega, by omega, by omega, hE3, by rw [← hz]; exact (blocks2 W _ _).2, by rw [← hz]; exact (blocks2 W _ _).1, rfl⟩
  case hq =>
    rintro e a' w1 ⟨rfl, b4, b5, hb4, hb5, hne, hE1, r4, r5, rfl⟩
    have c4 := r4.cell
    have c5 := r5.cell
    have g0 := hs.all 0 (by omega)
    have g1 := hs.all 1 (by omega)
    rw [b0] at g0
    rw [b1] at g1
    obtain ⟨n0, hn0⟩ : ∃ n0, (Sp.body s 0).num = n0 := ⟨_, rfl⟩
    obtain ⟨x0, hx0⟩ : ∃ x0, (Sp.body s 0).den = x0 := ⟨_, rfl⟩
    obtain ⟨n1, hn1⟩ : ∃ n1, (Sp.body s 1).num = n1 := ⟨_, rfl⟩
    obtain ⟨x1, hx1⟩ : ∃ x1, (Sp.body s 1).den = x1 := ⟨_, rfl⟩
    obtain ⟨u1, u2, u3, u4, _, _, _, _, _⟩ := g0
    obtain ⟨v1, v2, v3, v4, _, _, _, _, _⟩ := g1
    simp only [hn0, hx0] at u1 u2 u3 u4 c4 ⊢
    simp only [hn1, hx1] at v1 v2 v3 v4 c5 ⊢
    have t1 := mul_bounds (a := n1) (b := n0) (A := 10000) (B := 10000) (by omega) (by omega) (by omega) (by omega)
    have t2 := mul_bounds (a := x1) (b := n0) (A := 10000) (B := 10000) (by omega) (by omega) (by omega) (by omega)
    have t3 := mul_bounds (a := x0) (b := n1) (A := 10000) (B := 10000) (by omega) (by omega) (by omega) (by omega)
    have hden : x1 * n0 - x0 * n1 ≤ 0 := by
      have h' : ¬ 0 < Sp.monthDen s := of_decide_eq_false h
      unfold Sp.monthDen at h'
      rw [hx1, hn0, hx0, hn1] at h'
      omega
    have HE := Lib.hid (hE.trans hE1)
    clear hn0 hx0 hn1 hx1 hE hE1 b0 b1 h
    go_wp2
    go_quiet (fail)
    go_wp2
    exact ⟨rfl, rfl, HE.out.drewN _⟩
end Go.Proofs.YtimkmokomohgjaaGreat
namespace Go.Proofs.YtimkmokomohgjaaGreat
open Go.RowKit
open Sp (rd)
/-- A type switch on the panic's value. -/
theorem ta_nothing (k : Int) (w : World) : (Instr.typeAssert (.iface 174 (.agg #[.int .i64 k])) 20 174 true).run Tryz.prog w = .ok (.tuple #[.agg #[.int .i64 k], .bool true]) w := by kernel_rfl
theorem catch_nothing (p : Nat) (x k : Int) (older : List PanicEntry) (w : World) (hr : Row w p 32 #[.int .i64 x]) :
    CallsD Tryz.prog 102 #[.pointer (some ⟨p, 0, none⟩)] (.panicking ({ v := .iface 174 (.agg #[.int .i64 k]), recovered := false } :: older)) w fun e u' w' =>
      e = .returned (.tuple #[]) ∧ u' = .panicking ({ v := .iface 174 (.agg #[.int .i64 k]), recovered := true } :: older) ∧ w' = (w.setCell ⟨p, 0, none⟩ (.int .i64 k)).alloc (.cells #[.int .i64 k] 174) := by
  refine callsD_of_wpS Tryz.func102 rfl fun c₀ cs hu => ?_
  have hc := hr.cell
  have hf := hr.free
  have j0 := lts hr.lt
  have hT := ta_nothing k
  have he : ∀ w, (binOp .eql 20 (.iface 174 (.agg #[.int .i64 k])) .nilIface).run Tryz.prog w = .ok (.bool false) w := fun _ => by kernel_rfl
  simp only [Tryz.ntmps102, List.size_toArray, List.length_cons, List.length_nil, Nat.reduceAdd, Nat.reduceSub, Array.replicate_succ, Array.replicate_zero, List.push_toArray, List.append_toArray, List.nil_append, List.cons_append]
  apply wpS_seq
  apply wpS_region
  simp [wpOpsS, go_sem, recoverD, hu, Exit.thenS]
  refine wpS_of_wp ?_
  generalize hQ : (fun (e : Exit) (a' : Act) (w' : World) => bodyPostS Tryz.prog Tryz.f102 c₀ cs _ e a' _ w') = Q
  go_wp2
  subst hQ
  simp [bodyPostS, results, Tryz.results102]
theorem catch_idle (p : Value) (w : World) :
    CallsD Tryz.prog 102 #[p] .returning w fun e u' w' => e = .returned (.tuple #[]) ∧ u' = .returning ∧ w' = w := by
  refine callsD_of_wpS Tryz.func102 rfl fun c₀ cs hu => ?_
  have he : ∀ w, (binOp .eql 20 .nilIface .nilIface).run Tryz.prog w = .ok (.bool true) w := fun _ => by kernel_rfl
  simp only [Tryz.ntmps102, List.size_toArray, List.length_cons, List.length_nil, Nat.reduceAdd, Nat.reduceSub, Array.replicate_succ, Array.replicate_zero, List.push_toArray, List.append_toArray, List.nil_append, List.cons_append]
  apply wpS_seq
  apply wpS_region
  simp [wpOpsS, go_sem, recoverD, hu, Exit.thenS]
  refine wpS_of_wp ?_
  generalize hQ : (fun (e : Exit) (a' : Act) (w' : World) => bodyPostS Tryz.prog Tryz.f102 c₀ cs _ e a' _ w') = Q
  go_wp2
  subst hQ
  cases c₀
  simp_all [bodyPostS, results, Tryz.results102]
/-- What a closure that is tried may do. -/
def Tried (w : World) (k : Int) (Q1 Q2 : World → Prop) (e : Ending) (w' : World) : Prop := Row w' w.heap.size 32 #[.int .i64 0] ∧
  ((e = .returned (.tuple #[]) ∧ Q1 w') ∨ (e = .panicked [{ v := .iface 174 (.agg #[.int .i64 k]), recovered := false }] ∧ Q2 w'))
theorem try_any (f : Nat) (cap : Array Value) (k : Int) (w : World) (Q1 Q2 : World → Prop) (he : ∀ (args : Array Value) (w : World), (callFunc f args).run Tryz.prog w = .ok (.enter f args) w)
    (hc : Calls Tryz.prog f cap (w.alloc (.cells #[.int .i64 0] 32)) (Tried w k Q1 Q2)) :
    Calls Tryz.prog 42 #[.func (.func f) #[] cap] w fun e w' => ∃ w1, (Q1 w1 ∧ e = .returned (.int .i64 0) ∧ w' = w1.setCell ⟨w.heap.size, 0, none⟩ (.int .i64 0)) ∨
      (Q2 w1 ∧ e = .returned (.int .i64 k) ∧ w' = (w1.setCell ⟨w.heap.size, 0, none⟩ (.int .i64 k)).alloc (.cells #[.int .i64 k] 174)) := by
  have hmf : ∀ (fn : Fn) (first cap : Array Value) (w : World), (Instr.makeFunc fn first cap).run Tryz.prog w = .ok (.func fn first cap) w := fun _ _ _ _ => rfl
  go_enter_defers Tryz.func42, Tryz.ntmps42
  go_wp2
  refine hc.mono ?_
  rintro e w1 ⟨hR, ⟨rfl, h1⟩ | ⟨rfl, h2⟩⟩
  · have cR := hR.cell
    have fR := hR.free
    go_wp2
    refine leaves_cons (f := 102) (args := #[.pointer (some ⟨w.heap.size, 0, none⟩)]) (by simp) (by simp [go_sem]) ?_
    refine (catch_idle _ _).mono ?_
    rintro e u' w'' ⟨rfl, rfl, rfl⟩
    have r2 := (hR.set_ 0 (.int .i64 0)).cell 0
    simp only [List.setIfInBounds_toArray, List.set_cons_zero, List.getElem?_toArray, List.getElem?_cons_zero] at r2
    simp [Leaves, settle, results, Tryz.results42, go_sem, r2]
    exact ⟨w1, .inl ⟨h1, rfl⟩⟩
  · refine leaves_cons (f := 102) (args := #[.pointer (some ⟨w.heap.size, 0, none⟩)]) (by simp) (by simp [go_sem]) ?_
    refine (catch_nothing w.heap.size 0 k [] w1 hR).mono ?_
    rintro e u' w'' ⟨rfl, rfl, rfl⟩
    have r2 := ((hR.set_ 0 (.int .i64 k)).alloc (.cells #[.int .i64 k] 174)).cell 0
    simp only [List.setIfInBounds_toArray, List.set_cons_zero, List.getElem?_toArray, List.getElem?_cons_zero] at r2
    simp [Leaves, settle, results, Tryz.results42, go_sem, r2]
    exact ⟨w1, .inr ⟨h2, rfl⟩⟩
end Go.Proofs.YtimkmokomohgjaaGreat
namespace Go.Proofs.YtimkmokomohgjaaGreat
open Go.RowKit
open Sp (rd)
theorem gcd_step {a b : Int} (h1 : 0 ≤ a) (h2 : 0 ≤ b) : Int.gcd b (a % b) = Int.gcd a b := by
  obtain ⟨m, rfl⟩ := Int.eq_ofNat_of_zero_le h1
  obtain ⟨n, rfl⟩ := Int.eq_ofNat_of_zero_le h2
  rw [show ((m : Int) % (n : Int)) = ((m % n : Nat) : Int) by rfl]
  show Nat.gcd n (m % n) = Nat.gcd m n
  rw [Nat.gcd_comm n, ← Nat.gcd_rec, Nat.gcd_comm]
theorem gcd_end {a : Int} (h1 : 0 ≤ a) : (Int.gcd a 0 : Int) = a := by
  obtain ⟨m, rfl⟩ := Int.eq_ofNat_of_zero_le h1
  show ((Nat.gcd m 0 : Nat) : Int) = m
  rw [Nat.gcd_zero_right]
theorem gcd_any (a b : Int) (w : World) (h1 : 0 ≤ a) (h2 : a ≤ 1000000000000) (h3 : 0 ≤ b) (h4 : b ≤ 1000000000000) :
    Calls Tryz.prog 45 #[.int .i64 a, .int .i64 b] w fun e w' => e = .returned (.int .i64 (Int.gcd a b)) ∧ Ext w w' := by
  go_enter Tryz.func45, Tryz.ntmps45
  go_wp2_with fail
  go_loopw [0, 1] (fun x y wr => ∃ a' b' : Int, x = .int .i64 a' ∧ y = .int .i64 b' ∧ 0 ≤ a' ∧ a' ≤ 1000000000000 ∧ 0 ≤ b' ∧ b' ≤ 1000000000000 ∧ Int.gcd a' b' = Int.gcd a b ∧ Ext w wr) (fun _ y _ => (intOf y).toNat)
  case atStart => exact ⟨a, b, rfl, rfl, h1, h2, h3, h4, rfl, Ext.refl _⟩
  case round =>
    obtain ⟨a', b', rfl, rfl, k1, k2, k3, k4, hg, hE⟩ := hrel
    by_cases hb : 0 < b'
    · have hb0 : ¬ b' = 0 := by omega
      have ht : a'.tmod b' = a' % b' := Int.tmod_eq_emod_of_nonneg k1
      have hm1 := Int.emod_nonneg a' hb0
      have hm2 := Int.emod_lt_of_pos a' hb
      go_wp2_with fail
      go_quiet (fail)
      go_wp2
      go_roundw
      case rel => exact ⟨b', a' % b', rfl, rfl, by omega, by omega, by omega, by omega, (gcd_step k1 k3).trans hg, hE.drewN _⟩
      case measure => simp [intOf]; omega
    · obtain rfl : b' = 0 := by omega
      go_wp2_with fail
      go_ret
      refine ⟨?_, hE⟩
      rw [← hg]
      exact ret_int (gcd_end k1).symm
theorem month1_ok (s : Sp.Sky) (A : Option Addr) (c : Nat) (bS bN bD : Nat) (n d : Int) (W : World) (hs : SkyOk s) (hm : Bodies W A s.bodies) (h : Sp.isMonth s = true) (rS : Row W bS 28 #[.slice A s.bodies.length c, .int .i64 s.nnum, .int .i64 s.nden, .int .i64 s.nstart])
    (rN : Row W bN 3 #[.int .i64 n]) (rD : Row W bD 3 #[.int .i64 d]) (hne : bN ≠ bD) :
    Calls Tryz.prog 43 #[.pointer (some ⟨bS, 0, none⟩), .pointer (some ⟨bN, 0, none⟩), .pointer (some ⟨bD, 0, none⟩)] W fun e w' => e = .returned (.tuple #[]) ∧ ∃ W1, Ext W W1 ∧ w' = (W1.setCell ⟨bN, 0, none⟩ (.int .i64 (Sp.monthNum s))).setCell ⟨bD, 0, none⟩ (.int .i64 (Sp.monthDen s)) := by
  have cS := rS.cell
  go_enter Tryz.func43, Tryz.ntmps43
  go_wp2_with fail
  refine (month_ok s A c W hs hm h).mono ?_
  rintro e W1 ⟨rfl, hE⟩
  have cN := (rN.ext hE).cell
  have cD := (rD.ext hE).cell
  have fN := (rN.ext hE).free
  have fD := (rD.ext hE).free
  clear cS
  go_wp2_with fail
  go_end0
  exact ⟨rfl, W1, hE, rfl⟩
theorem month1_no (s : Sp.Sky) (A : Option Addr) (c : Nat) (bS : Nat) (p q : Value) (W : World) (hs : SkyOk s) (hm : Bodies W A s.bodies) (h : Sp.isMonth s = false) (rS : Row W bS 28 #[.slice A s.bodies.length c, .int .i64 s.nnum, .int .i64 s.nden, .int .i64 s.nstart]) :
    Calls Tryz.prog 43 #[.pointer (some ⟨bS, 0, none⟩), p, q] W fun e w' => e = .panicked [{ v := .iface 174 (.agg #[.int .i64 7]), recovered := false }] ∧ Ext W w' := by
  have cS := rS.cell
  go_enter Tryz.func43, Tryz.ntmps43
  go_wp2_with fail
  refine (month_no s A c W hs hm h).mono ?_
  rintro e W1 ⟨rfl, hE⟩
  exact ⟨rfl, rfl, hE⟩
theorem month_bounds {s : Sp.Sky} (hs : SkyOk s) (h : Sp.isMonth s = true) : 1 ≤ Sp.monthNum s ∧ Sp.monthNum s ≤ 100000000 ∧ 1 ≤ Sp.monthDen s ∧ Sp.monthDen s ≤ 100000000 := by
  have n2 := hs.n2
  have g0 : BodyOk (Sp.body s 0) := hs.body (by omega) (by omega)
  have g1 : BodyOk (Sp.body s 1) := hs.body (by omega) (by omega)
  have h' : 0 < Sp.monthDen s := of_decide_eq_true h
  obtain ⟨u1, u2, u3, u4, _, _, _, _, _⟩ := g0
  obtain ⟨v1, v2, v3, v4, _, _, _, _, _⟩ := g1
  have t1 := mul_bounds (a := (Sp.body s 1).num) (b := (Sp.body s 0).num) (A := 10000) (B := 10000) (by omega) (by omega) (by omega) (by omega)
  have t2 := mul_bounds (a := (Sp.body s 1).den) (b := (Sp.body s 0).num) (A := 10000) (B := 10000) (by omega) (by omega) (by omega) (by omega)
  have t3 : 0 ≤ (Sp.body s 0).den * (Sp.body s 1).num := Int.mul_nonneg (by omega) (by omega)
  have t4 : 0 < (Sp.body s 1).num * (Sp.body s 0).num := Int.mul_pos (by omega) (by omega)
  unfold Sp.monthNum
  unfold Sp.monthDen at h' ⊢
  omega
/-- The month, reduced. -/
def monthG (s : Sp.Sky) : Int := Int.gcd (Sp.monthNum s) (Sp.monthDen s)
theorem monthG_bounds {s : Sp.Sky} (hs : SkyOk s) (h : Sp.isMonth s = true) : 1 ≤ monthG s ∧ monthG s ≤ 100000000 := by
  have hb := month_bounds hs h
  have h1 : 0 < Int.gcd (Sp.monthNum s) (Sp.monthDen s) := Int.gcd_pos_of_ne_zero_left _ (by omega)
  have h2 : monthG s ∣ Sp.monthNum s := Int.gcd_dvd_left ..
  have := Int.le_of_dvd (by omega) h2
  unfold monthG at *
  omega
theorem Month_err (s : Sp.Sky) (A : Option Addr) (c : Nat) (w : World) (hm : Bodies w A s.bodies) (hl : Short s.bodies) (h : (Sp.skyOk s) = false) :
    Calls Tryz.prog 9 #[.agg #[.slice A s.bodies.length c, .int .i64 s.nnum, .int .i64 s.nden, .int .i64 s.nstart]] w fun e w' => e = .returned (.tuple #[.int .i64 0, .int .i64 0, .int .i64 2]) ∧ Ext w w' := by
  have hl1 := hl.1
  have HL := Lib.hid hl
  have HM := Lib.hid hm
  clear hm hl
  cases c0 : Sp.skyOk s
  · clear h
    go_enter Tryz.func9, Tryz.ntmps9
    go_wp2_with fail
    refine (isSky_any s A c _ (HM.out.ext ((Ext.refl w).alloc _)) HL.out).mono ?_
    rintro e w1 ⟨rfl, hE1⟩
    have hE := ((Ext.refl w).alloc _).trans hE1
    have hr : Row w1 w.heap.size 28 _ := (Row.new w _ _).ext hE1
    have b0 := hr.cell
    clear hE1
    go_wp2_with fail
    go_ret3
    exact ⟨rfl, hE⟩
  · simp [c0] at h
theorem Month_ok (s : Sp.Sky) (A : Option Addr) (c : Nat) (w : World) (hm : Bodies w A s.bodies) (hl : Short s.bodies) (hmn : Sp.isMonth s = true) (c0 : Sp.skyOk s = true) :
    Calls Tryz.prog 9 #[.agg #[.slice A s.bodies.length c, .int .i64 s.nnum, .int .i64 s.nden, .int .i64 s.nstart]] w fun e w' => e = .returned (.tuple #[.int .i64 (Sp.monthNum s / monthG s), .int .i64 (Sp.monthDen s / monthG s), .int .i64 0]) ∧ Ext w w' := by
  have hl1 := hl.1
  have HL := Lib.hid hl
  have HM := Lib.hid hm
  clear hm hl
  go_enter Tryz.func9, Tryz.ntmps9
  go_wp2_with fail
  refine (isSky_any s A c _ (HM.out.ext ((Ext.refl w).alloc _)) HL.out).mono ?_
  rintro e w1 ⟨rfl, hE1⟩
  have hE := ((Ext.refl w).alloc _).trans hE1
  have hr : Row w1 w.heap.size 28 _ := (Row.new w _ _).ext hE1
  have b0 := hr.cell
  clear hE1
  have hmf : ∀ (fn : Fn) (first cap : Array Value) (w : World), (Instr.makeFunc fn first cap).run Tryz.prog w = .ok (.func fn first cap) w := fun _ _ _ _ => rfl
  have HK := Lib.hid (skyOk_iff.1 c0)
  have hE3 : Ext w1 (((w1.alloc (.cells #[.int .i64 0] 3)).alloc (.cells #[.int .i64 1] 3)).alloc (.cells #[.int .i64 0] 32)) := (((Ext.refl w1).alloc _).alloc _).alloc _
  have rN : Row (((w1.alloc (.cells #[.int .i64 0] 3)).alloc (.cells #[.int .i64 1] 3)).alloc (.cells #[.int .i64 0] 32)) w1.heap.size 3 #[.int .i64 0] := (blocks3 w1 _ _ _).1
  have rD : Row (((w1.alloc (.cells #[.int .i64 0] 3)).alloc (.cells #[.int .i64 1] 3)).alloc (.cells #[.int .i64 0] 32)) (w1.heap.size + 1) 3 #[.int .i64 1] := (blocks3 w1 _ _ _).2.1
  have rR : Row (((w1.alloc (.cells #[.int .i64 0] 3)).alloc (.cells #[.int .i64 1] 3)).alloc (.cells #[.int .i64 0] 32)) (w1.heap.size + 2) 32 #[.int .i64 0] := (blocks3 w1 _ _ _).2.2
  have hz := hr.lt
  have hb := month_bounds HK.out hmn
  have hg := monthG_bounds HK.out hmn
  go_wp2_with fail
  refine (try_any 43 _ 7 _ (fun w' => ∃ W1, Ext (((w1.alloc (.cells #[.int .i64 0] 3)).alloc (.cells #[.int .i64 1] 3)).alloc (.cells #[.int .i64 0] 32)) W1 ∧ w' = (W1.setCell ⟨w1.heap.size, 0, none⟩ (.int .i64 (Sp.monthNum s))).setCell ⟨w1.heap.size + 1, 0, none⟩ (.int .i64 (Sp.monthDen s))) (fun _ => False) (enters_of Tryz.func43 (by kernel_rfl) rfl)
    ((month1_ok s A c w.heap.size w1.heap.size (w1.heap.size + 1) 0 1 _ HK.out (HM.out.ext (hE.trans hE3)) hmn (hr.ext hE3) rN rD (by omega)).mono ?_)).mono ?_
  · rintro e w' ⟨rfl, W1, hEE, rfl⟩
    refine ⟨?_, .inl ⟨rfl, W1, hEE, rfl⟩⟩
    simpa using ((rR.ext hEE).far (p := ⟨w1.heap.size, 0, none⟩) (by simp) _).far (p := ⟨w1.heap.size + 1, 0, none⟩) (by simp) _
  · rintro e w' ⟨W2, ⟨⟨W1, hEE, rfl⟩, rfl, rfl⟩ | ⟨h0, _⟩⟩
    · simp only [World.size_alloc]
      have sN : Row (((W1.setCell ⟨w1.heap.size, 0, none⟩ (.int .i64 (Sp.monthNum s))).setCell ⟨w1.heap.size + 1, 0, none⟩ (.int .i64 (Sp.monthDen s))).setCell ⟨w1.heap.size + 1 + 1, 0, none⟩ (.int .i64 0)) w1.heap.size 3 #[.int .i64 (Sp.monthNum s)] := by
        simpa using (((rN.ext hEE).set_ 0 (.int .i64 (Sp.monthNum s))).far (p := ⟨w1.heap.size + 1, 0, none⟩) (by simp) (.int .i64 (Sp.monthDen s))).far (p := ⟨w1.heap.size + 1 + 1, 0, none⟩) (by simp <;> omega) (.int .i64 0)
      have sD : Row (((W1.setCell ⟨w1.heap.size, 0, none⟩ (.int .i64 (Sp.monthNum s))).setCell ⟨w1.heap.size + 1, 0, none⟩ (.int .i64 (Sp.monthDen s))).setCell ⟨w1.heap.size + 1 + 1, 0, none⟩ (.int .i64 0)) (w1.heap.size + 1) 3 #[.int .i64 (Sp.monthDen s)] := by
        simpa using (((rD.ext hEE).far (p := ⟨w1.heap.size, 0, none⟩) (by simp) (.int .i64 (Sp.monthNum s))).set_ 0 (.int .i64 (Sp.monthDen s))).far (p := ⟨w1.heap.size + 1 + 1, 0, none⟩) (by simp <;> omega) (.int .i64 0)
      have hE4 : Ext w1 (((W1.setCell ⟨w1.heap.size, 0, none⟩ (.int .i64 (Sp.monthNum s))).setCell ⟨w1.heap.size + 1, 0, none⟩ (.int .i64 (Sp.monthDen s))).setCell ⟨w1.heap.size + 1 + 1, 0, none⟩ (.int .i64 0)) :=
        (((hE3.trans hEE).setCell (by simp) _).setCell (by simp) _).setCell (by simp; omega) _
      obtain ⟨W3, hW3⟩ : ∃ W3, ((W1.setCell ⟨w1.heap.size, 0, none⟩ (.int .i64 (Sp.monthNum s))).setCell ⟨w1.heap.size + 1, 0, none⟩ (.int .i64 (Sp.monthDen s))).setCell ⟨w1.heap.size + 1 + 1, 0, none⟩ (.int .i64 0) = W3 := ⟨_, rfl⟩
      rw [hW3] at sN sD hE4 ⊢
      have cN := sN.cell
      have cD := sD.cell
      have HE := Lib.hid (hE.trans hE4)
      clear hW3 hE3 rN rD rR hEE hE hE4 b0 W1
      obtain ⟨n, hn⟩ : ∃ n, Sp.monthNum s = n := ⟨_, rfl⟩
      obtain ⟨d, hd⟩ : ∃ d, Sp.monthDen s = d := ⟨_, rfl⟩
      obtain ⟨g, hgg⟩ : ∃ g, monthG s = g := ⟨_, rfl⟩
      have hgg' : ((Int.gcd n d : Nat) : Int) = g := by rw [← hn, ← hd]; exact hgg
      rw [hn, hd] at hb
      rw [hgg] at hg
      rw [hn] at cN
      rw [hd] at cD
      have HN := Lib.hid hn
      have HD := Lib.hid hd
      have HG := Lib.hid hgg
      have HG' := Lib.hid hgg'
      clear hn hd hgg hgg'
      have g0 : ¬ g = 0 := by omega
      have t1 : n.tdiv g = n / g := Int.tdiv_eq_ediv_of_nonneg (by omega)
      have t2 : d.tdiv g = d / g := Int.tdiv_eq_ediv_of_nonneg (by omega)
      have q1 : 0 ≤ n / g := Int.ediv_nonneg (by omega) (by omega)
      have q2 : 0 ≤ d / g := Int.ediv_nonneg (by omega) (by omega)
      have q3 : n / g ≤ n := Int.ediv_le_self _ (by omega)
      have q4 : d / g ≤ d := Int.ediv_le_self _ (by omega)
      go_wp2_with fail
      refine (gcd_any n d W3 (by omega) (by omega) (by omega) (by omega)).mono ?_
      rintro e W4 ⟨rfl, hE5⟩
      rw [HG'.out]
      replace cN := (sN.ext hE5).cell
      replace cD := (sD.ext hE5).cell
      rw [HN.out] at cN
      rw [HD.out] at cD
      go_wp2_with fail
      go_quiet (fail)
      go_wp2
      go_ret3
      exact ⟨by rw [HN.out, HD.out, HG.out]; rfl, (HE.out.trans hE5).drewN _⟩
    · exact h0.elim
theorem MonthNo_ok (s : Sp.Sky) (A : Option Addr) (c : Nat) (w : World) (hm : Bodies w A s.bodies) (hl : Short s.bodies) (hmn : Sp.isMonth s = false) (c0 : Sp.skyOk s = true) :
    Calls Tryz.prog 9 #[.agg #[.slice A s.bodies.length c, .int .i64 s.nnum, .int .i64 s.nden, .int .i64 s.nstart]] w fun e w' => e = .returned (.tuple #[.int .i64 0, .int .i64 0, .int .i64 7]) ∧ Ext w w' := by
  have hl1 := hl.1
  have HL := Lib.hid hl
  have HM := Lib.hid hm
  clear hm hl
  go_enter Tryz.func9, Tryz.ntmps9
  go_wp2_with fail
  refine (isSky_any s A c _ (HM.out.ext ((Ext.refl w).alloc _)) HL.out).mono ?_
  rintro e w1 ⟨rfl, hE1⟩
  have hE := ((Ext.refl w).alloc _).trans hE1
  have hr : Row w1 w.heap.size 28 _ := (Row.new w _ _).ext hE1
  have b0 := hr.cell
  clear hE1
  have hmf : ∀ (fn : Fn) (first cap : Array Value) (w : World), (Instr.makeFunc fn first cap).run Tryz.prog w = .ok (.func fn first cap) w := fun _ _ _ _ => rfl
  have HK := Lib.hid (skyOk_iff.1 c0)
  have hE3 : Ext w1 (((w1.alloc (.cells #[.int .i64 0] 3)).alloc (.cells #[.int .i64 1] 3)).alloc (.cells #[.int .i64 0] 32)) := (((Ext.refl w1).alloc _).alloc _).alloc _
  have rN : Row (((w1.alloc (.cells #[.int .i64 0] 3)).alloc (.cells #[.int .i64 1] 3)).alloc (.cells #[.int .i64 0] 32)) w1.heap.size 3 #[.int .i64 0] := (blocks3 w1 _ _ _).1
  have rD : Row (((w1.alloc (.cells #[.int .i64 0] 3)).alloc (.cells #[.int .i64 1] 3)).alloc (.cells #[.int .i64 0] 32)) (w1.heap.size + 1) 3 #[.int .i64 1] := (blocks3 w1 _ _ _).2.1
  have rR : Row (((w1.alloc (.cells #[.int .i64 0] 3)).alloc (.cells #[.int .i64 1] 3)).alloc (.cells #[.int .i64 0] 32)) (w1.heap.size + 2) 32 #[.int .i64 0] := (blocks3 w1 _ _ _).2.2
  have hz := hr.lt
  go_wp2_with fail
  refine (try_any 43 _ 7 _ (fun _ => False) (fun w' => Ext (((w1.alloc (.cells #[.int .i64 0] 3)).alloc (.cells #[.int .i64 1] 3)).alloc (.cells #[.int .i64 0] 32)) w') (enters_of Tryz.func43 (by kernel_rfl) rfl)
    ((month1_no s A c w.heap.size _ _ _ HK.out (HM.out.ext (hE.trans hE3)) hmn (hr.ext hE3)).mono ?_)).mono ?_
  · rintro e w' ⟨rfl, hEE⟩
    exact ⟨by simpa using rR.ext hEE, .inr ⟨rfl, hEE⟩⟩
  · rintro e w' ⟨W1, ⟨h0, _⟩ | ⟨hEE, rfl, rfl⟩⟩
    · exact h0.elim
    · have HE := Lib.hid (hE.trans (((hE3.trans hEE).setCell (p := ⟨w1.heap.size + 1 + 1, 0, none⟩) (by simp; omega) (.int .i64 7)).alloc (.cells #[.int .i64 7] 174)))
      simp only [World.size_alloc]
      clear hE3 rN rD rR hEE hE b0
      go_wp2_with fail
      go_ret3
      exact ⟨rfl, HE.out⟩
end Go.Proofs.YtimkmokomohgjaaGreat
