/- Has: The walks of layer 5: whether there is a new moon, a full moon, a meeting on a day.
Days: The walks of layer 5: the iterator over days: its contract.
Out: A list that a function builds in a box by append: the box, the row, and what is left as it was.
Mix: 'out = append(out, ..)' with out in a box: a region that draws its order, whose first operation is the load of the box (which may come up behind the laying of the new element), whose next operations only read or call, then the laying of the element, then the forced rest (append, store). -/
import Derived.RangeFuncNested
import Derived.RangeFuncBound
import Derived.RangeFuncCalls
import Derived.RangeFuncLeaves
import Derived.Shelf.Abstract
import Derived.Shelf.RegionOpen
import Derived.OwnWalkIn
import Derived.TacticsInMore
import Derived.LoopNIn
import Derived.LoopIn
import Derived.Deep.AppendLies
import Derived.OwnWalk
import Derived.Outline
import Derived.Deep.RegionHeld3
import Derived.Handy
import Derived.OrdersHeld
import Derived.OrdersIn
import Derived.Test.YtlcddcnmoajpjaaGreatDoorV03
import Derived.Test.YtlcddcnmoajpjaaGreatDoorV02
import Derived.Test.YtlcddcnmoajpjaaGreatDoorV01
namespace Go.Proofs.YtlcddcnmoajpjaaGreatDoor
open Go.RowKit
open Sp (rd)
theorem ta_new_meet (w : World) : (Instr.typeAssert (.iface 160 (.agg #[])) 154 135 true).run Tryz.prog w = .ok (.tuple #[.agg #[.int .i64 0, .int .i64 0], .bool false]) w := by kernel_rfl
theorem ta_new_full (w : World) : (Instr.typeAssert (.iface 160 (.agg #[])) 154 161 true).run Tryz.prog w = .ok (.tuple #[.agg #[], .bool false]) w := by kernel_rfl
theorem ta_full_meet (w : World) : (Instr.typeAssert (.iface 161 (.agg #[])) 154 135 true).run Tryz.prog w = .ok (.tuple #[.agg #[.int .i64 0, .int .i64 0], .bool false]) w := by kernel_rfl
theorem ta_full_full (w : World) : (Instr.typeAssert (.iface 161 (.agg #[])) 154 161 true).run Tryz.prog w = .ok (.tuple #[.agg #[], .bool true]) w := by kernel_rfl
theorem ta_meet_meet (x y : Int) (w : World) : (Instr.typeAssert (.iface 135 (.agg #[.int .i64 x, .int .i64 y])) 154 135 true).run Tryz.prog w = .ok (.tuple #[.agg #[.int .i64 x, .int .i64 y], .bool true]) w := by kernel_rfl

theorem ahead_bounds {s : Sp.Sky} (hs : SkyOk s) {i j day : Int} (i1 : 0 ≤ i) (i2 : i < s.bodies.length) (j1 : 0 ≤ j) (j2 : j < s.bodies.length) (h2 : 0 ≤ day) (h3 : day ≤ 20000) : -200000000 ≤ Sp.ahead s i j day ∧ Sp.ahead s i j day ≤ 200000000 := by
  have h4 := way_sky_bounds hs i1 i2 h2 h3
  have h5 := way_sky_bounds hs j1 j2 h2 h3
  unfold Sp.ahead
  omega
theorem blocks3 (w : World) (o1 o2 o3 : Obj) : (((w.alloc o1).alloc o2).alloc o3).heap[w.heap.size]? = some o1 ∧ (((w.alloc o1).alloc o2).alloc o3).heap[w.heap.size + 1]? = some o2 ∧ (((w.alloc o1).alloc o2).alloc o3).heap[w.heap.size + 2]? = some o3 :=
  ⟨(Below.heap_alloc _ _ _ (by simp; omega)).trans (blocks2 w o1 o2).1, (Below.heap_alloc _ _ _ (by simp)).trans (blocks2 w o1 o2).2, by have := heap_alloc_new ((w.alloc o1).alloc o2) o3; simpa using this⟩

set_option maxRecDepth 100000 in
set_option maxHeartbeats 400000 in
theorem hasNew (s : Sp.Sky) (A : Option Addr) (c : Nat) (day : Int) (w : World) (hs : SkyOk s) (hm : Bodies w A s.bodies) (h2 : 1 ≤ day) (h3 : day ≤ 20000) :
    Calls Tryz.prog 115 #[.agg #[.slice A s.bodies.length c, .int .i64 s.nnum, .int .i64 s.nden, .int .i64 s.nstart, .int .i64 day], .iface 160 (.agg #[])] w fun e w' => e = .returned (.bool (Sp.moonB s day false)) ∧ Ext w w' := by
  have n2 := hs.n2
  have hb1 := ahead_bounds hs (i := 1) (j := 0) (by omega) (by omega) (by omega) (by omega) (day := day) (by omega) h3
  have hb0 := ahead_bounds hs (i := 1) (j := 0) (by omega) (by omega) (by omega) (by omega) (day := day - 1) (by omega) (by omega)
  have HS := Lib.hid hs
  have HM := Lib.hid hm
  clear hs hm
  have t1 := ta_new_meet
  have t2 := ta_new_full
  go_enter Tryz.func115, Tryz.ntmps115
  go_wp2_with fail
  refine wp_region_later (by kernel_rfl) (by kernel_rfl) (fun W hW => ?_)
  have q1 := Later.block (w := W) (by rw [hW]; exact (blocks2 _ _ _).1)
  have q2 := Later.block (w := W) (by rw [hW]; exact (blocks2 _ _ _).2)
  have hE0 : Ext w W := by rw [hW]; exact ((Ext.refl _).alloc _).alloc _
  clear hW
  have HB := Lib.hid (fun X : Later W => HM.out.ext (hE0.trans X.ext))
  repeat (go_big_quiet_step ((first | (go_at_call 159; exact Later.call (lunar_any s A c _ _ _ _ _ HS.out (by exact HB.out _) (by omega) (by omega))) | (go_at_call 158; exact Later.call (passes_any _ _ _ (by omega) (by omega) (by omega) (by omega))))))
  refine wpQuiet_nil ?_
  rintro ⟨W1, hE⟩
  replace hE := hE0.trans hE
  go_wp2_with fail
  go_ret
  exact ⟨ret_bool (by simp [Sp.moonB, Sp.halfOf]), hE⟩

set_option maxRecDepth 100000 in
set_option maxHeartbeats 400000 in
theorem hasFull (s : Sp.Sky) (A : Option Addr) (c : Nat) (day : Int) (w : World) (hs : SkyOk s) (hm : Bodies w A s.bodies) (h2 : 1 ≤ day) (h3 : day ≤ 20000) :
    Calls Tryz.prog 115 #[.agg #[.slice A s.bodies.length c, .int .i64 s.nnum, .int .i64 s.nden, .int .i64 s.nstart, .int .i64 day], .iface 161 (.agg #[])] w fun e w' => e = .returned (.bool (Sp.moonB s day true)) ∧ Ext w w' := by
  have n2 := hs.n2
  have hb1 := ahead_bounds hs (i := 1) (j := 0) (by omega) (by omega) (by omega) (by omega) (day := day) (by omega) h3
  have hb0 := ahead_bounds hs (i := 1) (j := 0) (by omega) (by omega) (by omega) (by omega) (day := day - 1) (by omega) (by omega)
  have HS := Lib.hid hs
  have HM := Lib.hid hm
  clear hs hm
  have t1 := ta_full_meet
  have t2 := ta_full_full
  go_enter Tryz.func115, Tryz.ntmps115
  go_wp2_with fail
  refine wp_region_later (by kernel_rfl) (by kernel_rfl) (fun W hW => ?_)
  have q1 := Later.block (w := W) (by rw [hW]; exact (blocks3 _ _ _ _).1)
  have q2 := Later.block (w := W) (by rw [hW]; exact (blocks3 _ _ _ _).2.1)
  have q3 := Later.block (w := W) (by rw [hW]; exact (blocks3 _ _ _ _).2.2)
  have hE0 : Ext w W := by rw [hW]; exact (((Ext.refl _).alloc _).alloc _).alloc _
  clear hW
  have HB := Lib.hid (fun X : Later W => HM.out.ext (hE0.trans X.ext))
  repeat (go_big_quiet_step ((first | (go_at_call 159; exact Later.call (lunar_any s A c _ _ _ _ _ HS.out (by exact HB.out _) (by omega) (by omega))) | (go_at_call 158; exact Later.call (passes_any _ _ _ (by omega) (by omega) (by omega) (by omega))))))
  refine wpQuiet_nil ?_
  rintro ⟨W1, hE⟩
  replace hE := hE0.trans hE
  go_wp2_with fail
  go_ret
  exact ⟨ret_bool (by simp [Sp.moonB, Sp.halfOf]), hE⟩

set_option maxRecDepth 100000 in
set_option maxHeartbeats 400000 in
theorem hasMeet (s : Sp.Sky) (A : Option Addr) (c : Nat) (day : Int) (i j : Int) (w : World) (hs : SkyOk s) (hm : Bodies w A s.bodies) (h2 : 1 ≤ day) (h3 : day ≤ 20000) (i1 : 0 ≤ i) (i2 : i < s.bodies.length) (j1 : 0 ≤ j) (j2 : j < s.bodies.length) :
    Calls Tryz.prog 115 #[.agg #[.slice A s.bodies.length c, .int .i64 s.nnum, .int .i64 s.nden, .int .i64 s.nstart, .int .i64 day], .iface 135 (.agg #[.int .i64 i, .int .i64 j])] w fun e w' => e = .returned (.bool (Sp.meetB s i j day)) ∧ Ext w w' := by
  have n2 := hs.n2
  have hb1 := ahead_bounds hs i1 i2 j1 j2 (day := day) (by omega) h3
  have hb0 := ahead_bounds hs i1 i2 j1 j2 (day := day - 1) (by omega) (by omega)
  have HS := Lib.hid hs
  have HM := Lib.hid hm
  clear hs hm
  have t1 := ta_meet_meet i j
  go_enter Tryz.func115, Tryz.ntmps115
  go_wp2_with fail
  refine wp_region_later (by kernel_rfl) (by kernel_rfl) (fun W hW => ?_)
  have q1 := Later.block (w := W) (by rw [hW]; exact (blocks3 _ _ _ _).1)
  have q2 := Later.block (w := W) (by rw [hW]; exact (blocks3 _ _ _ _).2.1)
  have q3 := Later.block (w := W) (by rw [hW]; exact (blocks3 _ _ _ _).2.2)
  have hE0 : Ext w W := by rw [hW]; exact (((Ext.refl _).alloc _).alloc _).alloc _
  clear hW
  have HB := Lib.hid (fun X : Later W => HM.out.ext (hE0.trans X.ext))
  repeat (go_big_quiet_step ((go_at_call 117; exact Later.call (ahead_any s A c _ _ _ _ i j _ HS.out (by exact HB.out _) i1 i2 j1 j2 (by omega) (by omega)))))
  refine wpQuiet_nil ?_
  rintro ⟨W1, hE⟩
  replace hE := hE0.trans hE
  clear q1 q2 q3
  cases hp : Sp.passes (Sp.ahead s i j (day - 1)) (Sp.ahead s i j day)
  · go_wp2_with fail
    refine (passes_any _ _ _ (by omega) (by omega) (by omega) (by omega)).mono ?_
    rintro e w1 ⟨rfl, hE1⟩
    replace hE := hE.trans hE1
    clear hE1
    go_wp2_with fail
    refine (passes_any _ _ _ (by omega) (by omega) (by omega) (by omega)).mono ?_
    rintro e w2 ⟨rfl, hE1⟩
    replace hE := hE.trans hE1
    clear hE1
    go_wp2_with fail
    go_ret
    exact ⟨ret_bool (by simp [Sp.meetB, hp]), hE⟩
  · go_wp2_with fail
    refine (passes_any _ _ _ (by omega) (by omega) (by omega) (by omega)).mono ?_
    rintro e w1 ⟨rfl, hE1⟩
    replace hE := hE.trans hE1
    clear hE1
    go_wp2_with fail
    go_ret
    exact ⟨ret_bool (by simp [Sp.meetB, hp]), hE⟩

end Go.Proofs.YtlcddcnmoajpjaaGreatDoor

namespace Go.Proofs.YtlcddcnmoajpjaaGreatDoor
open Go.RowKit Go.Shelf
open Sp (rd)
attribute [local go_sem] Oper.semAt_some

/-- A day that can have a moon. -/
abbrev Day1 := { d : Int // 1 ≤ d ∧ d ≤ 20000 }
/-- k days from lo on. -/
def daysL (lo : Int) (k : Nat) : List Int := (List.range k).map fun i => lo + (i : Nat)
theorem daysL_succ (lo : Int) (k : Nat) : daysL lo (k + 1) = daysL lo k ++ [lo + (k : Nat)] := by simp [daysL, List.range_succ]
theorem daysL_length (lo : Int) (k : Nat) : (daysL lo k).length = k := by simp [daysL]

/-- What a round must keep. -/
def KeepsTwo (bT bS : Nat) (W W' : World) : Prop := W'.heap[bT]? = W.heap[bT]? ∧ W'.heap[bS]? = W.heap[bS]?

def skyV (A : Option Addr) (n c : Nat) (s : Sp.Sky) (d : Int) : Value := .agg #[.slice A n c, .int .i64 s.nnum, .int .i64 s.nden, .int .i64 s.nstart, .int .i64 d]

def DaysPost (lo hi : Int) (J Jx : List Day1 → World → Prop) (e : Ending) (W' : World) : Prop := (∃ v, e = .returned v) ∧
  ((∃ xs : List Day1, xs.map Subtype.val = daysL lo (hi + 1 - lo).toNat ∧ J xs W') ∨ (∃ pre : List Day1, (∃ k, k ≤ (hi + 1 - lo).toNat ∧ pre.map Subtype.val = daysL lo k) ∧ Jx pre W'))
def DaysRel (lo hi : Int) (J : List Day1 → World → Prop) (bT bS : Nat) (W : World) (d : Value) (wr : World) : Prop :=
  ∃ pre : List Day1, d = .int .i64 (lo + (pre.length : Int)) ∧ pre.map Subtype.val = daysL lo pre.length ∧ pre.length ≤ (hi + 1 - lo).toNat ∧ J pre wr ∧ wr.heap[bT]? = W.heap[bT]? ∧ wr.heap[bS]? = W.heap[bS]?

set_option maxHeartbeats 400000 in
theorem days1_in (n : Nat) (hn : 1 ≤ n) (l bF bT bS : Nat) (A : Option Addr) (m c : Nat) (s : Sp.Sky) (lo hi : Int) (J Jx : List Day1 → World → Prop) (h1 : 1 ≤ lo) (h2 : hi ≤ 20000)
    (hY : ∀ pre x W, J pre W → pre.length < (hi + 1 - lo).toNat → YieldAt Fence.wide (n - 1) Tryz.prog l #[skyV A m c s x.1] W fun e W' =>
      (e = .returned (.bool true) ∧ J (pre ++ [x]) W' ∧ KeepsTwo bT bS W W') ∨ (e = .returned (.bool false) ∧ Jx (pre ++ [x]) W'))
    (W : World) (hF : Row W bF 3 #[.int .i64 lo]) (hT : Row W bT 3 #[.int .i64 hi]) (hS : Row W bS 28 #[.slice A m c, .int .i64 s.nnum, .int .i64 s.nden, .int .i64 s.nstart]) (h0 : J [] W) :
    CallsIn Fence.wide n Tryz.prog 157 #[.func (.yield l) #[] #[], .pointer (some ⟨bF, 0, none⟩), .pointer (some ⟨bT, 0, none⟩), .pointer (some ⟨bS, 0, none⟩)] W (DaysPost lo hi J Jx) := by
  refine callsIn_of_wp Tryz.func157 rfl trivial ?_ rfl
  simp only [Tryz.ntmps157, List.size_toArray, List.length_cons, List.length_nil, Nat.reduceAdd, Nat.reduceSub, Array.replicate_succ, Array.replicate_zero, List.push_toArray, List.append_toArray, List.nil_append, List.cons_append]
  have cF := hF.cell
  have cT := hT.cell
  have cS := hS.cell
  gi_wp2
  clear cF cT cS
  gi_loopw [5] (fun d wr => DaysRel lo hi J bT bS W d wr) (fun d _ => (hi + 1 - intOf d).toNat)
  case atStart => exact ⟨[], by simp, rfl, Nat.zero_le _, h0, rfl, rfl⟩
  case round =>
    obtain ⟨pre, rfl, hp, hk, hJ, eT, eS⟩ := hrel
    have cT : Row wr bT 3 #[.int .i64 hi] := eT.trans hT
    have cS : Row wr bS 28 #[.slice A m c, .int .i64 s.nnum, .int .i64 s.nden, .int .i64 s.nstart] := eS.trans hS
    replace cT := cT.cell
    replace cS := cS.cell
    have HP := Lib.hid hp
    have ET := Lib.hid eT
    have ES := Lib.hid eS
    clear hp eT eS
    by_cases hlt : pre.length < (hi + 1 - lo).toNat
    · obtain ⟨fn, tmps, assign, body, hy, hR⟩ := hY pre ⟨lo + (pre.length : Int), by omega, by omega⟩ wr hJ hlt
      have HR := Lib.hid hR
      simp only [skyV] at hy
      have hnow : ((pre ++ [⟨lo + (pre.length : Int), by omega, by omega⟩] : List Day1)).map Subtype.val = daysL lo (pre.length + 1) := by
        rw [List.map_append, HP.out, daysL_succ]; rfl
      have HN := Lib.hid hnow
      clear hR hY hnow
      gi_wp2
      refine HR.out.mono ?_
      rintro e W' (⟨rfl, hJ', hk'⟩ | ⟨rfl, hJx'⟩)
      · gi_wp2
        go_roundw
        case rel => exact ⟨_, by simp; omega, by rw [List.length_append]; exact HN.out, by simp; omega, hJ', hk'.1.trans ET.out, hk'.2.trans ES.out⟩
        case measure => simp [intOf]; omega
      · gi_wp2
        refine bodyPost_ret (results_none rfl _ _ _) rfl ?_
        exact ⟨⟨_, rfl⟩, .inr ⟨_, ⟨pre.length + 1, by omega, HN.out⟩, hJx'⟩⟩
    · clear hY
      gi_wp2
      go_end0
      exact ⟨⟨_, rfl⟩, .inl ⟨pre, by rw [HP.out]; congr 1; omega, hJ⟩⟩
end Go.Proofs.YtlcddcnmoajpjaaGreatDoor

namespace Go.Proofs.YtlcddcnmoajpjaaGreatDoor
open Go.RowKit

/-- Box bO holds the slice v, whose row is owned and holds xs. -/
structure Out (w : World) (base bO : Nat) (ty e : TypeId) (size : Nat) (v : Value) (n : Nat) (xs : List Value) : Prop where
  box : Row w bO ty #[v]
  own : w.ownsRow base e size v n xs
  ne : v.ownBlock ≠ some bO

/-- What was there is as it was, but for the box and its row. -/
structure Push (bO : Nat) (v v' : Value) (w w' : World) : Prop where
  os : w'.os = w.os
  tape : w'.tape = w.tape
  output : w'.output = w.output
  size : w.heap.size ≤ w'.heap.size
  block : ∀ k, k < w.heap.size → k ≠ bO → v.ownBlock ≠ some k → w'.heap[k]? = w.heap[k]? ∧ v'.ownBlock ≠ some k

theorem Push.of_ext {bO : Nat} {v : Value} {w w' : World} (h : Ext w w') : Push bO v v w w' := ⟨h.os, h.tape, h.output, h.size, fun k hk _ hne => ⟨h.block k hk, hne⟩⟩
theorem Push.trans {bO : Nat} {v v' v'' : Value} {w w1 w2 : World} (h : Push bO v v' w w1) (k : Push bO v' v'' w1 w2) : Push bO v v'' w w2 :=
  ⟨k.os.trans h.os, k.tape.trans h.tape, k.output.trans h.output, Nat.le_trans h.size k.size, fun i hi hb hv =>
    let ⟨e1, n1⟩ := h.block i hi hb hv
    let ⟨e2, n2⟩ := k.block i (Nat.lt_of_lt_of_le hi h.size) hb n1
    ⟨e2.trans e1, n2⟩⟩
theorem Push.row {bO : Nat} {v v' : Value} {w w' : World} (h : Push bO v v' w w') {g : Nat} {t : TypeId} {cs : Array Value} (hr : Row w g t cs) (hb : g ≠ bO) (hv : v.ownBlock ≠ some g) : Row w' g t cs := (h.block g hr.lt hb hv).1.trans hr
theorem Push.ne {bO : Nat} {v v' : Value} {w w' : World} (h : Push bO v v' w w') {g : Nat} (hr : g < w.heap.size) (hb : g ≠ bO) (hv : v.ownBlock ≠ some g) : v'.ownBlock ≠ some g := (h.block g hr hb hv).2

theorem ownsRow_of_block {w w' : World} {base : Nat} {e : TypeId} {size : Nat} {v : Value} {n : Nat} {xs : List Value} (h : w.ownsRow base e size v n xs) (hb : ∀ k, v.ownBlock = some k → w'.heap[k]? = w.heap[k]?) : w'.ownsRow base e size v n xs := by
  refine ⟨h.1, ?_⟩
  rcases h.2 with hn | ⟨g, cap, cur, hv, hg, hh, rest⟩
  · exact .inl hn
  · exact .inr ⟨g, cap, cur, hv, hg, by rw [hb g (by rw [hv]; rfl)]; exact hh, rest⟩

theorem Out.new (w : World) (base : Nat) (ty e : TypeId) (size : Nat) : Out (w.alloc (.cells #[.slice none 0 0] ty)) base w.heap.size ty e size (.slice none 0 0) 0 [] :=
  ⟨Row.new _ _ _, World.ownsRow_nil _ _ _ _, by simp [Value.ownBlock]⟩
theorem Out.ext {w w' : World} {base bO : Nat} {ty e : TypeId} {size : Nat} {v : Value} {n : Nat} {xs : List Value} (h : Out w base bO ty e size v n xs) (he : Ext w w') : Out w' base bO ty e size v n xs :=
  ⟨h.box.ext he, ownsRow_of_block h.own fun k hk => he.block k (h.own.lt k hk).2, h.ne⟩

/-- Behind the append and the store. -/
theorem Out.pushed {w wA w1 : World} {base base' bO : Nat} {ty e e' : TypeId} {size size' : Nat} {v : Value} {n n' : Nat} {xs xs' : List Value} {g cap : Nat}
    (h : Out w base bO ty e size v n xs) (hE : Ext w wA) (hown : w1.ownsRow base' e' size' (.slice (some ⟨g, 0, none⟩) n' cap) n' xs') (hg : wA.grownBy w1 v.ownBlock) (hat : v.ownBlock = some g ∨ g = wA.heap.size) :
    Out (w1.setCell ⟨bO, 0, none⟩ (.slice (some ⟨g, 0, none⟩) n' cap)) base' bO ty e' size' (.slice (some ⟨g, 0, none⟩) n' cap) n' xs' ∧
      Push bO v (.slice (some ⟨g, 0, none⟩) n' cap) w (w1.setCell ⟨bO, 0, none⟩ (.slice (some ⟨g, 0, none⟩) n' cap)) := by
  have hs := hE.size
  have hlt := h.box.lt
  have gne : g ≠ bO := by
    rcases hat with e | e
    · intro hh; exact h.ne (by rw [e, hh])
    · omega
  have hb1 : Row w1 bO ty #[v] := (hg.block bO (by omega) (by intro hh; exact h.ne hh.symm)).trans (h.box.ext hE)
  refine ⟨⟨by simpa using hb1.set_ 0 (.slice (some ⟨g, 0, none⟩) n' cap), ?_, by simp [Value.ownBlock, gne]⟩, ?_⟩
  · refine ownsRow_of_block hown fun k hk => ?_
    simp only [Value.ownBlock, Option.some.injEq] at hk
    subst hk
    exact Below.heap_setCell _ _ _ _ gne
  · refine ⟨hg.os.trans hE.os, hg.tape.trans hE.tape, hg.output.trans hE.output, ?_, fun k hk hb hv => ⟨?_, ?_⟩⟩
    · have := hg.size
      simp only [World.size_setCell]
      omega
    · exact (Below.heap_setCell _ _ _ _ hb).trans ((hg.block k (by omega) (by intro hh; exact hv hh.symm)).trans (hE.block k hk))
    · simp only [Value.ownBlock, ne_eq, Option.some.injEq]
      rintro rfl
      rcases hat with e | e
      · exact hv e
      · omega
end Go.Proofs.YtlcddcnmoajpjaaGreatDoor

namespace Go.Proofs.YtlcddcnmoajpjaaGreatDoor
open Go.RowKit

section
variable {P : Program} {ops : Array Oper} {md : Region.Mode} {C : World → Prop} {Q : Exit → Act → World → Prop}

/-- The like of 'sinkB' for the heads from k on. -/
def sinkFrom (md : Region.Mode) (ops : Array Oper) (k n : Nat) : Bool :=
  (List.range n).all fun i => decide (i < k) || (List.range (n + 1)).any fun j => decide (i < j) && Region.waitsFor md ops j i

structure HeadFrom (md : Region.Mode) (ops : Array Oper) (k n : Nat) (listed : Array Bool) : Prop where
  inv : HeadInv md ops n listed
  from_ : ∀ i, i < k → listed.getD i true = true

theorem HeadFrom.set {k n i : Nat} {listed : Array Bool} (h : HeadFrom md ops k n listed) (hi : i ∈ Region.ready md ops listed) (hin : i < n) : HeadFrom md ops k n (listed.setIfInBounds i true) := by
  refine ⟨h.inv.set hi hin, fun j hj => ?_⟩
  by_cases hij : i = j
  · subst hij
    have := h.from_ i hj
    have h0 := (mem_ready.1 hi).1
    rw [this] at h0; cases h0
  · rw [getD_set_ne true hij]; exact h.from_ j hj

theorem tail_waits_from {k n : Nat} {listed : Array Bool} (hs : sinkFrom md ops k n = true) (hc : Region.chainB md ops n = true) (hn : n < ops.size) (hh : HeadFrom md ops k n listed) :
    ∀ (d i : Nat), n - i = d → i < n → listed.getD i true = false → ∀ t, n ≤ t → t ∉ Region.ready md ops listed := by
  have inv := hh.inv
  intro d
  induction d using Nat.strongRecOn with
  | _ d ih =>
    intro i hd hi hun t ht hr
    obtain ⟨_, ot, hot, hall⟩ := mem_ready.1 hr
    have htlt : t < ops.size := (Array.getElem?_eq_some_iff.1 hot).1
    by_cases htn : t = n
    · subst htn
      have h1 := List.all_eq_true.1 hs i (List.mem_range.2 hi)
      simp only [Bool.or_eq_true, decide_eq_true_eq] at h1
      rcases h1 with h1 | h1
      · rw [hh.from_ i h1] at hun; cases hun
      obtain ⟨j, hj, hj2⟩ := List.any_eq_true.1 h1
      simp only [Bool.and_eq_true, decide_eq_true_eq] at hj2
      obtain ⟨oj, hoj, e, he, hb, hon⟩ := Region.waitsFor_spec hj2.2
      have hjle : j ≤ t := by have := List.mem_range.1 hj; omega
      by_cases hjt : j = t
      · subst hjt
        have : oj = ot := Option.some.inj (hoj.symm.trans hot)
        subst this
        have h2 := hall e he hb
        rw [hon, getD_both hun] at h2
        cases h2
      · cases hl : listed.getD j false with
        | true =>
          have h2 := inv.closed j oj hoj hl e he hb
          rw [hon, getD_both hun] at h2
          cases h2
        | false =>
          have hjs : j < listed.size := by rw [inv.size]; omega
          exact ih (t - j) (by omega) j rfl (by omega) (getD_in hjs hl) t (Nat.le_refl _) hr
    · have h1 := List.all_eq_true.1 hc t (List.mem_range.2 htlt)
      simp only [Bool.or_eq_true, decide_eq_true_eq] at h1
      rcases h1 with h1 | h1
      · omega
      · obtain ⟨o', ho', e, he, hb, hon⟩ := Region.waitsFor_spec h1
        have : o' = ot := Option.some.inj (ho'.symm.trans hot)
        subst this
        have h2 := hall e he hb
        rw [hon, getD_both (inv.tail (t - 1) (by omega) (by omega))] at h2
        cases h2

theorem headQ_first_from {k n i : Nat} {oi : Oper} {v : Value} {L : Array Bool → Act → Prop} (hi : ops[i]? = some oi) (hsel : ∀ (j : Nat) (o : Oper) cs b, ops[j]? = some o → o.op ≠ .select cs b)
    (hs : sinkFrom md ops k n = true) (hc : Region.chainB md ops n = true) (hn : n < ops.size) (hin : i < n)
    (hdone : ∀ listed a, L listed a → ∀ j ∈ Region.ready md ops listed, n ≤ j) (f : Nat) :
    ∀ (listed : Array Bool) (a : Act), HeadFrom md ops k n listed →
      (∀ j oj, ops[j]? = some oj → j ≠ i → listed.getD j true = false → (∀ e ∈ oj.after, Region.binds md e = true → e.on ≠ i) → oi.apart ops oj = true) →
      i ∈ Region.ready md ops listed → YieldsIn P ops C oi v a →
      headQ P md ops C n L f (listed.setIfInBounds i true) (a.put oi.dst v) → headQ P md ops C n L (f + 1) listed a := by
  induction f with
  | zero =>
    intro listed a inv hfree hr hy H
    have hun := (mem_ready.1 hr).1
    refine ⟨fun h => (by rw [h] at hr; cases hr), fun j hj => ?_⟩
    have hjn : j < n := (Nat.lt_or_ge j n).resolve_right fun h => tail_waits_from hs hc hn inv _ i rfl hin hun j h hj
    refine ⟨hjn, ?_⟩
    by_cases hji : j = i
    · subst hji; exact hy.qOp hi H
    · exact absurd (hdone _ _ H j (ready_mono hj hji)) (by omega)
  | succ f ih =>
    intro listed a inv hfree hr hy H
    have hun := (mem_ready.1 hr).1
    refine ⟨fun h => (by rw [h] at hr; cases hr), fun j hj => ?_⟩
    have hjn : j < n := (Nat.lt_or_ge j n).resolve_right fun h => tail_waits_from hs hc hn inv _ i rfl hin hun j h hj
    refine ⟨hjn, ?_⟩
    by_cases hji : j = i
    · subst hji; exact hy.qOp hi H
    · obtain ⟨hjun, oj, hoj, hall⟩ := mem_ready.1 hj
      have hnot : ∀ e ∈ oj.after, Region.binds md e = true → e.on ≠ i := fun e he hb heq => by
        have h1 := hall e he hb
        rw [heq, getD_both hun] at h1
        cases h1
      have h2 := qOp_put hoj (hfree j oj hoj hji hjun hnot) (fun cs b => hsel i oi cs b hi) (fun cs b => hsel j oj cs b hoj) hy (H.2 j (ready_mono hj hji)).2
      refine qOp_mono (fun a' h3 => ih (listed.setIfInBounds j true) a' (inv.set hj hjn) ?_ (ready_mono hr (Ne.symm hji)) h3.1 ?_) h2
      · intro k ok hk hki hunk hno
        refine hfree k ok hk hki ?_ hno
        by_cases hjk : j = k
        · subst hjk; exact hjun
        · rw [getD_set_ne true hjk] at hunk; exact hunk
      · rw [Array.setIfInBounds_comm _ _ hji]
        exact h3.2

theorem headQ_lex_from {k0 n g : Nat} {Lq : Act → Prop} (hsel : Region.noSelect ops = true) (hs : sinkFrom md ops k0 n = true) (hc : Region.chainB md ops n = true) (hn : n < ops.size) (l : List Oper) :
    ∀ (k : Nat) (listed : Array Bool) (a : Act), (∀ j, j < l.length → l[j]? = ops[k + j]?) → k + l.length = n → HeadFrom md ops k0 n listed →
    Region.lexHead md ops g l.length k listed = true → wpQuiet P ops C Lq l a →
    headQ P md ops C n (fun listed' a' => Region.seqB md ops g n listed' = true ∧ Lq a') l.length listed a := by
  induction l with
  | nil =>
    intro k listed a _ hk _ hB h
    obtain rfl : k = n := by simpa using hk
    exact ⟨by simpa [Region.lexHead] using hB, h⟩
  | cons o l ih =>
    intro k listed a hl hk inv hB h
    have h0 : ops[k]? = some o := by simpa using (hl 0 (by simp)).symm
    simp only [List.length_cons, Region.lexHead, Bool.and_eq_true] at hB
    obtain ⟨⟨hr, hf⟩, hB'⟩ := hB
    simp only [List.length_cons] at hk
    have hr' : k ∈ Region.ready md ops listed := by simpa using hr
    have hst : qOp P ops C k (wpQuiet P ops C Lq l) a := by unfold qOp; simp only [h0]; exact h
    obtain ⟨v, hy, hK⟩ := yieldsIn_of_qOp h0 hst
    refine headQ_first_from h0 (Region.noSelect_spec hsel) hs hc hn (by omega) (fun listed' a' hL => seqB_ready hL.1) l.length listed a inv (Region.free_spec h0 hf) hr' hy
      (ih (k + 1) _ _ (fun j hj => ?_) (by omega) (inv.set hr' (by omega)) hB' hK)
    have := hl (j + 1) (by simp; omega)
    simpa [Nat.add_assoc, Nat.add_comm 1 j] using this

/-- Some first operations, in whatever order, each of which keeps the class; then L. -/
def midH (P : Program) (md : Region.Mode) (ops : Array Oper) (Q : Exit → Act → World → Prop) (S : World → Prop) (n : Nat) (L : Array Bool → Act → World → Prop) : Nat → Array Bool → Act → World → Prop
  | 0, listed, a, w => L listed a w
  | f + 1, listed, a, w => Region.ready md ops listed ≠ [] ∧ ∀ i ∈ Region.ready md ops listed, i < n ∧ wpOp P ops Q i (fun a' w' => S w' ∧ midH P md ops Q S n L f (listed.setIfInBounds i true) a' w') a w

theorem any_of_midH {n g : Nat} {L : Array Bool → Act → World → Prop} {S : World → Prop} (hL : ∀ listed a w, L listed a w → wpAny P md ops Q g listed a w) :
    ∀ (f : Nat) (listed : Array Bool) (a : Act) (w : World), midH P md ops Q S n L f listed a w → wpAny P md ops Q (f + g) listed a w
  | 0, listed, a, w, h => by rw [Nat.zero_add]; exact hL _ _ _ h
  | f + 1, listed, a, w, h => by
    rw [Nat.add_right_comm]
    exact ⟨fun h0 => absurd h0 h.1, fun i hi => wpOp_mono (fun a' w' h' => any_of_midH hL f _ a' w' h'.2) (h.2 i hi).2⟩

theorem midH_of_headQ {n m g : Nat} (hmn : n ≤ m) {L : Array Bool → Act → Prop} {L' : Array Bool → Act → World → Prop} (hL : ∀ listed a w, C w → L listed a → midH P md ops Q C m L' g listed a w) :
    ∀ (f : Nat) (listed : Array Bool) (a : Act) (w : World), C w → headQ P md ops C n L f listed a → midH P md ops Q C m L' (f + g) listed a w
  | 0, listed, a, w, hw, h => by rw [Nat.zero_add]; exact hL _ _ _ hw h
  | f + 1, listed, a, w, hw, h => by
    rw [Nat.add_right_comm]
    exact ⟨h.1, fun i hi => ⟨Nat.lt_of_lt_of_le (h.2 i hi).1 hmn, wpOp_of_qOp hw (fun a' w' hw' h' => ⟨hw', midH_of_headQ hmn hL f _ a' w' hw' h'⟩) (h.2 i hi).2⟩⟩

theorem midH_first {n i : Nat} {oi : Oper} {v : Value} {S : World → Prop} {L : Array Bool → Act → World → Prop} (hi : ops[i]? = some oi) (hsel : ∀ (j : Nat) (o : Oper) cs b, ops[j]? = some o → o.op ≠ .select cs b)
    (hs : Region.sinkB md ops n = true) (hc : Region.chainB md ops n = true) (hn : n < ops.size) (hin : i < n)
    (hQ : ∀ c a w, Q (.panic c) (a.put oi.dst v) w → Q (.panic c) a w)
    (hdone : ∀ listed a w, L listed a w → ∀ j ∈ Region.ready md ops listed, n ≤ j) (f : Nat) :
    ∀ (listed : Array Bool) (a : Act) (w : World), HeadInv md ops n listed →
      (∀ j oj, ops[j]? = some oj → j ≠ i → listed.getD j true = false → (∀ e ∈ oj.after, Region.binds md e = true → e.on ≠ i) → oi.apart ops oj = true) →
      i ∈ Region.ready md ops listed → YieldsIf P ops S oi v a → S w →
      midH P md ops Q S n L f (listed.setIfInBounds i true) (a.put oi.dst v) w → midH P md ops Q S n L (f + 1) listed a w := by
  induction f with
  | zero =>
    intro listed a w inv hfree hr hy hS H
    have hun := (mem_ready.1 hr).1
    refine ⟨fun h => (by rw [h] at hr; cases hr), fun j hj => ?_⟩
    have hjn : j < n := (Nat.lt_or_ge j n).resolve_right fun h => tail_waits hs hc hn inv _ i rfl hin hun j h hj
    refine ⟨hjn, ?_⟩
    by_cases hji : j = i
    · subst hji; exact hy.wpOp hi hS ⟨hS, H⟩
    · exact absurd (hdone _ _ _ H j (ready_mono hj hji)) (by omega)
  | succ f ih =>
    intro listed a w inv hfree hr hy hS H
    have hun := (mem_ready.1 hr).1
    refine ⟨fun h => (by rw [h] at hr; cases hr), fun j hj => ?_⟩
    have hjn : j < n := (Nat.lt_or_ge j n).resolve_right fun h => tail_waits hs hc hn inv _ i rfl hin hun j h hj
    refine ⟨hjn, ?_⟩
    by_cases hji : j = i
    · subst hji; exact hy.wpOp hi hS ⟨hS, H⟩
    · obtain ⟨hjun, oj, hoj, hall⟩ := mem_ready.1 hj
      have hnot : ∀ e ∈ oj.after, Region.binds md e = true → e.on ≠ i := fun e he hb heq => by
        have h1 := hall e he hb
        rw [heq, getD_both hun] at h1
        cases h1
      have h2 := wpOp_putIf hoj (hfree j oj hoj hji hjun hnot) (fun cs b => hsel i oi cs b hi) (fun cs b => hsel j oj cs b hoj) hQ hy (H.2 j (ready_mono hj hji)).2
      refine wpOp_mono (fun a' w' h3 => ⟨h3.2.1, ih (listed.setIfInBounds j true) a' w' (inv.set hj hjn) ?_ (ready_mono hr (Ne.symm hji)) h3.1 h3.2.1 ?_⟩) h2
      · intro k ok hk hki hunk hno
        refine hfree k ok hk hki ?_ hno
        by_cases hjk : j = k
        · subst hjk; exact hjun
        · rw [getD_set_ne true hjk] at hunk; exact hunk
      · rw [Array.setIfInBounds_comm _ _ hji]
        exact h3.2.2

/-- Behind the laying of the element. -/
def midPost (P : Program) (ops : Array Oper) (Q : Exit → Act → World → Prop) (S : World → Prop) (rest : List Oper) : Exit → Act → World → Prop
  | .normal, a, w => S w ∧ wpList P ops (NoPanic Q) rest a w
  | e, a, w => NoPanic Q e a w

def mixB (ops : Array Oper) (m : Nat) : Bool :=
  Region.noSelect ops && decide (0 < m) && decide (m + 1 < ops.size) && Region.sinkB .any ops (m + 1) && Region.chainB .any ops (m + 1) && sinkFrom .any ops 1 m && Region.chainB .any ops m &&
    (Region.ready .any ops (Array.replicate ops.size false)).contains 0 && Region.free .any ops (Array.replicate ops.size false) 0 &&
    Region.lexHead .any ops (ops.size - m) (m - 1) 1 ((Array.replicate ops.size false).setIfInBounds 0 true)

theorem wp_single {o : Oper} {i : Nat} (hi : ops[i]? = some o) {S : World → Prop} {rest : List Oper} {a : Act} {w : World} (h : wpList P ops (midPost P ops Q S rest) [o] a w) :
    wpOp P ops (NoPanic Q) i (fun a' w' => S w' ∧ wpList P ops (NoPanic Q) rest a' w') a w := by
  unfold wpOp
  simp only [hi]
  unfold wpList at h
  split
  · rename_i hw
    rw [if_pos hw] at h
    rcases h with h | ⟨h1, a', w', h2⟩
    · refine .inl ?_
      unfold Oper.wp at h ⊢
      generalize (execOp a.eval o).run P w = r at *
      cases r with
      | ok n w' =>
        cases n <;> simp only [Oper.upon] at h ⊢ <;>
          first
            | exact h
            | exact Calls.mono h (fun e w'' he => by cases e <;> exact he)
            | exact Rows.mono h (fun _ _ he => he)
      | halt x w' => cases x <;> simp only [Oper.upon] at h ⊢ <;> exact h
    · exact .inr ⟨h1, a', w', h2⟩
  · rename_i hw
    rw [if_neg hw] at h
    exact h

theorem any_mix {a : Act} {w : World} {o0 om : Oper} {v0 : Value} {l : List Oper} (m : Nat) (hB : mixB l.toArray m = true)
    (h0 : l[0]? = some o0) (hom : l[m]? = some om) (hC : C { w with drawn := w.drawn + 1 }) (hy : YieldsIf P l.toArray C o0 v0 a)
    (h : wpQuiet P l.toArray C (fun a' => ∀ w', C w' → wpList P l.toArray (midPost P l.toArray Q C (l.drop (m + 1))) [om] a' w') ((l.take m).drop 1) (a.put o0.dst v0)) :
    wpAny P .any l.toArray (NoPanic Q) l.toArray.size (Array.replicate l.toArray.size false) a { w with drawn := w.drawn + 1 } := by
  simp only [mixB, Bool.and_eq_true, decide_eq_true_eq] at hB
  obtain ⟨⟨⟨⟨⟨⟨⟨⟨⟨hsel, hm0⟩, hn⟩, hs⟩, hc⟩, hs'⟩, hc'⟩, hr⟩, hf⟩, hlex⟩ := hB
  have hn' : m + 1 < l.length := by simpa using hn
  have hr' : 0 ∈ Region.ready .any l.toArray (Array.replicate l.toArray.size false) := by simpa using hr
  have inv0 : ∀ n, HeadInv .any l.toArray n (Array.replicate l.toArray.size false) := fun n =>
    ⟨by simp, fun j oj _ hl => (by rw [getD_replicate_false] at hl; cases hl), fun t _ ht => getD_in (by simpa using ht) (getD_replicate_false _ _)⟩
  have inv1 : HeadFrom .any l.toArray 1 m ((Array.replicate l.toArray.size false).setIfInBounds 0 true) :=
    ⟨(inv0 m).set hr' hm0, fun i hi => by obtain rfl : i = 0 := by omega
                                          simp [show 0 < l.length by omega]⟩
  have hlen : ((l.take m).drop 1).length = m - 1 := by simp; omega
  have hfin : ∀ listed a' w', C w' → (Region.seqB .any l.toArray (l.toArray.size - m) m listed = true ∧ ∀ w', C w' → wpList P l.toArray (midPost P l.toArray Q C (l.drop (m + 1))) [om] a' w') →
      midH P .any l.toArray (NoPanic Q) C (m + 1) (fun listed' a'' w'' => Region.seqB .any l.toArray (l.toArray.size - (m + 1)) (m + 1) listed' = true ∧ wpList P l.toArray (NoPanic Q) (l.drop (m + 1)) a'' w'') 1 listed a' w' := by
    intro listed a' w' hw' ⟨hseq, hK⟩
    rw [show l.toArray.size - m = (l.toArray.size - (m + 1)) + 1 by simp; omega] at hseq
    simp only [Region.seqB, Bool.and_eq_true, decide_eq_true_eq] at hseq
    refine ⟨by rw [hseq.1]; simp, fun i hi => ?_⟩
    rw [hseq.1] at hi
    obtain rfl : i = m := by simpa using hi
    refine ⟨by omega, wpOp_mono (fun a'' w'' hh => ⟨hh.1, hseq.2, hh.2⟩) (wp_single (by simpa using hom) (hK w' hw'))⟩
  have H1 := headQ_lex_from (md := .any) (g := l.toArray.size - m) hsel hs' hc' (by simp; omega) ((l.take m).drop 1) 1 _ (a.put o0.dst v0) (fun j hj => by
    rw [hlen] at hj
    simp [show j + 1 < m by omega, Nat.add_comm 1 j]) (by rw [hlen]; omega) inv1 (by rw [hlen]; exact hlex) h
  have H2 := midH_of_headQ (md := .any) (Q := NoPanic Q) (n := m) (m := m + 1) (by omega) hfin _ _ _ _ hC H1
  rw [hlen, show m - 1 + 1 = m by omega] at H2
  have H3 := midH_first (md := .any) (Q := NoPanic Q) (n := m + 1) (i := 0) (by simpa using h0) (Region.noSelect_spec hsel) hs hc (by simpa using hn') (by omega) (fun c a w hh => hh)
    (fun listed a' w' hL => seqB_ready hL.1) m _ a _ (inv0 _) (Region.free_spec (by simpa using h0) hf) hr' hy hC H2
  have H4 := any_of_midH (g := l.toArray.size - (m + 1)) (fun listed a' w' hL => by
    have := wpAny_of_seq (md := .any) (Q' := NoPanic Q) (l.drop (m + 1)) (m + 1) listed a' w' (fun j => by simp [List.getElem?_drop]) (by rw [List.length_drop]; simpa using hL.1) hL.2
    rw [List.length_drop] at this
    simpa using this) _ _ _ _ H3
  rw [show m + 1 + (l.toArray.size - (m + 1)) = l.toArray.size by simp; omega] at H4
  exact H4


theorem wp_region_mix {id : Nat} {a : Act} {w : World} {o0 om : Oper} {v0 : Value} {l : List Oper} (m : Nat) (hm : P.follows .mixedOrders = true) (hB : mixB l.toArray m = true)
    (h0 : l[0]? = some o0) (hom : l[m]? = some om) (hC : C { w with drawn := w.drawn + 1 }) (hy : YieldsIf P l.toArray C o0 v0 a)
    (h : wpQuiet P l.toArray C (fun a' => ∀ w', C w' → wpList P l.toArray (midPost P l.toArray Q C (l.drop (m + 1))) [om] a' w') ((l.take m).drop 1) (a.put o0.dst v0)) :
    (Code.region id l.toArray true).wp P Q a w := wp_region_noPanic (wp_region_any hm (any_mix m hB h0 hom hC hy h))

/-- The post, but only at the end of the region. -/
def OnlyEnd (Q : Exit → Act → World → Prop) : Exit → Act → World → Prop
  | .normal, a, w => Q .normal a w
  | _, _, _ => False
theorem OnlyEnd.not_out {Q : Exit → Act → World → Prop} : ¬ LetsOut (NoPanic (OnlyEnd Q)) := fun ⟨_, _, h⟩ => h

/-- In a round of a range over a function: what a region does there it does anywhere, if it defers nothing. -/
theorem opIn_of_op {K : Act → World → Prop} {l n : Nat} {o : Oper} {a : Act} {w : World} (hd : ∀ c, o.op ≠ .defer c) (hL : ¬ LetsOut Q) (h : o.wp P a w K Q ∨ (o.asks P a w ∧ LetsOut Q)) : o.wpIn (Fence.wide.inRound l) n P a w K Q := by
  replace h := h.resolve_right fun h => hL h.2
  refine ⟨fun _ _ => trivial, ?_⟩
  rw [Oper.semAt_eq _ _ _ hd]
  unfold Oper.wp at h
  generalize (execOp a.eval o).run P w = r at *
  cases r with
  | ok x w' =>
    cases x <;> simp only [Oper.upon, Oper.uponIn] at h ⊢
    all_goals first
      | exact h
      | exact ⟨fun hh => by simp [Fence.wide] at hh, CallsIn.inRound l (callsIn_wide.2 h)⟩
      | exact ⟨fun hh => by simp [Fence.wide] at hh, fun c cs _ => let ⟨v, w', r, s⟩ := h c cs; ⟨v, w', r, stepsIn_wide.2 s⟩⟩
  | halt x w' => cases x <;> simp only [Oper.upon, Oper.uponIn] at h ⊢ <;> exact h
theorem anyIn_of_any {l n : Nat} (hd : ∀ (j : Nat) (o : Oper), ops[j]? = some o → ∀ c, o.op ≠ .defer c) (hL : ¬ LetsOut Q) :
    ∀ (f : Nat) (listed : Array Bool) (a : Act) (w : World), wpAny P md ops Q f listed a w → wpAnyIn (Fence.wide.inRound l) n P md ops Q f listed a w
  | 0, _, _, _, h => h
  | f + 1, listed, a, w, h => ⟨h.1, fun i hi => by
      have h1 := wpOp_mono (fun a' w' h' => anyIn_of_any hd hL (l := l) (n := n) f _ a' w' h') (h.2 i hi)
      unfold wpOp at h1
      unfold wpOpIn
      split
      · rename_i ho; simp only [ho] at h1; exact h1
      · rename_i o ho
        simp only [ho] at h1
        split
        · rename_i hw; rw [if_pos hw] at h1; exact opIn_of_op (hd i o ho) hL h1
        · rename_i hw; rw [if_neg hw] at h1; exact ⟨fun _ _ => trivial, h1⟩⟩

def noDefer (ops : Array Oper) : Bool := ops.all fun o => match o.op with | .defer _ => false | _ => true
theorem noDefer_spec (h : noDefer ops = true) : ∀ (j : Nat) (o : Oper), ops[j]? = some o → ∀ c, o.op ≠ .defer c := by
  intro j o ho c hc
  obtain ⟨hj, rfl⟩ := Array.getElem?_eq_some_iff.1 ho
  have := Array.all_eq_true.1 h j hj
  rw [hc] at this
  cases this

/-- The like in a round of a range over a function. -/
theorem wpIn_region_mix {id r n : Nat} {a : Act} {w : World} {o0 om : Oper} {v0 : Value} {l : List Oper} (m : Nat) (hm : P.follows .mixedOrders = true) (hB : mixB l.toArray m = true) (hd : noDefer l.toArray = true)
    (h0 : l[0]? = some o0) (hom : l[m]? = some om) (hC : C { w with drawn := w.drawn + 1 }) (hy : YieldsIf P l.toArray C o0 v0 a)
    (h : wpQuiet P l.toArray C (fun a' => ∀ w', C w' → wpList P l.toArray (midPost P l.toArray (OnlyEnd Q) C (l.drop (m + 1))) [om] a' w') ((l.take m).drop 1) (a.put o0.dst v0)) :
    (Code.region id l.toArray true).wpIn (Fence.wide.inRound r) n P Q a w :=
  wpIn_mono (wpIn_region_any hm (anyIn_of_any (noDefer_spec hd) OnlyEnd.not_out _ _ _ _ (any_mix m hB h0 hom hC hy h))) fun e _ _ hq => by cases e <;> first | exact hq | exact hq.elim

theorem wpIn_region_later_mix {id r n : Nat} {a : Act} {w : World} {o0 om : Oper} {v0 : Value} {l : List Oper} (m : Nat) (hm : P.follows .mixedOrders = true) (hB : mixB l.toArray m = true) (hd : noDefer l.toArray = true)
    (h0 : l[0]? = some o0) (hom : l[m]? = some om) (hw : Region.wanted o0 (yielded l.toArray a.tmps) = true)
    (hy : ∀ x : Later w, (execOp a.eval o0).run P x.world = .ok (.value v0) x.world)
    (h : ∀ W, W = w → wpQuiet P l.toArray (fun w' => ∃ x : Later W, w' = x.world) (fun a' => ∀ x : Later W, wpList P l.toArray (midPost P l.toArray (OnlyEnd Q) (fun w' => ∃ x : Later W, w' = x.world) (l.drop (m + 1))) [om] a' x.world) ((l.take m).drop 1) (a.put o0.dst v0)) :
    (Code.region id l.toArray true).wpIn (Fence.wide.inRound r) n P Q a w :=
  wpIn_region_mix (C := fun w' => ∃ x : Later w, w' = x.world) m hm hB hd h0 hom ⟨⟨w.drew, (Ext.refl w).drew⟩, rfl⟩ (.inl ⟨hw, by rintro _ ⟨x, rfl⟩; exact hy x⟩) (by
    have := h w rfl
    simpa using this)

/-- A quiet region in a round. -/
theorem wpIn_region_later {id r n : Nat} {a : Act} {w : World} {l : List Oper} (hm : P.follows .mixedOrders = true) (hB : Region.lexB .any l.toArray = true) (hd : noDefer l.toArray = true)
    (h : ∀ W, W = w → wpQuiet P l.toArray (fun w' => ∃ x : Later W, w' = x.world) (fun a' => ∀ x : Later W, Q .normal a' x.world) l a) : (Code.region id l.toArray true).wpIn (Fence.wide.inRound r) n P Q a w := by
  have h1 : wpAny P .any l.toArray (OnlyEnd Q) l.toArray.size (Array.replicate l.toArray.size false) a { w with drawn := w.drawn + 1 } := by
    simp only [Region.lexB, Bool.and_eq_true] at hB
    refine wpAny_of_quiet (C := fun w' => ∃ x : Later w, w' = x.world) (Q := fun a' => ∀ x : Later w, Q .normal a' x.world) (fun _ w' hw' h => by obtain ⟨x, rfl⟩ := hw'; exact h x) _ _ _ _ ⟨⟨w.drew, (Ext.refl w).drew⟩, rfl⟩ ?_
    have := wpAnyQ_lex (C := fun w' => ∃ x : Later w, w' = x.world) (md := .any) hB.1 l 0 (Array.replicate l.toArray.size false) a (by simp) (by simpa using hB.2) (h w rfl)
    simpa using this
  refine wpIn_mono (wpIn_region_any hm (anyIn_of_any (noDefer_spec hd) (fun ⟨_, _, hh⟩ => hh) _ _ _ _ h1)) fun e _ _ hq => by cases e <;> first | exact hq | exact hq.elim

/-- The class: the later worlds. The world gets a name. -/
theorem wp_region_later_mix {id : Nat} {a : Act} {w : World} {o0 om : Oper} {v0 : Value} {l : List Oper} (m : Nat) (hm : P.follows .mixedOrders = true) (hB : mixB l.toArray m = true)
    (h0 : l[0]? = some o0) (hom : l[m]? = some om) (hw : Region.wanted o0 (yielded l.toArray a.tmps) = true)
    (hy : ∀ x : Later w, (execOp a.eval o0).run P x.world = .ok (.value v0) x.world)
    (h : ∀ W, W = w → wpQuiet P l.toArray (fun w' => ∃ x : Later W, w' = x.world) (fun a' => ∀ x : Later W, wpList P l.toArray (midPost P l.toArray Q (fun w' => ∃ x : Later W, w' = x.world) (l.drop (m + 1))) [om] a' x.world) ((l.take m).drop 1) (a.put o0.dst v0)) :
    (Code.region id l.toArray true).wp P Q a w :=
  wp_region_mix (C := fun w' => ∃ x : Later w, w' = x.world) m hm hB h0 hom ⟨⟨w.drew, (Ext.refl w).drew⟩, rfl⟩ (.inl ⟨hw, by rintro _ ⟨x, rfl⟩; exact hy x⟩) (by
    have := h w rfl
    simpa using this)
end
end Go.Proofs.YtlcddcnmoajpjaaGreatDoor
