/- Base: Small words that all my walks share: worlds that only grow (Ext), a region that draws its order walked once over all later worlds, lists of integers in memory.
Spec: What the functions of layer 5 (sky) compute, as plain functions on lists and integers; no program in sight.
Arith: Plain arithmetic: Go's quotients and remainders against Lean's, for a divisor above 0.
Tail: A region that draws its order, in which some first operations only read or call what leaves the old world, and the rest are forced one behind the other and may write: the first ones are walked once, over all later worlds; the rest as any list. (The library has this for one world; here for a class of worlds.)
Mem: How lists of integers and skies lie in memory.
Bounds: Plain bounds of what layer 5 computes, for skies that are as defined. -/
import Derived.WalkKit
import Derived.BigQuiet
import Derived.Deep.QuietTactic
import Derived.Deep.DeepFit
import Derived.WalkLawsBesides
import Derived.WalkSpells
import Derived.Lib.Hide
import Derived.StillTail
import Derived.Deep.Quiet
import Derived.Test.YtlcddcnmoajpjaaGreatDoorProg
namespace Go.Proofs.YtlcddcnmoajpjaaGreatDoor
open Go.RowKit

theorem ret_bool {a b : Bool} (h : a = b) : Ending.returned (.bool a) = .returned (.bool b) := by rw [h]
theorem ret_int {k : IntKind} {a b : Int} (h : a = b) : Ending.returned (.int k a) = .returned (.int k b) := by rw [h]

/-- What was there is there as it was; there may be more. -/
def Ext (w w' : World) : Prop := Below w.heap.size w w'

section
variable {w w1 w2 : World}
theorem Ext.refl (w : World) : Ext w w := Below.refl _ _
theorem Ext.size (h : Ext w w1) : w.heap.size ≤ w1.heap.size := Below.size h
theorem Ext.trans (h : Ext w w1) (k : Ext w1 w2) : Ext w w2 := Below.trans h (Below.mono k (Below.size h))
theorem Ext.drew (h : Ext w w1) : Ext w w1.drew := Below.drew h
theorem Ext.drewN (h : Ext w w1) (n : Nat) : Ext w (w1.drewN n) := ⟨h.os, h.tape, h.output, h.size, h.block⟩
theorem Ext.alloc (h : Ext w w1) (o : Obj) : Ext w (w1.alloc o) := Below.alloc h (Below.size h) o
theorem Ext.setCell (h : Ext w w1) {p : Addr} (hp : w.heap.size ≤ p.block) (u : Value) : Ext w (w1.setCell p u) := Below.setCell h hp u
theorem Ext.grown (h : Ext w w1) {row : Option Nat} (hg : w1.grownBy w2 row) (hr : ∀ k, row = some k → w.heap.size ≤ k) : Ext w w2 := Below.grown h hg (Below.size h) hr

theorem lt_of_cell {p : Addr} {v : Value} (hc : w.cell? p = some v) : p.block < w.heap.size := by
  rcases Nat.lt_or_ge p.block w.heap.size with h | h
  · exact h
  · simp [World.cell?, Array.getElem?_eq_none h] at hc
/-- A cell that is there is there later. -/
theorem Ext.cell (h : Ext w w1) {p : Addr} {v : Value} (hc : w.cell? p = some v) : w1.cell? p = some v := (Below.cell h (lt_of_cell hc)).trans hc
theorem Ext.frozen (h : Ext w w1) {p : Addr} {v : Value} {b : Bool} (hc : w.cell? p = some v) (hf : w.frozen? p = b) : w1.frozen? p = b := (Below.frozen h (lt_of_cell hc)).trans hf

theorem Calls.ext {P : Program} {f : FuncId} {args : Array Value} {v : Value} (h0 : Ext w w1)
    (h : Calls P f args w1 fun e w' => e = .returned v ∧ Ext w1 w') : Calls P f args w1 fun e w' => e = .returned v ∧ Ext w w' :=
  h.mono fun _ _ ⟨he, hb⟩ => ⟨he, h0.trans hb⟩

/-- Block g is a row of cells that is known whole and can be written. -/
def Row (w : World) (g : Nat) (t : TypeId) (cs : Array Value) : Prop := w.heap[g]? = some (.cells cs t (0, 0))
theorem Row.lt {g : Nat} {t : TypeId} {cs : Array Value} (h : Row w g t cs) : g < w.heap.size := by
  rcases Nat.lt_or_ge g w.heap.size with h' | h'
  · exact h'
  · unfold Row at h; rw [Array.getElem?_eq_none h'] at h; cases h
theorem Row.cell {g : Nat} {t : TypeId} {cs : Array Value} (h : Row w g t cs) (i : Nat) : w.cell? ⟨g, i, none⟩ = cs[i]? := cell_of_row w g i cs t (0, 0) h
theorem Row.free {g : Nat} {t : TypeId} {cs : Array Value} (h : Row w g t cs) (i : Nat) : w.frozen? ⟨g, i, none⟩ = false := by
  unfold Row at h
  simp [World.frozen?, h]
theorem Row.new (w : World) (t : TypeId) (cs : Array Value) : Row (w.alloc (.cells cs t)) w.heap.size t cs := heap_alloc_new w _
theorem Row.ext {g : Nat} {t : TypeId} {cs : Array Value} (h : Row w g t cs) (he : Ext w w1) : Row w1 g t cs := (he.block g h.lt).trans h
theorem Row.set_ {g : Nat} {t : TypeId} {cs : Array Value} (h : Row w g t cs) (i : Nat) (u : Value) : Row (w.setCell ⟨g, i, none⟩ u) g t (cs.setIfInBounds i u) := by
  unfold Row at h ⊢
  simp [World.setCell, Array.getElem?_modify, h]
theorem Row.far {g : Nat} {t : TypeId} {cs : Array Value} (h : Row w g t cs) {p : Addr} (hp : g ≠ p.block) (u : Value) : Row (w.setCell p u) g t cs := (Below.heap_setCell w p u g hp).trans h
theorem Row.drew {g : Nat} {t : TypeId} {cs : Array Value} (h : Row w g t cs) : Row w.drew g t cs := h
theorem Row.drewN {g : Nat} {t : TypeId} {cs : Array Value} (h : Row w g t cs) (n : Nat) : Row (w.drewN n) g t cs := h
theorem Row.alloc {g : Nat} {t : TypeId} {cs : Array Value} (h : Row w g t cs) (o : Obj) : Row (w.alloc o) g t cs := h.ext ((Ext.refl w).alloc o)

/-- A later world. -/
structure Later (w : World) where
  world : World
  ext : Ext w world
instance : Nonempty (Later w) := ⟨⟨w, Ext.refl w⟩⟩
theorem Ext.later {p : Addr} {v : Value} (hc : w.cell? p = some v) : ∀ x : Later w, x.world.cell? p = some v := fun x => x.ext.cell hc

/-- A contract, met in a later world. -/
theorem Later.call {P : Program} {f : FuncId} {args : Array Value} {v : Value} {x : Later w}
    (h : Calls P f args x.world fun e w' => e = .returned v ∧ Ext x.world w') : Calls P f args x.world fun e w' => e = .returned v ∧ ∃ y : Later w, w' = y.world :=
  h.mono fun _ _ ⟨he, hb⟩ => ⟨he, ⟨_, x.ext.trans hb⟩, rfl⟩

/-- A region that draws its order, whose operations only read and whose calls leave what was there: one walk, in the order of the text, in whatever later world. The world gets a name. -/
theorem wp_region_later {P : Program} {id : Nat} {Q : Exit → Act → World → Prop} {a : Act} {l : List Oper} (hm : P.follows .mixedOrders = true) (hB : Region.lexB .any l.toArray = true)
    (h : ∀ W, W = w → wpQuiet P l.toArray (fun w' => ∃ x : Later W, w' = x.world) (fun a' => ∀ x : Later W, Q .normal a' x.world) l a) : (Code.region id l.toArray true).wp P Q a w :=
  wp_region_quiet (C := fun w' => ∃ x : Later w, w' = x.world) hm hB ⟨⟨w.drew, (Ext.refl w).drew⟩, rfl⟩ (by
    have := h w rfl
    simpa using this)

/-- The world gets a name. -/
theorem wp_named {P : Program} {c : Code} {Q : Exit → Act → World → Prop} {a : Act} (h : ∀ W, W = w → c.wp P Q a W) : c.wp P Q a w := h w rfl
theorem calls_named {P : Program} {f : FuncId} {args : Array Value} {R : Ending → World → Prop} (h : ∀ W, W = w → Calls P f args W R) : Calls P f args w R := h w rfl
end

end Go.Proofs.YtlcddcnmoajpjaaGreatDoor

namespace Go.Proofs.YtlcddcnmoajpjaaGreatDoor
namespace Sp

structure Body where
  num : Int
  den : Int
  start : Int
  road : List Int

structure Sky where
  bodies : List Body
  nnum : Int
  nden : Int
  nstart : Int

def noBody : Body := ⟨0, 0, 0, []⟩

def inR (x lo hi : Int) : Bool := decide (lo ≤ x) && decide (x ≤ hi)
def spot (n : Int) : Bool := inR n 0 21599
def period (num den : Int) : Bool := inR num 1 10000 && (inR den 1 10000 && decide (4 * den ≤ num))
def roadOk (l : List Int) : Bool := l.all fun n => inR n (-600) 600
def bodyOk (b : Body) : Bool := period b.num b.den && (spot b.start && (inR b.road.length 1 8 && roadOk b.road))
def skyOk (s : Sky) : Bool := inR s.bodies.length 2 4 && (period s.nnum s.nden && (spot s.nstart && s.bodies.all bodyOk))
def isDay (n : Int) : Bool := inR n 0 20000
def isBody (s : Sky) (n : Int) : Bool := inR n 0 (s.bodies.length - 1)
def isSpan (lo hi : Int) : Bool := inR lo 1 20000 && (inR hi lo 20000 && decide (hi - lo ≤ 800))
def isLimit (n : Int) : Bool := inR n 0 5400
def isOff (n : Int) : Bool := inR n 0 10800
def areMonths (n : Int) : Bool := inR n 0 400

/-- The body with a number. -/
def body (s : Sky) (n : Int) : Body := s.bodies.getD n.toNat noBody

def gone (num den day : Int) : Int := day * 21600 * den / num
def mean (b : Body) (day : Int) : Int := b.start + gone b.num b.den day
def rd (l : List Int) (i : Nat) : Int := l.getD i 0

/-- The error of a body whose mean place is x. -/
def errOf (l : List Int) (x : Int) : Int :=
  let n := x * l.length
  let i := (n / 21600).toNat
  rd l i + (rd l ((i + 1) % l.length) - rd l i) * (n % 21600) / 21600

def way (b : Body) (day : Int) : Int := mean b day + errOf b.road (mean b day % 21600)
def place (b : Body) (day : Int) : Int := way b day % 21600
def node (s : Sky) (day : Int) : Int := (s.nstart - gone s.nnum s.nden day) % 21600
def ahead (s : Sky) (one other day : Int) : Int := way (body s one) day - way (body s other) day
def between (s : Sky) (one other day : Int) : Int := ahead s one other day % 21600
def passes (a b : Int) : Bool := decide (a / 21600 < b / 21600)
def halfOf (full : Bool) : Int := if full then 10800 else 0
def moonB (s : Sky) (day : Int) (full : Bool) : Bool :=
  passes (ahead s 1 0 (day - 1) - halfOf full) (ahead s 1 0 day - halfOf full)

def dayMoons (s : Sky) (d : Int) : List (Int × Bool) :=
  (if moonB s d false then [(d, false)] else []) ++ (if moonB s d true then [(d, true)] else [])
def moonsN (s : Sky) (lo : Int) : Nat → List (Int × Bool)
  | 0 => []
  | k + 1 => moonsN s lo k ++ dayMoons s (lo + k)
def moonsL (s : Sky) (lo hi : Int) : List (Int × Bool) := moonsN s lo (hi + 1 - lo).toNat

/-- The first day with a moon among k days from d on. -/
def nextN (s : Sky) (full : Bool) (d : Int) : Nat → Option Int
  | 0 => none
  | k + 1 => if moonB s d full then some d else nextN s full (d + 1) k
def nextO (s : Sky) (day : Int) (full : Bool) : Option Int := nextN s full (max 1 day) (20001 - max 1 day).toNat

def far (s : Sky) (day : Int) : Int :=
  let n := (way (body s 1) day - node s day) % 10800
  min n (10800 - n)
structure Ecl where
  day : Int
  full : Bool
  far : Int
def eclOf (s : Sky) (nw fl : Int) (m : Int × Bool) : List Ecl :=
  if far s m.1 ≤ (if m.2 then fl else nw) then [⟨m.1, m.2, far s m.1⟩] else []
def eclsOf (s : Sky) (nw fl : Int) : List (Int × Bool) → List Ecl
  | [] => []
  | m :: l => eclOf s nw fl m ++ eclsOf s nw fl l
def ecls (s : Sky) (nw fl lo hi : Int) : List Ecl := eclsOf s nw fl (moonsL s lo hi)

def meetB (s : Sky) (one other d : Int) : Bool :=
  passes (ahead s one other (d - 1)) (ahead s one other d) || passes (-ahead s one other (d - 1)) (-ahead s one other d)
def meetsN (s : Sky) (one other lo : Int) : Nat → List Int
  | 0 => []
  | k + 1 => meetsN s one other lo k ++ (if meetB s one other (lo + k) then [lo + k] else [])
def meetsL (s : Sky) (one other lo hi : Int) : List Int := meetsN s one other lo (hi + 1 - lo).toNat

def round (n : Int) : Int := min (n % 21600) (21600 - n % 21600)
def apart (a b : Int) : Int := round (a - b)
def nearD (s : Sky) (one other d : Int) : Int := round (ahead s one other d)
/-- The first day of k + 1 days on which two bodies differ least. -/
def nearN (s : Sky) (one other lo : Int) : Nat → Int
  | 0 => lo
  | k + 1 => if nearD s one other (lo + (k + 1 : Nat)) < nearD s one other (nearN s one other lo k) then lo + (k + 1 : Nat) else nearN s one other lo k
def nearL (s : Sky) (one other lo hi : Int) : Int := nearN s one other lo (hi - lo).toNat

def monthNum (s : Sky) : Int := (body s 1).num * (body s 0).num
def monthDen (s : Sky) : Int := (body s 1).den * (body s 0).num - (body s 0).den * (body s 1).num
def isMonth (s : Sky) : Bool := decide (0 < monthDen s)
def drift (s : Sky) (n : Int) : Int :=
  let num := 2 * n * (body s 0).num * ((body s 1).den * s.nnum + s.nden * (body s 1).num)
  let den := monthDen s * s.nnum
  min (num % den) (den - num % den) * 10800 / den
/-- The first number of months among k of them from n on. -/
def cycleN (s : Sky) (limit : Int) (n : Int) : Nat → Option Int
  | 0 => none
  | k + 1 => if drift s n ≤ limit then some n else cycleN s limit (n + 1) k
def cycleO (s : Sky) (limit : Int) : Option Int := cycleN s limit 1 400

structure Note where
  day : Int
  seen : Int
  off : Int
def noteOk (n : Note) : Bool := isDay n.day && (spot n.seen && isOff n.off)
def rangeOk (low high : Int) : Bool := inR low 0 1000000 && (inR high low 1000000 && decide (high - low ≤ 5000))
def notesOk (l : List Note) : Bool := decide (l.length ≤ 6) && l.all noteOk
def at_ (start speed day : Int) : Int := (start + speed * day / 1000) % 21600
def agrees (start : Int) (l : List Note) (speed : Int) : Bool := l.all fun n => decide (apart (at_ start speed n.day) n.seen ≤ n.off)
def speedsN (start : Int) (l : List Note) (low : Int) : Nat → List Int
  | 0 => []
  | k + 1 => speedsN start l low k ++ (if agrees start l (low + k) then [low + k] else [])
def speedsL (start : Int) (l : List Note) (low high : Int) : List Int := speedsN start l low (high + 1 - low).toNat

def daysOk (l : List Int) : Bool := inR l.length 1 6 && l.all isDay
/-- How many of some speeds are at most 2 * off after a place. -/
def hits (start : Int) (l : List Int) (day wide p : Int) : Nat := (l.filter fun v => decide ((at_ start v day - p) % 21600 < wide)).length
def maxN (f : Nat → Nat) : Nat → Nat
  | 0 => 0
  | k + 1 => max (maxN f k) (f k)
def left (start : Int) (l : List Int) (day off : Int) : Nat := maxN (fun p => hits start l day (2 * off + 1) p) 21600
/-- The number of the first best day of the first k + 1 days. -/
def watchN (start : Int) (l days : List Int) (off : Int) : Nat → Nat
  | 0 => 0
  | k + 1 => if left start l (rd days (k + 1)) off < left start l (rd days (watchN start l days off k)) off then k + 1 else watchN start l days off k
def watchI (start : Int) (l days : List Int) (off : Int) : Nat := watchN start l days off (days.length - 1)

end Sp
end Go.Proofs.YtlcddcnmoajpjaaGreatDoor

namespace Go.Proofs.YtlcddcnmoajpjaaGreatDoor

theorem eq_of_mul (b t r : Int) (hb : 1 ≤ b) (h : b * t = r) (h1 : -b < r) (h2 : r < b) : t = 0 := by
  rcases Int.lt_trichotomy t 0 with ht | ht | ht
  · have : b * t ≤ b * (-1) := Int.mul_le_mul_of_nonneg_left (by omega) (by omega)
    omega
  · exact ht
  · have : b * 1 ≤ b * t := Int.mul_le_mul_of_nonneg_left (by omega) (by omega)
    omega

theorem tmod_bounds (a b : Int) (hb : 1 ≤ b) (ha : a < 0) : -b < a.tmod b ∧ a.tmod b ≤ 0 := by
  have e : a.tmod b = -((-a).tmod b) := by
    have := Int.neg_tmod (-a) b
    rw [Int.neg_neg] at this
    exact this
  have h1 := Int.tmod_nonneg (a := -a) b (by omega)
  have h2 := Int.tmod_lt_of_pos (-a) (show 0 < b by omega)
  omega
theorem tdiv_bounds (a b : Int) (hb : 1 ≤ b) (ha : a < 0) : a ≤ a.tdiv b ∧ a.tdiv b ≤ 0 := by
  have h1 := Int.mul_tdiv_add_tmod a b
  obtain ⟨h2, h3⟩ := tmod_bounds a b hb ha
  have h4 : a.tdiv b ≤ 0 := by
    rcases Int.lt_or_le 0 (a.tdiv b) with h | h
    · have : b * 1 ≤ b * a.tdiv b := Int.mul_le_mul_of_nonneg_left (by omega) (by omega)
      omega
    · exact h
  have h5 : b * a.tdiv b ≤ 1 * a.tdiv b := Int.mul_le_mul_of_nonpos_right (by omega) h4
  omega
theorem tdiv_neg (a b : Int) (hb : 1 ≤ b) (ha : a < 0) (hr : a.tmod b < 0) : a.tdiv b - 1 = a / b ∧ a.tmod b + b = a % b := by
  have h1 := Int.mul_tdiv_add_tmod a b
  have h2 := Int.mul_ediv_add_emod a b
  have h3 := Int.emod_nonneg a (show b ≠ 0 by omega)
  have h4 := Int.emod_lt_of_pos a (show 0 < b by omega)
  have h5 := tmod_bounds a b hb ha
  have h6 : b * (a / b - (a.tdiv b - 1)) = a.tmod b + b - a % b := by
    rw [Int.mul_sub, Int.mul_sub]; omega
  have h7 := eq_of_mul b _ _ hb h6 (by omega) (by omega)
  rw [h7] at h6
  exact ⟨by omega, by omega⟩
theorem tdiv_zero (a b : Int) (hb : 1 ≤ b) (ha : a < 0) (hr : 0 ≤ a.tmod b) : a.tdiv b = a / b ∧ a.tmod b = a % b := by
  have h1 := Int.mul_tdiv_add_tmod a b
  have h2 := Int.mul_ediv_add_emod a b
  have h3 := Int.emod_nonneg a (show b ≠ 0 by omega)
  have h4 := Int.emod_lt_of_pos a (show 0 < b by omega)
  have h5 := tmod_bounds a b hb ha
  have h6 : b * (a / b - a.tdiv b) = a.tmod b - a % b := by rw [Int.mul_sub]; omega
  have h7 := eq_of_mul b _ _ hb h6 (by omega) (by omega)
  rw [h7] at h6
  exact ⟨by omega, by omega⟩
theorem ediv_bounds (a b : Int) (hb : 1 ≤ b) (ha : 0 ≤ a) : 0 ≤ a / b ∧ a / b ≤ a := ⟨Int.ediv_nonneg ha (by omega), Int.ediv_le_self _ ha⟩
theorem emod_bounds (a b : Int) (hb : 1 ≤ b) : 0 ≤ a % b ∧ a % b < b := ⟨Int.emod_nonneg a (by omega), Int.emod_lt_of_pos a (by omega)⟩

end Go.Proofs.YtlcddcnmoajpjaaGreatDoor

namespace Go.Proofs.YtlcddcnmoajpjaaGreatDoor
open Go.RowKit

section
variable {P : Program} {ops : Array Oper} {md : Region.Mode} {C : World → Prop}

def headQ (P : Program) (md : Region.Mode) (ops : Array Oper) (C : World → Prop) (n : Nat) (L : Array Bool → Act → Prop) : Nat → Array Bool → Act → Prop
  | 0, listed, a => L listed a
  | f + 1, listed, a => Region.ready md ops listed ≠ [] ∧ ∀ i ∈ Region.ready md ops listed, i < n ∧ qOp P ops C i (headQ P md ops C n L f (listed.setIfInBounds i true)) a

theorem any_of_headQ {n g : Nat} {L : Array Bool → Act → Prop} {Q' : Exit → Act → World → Prop} (hL : ∀ listed a w, C w → L listed a → wpAny P md ops Q' g listed a w) (f : Nat) :
    ∀ (listed : Array Bool) (a : Act) (w : World), C w → headQ P md ops C n L f listed a → wpAny P md ops Q' (f + g) listed a w := by
  induction f with
  | zero => intro listed a w hw h; rw [Nat.zero_add]; exact hL _ _ _ hw h
  | succ f ih =>
    intro listed a w hw h
    rw [Nat.add_right_comm]
    exact ⟨fun h0 => absurd h0 h.1, fun i hi => wpOp_of_qOp hw (fun a' w' hw' h' => ih _ a' w' hw' h') (h.2 i hi).2⟩

theorem headQ_first {n i : Nat} {oi : Oper} {v : Value} {L : Array Bool → Act → Prop} (hi : ops[i]? = some oi) (hsel : ∀ (j : Nat) (o : Oper) cs b, ops[j]? = some o → o.op ≠ .select cs b)
    (hs : Region.sinkB md ops n = true) (hc : Region.chainB md ops n = true) (hn : n < ops.size) (hin : i < n)
    (hdone : ∀ listed a, L listed a → ∀ j ∈ Region.ready md ops listed, n ≤ j) (f : Nat) :
    ∀ (listed : Array Bool) (a : Act), HeadInv md ops n listed →
      (∀ j oj, ops[j]? = some oj → j ≠ i → listed.getD j true = false → (∀ e ∈ oj.after, Region.binds md e = true → e.on ≠ i) → oi.apart ops oj = true) →
      i ∈ Region.ready md ops listed → YieldsIn P ops C oi v a →
      headQ P md ops C n L f (listed.setIfInBounds i true) (a.put oi.dst v) → headQ P md ops C n L (f + 1) listed a := by
  induction f with
  | zero =>
    intro listed a inv hfree hr hy H
    have hun := (mem_ready.1 hr).1
    refine ⟨fun h => (by rw [h] at hr; cases hr), fun j hj => ?_⟩
    have hjn : j < n := (Nat.lt_or_ge j n).resolve_right fun h => tail_waits hs hc hn inv _ i rfl hin hun j h hj
    refine ⟨hjn, ?_⟩
    by_cases hji : j = i
    · subst hji; exact hy.qOp hi H
    · exact absurd (hdone _ _ H j (ready_mono hj hji)) (by omega)
  | succ f ih =>
    intro listed a inv hfree hr hy H
    have hun := (mem_ready.1 hr).1
    refine ⟨fun h => (by rw [h] at hr; cases hr), fun j hj => ?_⟩
    have hjn : j < n := (Nat.lt_or_ge j n).resolve_right fun h => tail_waits hs hc hn inv _ i rfl hin hun j h hj
    refine ⟨hjn, ?_⟩
    by_cases hji : j = i
    · subst hji; exact hy.qOp hi H
    · obtain ⟨hjun, oj, hoj, hall⟩ := mem_ready.1 hj
      have hnot : ∀ e ∈ oj.after, Region.binds md e = true → e.on ≠ i := fun e he hb heq => by
        have h1 := hall e he hb
        rw [heq, getD_both hun] at h1
        cases h1
      have h2 := qOp_put hoj (hfree j oj hoj hji hjun hnot) (fun cs b => hsel i oi cs b hi) (fun cs b => hsel j oj cs b hoj) hy (H.2 j (ready_mono hj hji)).2
      refine qOp_mono (fun a' h3 => ih (listed.setIfInBounds j true) a' (inv.set hj hjn) ?_ (ready_mono hr (Ne.symm hji)) h3.1 ?_) h2
      · intro k ok hk hki hunk hno
        refine hfree k ok hk hki ?_ hno
        by_cases hjk : j = k
        · subst hjk; exact hjun
        · rw [getD_set_ne true hjk] at hunk; exact hunk
      · rw [Array.setIfInBounds_comm _ _ hji]
        exact h3.2

theorem headQ_lex {n g : Nat} {Lq : Act → Prop} (hsel : Region.noSelect ops = true) (hs : Region.sinkB md ops n = true) (hc : Region.chainB md ops n = true) (hn : n < ops.size) (l : List Oper) :
    ∀ (k : Nat) (listed : Array Bool) (a : Act), (∀ j, j < l.length → l[j]? = ops[k + j]?) → k + l.length = n → HeadInv md ops n listed →
    Region.lexHead md ops g l.length k listed = true → wpQuiet P ops C Lq l a →
    headQ P md ops C n (fun listed' a' => Region.seqB md ops g n listed' = true ∧ Lq a') l.length listed a := by
  induction l with
  | nil =>
    intro k listed a _ hk _ hB h
    obtain rfl : k = n := by simpa using hk
    exact ⟨by simpa [Region.lexHead] using hB, h⟩
  | cons o l ih =>
    intro k listed a hl hk inv hB h
    have h0 : ops[k]? = some o := by simpa using (hl 0 (by simp)).symm
    simp only [List.length_cons, Region.lexHead, Bool.and_eq_true] at hB
    obtain ⟨⟨hr, hf⟩, hB'⟩ := hB
    simp only [List.length_cons] at hk
    have hr' : k ∈ Region.ready md ops listed := by simpa using hr
    have hst : qOp P ops C k (wpQuiet P ops C Lq l) a := by unfold qOp; simp only [h0]; exact h
    obtain ⟨v, hy, hK⟩ := yieldsIn_of_qOp h0 hst
    refine headQ_first h0 (Region.noSelect_spec hsel) hs hc hn (by omega) (fun listed' a' hL => seqB_ready hL.1) l.length listed a inv (Region.free_spec h0 hf) hr' hy
      (ih (k + 1) _ _ (fun j hj => ?_) (by omega) (inv.set hr' (by omega)) hB' hK)
    have := hl (j + 1) (by simp; omega)
    simpa [Nat.add_assoc, Nat.add_comm 1 j] using this

theorem wp_region_tail {id : Nat} {Q : Exit → Act → World → Prop} {a : Act} {w : World} {l : List Oper} (n : Nat) (hm : P.follows .mixedOrders = true) (hB : Region.lexTailB .any l.toArray n = true)
    (hC : C { w with drawn := w.drawn + 1 }) (h : wpQuiet P l.toArray C (fun a' => ∀ w', C w' → wpList P l.toArray Q (l.drop n) a' w') (l.take n) a) : (Code.region id l.toArray true).wp P Q a w := by
  simp only [Region.lexTailB, Bool.and_eq_true, decide_eq_true_eq] at hB
  obtain ⟨⟨⟨⟨hsel, hn⟩, hs⟩, hc⟩, hlex⟩ := hB
  have hn' : n < l.length := by simpa using hn
  have htl : (l.take n).length = n := by simp; omega
  have hdl : (l.drop n).length = l.toArray.size - n := by simp
  have inv0 : HeadInv .any l.toArray n (Array.replicate l.toArray.size false) :=
    ⟨by simp, fun j oj _ hl => (by rw [getD_replicate_false] at hl; cases hl), fun t _ ht => getD_in (by simpa using ht) (getD_replicate_false _ _)⟩
  have H := headQ_lex (md := .any) (g := l.toArray.size - n) hsel hs hc hn (l.take n) 0 _ a (fun j hj => by
    rw [htl] at hj
    simp [hj]) (by simpa using htl) inv0 (by rw [htl]; exact hlex) h
  refine wp_region_any hm ?_
  have := any_of_headQ (Q' := Q) (g := l.toArray.size - n) (fun listed a' w' hw' hL => by
    have := wpAny_of_seq (md := .any) (Q' := Q) (l.drop n) n listed a' w' (fun j => by simp [List.getElem?_drop]) (by rw [hdl]; exact hL.1) (hL.2 w' hw')
    rwa [hdl] at this) _ _ _ _ hC H
  rw [htl, show n + (l.toArray.size - n) = l.toArray.size by omega] at this
  exact this

/-- The first n operations over all later worlds, the rest one by one. The world gets a name. -/
theorem wp_region_later_tail {id : Nat} {Q : Exit → Act → World → Prop} {a : Act} {w : World} {l : List Oper} (n : Nat) (hm : P.follows .mixedOrders = true) (hB : Region.lexTailB .any l.toArray n = true)
    (h : ∀ W, W = w → wpQuiet P l.toArray (fun w' => ∃ x : Later W, w' = x.world) (fun a' => ∀ x : Later W, wpList P l.toArray Q (l.drop n) a' x.world) (l.take n) a) : (Code.region id l.toArray true).wp P Q a w :=
  wp_region_tail (C := fun w' => ∃ x : Later w, w' = x.world) n hm hB ⟨⟨w.drew, (Ext.refl w).drew⟩, rfl⟩ (by
    have := h w rfl
    simpa using this)
end
end Go.Proofs.YtlcddcnmoajpjaaGreatDoor

namespace Go.Proofs.YtlcddcnmoajpjaaGreatDoor
open Go.RowKit
open Sp (rd)

/-- A slice value that holds a list of integers. -/
def Ints (w : World) (A : Option Addr) (l : List Int) : Prop :=
  0 < l.length → ∃ b o, A = some ⟨b, o, none⟩ ∧ ∀ k, k < l.length → w.cell? ⟨b, o + k, none⟩ = some (.int .i64 (rd l k))

def bd (l : List Sp.Body) (k : Nat) : Sp.Body := l.getD k Sp.noBody

/-- One body in memory. -/
structure BodyAt (w : World) (b o : Nat) (x : Sp.Body) : Prop where
  num : w.cell? ⟨b, o, none⟩ = some (.int .i64 x.num)
  den : w.cell? ⟨b, o + 1, none⟩ = some (.int .i64 x.den)
  start : w.cell? ⟨b, o + 2, none⟩ = some (.int .i64 x.start)
  road : ∃ A c, w.cell? ⟨b, o + 3, none⟩ = some (.slice A x.road.length c) ∧ Ints w A x.road

def Bodies (w : World) (A : Option Addr) (l : List Sp.Body) : Prop :=
  0 < l.length → ∃ b o, A = some ⟨b, o, none⟩ ∧ ∀ k, k < l.length → BodyAt w b (o + k * 4) (bd l k)

theorem Ints.ext {w w' : World} {A : Option Addr} {l : List Int} (h : Ints w A l) (he : Ext w w') : Ints w' A l := fun h0 =>
  let ⟨b, o, e, hc⟩ := h h0
  ⟨b, o, e, fun k hk => he.cell (hc k hk)⟩
theorem BodyAt.ext {w w' : World} {b o : Nat} {x : Sp.Body} (h : BodyAt w b o x) (he : Ext w w') : BodyAt w' b o x :=
  ⟨he.cell h.num, he.cell h.den, he.cell h.start, let ⟨A, c, hc, hi⟩ := h.road; ⟨A, c, he.cell hc, hi.ext he⟩⟩
theorem Bodies.ext {w w' : World} {A : Option Addr} {l : List Sp.Body} (h : Bodies w A l) (he : Ext w w') : Bodies w' A l := fun h0 =>
  let ⟨b, o, e, hc⟩ := h h0
  ⟨b, o, e, fun k hk => (hc k hk).ext he⟩

theorem body_eq (s : Sp.Sky) (n : Int) : Sp.body s n = bd s.bodies n.toNat := rfl

end Go.Proofs.YtlcddcnmoajpjaaGreatDoor

namespace Go.Proofs.YtlcddcnmoajpjaaGreatDoor
open Sp (rd)

theorem inR_iff {x lo hi : Int} : Sp.inR x lo hi = true ↔ lo ≤ x ∧ x ≤ hi := by simp [Sp.inR]
theorem inR_no {x lo hi : Int} : Sp.inR x lo hi = false ↔ ¬ (lo ≤ x ∧ x ≤ hi) := by rw [← inR_iff]; simp

theorem rd_bounds {l : List Int} (h : Sp.roadOk l = true) (i : Nat) : -600 ≤ rd l i ∧ rd l i ≤ 600 := by
  unfold Sp.roadOk at h
  unfold rd
  rw [List.all_eq_true] at h
  rcases Nat.lt_or_ge i l.length with hi | hi
  · rw [List.getD_eq_getElem?_getD, List.getElem?_eq_getElem hi]
    exact inR_iff.1 (h _ (List.getElem_mem hi))
  · rw [List.getD_eq_getElem?_getD, List.getElem?_eq_none hi]
    simp

theorem period_bounds {num den : Int} (h : Sp.period num den = true) : 1 ≤ num ∧ num ≤ 10000 ∧ 1 ≤ den ∧ den ≤ 10000 ∧ 4 * den ≤ num := by
  simp only [Sp.period, Bool.and_eq_true, inR_iff, decide_eq_true_eq] at h
  omega

structure BodyOk (x : Sp.Body) : Prop where
  num1 : 1 ≤ x.num
  num2 : x.num ≤ 10000
  den1 : 1 ≤ x.den
  den2 : x.den ≤ 10000
  four : 4 * x.den ≤ x.num
  start1 : 0 ≤ x.start
  start2 : x.start ≤ 21599
  len1 : 1 ≤ x.road.length
  len2 : x.road.length ≤ 8
  road : Sp.roadOk x.road = true

theorem bodyOk_iff {x : Sp.Body} : Sp.bodyOk x = true ↔ BodyOk x := by
  simp only [Sp.bodyOk, Sp.period, Sp.spot, Bool.and_eq_true, inR_iff, decide_eq_true_eq]
  constructor
  · rintro ⟨⟨h1, h2, h3⟩, h4, h5, h6⟩
    exact ⟨by omega, by omega, by omega, by omega, by omega, by omega, by omega, by omega, by omega, h6⟩
  · rintro ⟨a, b, c, d, e, f, g, h, i, j⟩
    exact ⟨⟨by omega, by omega, by omega⟩, by omega, by omega, j⟩

theorem gone_bounds {num den day : Int} (h1 : 0 ≤ day) (h2 : day ≤ 20000) (h3 : 1 ≤ num) (h5 : 1 ≤ den) (h6 : 4 * den ≤ num) : 0 ≤ Sp.gone num den day ∧ Sp.gone num den day ≤ 108000000 := by
  have k0 : 0 ≤ day * 21600 * den := Int.mul_nonneg (by omega) (by omega)
  have k1 : day * 21600 * den ≤ 432000000 * den := Int.mul_le_mul_of_nonneg_right (by omega) (by omega)
  have k2 := ediv_bounds (day * 21600 * den) num h3 k0
  unfold Sp.gone
  refine ⟨k2.1, ?_⟩
  apply Int.ediv_le_of_le_mul (by omega)
  omega

theorem mul_bounds {a b A B : Int} (h1 : -A ≤ a) (h2 : a ≤ A) (h3 : 0 ≤ b) (h4 : b ≤ B) : -(A * B) ≤ a * b ∧ a * b ≤ A * B := by
  have hA : 0 ≤ A := by omega
  have k1 : a * b ≤ A * b := Int.mul_le_mul_of_nonneg_right h2 h3
  have k2 : A * b ≤ A * B := Int.mul_le_mul_of_nonneg_left h4 hA
  have k3 : -A * b ≤ a * b := Int.mul_le_mul_of_nonneg_right h1 h3
  rw [Int.neg_mul] at k3
  omega

theorem errOf_bounds {l : List Int} (h : Sp.roadOk l = true) (x : Int) : -1800 ≤ Sp.errOf l x ∧ Sp.errOf l x ≤ 1800 := by
  unfold Sp.errOf
  dsimp only
  have a := rd_bounds h (x * l.length / 21600).toNat
  have b := rd_bounds h (((x * l.length / 21600).toNat + 1) % l.length)
  generalize rd l (x * l.length / 21600).toNat = p at *
  generalize rd l (((x * l.length / 21600).toNat + 1) % l.length) = q at *
  have m := emod_bounds (x * l.length) 21600 (by omega)
  generalize x * l.length % 21600 = r at *
  have k := mul_bounds (a := q - p) (b := r) (A := 1200) (B := 21600) (by omega) (by omega) (by omega) (by omega)
  omega

theorem mean_bounds {x : Sp.Body} (h : BodyOk x) {day : Int} (h1 : 0 ≤ day) (h2 : day ≤ 20000) : 0 ≤ Sp.mean x day ∧ Sp.mean x day ≤ 108021599 := by
  have := gone_bounds h1 h2 h.num1 h.den1 h.four
  have := h.start1
  have := h.start2
  unfold Sp.mean
  omega
theorem way_bounds {x : Sp.Body} (h : BodyOk x) {day : Int} (h1 : 0 ≤ day) (h2 : day ≤ 20000) : -1800 ≤ Sp.way x day ∧ Sp.way x day ≤ 108023399 := by
  have := mean_bounds h h1 h2
  have := errOf_bounds h.road (Sp.mean x day % 21600)
  unfold Sp.way
  omega

/-- The step of the Road that a mean way is in, and what is left. -/
theorem step_of {m : Int} {n : Nat} (h1 : 1 ≤ n) : ∃ st rs nx : Nat, m % 21600 * (n : Int) = (st : Int) * 21600 + (rs : Int) ∧ rs < 21600 ∧ st < n ∧ nx < n ∧ ((st : Int) + 1) % (n : Int) = (nx : Int) ∧ nx = (st + 1) % n ∧
    (m % 21600 * (n : Int) / 21600).toNat = st ∧ m % 21600 * (n : Int) % 21600 = (rs : Int) := by
  have hm := emod_bounds m 21600 (by omega)
  generalize m % 21600 = M at *
  obtain ⟨k, rfl⟩ := Int.eq_ofNat_of_zero_le hm.1
  have hk : k < 21600 := by omega
  refine ⟨k * n / 21600, k * n % 21600, (k * n / 21600 + 1) % n, ?_, Nat.mod_lt _ (by omega), ?_, Nat.mod_lt _ (by omega), ?_, rfl, ?_, ?_⟩
  · have := Nat.div_add_mod (k * n) 21600
    have e : ((k : Int) * (n : Int)) = ((k * n : Nat) : Int) := by simp
    omega
  · rw [Nat.div_lt_iff_lt_mul (by omega), Nat.mul_comm]
    exact Nat.mul_lt_mul_of_pos_left hk (by omega)
  · rw [Int.natCast_emod]; rfl
  · have e : ((k : Int) * (n : Int)) = ((k * n : Nat) : Int) := by simp
    rw [e]; omega
  · have e : ((k : Int) * (n : Int)) = ((k * n : Nat) : Int) := by simp
    rw [e]; omega

end Go.Proofs.YtlcddcnmoajpjaaGreatDoor
