/- Plain law of starts: a sky whose bodies have no errors, and the same sky put on by some minutes, have the same moons, eclipses and meetings. -/
import Derived.Test.YtlcddcnmoajpjaaGreatDoorV13
import Derived.Test.YtlcddcnmoajpjaaGreatDoorV03
namespace Go.Proofs.YtlcddcnmoajpjaaGreatDoor
open Go.RowKit
open Sp (rd)

def plainB (b : Sp.Body) : Sp.Body := ⟨b.num, b.den, b.start, [0]⟩
def turnB (d : Int) (b : Sp.Body) : Sp.Body := ⟨b.num, b.den, (b.start + d) % 21600, [0]⟩
def plainS (s : Sp.Sky) : Sp.Sky := ⟨s.bodies.map plainB, s.nnum, s.nden, s.nstart⟩
def turnS (d : Int) (s : Sp.Sky) : Sp.Sky := ⟨s.bodies.map (turnB d), s.nnum, s.nden, (s.nstart + d) % 21600⟩
theorem rd_zero (i : Nat) : rd [0] i = 0 := by
  unfold Sp.rd
  cases i <;> simp
theorem errOf_zero (x : Int) : Sp.errOf [0] x = 0 := by
  simp [Sp.errOf, rd_zero]
theorem way_plain (b : Sp.Body) (day : Int) : Sp.way (plainB b) day = b.start + Sp.gone b.num b.den day := by
  simp [Sp.way, Sp.mean, plainB, errOf_zero]
theorem way_turn (d : Int) (b : Sp.Body) (day : Int) : Sp.way (turnB d b) day = (b.start + d) % 21600 + Sp.gone b.num b.den day := by
  simp [Sp.way, Sp.mean, turnB, errOf_zero]
theorem body_map (f : Sp.Body → Sp.Body) (s t : Sp.Sky) (h : t.bodies = s.bodies.map f) (i : Int) (h0 : 0 ≤ i) (h1 : i < s.bodies.length) : Sp.body t i = f (Sp.body s i) := by
  obtain ⟨k, rfl⟩ := Int.eq_ofNat_of_zero_le h0
  have hk : k < s.bodies.length := by omega
  unfold Sp.body
  rw [h]
  simp only [Int.toNat_natCast]
  rw [List.getD_eq_getElem?_getD, List.getD_eq_getElem?_getD, List.getElem?_map, List.getElem?_eq_getElem hk]
  rfl
theorem ahead_turn (d : Int) (s : Sp.Sky) (i j : Int) (i0 : 0 ≤ i) (i1 : i < s.bodies.length) (j0 : 0 ≤ j) (j1 : j < s.bodies.length) :
    ∃ K : Int, ∀ day, Sp.ahead (turnS d s) i j day = Sp.ahead (plainS s) i j day + 21600 * K := by
  refine ⟨((Sp.body s j).start + d) / 21600 - ((Sp.body s i).start + d) / 21600, fun day => ?_⟩
  unfold Sp.ahead
  rw [body_map (turnB d) s (turnS d s) rfl i i0 i1, body_map (turnB d) s (turnS d s) rfl j j0 j1, body_map plainB s (plainS s) rfl i i0 i1, body_map plainB s (plainS s) rfl j j0 j1,
    way_turn, way_turn, way_plain, way_plain]
  have a := Int.emod_add_mul_ediv ((Sp.body s i).start + d) 21600
  have b := Int.emod_add_mul_ediv ((Sp.body s j).start + d) 21600
  omega
theorem passes_add (a b K : Int) : Sp.passes (a + 21600 * K) (b + 21600 * K) = Sp.passes a b := by
  unfold Sp.passes
  rw [decide_eq_decide]
  omega
theorem moonB_turn (d : Int) (s : Sp.Sky) (h : 2 ≤ s.bodies.length) (day : Int) (full : Bool) : Sp.moonB (turnS d s) day full = Sp.moonB (plainS s) day full := by
  obtain ⟨K, hK⟩ := ahead_turn d s 1 0 (by omega) (by omega) (by omega) (by omega)
  unfold Sp.moonB
  rw [hK, hK, ← passes_add (Sp.ahead (plainS s) 1 0 (day - 1) - Sp.halfOf full) (Sp.ahead (plainS s) 1 0 day - Sp.halfOf full) K]
  congr 1 <;> omega
theorem moonsN_turn (d : Int) (s : Sp.Sky) (h : 2 ≤ s.bodies.length) (lo : Int) (k : Nat) : Sp.moonsN (turnS d s) lo k = Sp.moonsN (plainS s) lo k := by
  induction k with
  | zero => rfl
  | succ k ih => rw [Sp.moonsN, Sp.moonsN, ih, Sp.dayMoons, Sp.dayMoons, moonB_turn d s h, moonB_turn d s h]
theorem moonsL_turn (d : Int) (s : Sp.Sky) (h : 2 ≤ s.bodies.length) (lo hi : Int) : Sp.moonsL (turnS d s) lo hi = Sp.moonsL (plainS s) lo hi := moonsN_turn d s h _ _
theorem meetB_turn (d : Int) (s : Sp.Sky) (i j : Int) (i0 : 0 ≤ i) (i1 : i < s.bodies.length) (j0 : 0 ≤ j) (j1 : j < s.bodies.length) (day : Int) : Sp.meetB (turnS d s) i j day = Sp.meetB (plainS s) i j day := by
  obtain ⟨K, hK⟩ := ahead_turn d s i j i0 i1 j0 j1
  unfold Sp.meetB
  rw [hK, hK, passes_add]
  have e : ∀ x : Int, -(x + 21600 * K) = -x + 21600 * (-K) := fun x => by omega
  rw [e, e, passes_add]
theorem meetsN_turn (d : Int) (s : Sp.Sky) (i j : Int) (i0 : 0 ≤ i) (i1 : i < s.bodies.length) (j0 : 0 ≤ j) (j1 : j < s.bodies.length) (lo : Int) (k : Nat) : Sp.meetsN (turnS d s) i j lo k = Sp.meetsN (plainS s) i j lo k := by
  induction k with
  | zero => rfl
  | succ k ih => rw [Sp.meetsN, Sp.meetsN, ih, meetB_turn d s i j i0 i1 j0 j1]
theorem meetsL_turn (d : Int) (s : Sp.Sky) (i j : Int) (i0 : 0 ≤ i) (i1 : i < s.bodies.length) (j0 : 0 ≤ j) (j1 : j < s.bodies.length) (lo hi : Int) : Sp.meetsL (turnS d s) i j lo hi = Sp.meetsL (plainS s) i j lo hi := meetsN_turn d s i j i0 i1 j0 j1 _ _
theorem far_turn (d : Int) (s : Sp.Sky) (h : 2 ≤ s.bodies.length) (day : Int) : Sp.far (turnS d s) day = Sp.far (plainS s) day := by
  have e : (Sp.way (Sp.body (turnS d s) 1) day - Sp.node (turnS d s) day) % 10800 = (Sp.way (Sp.body (plainS s) 1) day - Sp.node (plainS s) day) % 10800 := by
    rw [body_map (turnB d) s (turnS d s) rfl 1 (by omega) (by omega), body_map plainB s (plainS s) rfl 1 (by omega) (by omega), way_turn, way_plain]
    unfold Sp.node turnS plainS
    dsimp only
    generalize Sp.gone (Sp.body s 1).num (Sp.body s 1).den day = g1
    generalize Sp.gone s.nnum s.nden day = g2
    omega
  unfold Sp.far
  simp only [e]
theorem eclsOf_turn (d : Int) (s : Sp.Sky) (h : 2 ≤ s.bodies.length) (nw fl : Int) (l : List (Int × Bool)) : Sp.eclsOf (turnS d s) nw fl l = Sp.eclsOf (plainS s) nw fl l := by
  induction l with
  | nil => rfl
  | cons m l ih => rw [Sp.eclsOf, Sp.eclsOf, ih, Sp.eclOf, Sp.eclOf, far_turn d s h]
theorem ecls_turn (d : Int) (s : Sp.Sky) (h : 2 ≤ s.bodies.length) (nw fl lo hi : Int) : Sp.ecls (turnS d s) nw fl lo hi = Sp.ecls (plainS s) nw fl lo hi := by
  unfold Sp.ecls
  rw [moonsL_turn d s h, eclsOf_turn d s h]
theorem skyOk_plain {s : Sp.Sky} (h : Sp.skyOk s = true) : Sp.skyOk (plainS s) = true := by
  unfold Sp.skyOk at h ⊢
  simp only [Bool.and_eq_true, List.all_eq_true] at h ⊢
  obtain ⟨h1, h2, h3, h4⟩ := h
  refine ⟨by simpa [plainS] using h1, h2, h3, fun x hx => ?_⟩
  simp only [plainS, List.mem_map] at hx
  obtain ⟨y, hy, rfl⟩ := hx
  have := h4 y hy
  simp only [Sp.bodyOk, plainB, Bool.and_eq_true] at this ⊢
  exact ⟨this.1, this.2.1, by decide, by decide⟩
theorem skyOk_turn {s : Sp.Sky} (d : Int) (h : Sp.skyOk s = true) : Sp.skyOk (turnS d s) = true := by
  unfold Sp.skyOk at h ⊢
  simp only [Bool.and_eq_true, List.all_eq_true] at h ⊢
  obtain ⟨h1, h2, h3, h4⟩ := h
  refine ⟨by simpa [turnS] using h1, h2, inR_iff.2 ⟨by simp only [turnS]; omega, by simp only [turnS]; omega⟩, fun x hx => ?_⟩
  simp only [turnS, List.mem_map] at hx
  obtain ⟨y, hy, rfl⟩ := hx
  have := h4 y hy
  simp only [Sp.bodyOk, turnB, Bool.and_eq_true] at this ⊢
  exact ⟨this.1, inR_iff.2 ⟨by omega, by omega⟩, by decide, by decide⟩
end Go.Proofs.YtlcddcnmoajpjaaGreatDoor
