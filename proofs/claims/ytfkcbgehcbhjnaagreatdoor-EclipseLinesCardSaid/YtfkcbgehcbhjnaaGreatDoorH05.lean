/- Volume 5 of the texts that the laws of this seat use: EcBalls EcDark EcShades: walks of the program's functions, and plain laws. -/
import Derived.Carry
import Derived.BigQuiet
import Derived.Test.YtfkcbgehcbhjnaaGreatDoorH01
import Derived.Test.YtfkcbgehcbhjnaaGreatDoorH03
import Derived.Test.YtfkcbgehcbhjnaaGreatDoorH04
namespace Go.Proofs.YtfkcbgehcbhjnaaGreatDoor
namespace Ec
structure Ball where
 x : Int
 y : Int
 r : Int
def noBall : Ball := ⟨0, 0, 0⟩
def power (b : Ball) : Int := b.x * b.x + b.y * b.y - b.r * b.r
def norm2 (b : Ball) : Int := b.x * b.x + b.y * b.y
def dot (a b : Ball) : Int := a.x * b.x + a.y * b.y
def apart (a b : Ball) : Bool := decide ((a.r + b.r) * (a.r + b.r) < (a.x - b.x) * (a.x - b.x) + (a.y - b.y) * (a.y - b.y))
def darkB (a b : Ball) : Bool := decide (b.r * b.r * norm2 a ≤ a.r * a.r * norm2 b) && (decide (a.r * b.r ≤ dot a b) && decide (power a * power b ≤ (dot a b - a.r * b.r) * (dot a b - a.r * b.r)))
def partB (a b : Ball) : Bool := decide (-(a.r * b.r) < dot a b) && decide (power a * power b < (dot a b + a.r * b.r) * (dot a b + a.r * b.r))
def shades (a b : Ball) : Int := if power a < power b then (if darkB a b then 3 else if partB a b then 2 else 1) else 1
def meets (b : Ball) (x y : Int) (inside : Bool) : Bool :=
 decide (0 < b.x * x + b.y * y) && (decide ((b.x * y - b.y * x) * (b.x * y - b.y * x) < b.r * b.r * (x * x + y * y)) || (decide ((b.x * y - b.y * x) * (b.x * y - b.y * x) = b.r * b.r * (x * x + y * y)) && !inside))
theorem shades_lim (a b : Ball) : 1 ≤ shades a b ∧ shades a b ≤ 3 := by unfold shades; repeat' split <;> omega
theorem shades_one (a b : Ball) (h : shades a b ≠ 1) : shades b a = 1 ∧ power a < power b := by
 unfold shades at h ⊢
 split at h
 ·rename_i h1
  exact ⟨by rw [if_neg (by omega)], h1⟩
 ·exact absurd rfl h
theorem sq_le {a b : Int} (h0 : 0 ≤ a) (h : a ≤ b) : a * a ≤ b * b := Int.mul_le_mul h h h0 (by omega)
theorem sq_lt {a b : Int} (h0 : 0 ≤ a) (h : a < b) : a * a < b * b := by
 have h1 : a * a ≤ a * b := Int.mul_le_mul_of_nonneg_left (by omega) h0
 have h2 : a * b < b * b := Int.mul_lt_mul_of_pos_right h (by omega)
 omega
theorem le_of_sq {a b : Int} (h0 : 0 ≤ b) (h : a * a ≤ b * b) : a ≤ b := by
 rcases Int.lt_or_le b a with h1 | h1
 ·have := sq_lt h0 h1; omega
 ·exact h1
theorem lt_of_sq {a b : Int} (h0 : 0 ≤ b) (h : a * a < b * b) : a < b := by
 rcases Int.lt_or_le a b with h1 | h1
 ·exact h1
 ·have := sq_le h0 h1; omega
theorem sq_nonneg (a : Int) : 0 ≤ a * a := by
 rcases Int.le_total 0 a with h | h
 ·exact Int.mul_nonneg h h
 ·exact Int.mul_nonneg_of_nonpos_of_nonpos h h
theorem root_le (U Y Z : Int) (hU : 0 ≤ U) (hZ : 0 < Z) (hK : 0 ≤ U * U - Y * Y - Z) (hK2 : 4 * (Y * Y) * Z ≤ (U * U - Y * Y - Z) * (U * U - Y * Y - Z)) : 0 < U - Y ∧ Z ≤ (U - Y) * (U - Y) := by
 have h1 : Y < U := lt_of_sq hU (by omega)
 refine ⟨by omega, ?_⟩
 have e : (U - Y) * (U - Y) = U * U - Y * Y - Z + 2 * (Y * Y) + Z - 2 * (U * Y) := by grind
 rcases Int.le_total Y 0 with h | h
 ·have h2 : U * Y ≤ 0 := Int.mul_nonpos_of_nonneg_of_nonpos hU h
  have := sq_nonneg Y
  omega
 ·have h2 : 2 * (U * Y) ≤ U * U - Y * Y - Z + 2 * (Y * Y) := by
   apply le_of_sq (by have := sq_nonneg Y; omega)
   have e2 : (U * U - Y * Y - Z + 2 * (Y * Y)) * (U * U - Y * Y - Z + 2 * (Y * Y)) - 2 * (U * Y) * (2 * (U * Y)) = (U * U - Y * Y - Z) * (U * U - Y * Y - Z) - 4 * (Y * Y) * Z := by grind
   omega
  omega
structure Dark (A m s t ra rb ab : Int) : Prop where
 hA : A = s + ra * ra
 hm : m = t + rb * rb
 s0 : 0 < s
 t0 : 0 < t
 ra0 : 0 < ra
 rb0 : 0 < rb
 wide : rb * rb * A ≤ ra * ra * m
 D0 : ra * rb ≤ ab
 D2 : s * t ≤ (ab - ra * rb) * (ab - ra * rb)
theorem Dark.wide' {A m s t ra rb ab : Int} (h : Dark A m s t ra rb ab) : rb * rb * s ≤ ra * ra * t := by
 have := h.wide
 rw [h.hA, h.hm] at this
 grind
theorem Dark.p1 {A m s t ra rb ab : Int} (h : Dark A m s t ra rb ab) : s * rb ≤ ra * (ab - ra * rb) := by
 have hD : 0 ≤ ab - ra * rb := by have := h.D0; omega
 apply le_of_sq (Int.mul_nonneg (by have := h.ra0; omega) hD)
 have a1 : ra * ra * (s * t) ≤ ra * ra * ((ab - ra * rb) * (ab - ra * rb)) := Int.mul_le_mul_of_nonneg_left h.D2 (sq_nonneg ra)
 have a2 : s * (rb * rb * s) ≤ s * (ra * ra * t) := Int.mul_le_mul_of_nonneg_left h.wide' (by have := h.s0; omega)
 grind
theorem mul_pos_left {m x : Int} (hm : 0 < m) (h : 0 < m * x) : 0 < x := by
 rcases Int.lt_or_le 0 x with h1 | h1
 ·exact h1
 ·have := Int.mul_nonpos_of_nonneg_of_nonpos (Int.le_of_lt hm) h1; omega
theorem mul_le_left {m x y : Int} (hm : 0 < m) (h : m * x ≤ m * y) : x ≤ y := Int.le_of_mul_le_mul_left h hm
theorem Dark.line {A m s t ra rb ab X P cb xb ap : Int} (h : Dark A m s t ra rb ab) (hX : X * X = A * m - ab * ab) (hP : 0 < P) (hcb : 0 < cb) (hsum : cb * cb + xb * xb = m * P) (hxb : xb * xb ≤ rb * rb * P) (hap : m * ap = ab * cb - X * xb) :
  0 < ap ∧ s * P ≤ ap * ap := by
 have hm : 0 < m := by have := h.hm; have := h.t0; have := sq_nonneg rb; omega
 have hA : 0 < A := by have := h.hA; have := h.s0; have := sq_nonneg ra; omega
 have hp1 := h.p1
 have hab : 0 < ab := by have := h.D0; have := Int.mul_pos h.ra0 h.rb0; omega
 -- the certificate
 have hl0 : 0 ≤ ab * ab - A * (rb * rb) - m * s := by
  have e : ab * ab - A * (rb * rb) - m * s = ((ab - ra * rb) * (ab - ra * rb) - s * t) + 2 * (rb * (ra * (ab - ra * rb) - s * rb)) := by rw [h.hA, h.hm]; grind
  have p : 0 ≤ rb * (ra * (ab - ra * rb) - s * rb) := Int.mul_nonneg (by have := h.rb0; omega) (by omega)
  have := h.D2
  omega
 have hl2 : 4 * (X * X) * (rb * rb * s) ≤ (ab * ab - A * (rb * rb) - m * s) * (ab * ab - A * (rb * rb) - m * s) := by
  have e : (ab * ab - A * (rb * rb) - m * s) * (ab * ab - A * (rb * rb) - m * s) - 4 * (X * X) * (rb * rb * s) =
    ((ab - ra * rb) * (ab - ra * rb) - s * t) * ((ab - ra * rb) * (ab - ra * rb) - s * t) + 4 * (((ab - ra * rb) * (ab - ra * rb) - s * t) * (rb * (ra * (ab - ra * rb) - s * rb))) + 4 * ((rb * rb) * (ra * ra) * ((ab - ra * rb) * (ab - ra * rb) - s * t)) + 4 * ((rb * rb) * s * ((ab - ra * rb) * (ab - ra * rb) - s * t)) := by
   rw [hX, h.hA, h.hm]; grind
  have d2 := h.D2
  have p1 := sq_nonneg ((ab - ra * rb) * (ab - ra * rb) - s * t)
  have p2 : 0 ≤ ((ab - ra * rb) * (ab - ra * rb) - s * t) * (rb * (ra * (ab - ra * rb) - s * rb)) := Int.mul_nonneg (by omega) (Int.mul_nonneg (by have := h.rb0; omega) (by omega))
  have p3 : 0 ≤ (rb * rb) * (ra * ra) * ((ab - ra * rb) * (ab - ra * rb) - s * t) := Int.mul_nonneg (Int.mul_nonneg (sq_nonneg _) (sq_nonneg _)) (by omega)
  have p4 : 0 ≤ (rb * rb) * s * ((ab - ra * rb) * (ab - ra * rb) - s * t) := Int.mul_nonneg (Int.mul_nonneg (sq_nonneg _) (by have := h.s0; omega)) (by omega)
  omega
 obtain ⟨l, hl⟩ : ∃ l, ab * ab - A * (rb * rb) - m * s = l := ⟨_, rfl⟩
 rw [hl] at hl0 hl2
 obtain ⟨k, hk⟩ : ∃ k, ab * ab * P - A * (xb * xb) - m * s * P = k := ⟨_, rfl⟩
 have hk1 : l * P ≤ k := by
  have : 0 ≤ A * (rb * rb * P - xb * xb) := Int.mul_nonneg (by omega) (by omega)
  have e : k = l * P + A * (rb * rb * P - xb * xb) := by rw [← hk, ← hl]; grind
  omega
 have hlP : 0 ≤ l * P := Int.mul_nonneg hl0 (by omega)
 have hk2 : 4 * (X * X) * (xb * xb) * (s * P) ≤ k * k := by
  have a1 := sq_le hlP hk1
  have a2 : (P * P) * (4 * (X * X) * (rb * rb * s)) ≤ (P * P) * (l * l) := Int.mul_le_mul_of_nonneg_left hl2 (sq_nonneg P)
  have a3 : (4 * (X * X) * (s * P)) * (xb * xb) ≤ (4 * (X * X) * (s * P)) * (rb * rb * P) := Int.mul_le_mul_of_nonneg_left hxb (Int.mul_nonneg (by have := sq_nonneg X; omega) (Int.mul_nonneg (by have := h.s0; omega) (by omega)))
  grind
 have hUY : ab * cb * (ab * cb) - X * xb * (X * xb) - m * m * (s * P) = m * k := by
  have e : cb * cb = m * P - xb * xb := by omega
  have e1 : ab * cb * (ab * cb) = ab * ab * (m * P - xb * xb) := by rw [← e]; grind
  have e2 : X * xb * (X * xb) = (A * m - ab * ab) * (xb * xb) := by rw [← hX]; grind
  rw [e1, e2, ← hk]; grind
 have hsP : 0 < s * P := Int.mul_pos h.s0 hP
 have hr := root_le (ab * cb) (X * xb) (m * m * (s * P)) (Int.mul_nonneg (by omega) (by omega)) (Int.mul_pos (Int.mul_pos hm hm) hsP) (by rw [hUY]; exact Int.mul_nonneg (by omega) (by omega)) (by
  rw [hUY]
  have : (m * m) * (4 * (X * X) * (xb * xb) * (s * P)) ≤ (m * m) * (k * k) := Int.mul_le_mul_of_nonneg_left hk2 (sq_nonneg m)
  grind)
 rw [← hap] at hr
 refine ⟨mul_pos_left hm hr.1, ?_⟩
 apply mul_le_left (Int.mul_pos hm hm)
 have := hr.2
 grind
theorem Dark.trans {A m C s t u ra rb rc ab bc ac X Y : Int} (h : Dark A m s t ra rb ab) (k : Dark m C t u rb rc bc) (hX : X * X = A * m - ab * ab) (hY : Y * Y = m * C - bc * bc) (hac : m * ac = ab * bc - X * Y) : Dark A C s u ra rc ac := by
 have hm : 0 < m := by have := h.hm; have := h.t0; have := sq_nonneg rb; omega
 have hA : 0 < A := by have := h.hA; have := h.s0; have := sq_nonneg ra; omega
 have hC : 0 < C := by have := k.hm; have := k.t0; have := sq_nonneg rc; omega
 have p1 := h.p1
 have p2 := k.p1
 have d1 := h.D2
 have d2 := k.D2
 have hab : 0 < ab := by have := h.D0; have := Int.mul_pos h.ra0 h.rb0; omega
 have hbc : 0 < bc := by have := k.D0; have := Int.mul_pos k.ra0 k.rb0; omega
 have r2 : rc * bc ≤ rb * C := by
  apply le_of_sq (Int.mul_nonneg (by have := h.rb0; omega) (by omega))
  have a1 : (rc * rc) * (bc * bc) ≤ (rc * rc) * (m * C) := Int.mul_le_mul_of_nonneg_left (by have := sq_nonneg Y; omega) (sq_nonneg rc)
  have a2 : C * (rc * rc * m) ≤ C * (rb * rb * C) := Int.mul_le_mul_of_nonneg_left k.wide (by omega)
  grind
 have hW : 0 ≤ ab * bc - m * (ra * rc) := by
  have e : rb * (ab * bc - m * (ra * rc)) = ab * (rb * (bc - rb * rc) - t * rc) + m * (rc * (ab - ra * rb)) := by rw [h.hm]; grind
  have q1 : 0 ≤ ab * (rb * (bc - rb * rc) - t * rc) := Int.mul_nonneg (by omega) (by omega)
  have q2 : 0 ≤ m * (rc * (ab - ra * rb)) := Int.mul_nonneg (by omega) (Int.mul_nonneg (by have := k.rb0; omega) (by have := h.D0; omega))
  exact mul_le_left h.rb0 (by rw [Int.mul_zero, e]; omega)
 obtain ⟨g1, hg1⟩ : ∃ g, (ab - ra * rb) * (ab - ra * rb) - s * t = g := ⟨_, rfl⟩
 obtain ⟨g2, hg2⟩ : ∃ g, (bc - rb * rc) * (bc - rb * rc) - t * u = g := ⟨_, rfl⟩
 obtain ⟨e1, he1⟩ : ∃ e, ra * (ab - ra * rb) - s * rb = e := ⟨_, rfl⟩
 obtain ⟨e2, he2⟩ : ∃ e, rb * C - rc * bc = e := ⟨_, rfl⟩
 have f1 : 0 ≤ g1 := by omega
 have f2 : 0 ≤ g2 := by omega
 have f3 : 0 ≤ e1 := by omega
 have f4 : 0 ≤ e2 := by omega
 have i1 : e1 * e1 = s * (X * X) + A * g1 := by rw [← he1, ← hg1, hX, h.hA, h.hm]; grind
 have i2 : e2 * e2 = u * (Y * Y) + C * g2 := by rw [← he2, ← hg2, hY, k.hA, k.hm]; grind
 have hK : (ab * bc - m * (ra * rc)) * (ab * bc - m * (ra * rc)) - X * Y * (X * Y) - m * m * (s * u) = m * (A * g2 + C * g1 + 2 * (e1 * e2)) := by
  have q : X * Y * (X * Y) = (A * m - ab * ab) * (m * C - bc * bc) := by rw [← hX, ← hY]; grind
  rw [q, ← hg1, ← hg2, ← he1, ← he2, h.hA, k.hm, h.hm]; grind
 have n1 : 0 ≤ A * g2 := Int.mul_nonneg (by omega) f2
 have n2 : 0 ≤ C * g1 := Int.mul_nonneg (by omega) f1
 have n3 : 0 ≤ e1 * e2 := Int.mul_nonneg f3 f4
 have hsu : 0 < s * u := Int.mul_pos h.s0 k.t0
 have hr := root_le (ab * bc - m * (ra * rc)) (X * Y) (m * m * (s * u)) hW (Int.mul_pos (Int.mul_pos hm hm) hsu) (by rw [hK]; exact Int.mul_nonneg (by omega) (by omega)) (by
  rw [hK]
  have b1 : (2 * (e1 * e2)) * (2 * (e1 * e2)) ≤ (A * g2 + C * g1 + 2 * (e1 * e2)) * (A * g2 + C * g1 + 2 * (e1 * e2)) := sq_le (by omega) (by omega)
  have b2 : (s * (X * X)) * (u * (Y * Y)) ≤ (e1 * e1) * (e2 * e2) := by
   have c1 : s * (X * X) ≤ e1 * e1 := by have := Int.mul_nonneg (Int.le_of_lt hA) f1; omega
   have c2 : u * (Y * Y) ≤ e2 * e2 := by have := Int.mul_nonneg (Int.le_of_lt hC) f2; omega
   exact Int.mul_le_mul c1 c2 (Int.mul_nonneg (by have := k.t0; omega) (sq_nonneg _)) (sq_nonneg _)
  have b3 : (m * m) * ((2 * (e1 * e2)) * (2 * (e1 * e2))) ≤ (m * m) * ((A * g2 + C * g1 + 2 * (e1 * e2)) * (A * g2 + C * g1 + 2 * (e1 * e2))) := Int.mul_le_mul_of_nonneg_left b1 (sq_nonneg m)
  have b4 : (m * m) * ((s * (X * X)) * (u * (Y * Y))) ≤ (m * m) * ((e1 * e1) * (e2 * e2)) := Int.mul_le_mul_of_nonneg_left b2 (sq_nonneg m)
  grind)
 have hE : ab * bc - m * (ra * rc) - X * Y = m * (ac - ra * rc) := by grind
 rw [hE] at hr
 refine ⟨h.hA, k.hm, h.s0, k.t0, h.ra0, k.rb0, ?_, by have := mul_pos_left hm hr.1; omega, ?_⟩
 ·apply mul_le_left hm
  have a1 : C * (rb * rb * A) ≤ C * (ra * ra * m) := Int.mul_le_mul_of_nonneg_left h.wide (by omega)
  have a2 : A * (rc * rc * m) ≤ A * (rb * rb * C) := Int.mul_le_mul_of_nonneg_left k.wide (by omega)
  grind
 ·apply mul_le_left (Int.mul_pos hm hm)
  have := hr.2
  grind
theorem power_eq (b : Ball) : norm2 b = power b + b.r * b.r := by unfold norm2 power; omega
theorem dark_of {a b : Ball} (ha : 0 < a.r) (hb : 0 < b.r) (sa : 0 < power a) (sb : 0 < power b) (h : darkB a b = true) : Dark (norm2 a) (norm2 b) (power a) (power b) a.r b.r (dot a b) := by
 simp only [darkB, Bool.and_eq_true, decide_eq_true_eq] at h
 exact ⟨power_eq a, power_eq b, sa, sb, ha, hb, h.1, h.2.1, h.2.2⟩
theorem of_dark {a b : Ball} (h : Dark (norm2 a) (norm2 b) (power a) (power b) a.r b.r (dot a b)) : darkB a b = true := by
 simp only [darkB, Bool.and_eq_true, decide_eq_true_eq]
 exact ⟨h.wide, h.D0, h.D2⟩
theorem shades_dark {a b : Ball} : shades a b = 3 ↔ power a < power b ∧ darkB a b = true := by
 unfold shades
 constructor
 ·intro h
  split at h
  ·rename_i h1
   split at h
   ·rename_i h2; exact ⟨h1, h2⟩
   ·split at h <;> omega
  ·omega
 ·rintro ⟨h1, h2⟩
  rw [if_pos h1, if_pos h2]
def cross (a b : Ball) : Int := a.x * b.y - a.y * b.x
theorem cross_sq (a b : Ball) : cross a b * cross a b = norm2 a * norm2 b - dot a b * dot a b := by unfold cross norm2 dot; grind
theorem meets_iff {b : Ball} {x y : Int} : meets b x y false = true ↔ 0 < b.x * x + b.y * y ∧ (b.x * y - b.y * x) * (b.x * y - b.y * x) ≤ b.r * b.r * (x * x + y * y) := by
 simp only [meets, Bool.and_eq_true, Bool.or_eq_true, decide_eq_true_eq, Bool.not_false, and_true]
 constructor
 ·rintro ⟨h1, h2⟩; exact ⟨h1, by omega⟩
 ·rintro ⟨h1, h2⟩; exact ⟨h1, by omega⟩
theorem meets_in {b : Ball} {x y : Int} : meets b x y true = true ↔ 0 < b.x * x + b.y * y ∧ (b.x * y - b.y * x) * (b.x * y - b.y * x) < b.r * b.r * (x * x + y * y) := by
 simp [meets]
set_option linter.unusedVariables false
theorem point_pos {x y : Int} (h : ¬ (x = 0 ∧ y = 0)) : 0 < x * x + y * y := by
 have a := sq_nonneg x
 have b := sq_nonneg y
 rcases Int.lt_or_le 0 (x * x + y * y) with h1 | h1
 ·exact h1
 ·exfalso
  apply h
  have e1 : x * x = 0 := by omega
  have e2 : y * y = 0 := by omega
  exact ⟨by rcases Int.mul_eq_zero.1 e1 with h | h <;> exact h, by rcases Int.mul_eq_zero.1 e2 with h | h <;> exact h⟩
theorem meets_dark {a b : Ball} (ha : 0 < a.r) (hb : 0 < b.r) (sa : 0 < power a) (h : shades a b = 3) {x y : Int} (hp : ¬ (x = 0 ∧ y = 0)) (hm : meets b x y false = true) : meets a x y false = true := by
 obtain ⟨h1, h2⟩ := shades_dark.1 h
 have hd := dark_of ha hb sa (by omega) h2
 obtain ⟨m1, m2⟩ := meets_iff.1 hm
 have hP := point_pos hp
 obtain ⟨r1, r2⟩ := hd.line (X := cross a b) (P := x * x + y * y) (cb := b.x * x + b.y * y) (xb := b.x * y - b.y * x) (ap := a.x * x + a.y * y) (cross_sq a b) hP m1 (by unfold norm2; grind) m2 (by unfold norm2 dot cross; grind)
 refine meets_iff.2 ⟨r1, ?_⟩
 have e : (a.x * x + a.y * y) * (a.x * x + a.y * y) + (a.x * y - a.y * x) * (a.x * y - a.y * x) = norm2 a * (x * x + y * y) := by unfold norm2; grind
 have e2 : norm2 a * (x * x + y * y) = power a * (x * x + y * y) + a.r * a.r * (x * x + y * y) := by rw [power_eq]; grind
 omega
theorem lit_inside {a b : Ball} (ha : 0 < a.r) (hb : 0 < b.r) (sa : 0 < power a) (hlt : power a < power b) (h : shades a b = 1) {x y : Int} (hp : ¬ (x = 0 ∧ y = 0)) (h1 : meets a x y true = true) (h2 : meets b x y true = true) : False := by
 obtain ⟨p1, q1⟩ := meets_in.1 h1
 obtain ⟨p2, q2⟩ := meets_in.1 h2
 have hP := point_pos hp
 obtain ⟨ap, hap⟩ : ∃ u, a.x * x + a.y * y = u := ⟨_, rfl⟩
 obtain ⟨bp, hbp⟩ : ∃ u, b.x * x + b.y * y = u := ⟨_, rfl⟩
 obtain ⟨xa, hxa⟩ : ∃ u, a.x * y - a.y * x = u := ⟨_, rfl⟩
 obtain ⟨xb, hxb⟩ : ∃ u, b.x * y - b.y * x = u := ⟨_, rfl⟩
 obtain ⟨P, hPe⟩ : ∃ u, x * x + y * y = u := ⟨_, rfl⟩
 have i1 : dot a b * P = ap * bp + xa * xb := by rw [← hap, ← hbp, ← hxa, ← hxb, ← hPe]; unfold dot; grind
 have i2 : ap * ap + xa * xa = power a * P + a.r * a.r * P := by rw [← hap, ← hxa, ← hPe]; unfold power; grind
 have i3 : bp * bp + xb * xb = power b * P + b.r * b.r * P := by rw [← hbp, ← hxb, ← hPe]; unfold power; grind
 rw [hap] at p1
 rw [hbp] at p2
 rw [hxa, hPe] at q1
 rw [hxb, hPe] at q2
 rw [hPe] at hP
 have rab : 0 < a.r * b.r := Int.mul_pos ha hb
 have k1 : -(xa * xb) < a.r * b.r * P := by
  apply lt_of_sq (Int.le_of_lt (Int.mul_pos rab hP))
  have a1 : (xa * xa) * (xb * xb) ≤ (a.r * a.r * P) * (xb * xb) := Int.mul_le_mul_of_nonneg_right (by omega) (sq_nonneg xb)
  have a2 : (a.r * a.r * P) * (xb * xb) < (a.r * a.r * P) * (b.r * b.r * P) := Int.mul_lt_mul_of_pos_left q2 (Int.mul_pos (Int.mul_pos ha ha) hP)
  grind
 have k2 : 0 < ap * bp := Int.mul_pos p1 p2
 have k3 : ap * bp < (dot a b + a.r * b.r) * P := by grind
 have k4 : power a * power b * (P * P) < (ap * bp) * (ap * bp) := by
  have a1 : power a * P < ap * ap := by omega
  have a2 : power b * P < bp * bp := by omega
  have sb : 0 < power b := by omega
  have b1 : (power a * P) * (power b * P) < (power a * P) * (bp * bp) := Int.mul_lt_mul_of_pos_left a2 (Int.mul_pos sa hP)
  have b2 : (power a * P) * (bp * bp) < (ap * ap) * (bp * bp) := Int.mul_lt_mul_of_pos_right a1 (Int.mul_pos p2 p2)
  grind
 have k5 := sq_lt (Int.le_of_lt k2) k3
 have k6 : 0 < dot a b + a.r * b.r := by
  apply mul_pos_left hP
  rw [Int.mul_comm]; omega
 have k7 : power a * power b < (dot a b + a.r * b.r) * (dot a b + a.r * b.r) := by
  rcases Int.lt_or_le (power a * power b) ((dot a b + a.r * b.r) * (dot a b + a.r * b.r)) with c | c
  ·exact c
  ·have := Int.mul_le_mul_of_nonneg_right c (Int.le_of_lt (Int.mul_pos hP hP))
   grind
 have hpart : partB a b = true := by
  simp only [partB, Bool.and_eq_true, decide_eq_true_eq]
  exact ⟨by omega, k7⟩
 unfold shades at h
 rw [if_pos hlt] at h
 rw [hpart] at h
 split at h <;> simp at h
theorem dark_trans {a b c : Ball} (ha : 0 < a.r) (hb : 0 < b.r) (hc : 0 < c.r) (sa : 0 < power a) (h : shades a b = 3) (k : shades b c = 3) : shades a c = 3 := by
 obtain ⟨h1, h2⟩ := shades_dark.1 h
 obtain ⟨k1, k2⟩ := shades_dark.1 k
 have hd := dark_of ha hb sa (by omega) h2
 have kd := dark_of hb hc (by omega) (by omega) k2
 exact shades_dark.2 ⟨by omega, of_dark (hd.trans kd (X := cross a b) (Y := cross b c) (cross_sq a b) (cross_sq b c) (by unfold norm2 dot cross; grind))⟩
def turnBall (b : Ball) : Ball := ⟨-b.y, b.x, b.r⟩
def mirrorBall (b : Ball) : Ball := ⟨b.x, -b.y, b.r⟩
theorem shades_of {a b a' b' : Ball} (ha : a'.r = a.r) (hb : b'.r = b.r) (h1 : norm2 a' = norm2 a) (h2 : norm2 b' = norm2 b) (h3 : dot a' b' = dot a b) : shades a' b' = shades a b := by
 have e1 : power a' = power a := by have := power_eq a; have := power_eq a'; rw [ha, h1] at this; omega
 have e2 : power b' = power b := by have := power_eq b; have := power_eq b'; rw [hb, h2] at this; omega
 unfold shades darkB partB
 rw [e1, e2, ha, hb, h1, h2, h3]
theorem shades_turn (a b : Ball) : shades (turnBall a) (turnBall b) = shades a b := shades_of rfl rfl (by unfold norm2 turnBall; grind) (by unfold norm2 turnBall; grind) (by unfold dot turnBall; grind)
theorem shades_mirror (a b : Ball) : shades (mirrorBall a) (mirrorBall b) = shades a b := shades_of rfl rfl (by unfold norm2 mirrorBall; grind) (by unfold norm2 mirrorBall; grind) (by unfold dot mirrorBall; grind)
def bigger (a : Ball) (more : Int) : Ball := ⟨a.x, a.y, a.r + more⟩
theorem dark_bigger {A m s t ra rb ab ra' s' : Int} (h : Dark A m s t ra rb ab) (hab : ab * ab ≤ A * m) (hr : ra ≤ ra') (hs : A = s' + ra' * ra') (s0 : 0 < s') : Dark A m s' t ra' rb ab := by
 have hm : 0 < m := by have := h.hm; have := h.t0; have := sq_nonneg rb; omega
 have hA : 0 < A := by have := h.hA; have := h.s0; have := sq_nonneg ra; omega
 have ra0 := h.ra0
 have rb0 := h.rb0
 have hab0 : 0 < ab := by have := h.D0; have := Int.mul_pos ra0 rb0; omega
 -- right of the vertex
 have hv : ab * rb ≤ m * ra := by
  apply le_of_sq (Int.mul_nonneg (by omega) (by omega))
  have a1 : (rb * rb) * (ab * ab) ≤ (rb * rb) * (A * m) := Int.mul_le_mul_of_nonneg_left hab (sq_nonneg rb)
  have a2 : m * (rb * rb * A) ≤ m * (ra * ra * m) := Int.mul_le_mul_of_nonneg_left h.wide (by omega)
  grind
 have hsq : ra * ra ≤ ra' * ra' := sq_le (by omega) hr
 -- the parabola, from ra on
 have hgrow : ∀ z : Int, ra * rb ≤ z → 0 ≤ (z - ra * rb) * (m * (z + ra * rb) - 2 * ab * (rb * rb)) := fun z hz => by
  apply Int.mul_nonneg (by omega)
  have b1 : rb * (ab * rb) ≤ rb * (m * ra) := Int.mul_le_mul_of_nonneg_left hv (by omega)
  have b2 : m * (ra * rb) ≤ m * z := Int.mul_le_mul_of_nonneg_left hz (by omega)
  grind
 have hD := h.D2
 have hcos : A * (rb * rb) ≤ ab * ab := by
  have g := hgrow ab h.D0
  have e : t * (ab * ab - A * (rb * rb)) = (rb * rb) * ((ab - ra * rb) * (ab - ra * rb) - s * t) + (ab - ra * rb) * (m * (ab + ra * rb) - 2 * ab * (rb * rb)) := by rw [h.hA, h.hm]; grind
  have q : 0 ≤ (rb * rb) * ((ab - ra * rb) * (ab - ra * rb) - s * t) := Int.mul_nonneg (sq_nonneg rb) (by omega)
  have : 0 ≤ ab * ab - A * (rb * rb) := mul_le_left h.t0 (by rw [Int.mul_zero, e]; omega)
  omega
 have hD0 : ra' * rb ≤ ab := by
  apply le_of_sq (by omega)
  have : (ra' * ra') * (rb * rb) ≤ A * (rb * rb) := Int.mul_le_mul_of_nonneg_right (by omega) (sq_nonneg rb)
  grind
 refine ⟨hs, h.hm, s0, h.t0, by omega, rb0, ?_, hD0, ?_⟩
 ·have : (ra * ra) * m ≤ (ra' * ra') * m := Int.mul_le_mul_of_nonneg_right hsq (by omega)
  have := h.wide
  omega
 ·have g := hgrow (ra' * rb) (Int.mul_le_mul_of_nonneg_right hr (by omega))
  have e : (rb * rb) * ((ab - ra' * rb) * (ab - ra' * rb) - s' * t) = (rb * rb) * ((ab - ra * rb) * (ab - ra * rb) - s * t) + (ra' * rb - ra * rb) * (m * (ra' * rb + ra * rb) - 2 * ab * (rb * rb)) := by
   have e1 : s = A - ra * ra := by have := h.hA; omega
   have e2 : s' = A - ra' * ra' := by omega
   have e3 : t = m - rb * rb := by have := h.hm; omega
   rw [e1, e2, e3]; grind
  have q : 0 ≤ (rb * rb) * ((ab - ra * rb) * (ab - ra * rb) - s * t) := Int.mul_nonneg (sq_nonneg rb) (by omega)
  have : 0 ≤ (ab - ra' * rb) * (ab - ra' * rb) - s' * t := mul_le_left (Int.mul_pos rb0 rb0) (by rw [Int.mul_zero, e]; omega)
  omega
theorem shades_bigger {a b : Ball} {more : Int} (ha : 0 < a.r) (hb : 0 < b.r) (sa : 0 < power (bigger a more)) (hlt : power a < power b) (h0 : 0 ≤ more) : shades a b ≤ shades (bigger a more) b := by
 have hr : (bigger a more).r = a.r + more := rfl
 have hn : norm2 (bigger a more) = norm2 a := rfl
 have hd : dot (bigger a more) b = dot a b := rfl
 have pa := power_eq a
 have pa' := power_eq (bigger a more)
 rw [hn, hr] at pa'
 have hsq : a.r * a.r ≤ (a.r + more) * (a.r + more) := sq_le (by omega) (by omega)
 have hle : power (bigger a more) ≤ power a := by omega
 have sa0 : 0 < power a := by omega
 have sb : 0 < power b := by omega
 have hcs : dot a b * dot a b ≤ norm2 a * norm2 b := by have := cross_sq a b; have := sq_nonneg (cross a b); omega
 have lim := shades_lim (bigger a more) b
 have lim1 := shades_lim a b
 unfold shades
 rw [if_pos hlt, if_pos (show power (bigger a more) < power b by omega)]
 cases hdk : darkB a b
 ·cases hpt : partB a b
  ·simp only [Bool.false_eq_true, if_false]
   repeat' split <;> omega
  ·have hpt' : partB (bigger a more) b = true := by
    simp only [partB, Bool.and_eq_true, decide_eq_true_eq] at hpt ⊢
    rw [hd, hr]
    have m1 : a.r * b.r ≤ (a.r + more) * b.r := Int.mul_le_mul_of_nonneg_right (by omega) (by omega)
    refine ⟨by omega, ?_⟩
    have m2 : power (bigger a more) * power b ≤ power a * power b := Int.mul_le_mul_of_nonneg_right hle (by omega)
    have m3 := sq_le (show 0 ≤ dot a b + a.r * b.r by omega) (show dot a b + a.r * b.r ≤ dot a b + (a.r + more) * b.r by omega)
    omega
   simp only [hpt', Bool.false_eq_true, if_false, if_true]
   split <;> omega
 ·have := dark_bigger (dark_of ha hb sa0 sb hdk) hcs (show a.r ≤ a.r + more by omega) pa' sa
  have hk : darkB (bigger a more) b = true := by
   simp only [darkB, Bool.and_eq_true, decide_eq_true_eq]
   rw [hd, hr, hn]
   exact ⟨this.wide, this.D0, this.D2⟩
  simp only [hk, if_true]
  omega
end Ec
end Go.Proofs.YtfkcbgehcbhjnaaGreatDoor
namespace Go.Proofs.YtfkcbgehcbhjnaaGreatDoor
open Sp (rd)
set_option linter.unusedSimpArgs false
set_option linter.unusedVariables false
namespace Ec
def ballAt (l : List Ball) (i : Nat) : Ball := l.getD i noBall
def oneOk (b : Ball) : Bool := decide (-100 ≤ b.x) && decide (b.x ≤ 100) && (decide (-100 ≤ b.y) && decide (b.y ≤ 100)) && (decide (1 ≤ b.r) && decide (b.r ≤ 20)) && decide (0 < power b)
def fitsB (l : List Ball) (k : Nat) : Bool := oneOk (ballAt l k) && (List.range k).all fun i => apart (ballAt l i) (ballAt l k)
theorem fits_iff (l : List Ball) (k : Nat) : fitsB l k = true ↔ oneOk (ballAt l k) = true ∧ ∀ i, i < k → apart (ballAt l i) (ballAt l k) = true := by
 simp [fitsB]
def fitN (l : List Ball) (n : Nat) : Bool := (List.range n).all (fitsB l)
theorem fitN_iff (l : List Ball) (n : Nat) : fitN l n = true ↔ ∀ k, k < n → fitsB l k = true := by simp [fitN]
def ballsOk (l : List Ball) : Bool := fitN l l.length && Sp.inR l.length 1 5
def isBall (l : List Ball) (n : Int) : Bool := Sp.inR n 0 (l.length - 1)
def spotsOk (l : List Ball) (k : Nat) (spots : List Ball) : Bool := (spots.all fun b => ballsOk (l.set k b)) && Sp.inR spots.length 1 12
theorem one_pos {b : Ball} (h : oneOk b = true) : 0 < b.r ∧ 0 < power b := by
 simp only [oneOk, Bool.and_eq_true, decide_eq_true_eq] at h
 exact ⟨by omega, h.2⟩
theorem apart_swap (a b : Ball) : apart a b = apart b a := by
 unfold apart
 congr 1
 have h1 : (a.r + b.r) * (a.r + b.r) = (b.r + a.r) * (b.r + a.r) := by grind
 have h2 : (a.x - b.x) * (a.x - b.x) + (a.y - b.y) * (a.y - b.y) = (b.x - a.x) * (b.x - a.x) + (b.y - a.y) * (b.y - a.y) := by grind
 rw [h1, h2]
theorem one_turn (b : Ball) (h : oneOk b = true) : oneOk (turnBall b) = true := by
 have hp : power (turnBall b) = power b := by unfold power turnBall; grind
 simp only [oneOk, Bool.and_eq_true, decide_eq_true_eq, hp] at h ⊢
 simp only [turnBall]
 omega
theorem one_mirror (b : Ball) (h : oneOk b = true) : oneOk (mirrorBall b) = true := by
 have hp : power (mirrorBall b) = power b := by unfold power mirrorBall; grind
 simp only [oneOk, Bool.and_eq_true, decide_eq_true_eq, hp] at h ⊢
 simp only [mirrorBall]
 omega
theorem apart_turn (a b : Ball) : apart (turnBall a) (turnBall b) = apart a b := by
 unfold apart turnBall
 congr 1
 have h : (-a.y - -b.y) * (-a.y - -b.y) + (a.x - b.x) * (a.x - b.x) = (a.x - b.x) * (a.x - b.x) + (a.y - b.y) * (a.y - b.y) := by grind
 dsimp only
 rw [h]
theorem apart_mirror (a b : Ball) : apart (mirrorBall a) (mirrorBall b) = apart a b := by
 unfold apart mirrorBall
 congr 1
 have h : (a.x - b.x) * (a.x - b.x) + (-a.y - -b.y) * (-a.y - -b.y) = (a.x - b.x) * (a.x - b.x) + (a.y - b.y) * (a.y - b.y) := by grind
 dsimp only
 rw [h]
theorem fitN_map {l : List Ball} {n : Nat} (hn : n ≤ l.length) (f : Ball → Ball) (h1 : ∀ b, oneOk b = true → oneOk (f b) = true) (h2 : ∀ a b, apart (f a) (f b) = apart a b) (h : fitN l n = true) : fitN (l.map f) n = true := by
 rw [fitN_iff] at h ⊢
 have ha : ∀ k, k < l.length → ballAt (l.map f) k = f (ballAt l k) := fun k hk => by
  simp [ballAt, List.getD_eq_getElem?_getD, hk]
 intro k hk
 obtain ⟨x, y⟩ := (fits_iff ..).1 (h k hk)
 refine (fits_iff ..).2 ⟨?_, fun i hi => ?_⟩
 ·rw [ha k (by omega)]; exact h1 _ x
 ·rw [ha k (by omega), ha i (by omega), h2]; exact y i hi
def darkestN (l : List Ball) (k : Nat) : Nat → Int
 | 0 => 1
 | n + 1 => if n = k then darkestN l k n else max (darkestN l k n) (shades (ballAt l n) (ballAt l k))
def darkest (l : List Ball) (k : Nat) : Int := darkestN l k l.length
def darkL (l : List Ball) : List Int := (List.range l.length).map (darkest l)
def putB (l : List Ball) (k : Nat) (b : Ball) : List Ball := l.set k b
def movesL (l : List Ball) (k : Nat) (spots : List Ball) : List Int := spots.map fun b => darkest (putB l k b) k
theorem darkL_length (l : List Ball) : (darkL l).length = l.length := by simp [darkL]
theorem movesL_length (l : List Ball) (k : Nat) (spots : List Ball) : (movesL l k spots).length = spots.length := by simp [movesL]
theorem put_at (l : List Ball) (k : Nat) (b : Ball) (hk : k < l.length) : ballAt (putB l k b) k = b := by
 simp [ballAt, putB, List.getD_eq_getElem?_getD, hk]
theorem put_other (l : List Ball) (k i : Nat) (b : Ball) (h : i ≠ k) : ballAt (putB l k b) i = ballAt l i := by
 simp [ballAt, putB, List.getD_eq_getElem?_getD, List.getElem?_set_ne (Ne.symm h)]
theorem balls_map {l : List Ball} (f : Ball → Ball) (h1 : ∀ b, oneOk b = true → oneOk (f b) = true) (h2 : ∀ a b, apart (f a) (f b) = apart a b) (h : ballsOk l = true) : ballsOk (l.map f) = true := by
 unfold ballsOk at h ⊢
 rw [Bool.and_eq_true] at h ⊢
 rw [List.length_map]
 exact ⟨fitN_map (Nat.le_refl _) f h1 h2 h.1, h.2⟩
theorem balls_turn {l : List Ball} (h : ballsOk l = true) : ballsOk (l.map turnBall) = true := balls_map turnBall one_turn apart_turn h
theorem balls_mirror {l : List Ball} (h : ballsOk l = true) : ballsOk (l.map mirrorBall) = true := balls_map mirrorBall one_mirror apart_mirror h
theorem ball_pos {l : List Ball} (h : ballsOk l = true) {k : Nat} (hk : k < l.length) : 0 < (ballAt l k).r ∧ 0 < power (ballAt l k) := by
 unfold ballsOk at h
 rw [Bool.and_eq_true] at h
 exact one_pos ((fits_iff ..).1 ((fitN_iff ..).1 h.1 k hk)).1
end Ec
end Go.Proofs.YtfkcbgehcbhjnaaGreatDoor
namespace Go.Proofs.YtfkcbgehcbhjnaaGreatDoor
open Go.RowKit
open Sp (rd)
set_option maxRecDepth 100000
set_option maxHeartbeats 2000000
set_option linter.unusedVariables false
theorem sq_bounds {x B : Int} (h1 : -B ≤ x) (h2 : x ≤ B) : 0 ≤ x * x ∧ x * x ≤ B * B := by
 rcases Int.le_total 0 x with h | h
 ·exact ⟨Int.mul_nonneg h h, Int.mul_le_mul h2 h2 h (by omega)⟩
 ·have e : x * x = (-x) * (-x) := by rw [Int.neg_mul_neg]
  rw [e]
  exact ⟨Int.mul_nonneg (by omega) (by omega), Int.mul_le_mul (by omega) (by omega) (by omega) (by omega)⟩
theorem prod_lim {x y A B : Int} (h1 : -A ≤ x) (h2 : x ≤ A) (h3 : -B ≤ y) (h4 : y ≤ B) : -(A * B) ≤ x * y ∧ x * y ≤ A * B := by
 rcases Int.le_total 0 y with h | h
 ·exact mul_bounds h1 h2 h h4
 ·have := mul_bounds (a := x) (b := -y) (A := A) (B := B) h1 h2 (by omega) (by omega)
  rw [Int.mul_neg] at this
  omega
theorem e_squares1 (b : Nat) (x : Int) (w : World) (hr : Row w b 3 #[.int .i64 x]) (h1 : -1000000 ≤ x) (h2 : x ≤ 1000000) :
  Calls Tryz.prog 93 #[.slice (some ⟨b, 0, none⟩) 1 1] w fun e w' => e = .returned (.int .i64 (x * x)) ∧ w = w' := by
 have q := hr.cell
 have hx := sq_bounds h1 h2
 clear hr h1 h2
 go_enter Tryz.func93, Tryz.ntmps93
 go_wp2_with fail
 go_loopw [3, 8] (fun v i wr => ((i = .int .i64 0 ∧ v = .int .i64 0) ∨ (i = .int .i64 1 ∧ v = .int .i64 (x * x))) ∧ w = wr) (fun _ i _ => 1 - (intOf i).toNat)
 case atStart => exact ⟨.inl ⟨rfl, rfl⟩, rfl⟩
 case round =>
  obtain ⟨⟨rfl, rfl⟩ | ⟨rfl, rfl⟩, rfl⟩ := hrel
  ·go_wp2_with fail
   go_roundw
   case rel => exact ⟨.inr ⟨rfl, by simp⟩, by simp⟩
   case measure => simp [intOf]
  ·go_wp2_with fail
   go_ret
   exact ⟨rfl, by simp⟩
theorem e_squares2 (b : Nat) (x y : Int) (w : World) (hr : Row w b 3 #[.int .i64 x, .int .i64 y]) (h1 : -100000 ≤ x) (h2 : x ≤ 100000) (h3 : -100000 ≤ y) (h4 : y ≤ 100000) :
  Calls Tryz.prog 93 #[.slice (some ⟨b, 0, none⟩) 2 2] w fun e w' => e = .returned (.int .i64 (x * x + y * y)) ∧ w = w' := by
 have q := hr.cell
 have hx := sq_bounds h1 h2
 have hy := sq_bounds h3 h4
 clear hr h1 h2 h3 h4
 go_enter Tryz.func93, Tryz.ntmps93
 go_wp2_with fail
 go_loopw [3, 8] (fun v i wr => ((i = .int .i64 0 ∧ v = .int .i64 0) ∨ (i = .int .i64 1 ∧ v = .int .i64 (x * x)) ∨ (i = .int .i64 2 ∧ v = .int .i64 (x * x + y * y))) ∧ w = wr) (fun _ i _ => 2 - (intOf i).toNat)
 case atStart => exact ⟨.inl ⟨rfl, rfl⟩, rfl⟩
 case round =>
  obtain ⟨⟨rfl, rfl⟩ | ⟨rfl, rfl⟩ | ⟨rfl, rfl⟩, rfl⟩ := hrel
  ·go_wp2_with fail
   go_roundw
   case rel => exact ⟨.inr (.inl ⟨rfl, by simp⟩), by simp⟩
   case measure => simp [intOf]
  ·go_wp2_with fail
   go_roundw
   case rel => exact ⟨.inr (.inr ⟨rfl, by simp⟩), by simp⟩
   case measure => simp [intOf]
  ·go_wp2_with fail
   go_ret
   exact ⟨rfl, by simp⟩
def MkAt (w0 : World) (v : Value) (w : World) (t : TypeId) (n : Nat) (cs : Array Value) : Prop := ∃ b, v = .slice (some ⟨b, 0, none⟩) n n ∧ w0.heap.size ≤ b ∧ Row w b t cs
theorem MkAt.ext {w0 w w' : World} {v : Value} {t : TypeId} {n : Nat} {cs : Array Value} (h : MkAt w0 v w t n cs) (he : Ext w w') : MkAt w0 v w' t n cs := let ⟨b, h1, h2, h3⟩ := h; ⟨b, h1, h2, h3.ext he⟩
def shdΦ1 (ax ay ar bx by_ br Na Nb Ra Rb : Int) (pa pb : Nat) (w0 : World) (i : Nat) (v : Value) (w : World) : Prop :=
 match i with
 | 0 => v = .pointer (some ⟨pa, 0, none⟩)
 | 1 => v = .int .i64 ax
 | 2 => v = .pointer (some ⟨pa, 1, none⟩)
 | 3 => v = .int .i64 ay
 | 4 => MkAt w0 v w 3 2 #[.int .i64 ax, .int .i64 ay]
 | 5 => v = .int .i64 Na
 | 6 => v = .pointer (some ⟨pa, 2, none⟩)
 | 7 => v = .int .i64 ar
 | 8 => MkAt w0 v w 3 1 #[.int .i64 ar]
 | 9 => v = .int .i64 Ra
 | 10 => v = .int .i64 (Na - Ra)
 | 11 => v = .pointer (some ⟨pb, 0, none⟩)
 | 12 => v = .int .i64 bx
 | 13 => v = .pointer (some ⟨pb, 1, none⟩)
 | 14 => v = .int .i64 by_
 | 15 => MkAt w0 v w 3 2 #[.int .i64 bx, .int .i64 by_]
 | 16 => v = .int .i64 Nb
 | 17 => v = .pointer (some ⟨pb, 2, none⟩)
 | 18 => v = .int .i64 br
 | 19 => MkAt w0 v w 3 1 #[.int .i64 br]
 | 20 => v = .int .i64 Rb
 | 21 => v = .int .i64 (Nb - Rb)
 | _ => v = .int .i64 (Na - Ra)
theorem shdΦ1_mono {ax ay ar bx by_ br Na Nb Ra Rb : Int} {pa pb : Nat} {w0 : World} (i : Nat) (v : Value) (w w' : World) (h : shdΦ1 ax ay ar bx by_ br Na Nb Ra Rb pa pb w0 i v w) (he : Ext w w') : shdΦ1 ax ay ar bx by_ br Na Nb Ra Rb pa pb w0 i v w' := by
 unfold shdΦ1 at h ⊢
 split at h <;> first
  | exact h
  | exact MkAt.ext h he
  | exact fun hg => MkAt.ext (h hg) he
def shdΦ4 (ax ay ar bx by_ br Na Nb Ra Rb : Int) (pa pb : Nat) (w0 : World) (i : Nat) (v : Value) (w : World) : Prop :=
 match i with
 | 0 => v = .pointer (some ⟨pa, 0, none⟩)
 | 1 => v = .int .i64 ax
 | 2 => v = .pointer (some ⟨pb, 0, none⟩)
 | 3 => v = .int .i64 bx
 | 4 => v = .int .i64 (ax * bx)
 | 5 => v = .pointer (some ⟨pa, 1, none⟩)
 | 6 => v = .int .i64 ay
 | 7 => v = .pointer (some ⟨pb, 1, none⟩)
 | 8 => v = .int .i64 by_
 | 9 => v = .int .i64 (ay * by_)
 | 10 => v = .int .i64 (ax * bx + ay * by_)
 | 11 => v = .pointer (some ⟨pa, 2, none⟩)
 | 12 => v = .int .i64 ar
 | 13 => v = .pointer (some ⟨pb, 2, none⟩)
 | 14 => v = .int .i64 br
 | 15 => v = .int .i64 (ar * br)
 | _ => v = .int .i64 (ax * bx + ay * by_)
theorem shdΦ4_mono {ax ay ar bx by_ br Na Nb Ra Rb : Int} {pa pb : Nat} {w0 : World} (i : Nat) (v : Value) (w w' : World) (h : shdΦ4 ax ay ar bx by_ br Na Nb Ra Rb pa pb w0 i v w) (he : Ext w w') : shdΦ4 ax ay ar bx by_ br Na Nb Ra Rb pa pb w0 i v w' := by
 unfold shdΦ4 at h ⊢
 split at h <;> first
  | exact h
  | exact MkAt.ext h he
  | exact fun hg => MkAt.ext (h hg) he
def shdΦ5 (ax ay ar bx by_ br Na Nb Ra Rb : Int) (pa pb : Nat) (w0 : World) (i : Nat) (v : Value) (w : World) : Prop :=
 match i with
 | 0 => v = .pointer (some ⟨pa, 2, none⟩)
 | 1 => v = .int .i64 ar
 | 2 => MkAt w0 v w 3 1 #[.int .i64 ar]
 | 3 => v = .int .i64 Ra
 | 4 => v = .pointer (some ⟨pb, 0, none⟩)
 | 5 => v = .int .i64 bx
 | 6 => v = .pointer (some ⟨pb, 1, none⟩)
 | 7 => v = .int .i64 by_
 | 8 => MkAt w0 v w 3 2 #[.int .i64 bx, .int .i64 by_]
 | 9 => v = .int .i64 Nb
 | 10 => v = .int .i64 (Ra * Nb)
 | 11 => v = .pointer (some ⟨pb, 2, none⟩)
 | 12 => v = .int .i64 br
 | 13 => MkAt w0 v w 3 1 #[.int .i64 br]
 | 14 => v = .int .i64 Rb
 | 15 => v = .pointer (some ⟨pa, 0, none⟩)
 | 16 => v = .int .i64 ax
 | 17 => v = .pointer (some ⟨pa, 1, none⟩)
 | 18 => v = .int .i64 ay
 | 19 => MkAt w0 v w 3 2 #[.int .i64 ax, .int .i64 ay]
 | 20 => v = .int .i64 Na
 | 21 => v = .int .i64 (Rb * Na)
 | _ => v = .bool (decide (Rb * Na ≤ Ra * Nb))
theorem shdΦ5_mono {ax ay ar bx by_ br Na Nb Ra Rb : Int} {pa pb : Nat} {w0 : World} (i : Nat) (v : Value) (w w' : World) (h : shdΦ5 ax ay ar bx by_ br Na Nb Ra Rb pa pb w0 i v w) (he : Ext w w') : shdΦ5 ax ay ar bx by_ br Na Nb Ra Rb pa pb w0 i v w' := by
 unfold shdΦ5 at h ⊢
 split at h <;> first
  | exact h
  | exact MkAt.ext h he
  | exact fun hg => MkAt.ext (h hg) he
theorem e_shades_any (ax ay ar bx by_ br : Int) (w : World) (x1 : -200 ≤ ax ∧ ax ≤ 200) (y1 : -200 ≤ ay ∧ ay ≤ 200) (r1 : -200 ≤ ar ∧ ar ≤ 200) (x2 : -200 ≤ bx ∧ bx ≤ 200) (y2 : -200 ≤ by_ ∧ by_ ≤ 200) (r2 : -200 ≤ br ∧ br ≤ 200) :
  Calls Tryz.prog 56 #[.agg #[.int .i64 ax, .int .i64 ay, .int .i64 ar], .agg #[.int .i64 bx, .int .i64 by_, .int .i64 br]] w fun e w' => e = .returned (.int .i64 (Ec.shades ⟨ax, ay, ar⟩ ⟨bx, by_, br⟩)) ∧ Ext w w' := by
 obtain ⟨Na, hNa⟩ : ∃ Na, ax * ax + ay * ay = Na := ⟨_, rfl⟩
 obtain ⟨Nb, hNb⟩ : ∃ Nb, bx * bx + by_ * by_ = Nb := ⟨_, rfl⟩
 obtain ⟨Ra, hRa⟩ : ∃ Ra, ar * ar = Ra := ⟨_, rfl⟩
 obtain ⟨Rb, hRb⟩ : ∃ Rb, br * br = Rb := ⟨_, rfl⟩
 have HNa : Hid (∀ (b : Nat) (w : World), Row w b 3 #[.int .i64 ax, .int .i64 ay] → Calls Tryz.prog 93 #[.slice (some ⟨b, 0, none⟩) 2 2] w fun e w' => e = .returned (.int .i64 Na) ∧ w = w') := Lib.hid fun b w hr => by rw [← hNa]; exact e_squares2 b ax ay w hr (by omega) (by omega) (by omega) (by omega)
 have HNb : Hid (∀ (b : Nat) (w : World), Row w b 3 #[.int .i64 bx, .int .i64 by_] → Calls Tryz.prog 93 #[.slice (some ⟨b, 0, none⟩) 2 2] w fun e w' => e = .returned (.int .i64 Nb) ∧ w = w') := Lib.hid fun b w hr => by rw [← hNb]; exact e_squares2 b bx by_ w hr (by omega) (by omega) (by omega) (by omega)
 have HRa : Hid (∀ (b : Nat) (w : World), Row w b 3 #[.int .i64 ar] → Calls Tryz.prog 93 #[.slice (some ⟨b, 0, none⟩) 1 1] w fun e w' => e = .returned (.int .i64 Ra) ∧ w = w') := Lib.hid fun b w hr => by rw [← hRa]; exact e_squares1 b ar w hr (by omega) (by omega)
 have HRb : Hid (∀ (b : Nat) (w : World), Row w b 3 #[.int .i64 br] → Calls Tryz.prog 93 #[.slice (some ⟨b, 0, none⟩) 1 1] w fun e w' => e = .returned (.int .i64 Rb) ∧ w = w') := Lib.hid fun b w hr => by rw [← hRb]; exact e_squares1 b br w hr (by omega) (by omega)
 have q1 := sq_bounds x1.1 x1.2
 have q2 := sq_bounds y1.1 y1.2
 have q3 := sq_bounds r1.1 r1.2
 have q4 := sq_bounds x2.1 x2.2
 have q5 := sq_bounds y2.1 y2.2
 have q6 := sq_bounds r2.1 r2.2
 have n1 : 0 ≤ Na ∧ Na ≤ 80000 := by omega
 have n2 : 0 ≤ Nb ∧ Nb ≤ 80000 := by omega
 have n3 : 0 ≤ Ra ∧ Ra ≤ 40000 := by omega
 have n4 : 0 ≤ Rb ∧ Rb ≤ 40000 := by omega
 have p1 := prod_lim x1.1 x1.2 x2.1 x2.2
 have p2 := prod_lim y1.1 y1.2 y2.1 y2.2
 have p3 := prod_lim r1.1 r1.2 r2.1 r2.2
 have p4 := mul_bounds0 n3.1 n3.2 n2.1 n2.2
 have p5 := mul_bounds0 n4.1 n4.2 n1.1 n1.2
 have p6 := prod_lim (x := Na - Ra) (y := Nb - Rb) (A := 120000) (B := 120000) (by omega) (by omega) (by omega) (by omega)
 have HFIN : Hid (Ec.shades ⟨ax, ay, ar⟩ ⟨bx, by_, br⟩ = if Na - Ra < Nb - Rb then (if (decide (Rb * Na ≤ Ra * Nb) && (decide (ar * br ≤ ax * bx + ay * by_) && decide ((Na - Ra) * (Nb - Rb) ≤ (ax * bx + ay * by_ - ar * br) * (ax * bx + ay * by_ - ar * br)))) = true then 3 else if (decide (-(ar * br) < ax * bx + ay * by_) && decide ((Na - Ra) * (Nb - Rb) < (ax * bx + ay * by_ + ar * br) * (ax * bx + ay * by_ + ar * br))) = true then 2 else 1) else 1) := Lib.hid (by
  unfold Ec.shades Ec.darkB Ec.partB Ec.power Ec.norm2 Ec.dot
  simp only [hNa, hNb, hRa, hRb])
 clear q1 q2 q3 q4 q5 q6 hNa hNb hRa hRb
 have HRA : Hid (Row ((w.alloc (.cells #[.int .i64 ax, .int .i64 ay, .int .i64 ar] 51)).alloc (.cells #[.int .i64 bx, .int .i64 by_, .int .i64 br] 51)) w.heap.size 51 #[.int .i64 ax, .int .i64 ay, .int .i64 ar]) := Lib.hid (blocks2 w _ _).1
 have HRB : Hid (Row ((w.alloc (.cells #[.int .i64 ax, .int .i64 ay, .int .i64 ar] 51)).alloc (.cells #[.int .i64 bx, .int .i64 by_, .int .i64 br] 51)) (w.heap.size + 1) 51 #[.int .i64 bx, .int .i64 by_, .int .i64 br]) := Lib.hid (blocks2 w _ _).2
 have HE0 : Hid (Ext w ((w.alloc (.cells #[.int .i64 ax, .int .i64 ay, .int .i64 ar] 51)).alloc (.cells #[.int .i64 bx, .int .i64 by_, .int .i64 br] 51))) := Lib.hid (((Ext.refl w).alloc _).alloc _)
 go_enter Tryz.func56, Tryz.ntmps56
 go_wp2_with fail
 obtain ⟨W, hW⟩ : ∃ W, (w.alloc (.cells #[.int .i64 ax, .int .i64 ay, .int .i64 ar] 51)).alloc (.cells #[.int .i64 bx, .int .i64 by_, .int .i64 br] 51) = W := ⟨_, rfl⟩
 obtain ⟨pa, hpa⟩ : ∃ pa, w.heap.size = pa := ⟨_, rfl⟩
 obtain ⟨pb, hpb⟩ : ∃ pb, pa + 1 = pb := ⟨_, rfl⟩
 rw [hW, hpa] at HRA HRB
 rw [hW] at HE0
 rw [hpb] at HRB
 rw [hW, hpa, hpb]
 clear hW hpa hpb
 refine wp_region_free_tail 23 23 (shdΦ1 ax ay ar bx by_ br Na Nb Ra Rb pa pb W) (by kernel_rfl) (by simp) (by kernel_rfl) (by kernel_rfl) (by kernel_rfl) (by kernel_rfl) shdΦ1_mono ?hob ?hQ (fun h => absurd h (by omega))
 case hob =>
  intro i o hin ho a wa hE hF
  match i, hin with
  | 0, _ =>
   cases ho
   have h0 : a.tmps[2]?.getD undef = .pointer (some ⟨pa, 0, none⟩) := evalD (hF.old 2 (by decide))
   refine Ran.value rfl (v := .pointer (some ⟨pa, 0, none⟩)) (w1 := wa) ?_ ⟨rfl, Ext.refl _⟩
   go_simp
  | 1, _ =>
   cases ho
   have h0 : a.tmps[10]?.getD undef = .pointer (some ⟨pa, 0, none⟩) := evalD ((hF.from_ 0 10 rfl (by decide)))
   have q := (Row.ext (HRA.out) hE).cell
   refine Ran.value rfl (v := .int .i64 ax) (w1 := wa) ?_ ⟨rfl, Ext.refl _⟩
   go_simp
  | 2, _ =>
   cases ho
   have h0 : a.tmps[2]?.getD undef = .pointer (some ⟨pa, 0, none⟩) := evalD (hF.old 2 (by decide))
   refine Ran.value rfl (v := .pointer (some ⟨pa, 1, none⟩)) (w1 := wa) ?_ ⟨rfl, Ext.refl _⟩
   go_simp
  | 3, _ =>
   cases ho
   have h0 : a.tmps[12]?.getD undef = .pointer (some ⟨pa, 1, none⟩) := evalD ((hF.from_ 2 12 rfl (by decide)))
   have q := (Row.ext (HRA.out) hE).cell
   refine Ran.value rfl (v := .int .i64 ay) (w1 := wa) ?_ ⟨rfl, Ext.refl _⟩
   go_simp
  | 4, _ =>
   cases ho
   have h0 : a.tmps[11]?.getD undef = .int .i64 ax := evalD ((hF.from_ 1 11 rfl (by decide)))
   have h1 : a.tmps[13]?.getD undef = .int .i64 ay := evalD ((hF.from_ 3 13 rfl (by decide)))
   refine Ran.value rfl (v := .slice (some ⟨wa.heap.size, 0, none⟩) 2 2) (w1 := wa.alloc (.cells #[.int .i64 ax, .int .i64 ay] 3)) ?_ ⟨⟨wa.heap.size, rfl, hE.size, Row.new _ _ _⟩, (Ext.refl _).alloc _⟩
   go_simp
  | 5, _ =>
   cases ho
   obtain ⟨b_h0, h0, hb_h0, hr_h0⟩ : MkAt W (a.eval (.tmp 14)) wa 3 2 #[.int .i64 ax, .int .i64 ay] := (hF.from_ 4 14 rfl (by decide))
   replace h0 := evalD h0
   refine Ran.enter rfl (f := 93) (args := #[.slice (some ⟨b_h0, 0, none⟩) 2 2]) (w1 := wa) ?_ ?_
   ·go_simp
   ·refine (HNa.out b_h0 _ hr_h0).mono ?_
    rintro r w1 ⟨rfl, hX⟩
    exact ⟨_, rfl, rfl, hX ▸ Ext.refl _⟩
  | 6, _ =>
   cases ho
   have h0 : a.tmps[2]?.getD undef = .pointer (some ⟨pa, 0, none⟩) := evalD (hF.old 2 (by decide))
   refine Ran.value rfl (v := .pointer (some ⟨pa, 2, none⟩)) (w1 := wa) ?_ ⟨rfl, Ext.refl _⟩
   go_simp
  | 7, _ =>
   cases ho
   have h0 : a.tmps[16]?.getD undef = .pointer (some ⟨pa, 2, none⟩) := evalD ((hF.from_ 6 16 rfl (by decide)))
   have q := (Row.ext (HRA.out) hE).cell
   refine Ran.value rfl (v := .int .i64 ar) (w1 := wa) ?_ ⟨rfl, Ext.refl _⟩
   go_simp
  | 8, _ =>
   cases ho
   have h0 : a.tmps[17]?.getD undef = .int .i64 ar := evalD ((hF.from_ 7 17 rfl (by decide)))
   refine Ran.value rfl (v := .slice (some ⟨wa.heap.size, 0, none⟩) 1 1) (w1 := wa.alloc (.cells #[.int .i64 ar] 3)) ?_ ⟨⟨wa.heap.size, rfl, hE.size, Row.new _ _ _⟩, (Ext.refl _).alloc _⟩
   go_simp
  | 9, _ =>
   cases ho
   obtain ⟨b_h0, h0, hb_h0, hr_h0⟩ : MkAt W (a.eval (.tmp 18)) wa 3 1 #[.int .i64 ar] := (hF.from_ 8 18 rfl (by decide))
   replace h0 := evalD h0
   refine Ran.enter rfl (f := 93) (args := #[.slice (some ⟨b_h0, 0, none⟩) 1 1]) (w1 := wa) ?_ ?_
   ·go_simp
   ·refine (HRa.out b_h0 _ hr_h0).mono ?_
    rintro r w1 ⟨rfl, hX⟩
    exact ⟨_, rfl, rfl, hX ▸ Ext.refl _⟩
  | 10, _ =>
   cases ho
   have h0 : a.tmps[15]?.getD undef = .int .i64 Na := evalD ((hF.from_ 5 15 rfl (by decide)))
   have h1 : a.tmps[19]?.getD undef = .int .i64 Ra := evalD ((hF.from_ 9 19 rfl (by decide)))
   refine Ran.value rfl (v := .int .i64 (Na - Ra)) (w1 := wa) ?_ ⟨rfl, Ext.refl _⟩
   go_simp
   exact IntWalk.i64_in _ ⟨by omega, by omega⟩
  | 11, _ =>
   cases ho
   have h0 : a.tmps[3]?.getD undef = .pointer (some ⟨pb, 0, none⟩) := evalD (hF.old 3 (by decide))
   refine Ran.value rfl (v := .pointer (some ⟨pb, 0, none⟩)) (w1 := wa) ?_ ⟨rfl, Ext.refl _⟩
   go_simp
  | 12, _ =>
   cases ho
   have h0 : a.tmps[21]?.getD undef = .pointer (some ⟨pb, 0, none⟩) := evalD ((hF.from_ 11 21 rfl (by decide)))
   have q := (Row.ext (HRB.out) hE).cell
   refine Ran.value rfl (v := .int .i64 bx) (w1 := wa) ?_ ⟨rfl, Ext.refl _⟩
   go_simp
  | 13, _ =>
   cases ho
   have h0 : a.tmps[3]?.getD undef = .pointer (some ⟨pb, 0, none⟩) := evalD (hF.old 3 (by decide))
   refine Ran.value rfl (v := .pointer (some ⟨pb, 1, none⟩)) (w1 := wa) ?_ ⟨rfl, Ext.refl _⟩
   go_simp
  | 14, _ =>
   cases ho
   have h0 : a.tmps[23]?.getD undef = .pointer (some ⟨pb, 1, none⟩) := evalD ((hF.from_ 13 23 rfl (by decide)))
   have q := (Row.ext (HRB.out) hE).cell
   refine Ran.value rfl (v := .int .i64 by_) (w1 := wa) ?_ ⟨rfl, Ext.refl _⟩
   go_simp
  | 15, _ =>
   cases ho
   have h0 : a.tmps[22]?.getD undef = .int .i64 bx := evalD ((hF.from_ 12 22 rfl (by decide)))
   have h1 : a.tmps[24]?.getD undef = .int .i64 by_ := evalD ((hF.from_ 14 24 rfl (by decide)))
   refine Ran.value rfl (v := .slice (some ⟨wa.heap.size, 0, none⟩) 2 2) (w1 := wa.alloc (.cells #[.int .i64 bx, .int .i64 by_] 3)) ?_ ⟨⟨wa.heap.size, rfl, hE.size, Row.new _ _ _⟩, (Ext.refl _).alloc _⟩
   go_simp
  | 16, _ =>
   cases ho
   obtain ⟨b_h0, h0, hb_h0, hr_h0⟩ : MkAt W (a.eval (.tmp 25)) wa 3 2 #[.int .i64 bx, .int .i64 by_] := (hF.from_ 15 25 rfl (by decide))
   replace h0 := evalD h0
   refine Ran.enter rfl (f := 93) (args := #[.slice (some ⟨b_h0, 0, none⟩) 2 2]) (w1 := wa) ?_ ?_
   ·go_simp
   ·refine (HNb.out b_h0 _ hr_h0).mono ?_
    rintro r w1 ⟨rfl, hX⟩
    exact ⟨_, rfl, rfl, hX ▸ Ext.refl _⟩
  | 17, _ =>
   cases ho
   have h0 : a.tmps[3]?.getD undef = .pointer (some ⟨pb, 0, none⟩) := evalD (hF.old 3 (by decide))
   refine Ran.value rfl (v := .pointer (some ⟨pb, 2, none⟩)) (w1 := wa) ?_ ⟨rfl, Ext.refl _⟩
   go_simp
  | 18, _ =>
   cases ho
   have h0 : a.tmps[27]?.getD undef = .pointer (some ⟨pb, 2, none⟩) := evalD ((hF.from_ 17 27 rfl (by decide)))
   have q := (Row.ext (HRB.out) hE).cell
   refine Ran.value rfl (v := .int .i64 br) (w1 := wa) ?_ ⟨rfl, Ext.refl _⟩
   go_simp
  | 19, _ =>
   cases ho
   have h0 : a.tmps[28]?.getD undef = .int .i64 br := evalD ((hF.from_ 18 28 rfl (by decide)))
   refine Ran.value rfl (v := .slice (some ⟨wa.heap.size, 0, none⟩) 1 1) (w1 := wa.alloc (.cells #[.int .i64 br] 3)) ?_ ⟨⟨wa.heap.size, rfl, hE.size, Row.new _ _ _⟩, (Ext.refl _).alloc _⟩
   go_simp
  | 20, _ =>
   cases ho
   obtain ⟨b_h0, h0, hb_h0, hr_h0⟩ : MkAt W (a.eval (.tmp 29)) wa 3 1 #[.int .i64 br] := (hF.from_ 19 29 rfl (by decide))
   replace h0 := evalD h0
   refine Ran.enter rfl (f := 93) (args := #[.slice (some ⟨b_h0, 0, none⟩) 1 1]) (w1 := wa) ?_ ?_
   ·go_simp
   ·refine (HRb.out b_h0 _ hr_h0).mono ?_
    rintro r w1 ⟨rfl, hX⟩
    exact ⟨_, rfl, rfl, hX ▸ Ext.refl _⟩
  | 21, _ =>
   cases ho
   have h0 : a.tmps[26]?.getD undef = .int .i64 Nb := evalD ((hF.from_ 16 26 rfl (by decide)))
   have h1 : a.tmps[30]?.getD undef = .int .i64 Rb := evalD ((hF.from_ 20 30 rfl (by decide)))
   refine Ran.value rfl (v := .int .i64 (Nb - Rb)) (w1 := wa) ?_ ⟨rfl, Ext.refl _⟩
   go_simp
   exact IntWalk.i64_in _ ⟨by omega, by omega⟩
  | 22, _ =>
   cases ho
   have h0 : a.tmps[20]?.getD undef = .int .i64 (Na - Ra) := evalD ((hF.from_ 10 20 rfl (by decide)))
   refine Ran.value rfl (v := .int .i64 (Na - Ra)) (w1 := wa) ?_ ⟨rfl, Ext.refl _⟩
   go_simp
  | k + 23, hin => omega
 case hQ =>
  intro vs w2 hE hΦ
  have f0 : vs 0 = .pointer (some ⟨pa, 0, none⟩) := hΦ 0 (by omega)
  have f1 : vs 1 = .int .i64 ax := hΦ 1 (by omega)
  have f2 : vs 2 = .pointer (some ⟨pa, 1, none⟩) := hΦ 2 (by omega)
  have f3 : vs 3 = .int .i64 ay := hΦ 3 (by omega)
  obtain ⟨b4, f4, hb4, hr4⟩ : MkAt W (vs 4) w2 3 2 #[.int .i64 ax, .int .i64 ay] := hΦ 4 (by omega)
  have f5 : vs 5 = .int .i64 Na := hΦ 5 (by omega)
  have f6 : vs 6 = .pointer (some ⟨pa, 2, none⟩) := hΦ 6 (by omega)
  have f7 : vs 7 = .int .i64 ar := hΦ 7 (by omega)
  obtain ⟨b8, f8, hb8, hr8⟩ : MkAt W (vs 8) w2 3 1 #[.int .i64 ar] := hΦ 8 (by omega)
  have f9 : vs 9 = .int .i64 Ra := hΦ 9 (by omega)
  have f10 : vs 10 = .int .i64 (Na - Ra) := hΦ 10 (by omega)
  have f11 : vs 11 = .pointer (some ⟨pb, 0, none⟩) := hΦ 11 (by omega)
  have f12 : vs 12 = .int .i64 bx := hΦ 12 (by omega)
  have f13 : vs 13 = .pointer (some ⟨pb, 1, none⟩) := hΦ 13 (by omega)
  have f14 : vs 14 = .int .i64 by_ := hΦ 14 (by omega)
  obtain ⟨b15, f15, hb15, hr15⟩ : MkAt W (vs 15) w2 3 2 #[.int .i64 bx, .int .i64 by_] := hΦ 15 (by omega)
  have f16 : vs 16 = .int .i64 Nb := hΦ 16 (by omega)
  have f17 : vs 17 = .pointer (some ⟨pb, 2, none⟩) := hΦ 17 (by omega)
  have f18 : vs 18 = .int .i64 br := hΦ 18 (by omega)
  obtain ⟨b19, f19, hb19, hr19⟩ : MkAt W (vs 19) w2 3 1 #[.int .i64 br] := hΦ 19 (by omega)
  have f20 : vs 20 = .int .i64 Rb := hΦ 20 (by omega)
  have f21 : vs 21 = .int .i64 (Nb - Rb) := hΦ 21 (by omega)
  have f22 : vs 22 = .int .i64 (Na - Ra) := hΦ 22 (by omega)
  have hrg : List.range 23 = [0, 1, 2, 3, 4, 5, 6, 7, 8, 9, 10, 11, 12, 13, 14, 15, 16, 17, 18, 19, 20, 21, 22] := rfl
  unfold putAll putS
  simp only [List.length_cons, List.length_nil, List.take_succ_cons, List.take_zero, List.drop_succ_cons, List.drop_zero, Nat.reduceAdd, hrg, List.foldl_cons, List.foldl_nil, dstOf, List.getElem?_cons_succ, List.getElem?_cons_zero, Option.bind_some]
  clear hrg
  rw [f0, f1, f2, f3, f4, f5, f6, f7, f8, f9, f10, f11, f12, f13, f14, f15, f16, f17, f18, f19, f20, f21, f22]
  have HE1 := Lib.hid (HE0.out.trans hE)
  have HRA1 := Lib.hid (HRA.out.ext hE)
  have HRB1 := Lib.hid (HRB.out.ext hE)
  clear hΦ f0 f1 f2 f3 f4 f5 f6 f7 f8 f9 f10 f11 f12 f13 f14 f15 f16 f17 f18 f19 f20 f21 f22 hr4 hr8 hr15 hr19 hE
  obtain ⟨W4, rfl⟩ : ∃ W4, W4 = w2 := ⟨_, rfl⟩
  by_cases hlt : Nb - Rb ≤ Na - Ra
  ·have HL := Lib.hid hlt
   go_wp2_with fail
   go_ret
   exact ⟨by rw [HFIN.out, if_neg (by have := HL.out; omega)] <;> rfl, HE1.out⟩
  ·have hlt' : Na - Ra < Nb - Rb := by omega
   have HFIN2 := Lib.hid (HFIN.out.trans (if_pos hlt'))
   clear hlt'
   go_wp2_with fail
   refine wp_region_free_tail 17 17 (shdΦ4 ax ay ar bx by_ br Na Nb Ra Rb pa pb W4) (by kernel_rfl) (by simp) (by kernel_rfl) (by kernel_rfl) (by kernel_rfl) (by kernel_rfl) shdΦ4_mono ?hob ?hQ (fun h => absurd h (by omega))
   case hob =>
    intro i o hin ho a wa hE hF
    match i, hin with
    | 0, _ =>
     cases ho
     have h0 : a.tmps[2]?.getD undef = .pointer (some ⟨pa, 0, none⟩) := evalD (hF.old 2 (by decide))
     refine Ran.value rfl (v := .pointer (some ⟨pa, 0, none⟩)) (w1 := wa) ?_ ⟨rfl, Ext.refl _⟩
     go_simp
    | 1, _ =>
     cases ho
     have h0 : a.tmps[35]?.getD undef = .pointer (some ⟨pa, 0, none⟩) := evalD ((hF.from_ 0 35 rfl (by decide)))
     have q := (Row.ext (HRA1.out) hE).cell
     refine Ran.value rfl (v := .int .i64 ax) (w1 := wa) ?_ ⟨rfl, Ext.refl _⟩
     go_simp
    | 2, _ =>
     cases ho
     have h0 : a.tmps[3]?.getD undef = .pointer (some ⟨pb, 0, none⟩) := evalD (hF.old 3 (by decide))
     refine Ran.value rfl (v := .pointer (some ⟨pb, 0, none⟩)) (w1 := wa) ?_ ⟨rfl, Ext.refl _⟩
     go_simp
    | 3, _ =>
     cases ho
     have h0 : a.tmps[37]?.getD undef = .pointer (some ⟨pb, 0, none⟩) := evalD ((hF.from_ 2 37 rfl (by decide)))
     have q := (Row.ext (HRB1.out) hE).cell
     refine Ran.value rfl (v := .int .i64 bx) (w1 := wa) ?_ ⟨rfl, Ext.refl _⟩
     go_simp
    | 4, _ =>
     cases ho
     have h0 : a.tmps[36]?.getD undef = .int .i64 ax := evalD ((hF.from_ 1 36 rfl (by decide)))
     have h1 : a.tmps[38]?.getD undef = .int .i64 bx := evalD ((hF.from_ 3 38 rfl (by decide)))
     refine Ran.value rfl (v := .int .i64 (ax * bx)) (w1 := wa) ?_ ⟨rfl, Ext.refl _⟩
     go_simp
     exact IntWalk.i64_in _ ⟨by omega, by omega⟩
    | 5, _ =>
     cases ho
     have h0 : a.tmps[2]?.getD undef = .pointer (some ⟨pa, 0, none⟩) := evalD (hF.old 2 (by decide))
     refine Ran.value rfl (v := .pointer (some ⟨pa, 1, none⟩)) (w1 := wa) ?_ ⟨rfl, Ext.refl _⟩
     go_simp
    | 6, _ =>
     cases ho
     have h0 : a.tmps[40]?.getD undef = .pointer (some ⟨pa, 1, none⟩) := evalD ((hF.from_ 5 40 rfl (by decide)))
     have q := (Row.ext (HRA1.out) hE).cell
     refine Ran.value rfl (v := .int .i64 ay) (w1 := wa) ?_ ⟨rfl, Ext.refl _⟩
     go_simp
    | 7, _ =>
     cases ho
     have h0 : a.tmps[3]?.getD undef = .pointer (some ⟨pb, 0, none⟩) := evalD (hF.old 3 (by decide))
     refine Ran.value rfl (v := .pointer (some ⟨pb, 1, none⟩)) (w1 := wa) ?_ ⟨rfl, Ext.refl _⟩
     go_simp
    | 8, _ =>
     cases ho
     have h0 : a.tmps[42]?.getD undef = .pointer (some ⟨pb, 1, none⟩) := evalD ((hF.from_ 7 42 rfl (by decide)))
     have q := (Row.ext (HRB1.out) hE).cell
     refine Ran.value rfl (v := .int .i64 by_) (w1 := wa) ?_ ⟨rfl, Ext.refl _⟩
     go_simp
    | 9, _ =>
     cases ho
     have h0 : a.tmps[41]?.getD undef = .int .i64 ay := evalD ((hF.from_ 6 41 rfl (by decide)))
     have h1 : a.tmps[43]?.getD undef = .int .i64 by_ := evalD ((hF.from_ 8 43 rfl (by decide)))
     refine Ran.value rfl (v := .int .i64 (ay * by_)) (w1 := wa) ?_ ⟨rfl, Ext.refl _⟩
     go_simp
     exact IntWalk.i64_in _ ⟨by omega, by omega⟩
    | 10, _ =>
     cases ho
     have h0 : a.tmps[39]?.getD undef = .int .i64 (ax * bx) := evalD ((hF.from_ 4 39 rfl (by decide)))
     have h1 : a.tmps[44]?.getD undef = .int .i64 (ay * by_) := evalD ((hF.from_ 9 44 rfl (by decide)))
     refine Ran.value rfl (v := .int .i64 (ax * bx + ay * by_)) (w1 := wa) ?_ ⟨rfl, Ext.refl _⟩
     go_simp
     exact IntWalk.i64_in _ ⟨by omega, by omega⟩
    | 11, _ =>
     cases ho
     have h0 : a.tmps[2]?.getD undef = .pointer (some ⟨pa, 0, none⟩) := evalD (hF.old 2 (by decide))
     refine Ran.value rfl (v := .pointer (some ⟨pa, 2, none⟩)) (w1 := wa) ?_ ⟨rfl, Ext.refl _⟩
     go_simp
    | 12, _ =>
     cases ho
     have h0 : a.tmps[46]?.getD undef = .pointer (some ⟨pa, 2, none⟩) := evalD ((hF.from_ 11 46 rfl (by decide)))
     have q := (Row.ext (HRA1.out) hE).cell
     refine Ran.value rfl (v := .int .i64 ar) (w1 := wa) ?_ ⟨rfl, Ext.refl _⟩
     go_simp
    | 13, _ =>
     cases ho
     have h0 : a.tmps[3]?.getD undef = .pointer (some ⟨pb, 0, none⟩) := evalD (hF.old 3 (by decide))
     refine Ran.value rfl (v := .pointer (some ⟨pb, 2, none⟩)) (w1 := wa) ?_ ⟨rfl, Ext.refl _⟩
     go_simp
    | 14, _ =>
     cases ho
     have h0 : a.tmps[48]?.getD undef = .pointer (some ⟨pb, 2, none⟩) := evalD ((hF.from_ 13 48 rfl (by decide)))
     have q := (Row.ext (HRB1.out) hE).cell
     refine Ran.value rfl (v := .int .i64 br) (w1 := wa) ?_ ⟨rfl, Ext.refl _⟩
     go_simp
    | 15, _ =>
     cases ho
     have h0 : a.tmps[47]?.getD undef = .int .i64 ar := evalD ((hF.from_ 12 47 rfl (by decide)))
     have h1 : a.tmps[49]?.getD undef = .int .i64 br := evalD ((hF.from_ 14 49 rfl (by decide)))
     refine Ran.value rfl (v := .int .i64 (ar * br)) (w1 := wa) ?_ ⟨rfl, Ext.refl _⟩
     go_simp
     exact IntWalk.i64_in _ ⟨by omega, by omega⟩
    | 16, _ =>
     cases ho
     have h0 : a.tmps[45]?.getD undef = .int .i64 (ax * bx + ay * by_) := evalD ((hF.from_ 10 45 rfl (by decide)))
     refine Ran.value rfl (v := .int .i64 (ax * bx + ay * by_)) (w1 := wa) ?_ ⟨rfl, Ext.refl _⟩
     go_simp
    | k + 17, hin => omega
   case hQ =>
    intro vs w2 hE hΦ
    have f0 : vs 0 = .pointer (some ⟨pa, 0, none⟩) := hΦ 0 (by omega)
    have f1 : vs 1 = .int .i64 ax := hΦ 1 (by omega)
    have f2 : vs 2 = .pointer (some ⟨pb, 0, none⟩) := hΦ 2 (by omega)
    have f3 : vs 3 = .int .i64 bx := hΦ 3 (by omega)
    have f4 : vs 4 = .int .i64 (ax * bx) := hΦ 4 (by omega)
    have f5 : vs 5 = .pointer (some ⟨pa, 1, none⟩) := hΦ 5 (by omega)
    have f6 : vs 6 = .int .i64 ay := hΦ 6 (by omega)
    have f7 : vs 7 = .pointer (some ⟨pb, 1, none⟩) := hΦ 7 (by omega)
    have f8 : vs 8 = .int .i64 by_ := hΦ 8 (by omega)
    have f9 : vs 9 = .int .i64 (ay * by_) := hΦ 9 (by omega)
    have f10 : vs 10 = .int .i64 (ax * bx + ay * by_) := hΦ 10 (by omega)
    have f11 : vs 11 = .pointer (some ⟨pa, 2, none⟩) := hΦ 11 (by omega)
    have f12 : vs 12 = .int .i64 ar := hΦ 12 (by omega)
    have f13 : vs 13 = .pointer (some ⟨pb, 2, none⟩) := hΦ 13 (by omega)
    have f14 : vs 14 = .int .i64 br := hΦ 14 (by omega)
    have f15 : vs 15 = .int .i64 (ar * br) := hΦ 15 (by omega)
    have f16 : vs 16 = .int .i64 (ax * bx + ay * by_) := hΦ 16 (by omega)
    have hrg : List.range 17 = [0, 1, 2, 3, 4, 5, 6, 7, 8, 9, 10, 11, 12, 13, 14, 15, 16] := rfl
    unfold putAll putS
    simp only [List.length_cons, List.length_nil, List.take_succ_cons, List.take_zero, List.drop_succ_cons, List.drop_zero, Nat.reduceAdd, hrg, List.foldl_cons, List.foldl_nil, dstOf, List.getElem?_cons_succ, List.getElem?_cons_zero, Option.bind_some]
    clear hrg
    rw [f0, f1, f2, f3, f4, f5, f6, f7, f8, f9, f10, f11, f12, f13, f14, f15, f16]
    have HE4 := Lib.hid (HE1.out.trans hE)
    have HRA5 := Lib.hid (HRA1.out.ext hE)
    have HRB5 := Lib.hid (HRB1.out.ext hE)
    clear hΦ f0 f1 f2 f3 f4 f5 f6 f7 f8 f9 f10 f11 f12 f13 f14 f15 f16 hE
    obtain ⟨W5, rfl⟩ : ∃ W5, W5 = w2 := ⟨_, rfl⟩
    go_wp2_with fail
    refine wp_region_free_tail 23 23 (shdΦ5 ax ay ar bx by_ br Na Nb Ra Rb pa pb W5) (by kernel_rfl) (by simp) (by kernel_rfl) (by kernel_rfl) (by kernel_rfl) (by kernel_rfl) shdΦ5_mono ?hob ?hQ (fun h => absurd h (by omega))
    case hob =>
     intro i o hin ho a wa hE hF
     match i, hin with
     | 0, _ =>
      cases ho
      have h0 : a.tmps[2]?.getD undef = .pointer (some ⟨pa, 0, none⟩) := evalD (hF.old 2 (by decide))
      refine Ran.value rfl (v := .pointer (some ⟨pa, 2, none⟩)) (w1 := wa) ?_ ⟨rfl, Ext.refl _⟩
      go_simp
     | 1, _ =>
      cases ho
      have h0 : a.tmps[51]?.getD undef = .pointer (some ⟨pa, 2, none⟩) := evalD ((hF.from_ 0 51 rfl (by decide)))
      have q := (Row.ext (HRA5.out) hE).cell
      refine Ran.value rfl (v := .int .i64 ar) (w1 := wa) ?_ ⟨rfl, Ext.refl _⟩
      go_simp
     | 2, _ =>
      cases ho
      have h0 : a.tmps[52]?.getD undef = .int .i64 ar := evalD ((hF.from_ 1 52 rfl (by decide)))
      refine Ran.value rfl (v := .slice (some ⟨wa.heap.size, 0, none⟩) 1 1) (w1 := wa.alloc (.cells #[.int .i64 ar] 3)) ?_ ⟨⟨wa.heap.size, rfl, hE.size, Row.new _ _ _⟩, (Ext.refl _).alloc _⟩
      go_simp
     | 3, _ =>
      cases ho
      obtain ⟨b_h0, h0, hb_h0, hr_h0⟩ : MkAt W5 (a.eval (.tmp 53)) wa 3 1 #[.int .i64 ar] := (hF.from_ 2 53 rfl (by decide))
      replace h0 := evalD h0
      refine Ran.enter rfl (f := 93) (args := #[.slice (some ⟨b_h0, 0, none⟩) 1 1]) (w1 := wa) ?_ ?_
      ·go_simp
      ·refine (HRa.out b_h0 _ hr_h0).mono ?_
       rintro r w1 ⟨rfl, hX⟩
       exact ⟨_, rfl, rfl, hX ▸ Ext.refl _⟩
     | 4, _ =>
      cases ho
      have h0 : a.tmps[3]?.getD undef = .pointer (some ⟨pb, 0, none⟩) := evalD (hF.old 3 (by decide))
      refine Ran.value rfl (v := .pointer (some ⟨pb, 0, none⟩)) (w1 := wa) ?_ ⟨rfl, Ext.refl _⟩
      go_simp
     | 5, _ =>
      cases ho
      have h0 : a.tmps[55]?.getD undef = .pointer (some ⟨pb, 0, none⟩) := evalD ((hF.from_ 4 55 rfl (by decide)))
      have q := (Row.ext (HRB5.out) hE).cell
      refine Ran.value rfl (v := .int .i64 bx) (w1 := wa) ?_ ⟨rfl, Ext.refl _⟩
      go_simp
     | 6, _ =>
      cases ho
      have h0 : a.tmps[3]?.getD undef = .pointer (some ⟨pb, 0, none⟩) := evalD (hF.old 3 (by decide))
      refine Ran.value rfl (v := .pointer (some ⟨pb, 1, none⟩)) (w1 := wa) ?_ ⟨rfl, Ext.refl _⟩
      go_simp
     | 7, _ =>
      cases ho
      have h0 : a.tmps[57]?.getD undef = .pointer (some ⟨pb, 1, none⟩) := evalD ((hF.from_ 6 57 rfl (by decide)))
      have q := (Row.ext (HRB5.out) hE).cell
      refine Ran.value rfl (v := .int .i64 by_) (w1 := wa) ?_ ⟨rfl, Ext.refl _⟩
      go_simp
     | 8, _ =>
      cases ho
      have h0 : a.tmps[56]?.getD undef = .int .i64 bx := evalD ((hF.from_ 5 56 rfl (by decide)))
      have h1 : a.tmps[58]?.getD undef = .int .i64 by_ := evalD ((hF.from_ 7 58 rfl (by decide)))
      refine Ran.value rfl (v := .slice (some ⟨wa.heap.size, 0, none⟩) 2 2) (w1 := wa.alloc (.cells #[.int .i64 bx, .int .i64 by_] 3)) ?_ ⟨⟨wa.heap.size, rfl, hE.size, Row.new _ _ _⟩, (Ext.refl _).alloc _⟩
      go_simp
     | 9, _ =>
      cases ho
      obtain ⟨b_h0, h0, hb_h0, hr_h0⟩ : MkAt W5 (a.eval (.tmp 59)) wa 3 2 #[.int .i64 bx, .int .i64 by_] := (hF.from_ 8 59 rfl (by decide))
      replace h0 := evalD h0
      refine Ran.enter rfl (f := 93) (args := #[.slice (some ⟨b_h0, 0, none⟩) 2 2]) (w1 := wa) ?_ ?_
      ·go_simp
      ·refine (HNb.out b_h0 _ hr_h0).mono ?_
       rintro r w1 ⟨rfl, hX⟩
       exact ⟨_, rfl, rfl, hX ▸ Ext.refl _⟩
     | 10, _ =>
      cases ho
      have h0 : a.tmps[54]?.getD undef = .int .i64 Ra := evalD ((hF.from_ 3 54 rfl (by decide)))
      have h1 : a.tmps[60]?.getD undef = .int .i64 Nb := evalD ((hF.from_ 9 60 rfl (by decide)))
      refine Ran.value rfl (v := .int .i64 (Ra * Nb)) (w1 := wa) ?_ ⟨rfl, Ext.refl _⟩
      go_simp
      exact IntWalk.i64_in _ ⟨by omega, by omega⟩
     | 11, _ =>
      cases ho
      have h0 : a.tmps[3]?.getD undef = .pointer (some ⟨pb, 0, none⟩) := evalD (hF.old 3 (by decide))
      refine Ran.value rfl (v := .pointer (some ⟨pb, 2, none⟩)) (w1 := wa) ?_ ⟨rfl, Ext.refl _⟩
      go_simp
     | 12, _ =>
      cases ho
      have h0 : a.tmps[62]?.getD undef = .pointer (some ⟨pb, 2, none⟩) := evalD ((hF.from_ 11 62 rfl (by decide)))
      have q := (Row.ext (HRB5.out) hE).cell
      refine Ran.value rfl (v := .int .i64 br) (w1 := wa) ?_ ⟨rfl, Ext.refl _⟩
      go_simp
     | 13, _ =>
      cases ho
      have h0 : a.tmps[63]?.getD undef = .int .i64 br := evalD ((hF.from_ 12 63 rfl (by decide)))
      refine Ran.value rfl (v := .slice (some ⟨wa.heap.size, 0, none⟩) 1 1) (w1 := wa.alloc (.cells #[.int .i64 br] 3)) ?_ ⟨⟨wa.heap.size, rfl, hE.size, Row.new _ _ _⟩, (Ext.refl _).alloc _⟩
      go_simp
     | 14, _ =>
      cases ho
      obtain ⟨b_h0, h0, hb_h0, hr_h0⟩ : MkAt W5 (a.eval (.tmp 64)) wa 3 1 #[.int .i64 br] := (hF.from_ 13 64 rfl (by decide))
      replace h0 := evalD h0
      refine Ran.enter rfl (f := 93) (args := #[.slice (some ⟨b_h0, 0, none⟩) 1 1]) (w1 := wa) ?_ ?_
      ·go_simp
      ·refine (HRb.out b_h0 _ hr_h0).mono ?_
       rintro r w1 ⟨rfl, hX⟩
       exact ⟨_, rfl, rfl, hX ▸ Ext.refl _⟩
     | 15, _ =>
      cases ho
      have h0 : a.tmps[2]?.getD undef = .pointer (some ⟨pa, 0, none⟩) := evalD (hF.old 2 (by decide))
      refine Ran.value rfl (v := .pointer (some ⟨pa, 0, none⟩)) (w1 := wa) ?_ ⟨rfl, Ext.refl _⟩
      go_simp
     | 16, _ =>
      cases ho
      have h0 : a.tmps[66]?.getD undef = .pointer (some ⟨pa, 0, none⟩) := evalD ((hF.from_ 15 66 rfl (by decide)))
      have q := (Row.ext (HRA5.out) hE).cell
      refine Ran.value rfl (v := .int .i64 ax) (w1 := wa) ?_ ⟨rfl, Ext.refl _⟩
      go_simp
     | 17, _ =>
      cases ho
      have h0 : a.tmps[2]?.getD undef = .pointer (some ⟨pa, 0, none⟩) := evalD (hF.old 2 (by decide))
      refine Ran.value rfl (v := .pointer (some ⟨pa, 1, none⟩)) (w1 := wa) ?_ ⟨rfl, Ext.refl _⟩
      go_simp
     | 18, _ =>
      cases ho
      have h0 : a.tmps[68]?.getD undef = .pointer (some ⟨pa, 1, none⟩) := evalD ((hF.from_ 17 68 rfl (by decide)))
      have q := (Row.ext (HRA5.out) hE).cell
      refine Ran.value rfl (v := .int .i64 ay) (w1 := wa) ?_ ⟨rfl, Ext.refl _⟩
      go_simp
     | 19, _ =>
      cases ho
      have h0 : a.tmps[67]?.getD undef = .int .i64 ax := evalD ((hF.from_ 16 67 rfl (by decide)))
      have h1 : a.tmps[69]?.getD undef = .int .i64 ay := evalD ((hF.from_ 18 69 rfl (by decide)))
      refine Ran.value rfl (v := .slice (some ⟨wa.heap.size, 0, none⟩) 2 2) (w1 := wa.alloc (.cells #[.int .i64 ax, .int .i64 ay] 3)) ?_ ⟨⟨wa.heap.size, rfl, hE.size, Row.new _ _ _⟩, (Ext.refl _).alloc _⟩
      go_simp
     | 20, _ =>
      cases ho
      obtain ⟨b_h0, h0, hb_h0, hr_h0⟩ : MkAt W5 (a.eval (.tmp 70)) wa 3 2 #[.int .i64 ax, .int .i64 ay] := (hF.from_ 19 70 rfl (by decide))
      replace h0 := evalD h0
      refine Ran.enter rfl (f := 93) (args := #[.slice (some ⟨b_h0, 0, none⟩) 2 2]) (w1 := wa) ?_ ?_
      ·go_simp
      ·refine (HNa.out b_h0 _ hr_h0).mono ?_
       rintro r w1 ⟨rfl, hX⟩
       exact ⟨_, rfl, rfl, hX ▸ Ext.refl _⟩
     | 21, _ =>
      cases ho
      have h0 : a.tmps[65]?.getD undef = .int .i64 Rb := evalD ((hF.from_ 14 65 rfl (by decide)))
      have h1 : a.tmps[71]?.getD undef = .int .i64 Na := evalD ((hF.from_ 20 71 rfl (by decide)))
      refine Ran.value rfl (v := .int .i64 (Rb * Na)) (w1 := wa) ?_ ⟨rfl, Ext.refl _⟩
      go_simp
      exact IntWalk.i64_in _ ⟨by omega, by omega⟩
     | 22, _ =>
      cases ho
      have h0 : a.tmps[61]?.getD undef = .int .i64 (Ra * Nb) := evalD ((hF.from_ 10 61 rfl (by decide)))
      have h1 : a.tmps[72]?.getD undef = .int .i64 (Rb * Na) := evalD ((hF.from_ 21 72 rfl (by decide)))
      refine Ran.value rfl (v := .bool (decide (Rb * Na ≤ Ra * Nb))) (w1 := wa) ?_ ⟨rfl, Ext.refl _⟩
      go_simp
     | k + 23, hin => omega
    case hQ =>
     intro vs w2 hE hΦ
     have f0 : vs 0 = .pointer (some ⟨pa, 2, none⟩) := hΦ 0 (by omega)
     have f1 : vs 1 = .int .i64 ar := hΦ 1 (by omega)
     obtain ⟨b2, f2, hb2, hr2⟩ : MkAt W5 (vs 2) w2 3 1 #[.int .i64 ar] := hΦ 2 (by omega)
     have f3 : vs 3 = .int .i64 Ra := hΦ 3 (by omega)
     have f4 : vs 4 = .pointer (some ⟨pb, 0, none⟩) := hΦ 4 (by omega)
     have f5 : vs 5 = .int .i64 bx := hΦ 5 (by omega)
     have f6 : vs 6 = .pointer (some ⟨pb, 1, none⟩) := hΦ 6 (by omega)
     have f7 : vs 7 = .int .i64 by_ := hΦ 7 (by omega)
     obtain ⟨b8, f8, hb8, hr8⟩ : MkAt W5 (vs 8) w2 3 2 #[.int .i64 bx, .int .i64 by_] := hΦ 8 (by omega)
     have f9 : vs 9 = .int .i64 Nb := hΦ 9 (by omega)
     have f10 : vs 10 = .int .i64 (Ra * Nb) := hΦ 10 (by omega)
     have f11 : vs 11 = .pointer (some ⟨pb, 2, none⟩) := hΦ 11 (by omega)
     have f12 : vs 12 = .int .i64 br := hΦ 12 (by omega)
     obtain ⟨b13, f13, hb13, hr13⟩ : MkAt W5 (vs 13) w2 3 1 #[.int .i64 br] := hΦ 13 (by omega)
     have f14 : vs 14 = .int .i64 Rb := hΦ 14 (by omega)
     have f15 : vs 15 = .pointer (some ⟨pa, 0, none⟩) := hΦ 15 (by omega)
     have f16 : vs 16 = .int .i64 ax := hΦ 16 (by omega)
     have f17 : vs 17 = .pointer (some ⟨pa, 1, none⟩) := hΦ 17 (by omega)
     have f18 : vs 18 = .int .i64 ay := hΦ 18 (by omega)
     obtain ⟨b19, f19, hb19, hr19⟩ : MkAt W5 (vs 19) w2 3 2 #[.int .i64 ax, .int .i64 ay] := hΦ 19 (by omega)
     have f20 : vs 20 = .int .i64 Na := hΦ 20 (by omega)
     have f21 : vs 21 = .int .i64 (Rb * Na) := hΦ 21 (by omega)
     have f22 : vs 22 = .bool (decide (Rb * Na ≤ Ra * Nb)) := hΦ 22 (by omega)
     have hrg : List.range 23 = [0, 1, 2, 3, 4, 5, 6, 7, 8, 9, 10, 11, 12, 13, 14, 15, 16, 17, 18, 19, 20, 21, 22] := rfl
     unfold putAll putS
     simp only [List.length_cons, List.length_nil, List.take_succ_cons, List.take_zero, List.drop_succ_cons, List.drop_zero, Nat.reduceAdd, hrg, List.foldl_cons, List.foldl_nil, dstOf, List.getElem?_cons_succ, List.getElem?_cons_zero, Option.bind_some]
     clear hrg
     rw [f0, f1, f2, f3, f4, f5, f6, f7, f8, f9, f10, f11, f12, f13, f14, f15, f16, f17, f18, f19, f20, f21, f22]
     have HE5 := Lib.hid (HE4.out.trans hE)
     clear hΦ f0 f1 f2 f3 f4 f5 f6 f7 f8 f9 f10 f11 f12 f13 f14 f15 f16 f17 f18 f19 f20 f21 f22 hr2 hr8 hr13 hr19 hE
     obtain ⟨c1, hc1⟩ : ∃ c1, decide (Rb * Na ≤ Ra * Nb) = c1 := ⟨_, rfl⟩
     obtain ⟨dt, hdt⟩ : ∃ dt, ax * bx + ay * by_ = dt := ⟨_, rfl⟩
     obtain ⟨bo, hbo⟩ : ∃ bo, ar * br = bo := ⟨_, rfl⟩
     obtain ⟨st, hst⟩ : ∃ st, (Na - Ra) * (Nb - Rb) = st := ⟨_, rfl⟩
     have d1 : -80000 ≤ dt ∧ dt ≤ 80000 := by omega
     have d2 : -40000 ≤ bo ∧ bo ≤ 40000 := by omega
     have d3 : -14400000000 ≤ st ∧ st ≤ 14400000000 := by omega
     rw [hc1, hdt, hbo, hst] at HFIN2
     rw [hc1, hdt, hbo]
     have HM1 : Hid (∀ (b : Nat) (w : World), Row w b 3 #[.int .i64 (dt - bo)] → Calls Tryz.prog 93 #[.slice (some ⟨b, 0, none⟩) 1 1] w fun e w' => e = .returned (.int .i64 ((dt - bo) * (dt - bo))) ∧ w = w') := Lib.hid fun b w hr => e_squares1 b (dt - bo) w hr (by omega) (by omega)
     have HM2 : Hid (∀ (b : Nat) (w : World), Row w b 3 #[.int .i64 (dt + bo)] → Calls Tryz.prog 93 #[.slice (some ⟨b, 0, none⟩) 1 1] w fun e w' => e = .returned (.int .i64 ((dt + bo) * (dt + bo))) ∧ w = w') := Lib.hid fun b w hr => e_squares1 b (dt + bo) w hr (by omega) (by omega)
     obtain ⟨m1, hm1⟩ : ∃ m1, (dt - bo) * (dt - bo) = m1 := ⟨_, rfl⟩
     obtain ⟨m2, hm2⟩ : ∃ m2, (dt + bo) * (dt + bo) = m2 := ⟨_, rfl⟩
     rw [hm1] at HM1 HFIN2
     rw [hm2] at HM2 HFIN2
     clear p1 p2 p3 p4 p5 p6 hc1 hdt hbo hm1 hm2
     cases c1
     ·have HN : Hid (Ec.shades ⟨ax, ay, ar⟩ ⟨bx, by_, br⟩ = if (decide (-bo < dt) && decide (st < m2)) = true then 2 else 1) := Lib.hid (HFIN2.out.trans (if_neg (by simp)))
      have HEX := Lib.hid HE5.out
      clear HFIN2
      by_cases g1 : -bo < dt
      ·by_cases g2 : st < m2
       ·have HV : Hid (Ec.shades ⟨ax, ay, ar⟩ ⟨bx, by_, br⟩ = 2) := Lib.hid (by rw [HN.out, if_pos (by simp [g1, g2])])
        go_wp2_with fail
        refine (HM2.out _ _ (Row.new _ _ _)).mono ?_
        rintro e w7 ⟨rfl, rfl⟩
        go_wp2_with fail
        go_ret
        exact ⟨by rw [HV.out] <;> rfl, HEX.out.alloc _⟩
       ·have HV : Hid (Ec.shades ⟨ax, ay, ar⟩ ⟨bx, by_, br⟩ = 1) := Lib.hid (by rw [HN.out, if_neg (by simp [g2])])
        go_wp2_with fail
        refine (HM2.out _ _ (Row.new _ _ _)).mono ?_
        rintro e w7 ⟨rfl, rfl⟩
        go_wp2_with fail
        go_ret
        exact ⟨by rw [HV.out] <;> rfl, HEX.out.alloc _⟩
      ·have HV : Hid (Ec.shades ⟨ax, ay, ar⟩ ⟨bx, by_, br⟩ = 1) := Lib.hid (by rw [HN.out, if_neg (by simp [g1])])
       go_wp2_with fail
       go_ret
       exact ⟨by rw [HV.out] <;> rfl, HEX.out⟩
     ·by_cases hb : bo ≤ dt
      ·by_cases hm : st ≤ m1
       ·have HV : Hid (Ec.shades ⟨ax, ay, ar⟩ ⟨bx, by_, br⟩ = 3) := Lib.hid (by rw [HFIN2.out, if_pos (by simp [hb, hm])])
        go_wp2_with fail
        refine (HM1.out _ _ (Row.new _ _ _)).mono ?_
        rintro e w7 ⟨rfl, rfl⟩
        go_wp2_with fail
        go_ret
        exact ⟨by rw [HV.out] <;> rfl, HE5.out.alloc _⟩
       ·have HN : Hid (Ec.shades ⟨ax, ay, ar⟩ ⟨bx, by_, br⟩ = if (decide (-bo < dt) && decide (st < m2)) = true then 2 else 1) := Lib.hid (HFIN2.out.trans (if_neg (by simp [hm])))
        clear HFIN2
        have HEX := Lib.hid (HE5.out.alloc (.cells #[.int .i64 (dt - bo)] 3))
        go_wp2_with fail
        refine (HM1.out _ _ (Row.new _ _ _)).mono ?_
        rintro e w7 ⟨rfl, rfl⟩
        obtain ⟨W6, hW6⟩ : ∃ W6, w2.alloc (.cells #[.int .i64 (dt - bo)] 3) = W6 := ⟨_, rfl⟩
        rw [hW6] at HEX ⊢
        clear hW6
        by_cases g1 : -bo < dt
        ·by_cases g2 : st < m2
         ·have HV : Hid (Ec.shades ⟨ax, ay, ar⟩ ⟨bx, by_, br⟩ = 2) := Lib.hid (by rw [HN.out, if_pos (by simp [g1, g2])])
          go_wp2_with fail
          refine (HM2.out _ _ (Row.new _ _ _)).mono ?_
          rintro e w7 ⟨rfl, rfl⟩
          go_wp2_with fail
          go_ret
          exact ⟨by rw [HV.out] <;> rfl, HEX.out.alloc _⟩
         ·have HV : Hid (Ec.shades ⟨ax, ay, ar⟩ ⟨bx, by_, br⟩ = 1) := Lib.hid (by rw [HN.out, if_neg (by simp [g2])])
          go_wp2_with fail
          refine (HM2.out _ _ (Row.new _ _ _)).mono ?_
          rintro e w7 ⟨rfl, rfl⟩
          go_wp2_with fail
          go_ret
          exact ⟨by rw [HV.out] <;> rfl, HEX.out.alloc _⟩
        ·have HV : Hid (Ec.shades ⟨ax, ay, ar⟩ ⟨bx, by_, br⟩ = 1) := Lib.hid (by rw [HN.out, if_neg (by simp [g1])])
         go_wp2_with fail
         go_ret
         exact ⟨by rw [HV.out] <;> rfl, HEX.out⟩
      ·have HN : Hid (Ec.shades ⟨ax, ay, ar⟩ ⟨bx, by_, br⟩ = if (decide (-bo < dt) && decide (st < m2)) = true then 2 else 1) := Lib.hid (HFIN2.out.trans (if_neg (by simp [hb])))
       clear HFIN2
       have HEX := Lib.hid HE5.out
       by_cases g1 : -bo < dt
       ·by_cases g2 : st < m2
        ·have HV : Hid (Ec.shades ⟨ax, ay, ar⟩ ⟨bx, by_, br⟩ = 2) := Lib.hid (by rw [HN.out, if_pos (by simp [g1, g2])])
         go_wp2_with fail
         refine (HM2.out _ _ (Row.new _ _ _)).mono ?_
         rintro e w7 ⟨rfl, rfl⟩
         go_wp2_with fail
         go_ret
         exact ⟨by rw [HV.out] <;> rfl, HEX.out.alloc _⟩
        ·have HV : Hid (Ec.shades ⟨ax, ay, ar⟩ ⟨bx, by_, br⟩ = 1) := Lib.hid (by rw [HN.out, if_neg (by simp [g2])])
         go_wp2_with fail
         refine (HM2.out _ _ (Row.new _ _ _)).mono ?_
         rintro e w7 ⟨rfl, rfl⟩
         go_wp2_with fail
         go_ret
         exact ⟨by rw [HV.out] <;> rfl, HEX.out.alloc _⟩
       ·have HV : Hid (Ec.shades ⟨ax, ay, ar⟩ ⟨bx, by_, br⟩ = 1) := Lib.hid (by rw [HN.out, if_neg (by simp [g1])])
        go_wp2_with fail
        go_ret
        exact ⟨by rw [HV.out] <;> rfl, HEX.out⟩
end Go.Proofs.YtfkcbgehcbhjnaaGreatDoor
