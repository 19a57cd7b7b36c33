/- Pace: Plain laws of the ways of bodies: errors are within 600 minutes, ways never go back, and go on by less than half a circle a day.
LeftSpec: Plain laws of days to look at a body: how many speeds come to a place; windows around the circle as differences of sums.
TextSpec: Plain laws of tables: lines of words and numbers, what is between single bytes, the check, numerals. -/
import Derived.Lib.ItoaNum
import Derived.Lib.Join
import Derived.Lib.SplitLaws
import Derived.Test.YtlcddcnmoajpjaaGreatDoorV01
namespace Go.Proofs.YtlcddcnmoajpjaaGreatDoor
open Sp (rd)

theorem part_in (d t : Int) (h1 : -1200 ≤ d) (h2 : d ≤ 1200) (h3 : 0 ≤ t) (h4 : t ≤ 21600) : (0 ≤ d → 0 ≤ d * t / 21600 ∧ d * t / 21600 ≤ d) ∧ (d ≤ 0 → d ≤ d * t / 21600 ∧ d * t / 21600 ≤ 0) := by
  constructor
  · intro h
    have k1 : 0 ≤ d * t := Int.mul_nonneg h h3
    have k2 : d * t ≤ d * 21600 := Int.mul_le_mul_of_nonneg_left h4 h
    generalize d * t = p at *
    omega
  · intro h
    have k1 : d * t ≤ 0 := Int.mul_nonpos_of_nonpos_of_nonneg h h3
    have k2 : d * 21600 ≤ d * t := Int.mul_le_mul_of_nonpos_left h h4
    generalize d * t = p at *
    omega

theorem errOf_in {l : List Int} (h : Sp.roadOk l = true) (x : Int) : -600 ≤ Sp.errOf l x ∧ Sp.errOf l x ≤ 600 := by
  unfold Sp.errOf
  dsimp only
  have a := rd_bounds h (x * l.length / 21600).toNat
  have b := rd_bounds h (((x * l.length / 21600).toNat + 1) % l.length)
  generalize rd l (x * l.length / 21600).toNat = p at *
  generalize rd l (((x * l.length / 21600).toNat + 1) % l.length) = q at *
  have m := emod_bounds (x * l.length) 21600 (by omega)
  generalize x * l.length % 21600 = r at *
  obtain ⟨k1, k2⟩ := part_in (q - p) r (by omega) (by omega) (by omega) (by omega)
  generalize (q - p) * r / 21600 = z at *
  rcases Int.le_total 0 (q - p) with h0 | h0
  · have := k1 h0; omega
  · have := k2 h0; omega

/-- What errOf computes, by the step and what is left. -/
theorem errOf_at (l : List Int) (x : Int) (i : Nat) (r : Int) (h : x * (l.length : Int) = 21600 * (i : Int) + r) (h1 : 0 ≤ r) (h2 : r < 21600) :
    Sp.errOf l x = rd l i + (rd l ((i + 1) % l.length) - rd l i) * r / 21600 := by
  unfold Sp.errOf
  dsimp only
  have e1 : (x * (l.length : Int) / 21600).toNat = i := by omega
  have e2 : x * (l.length : Int) % 21600 = r := by omega
  rw [e1, e2]

theorem small_mul (d t : Int) (h1 : -1200 ≤ d) (h2 : d ≤ 1200) (h3 : 0 ≤ t) (h4 : t ≤ 8) : -9600 ≤ d * t ∧ d * t ≤ 9600 := by
  have := mul_bounds (a := d) (b := t) (A := 1200) (B := 8) h1 h2 h3 h4
  omega

theorem errOf_step {l : List Int} (h : Sp.roadOk l = true) (n1 : 1 ≤ l.length) (n8 : l.length ≤ 8) (x : Int) (h0 : 0 ≤ x) (h1 : x + 1 < 21600) :
    -1 ≤ Sp.errOf l (x + 1) - Sp.errOf l x ∧ Sp.errOf l (x + 1) - Sp.errOf l x ≤ 1 := by
  have q0 : 0 ≤ x * (l.length : Int) := Int.mul_nonneg h0 (by omega)
  obtain ⟨i, hi⟩ : ∃ i : Nat, x * (l.length : Int) / 21600 = i := ⟨(x * (l.length : Int) / 21600).toNat, by omega⟩
  have hx : x * (l.length : Int) = 21600 * (i : Int) + x * (l.length : Int) % 21600 := by omega
  have hr := emod_bounds (x * (l.length : Int)) 21600 (by omega)
  obtain ⟨r, er⟩ : ∃ r, x * (l.length : Int) % 21600 = r := ⟨_, rfl⟩
  rw [er] at hx hr
  have hx' : (x + 1) * (l.length : Int) = 21600 * (i : Int) + r + (l.length : Int) := by rw [Int.add_mul, hx]; omega
  have hlt : (x + 1) * (l.length : Int) ≤ 21599 * (l.length : Int) := Int.mul_le_mul_of_nonneg_right (by omega) (by omega)
  have b0 := rd_bounds h i
  have b1 := rd_bounds h ((i + 1) % l.length)
  rw [errOf_at l x i r hx hr.1 hr.2]
  by_cases hc : r + (l.length : Int) < 21600
  · rw [errOf_at l (x + 1) i (r + l.length) (by rw [hx']; omega) (by omega) hc]
    generalize rd l i = p at *
    generalize rd l ((i + 1) % l.length) = q at *
    have s := small_mul (q - p) (l.length : Int) (by omega) (by omega) (by omega) (by omega)
    rw [Int.mul_add]
    generalize (q - p) * (l.length : Int) = y at *
    generalize (q - p) * r = z at *
    omega
  · have hi1 : i + 1 < l.length := by omega
    have e1 : (i + 1) % l.length = i + 1 := Nat.mod_eq_of_lt hi1
    have b2 := rd_bounds h ((i + 1 + 1) % l.length)
    rw [errOf_at l (x + 1) (i + 1) (r + l.length - 21600) (by rw [hx']; omega) (by omega) (by omega)]
    rw [e1] at b1 ⊢
    generalize rd l i = p at *
    generalize rd l (i + 1) = q at *
    generalize rd l ((i + 1 + 1) % l.length) = t at *
    have s := small_mul (q - p) (21600 - r) (by omega) (by omega) (by omega) (by omega)
    have s' := small_mul (t - q) (r + (l.length : Int) - 21600) (by omega) (by omega) (by omega) (by omega)
    have e2 : (q - p) * r = (q - p) * 21600 - (q - p) * (21600 - r) := by rw [Int.mul_sub]; omega
    rw [e2]
    generalize (q - p) * (21600 - r) = y at *
    generalize (t - q) * (r + (l.length : Int) - 21600) = z at *
    omega

theorem errOf_wrap {l : List Int} (h : Sp.roadOk l = true) (n1 : 1 ≤ l.length) (n8 : l.length ≤ 8) :
    0 ≤ Sp.errOf l 0 - Sp.errOf l 21599 ∧ Sp.errOf l 0 - Sp.errOf l 21599 ≤ 1 := by
  rw [errOf_at l 0 0 0 (by simp) (by omega) (by omega)]
  rw [errOf_at l 21599 (l.length - 1) (21600 - l.length) (by omega) (by omega) (by omega)]
  have e : (l.length - 1 + 1) % l.length = 0 := by rw [show l.length - 1 + 1 = l.length by omega, Nat.mod_self]
  rw [e]
  have b0 := rd_bounds h 0
  have b1 := rd_bounds h (l.length - 1)
  generalize rd l 0 = p at *
  generalize rd l (l.length - 1) = q at *
  have s := small_mul (p - q) (l.length : Int) (by omega) (by omega) (by omega) (by omega)
  rw [Int.mul_zero, Int.mul_sub]
  generalize (p - q) * (l.length : Int) = y at *
  omega

/-- A way, by the mean way. -/
def wayAt (l : List Int) (m : Int) : Int := m + Sp.errOf l (m % 21600)
theorem way_eq (b : Sp.Body) (day : Int) : Sp.way b day = wayAt b.road (Sp.mean b day) := rfl

theorem wayAt_step {l : List Int} (h : Sp.roadOk l = true) (n1 : 1 ≤ l.length) (n8 : l.length ≤ 8) (m : Int) : wayAt l m ≤ wayAt l (m + 1) := by
  unfold wayAt
  by_cases hm : m % 21600 = 21599
  · have e : (m + 1) % 21600 = 0 := by omega
    have := errOf_wrap h n1 n8
    rw [hm, e]
    omega
  · have e : (m + 1) % 21600 = m % 21600 + 1 := by omega
    have := errOf_step h n1 n8 (m % 21600) (by omega) (by omega)
    rw [e]
    omega
theorem wayAt_mono {l : List Int} (h : Sp.roadOk l = true) (n1 : 1 ≤ l.length) (n8 : l.length ≤ 8) (m : Int) (k : Nat) : wayAt l m ≤ wayAt l (m + k) := by
  induction k with
  | zero => simp
  | succ k ih =>
    have := wayAt_step h n1 n8 (m + k)
    rw [show m + ((k + 1 : Nat) : Int) = m + (k : Int) + 1 by omega]
    omega

theorem gone_step (num den day : Int) (h3 : 1 ≤ num) (h5 : 1 ≤ den) (h6 : 4 * den ≤ num) : 0 ≤ Sp.gone num den (day + 1) - Sp.gone num den day ∧ Sp.gone num den (day + 1) - Sp.gone num den day ≤ 5400 := by
  unfold Sp.gone
  have e : (day + 1) * 21600 * den = day * 21600 * den + 21600 * den := by rw [Int.add_mul, Int.add_mul]; omega
  have k1 : day * 21600 * den / num ≤ (day + 1) * 21600 * den / num := Int.ediv_le_ediv (by omega) (by rw [e]; omega)
  have k2 : (day + 1) * 21600 * den / num ≤ (day * 21600 * den + 5400 * num) / num := Int.ediv_le_ediv (by omega) (by rw [e]; omega)
  rw [Int.add_mul_ediv_right _ _ (by omega)] at k2
  omega

theorem way_pace {b : Sp.Body} (h : BodyOk b) (day : Int) : 0 ≤ Sp.way b (day + 1) - Sp.way b day ∧ Sp.way b (day + 1) - Sp.way b day ≤ 6600 := by
  have g := gone_step b.num b.den day h.num1 h.den1 h.four
  have e1 := errOf_in h.road (Sp.mean b day % 21600)
  have e2 := errOf_in h.road (Sp.mean b (day + 1) % 21600)
  have em : Sp.mean b (day + 1) - Sp.mean b day = Sp.gone b.num b.den (day + 1) - Sp.gone b.num b.den day := by unfold Sp.mean; omega
  constructor
  · have := wayAt_mono h.road h.len1 h.len2 (Sp.mean b day) (Sp.mean b (day + 1) - Sp.mean b day).toNat
    rw [show Sp.mean b day + ((Sp.mean b (day + 1) - Sp.mean b day).toNat : Int) = Sp.mean b (day + 1) by omega] at this
    rw [way_eq, way_eq]
    omega
  · unfold Sp.way
    omega

/-- By how much a body's lead grows in a day. -/
theorem ahead_pace {s : Sp.Sky} {one other : Int} (h1 : BodyOk (Sp.body s one)) (h2 : BodyOk (Sp.body s other)) (day : Int) :
    -6600 ≤ Sp.ahead s one other (day + 1) - Sp.ahead s one other day ∧ Sp.ahead s one other (day + 1) - Sp.ahead s one other day ≤ 6600 := by
  have a := way_pace h1 day
  have b := way_pace h2 day
  unfold Sp.ahead
  omega

/-- What the law's 'crossed' reckons, of what it is between two bodies on two days. -/
def crossN (a b half : Int) : Bool :=
  let x := (a - half) % 21600
  let by_ := (b - half - x + 10800) % 21600 - 10800
  decide (0 < by_) && decide (21600 ≤ x + by_)
theorem cross_passes (A B half : Int) (h1 : -10800 < B - A) (h2 : B - A < 10800) (hh : half = 0 ∨ half = 10800) :
    crossN (A % 21600) (B % 21600) half = Sp.passes (A - half) (B - half) := by
  unfold crossN Sp.passes
  rw [Bool.eq_iff_iff]
  simp only [Bool.and_eq_true, decide_eq_true_eq]
  rcases hh with rfl | rfl <;> constructor <;> intro h <;> omega
end Go.Proofs.YtlcddcnmoajpjaaGreatDoor

namespace Go.Proofs.YtlcddcnmoajpjaaGreatDoor

/-- How many of some speeds come to a place on a day. -/
def cntP (start : Int) (l : List Int) (day p : Int) : Nat := (l.filter fun v => decide (Sp.at_ start v day = p)).length
/-- Those at the first n places, around the circle. -/
def befN (start : Int) (l : List Int) (day : Int) : Nat → Nat
  | 0 => 0
  | n + 1 => befN start l day n + cntP start l day ((n % 21600 : Nat) : Int)
/-- Those in a window. -/
def winN (start : Int) (l : List Int) (day : Int) (n : Nat) : Nat → Nat
  | 0 => 0
  | k + 1 => winN start l day n k + cntP start l day (((n + k) % 21600 : Nat) : Int)

theorem befN_win (start : Int) (l : List Int) (day : Int) (n k : Nat) : befN start l day (n + k) = befN start l day n + winN start l day n k := by
  induction k with
  | zero => rfl
  | succ k ih =>
    show befN start l day (n + k + 1) = _
    rw [befN, ih, winN]
    omega

theorem at_bounds (start v day : Int) : 0 ≤ Sp.at_ start v day ∧ Sp.at_ start v day < 21600 := by
  unfold Sp.at_
  omega

theorem filter_or_length {α : Type} (l : List α) (p q r : α → Bool) (h : ∀ x, r x = (p x || q x)) (hd : ∀ x, ¬ (p x = true ∧ q x = true)) : (l.filter r).length = (l.filter p).length + (l.filter q).length := by
  induction l with
  | nil => rfl
  | cons x l ih =>
    have := hd x
    rw [List.filter_cons, List.filter_cons, List.filter_cons, h x]
    cases hp : p x <;> cases hq : q x <;> simp_all <;> omega

theorem win_hits (start : Int) (l : List Int) (day : Int) (n k : Nat) (hk : k ≤ 21600) : winN start l day n k = Sp.hits start l day k n := by
  induction k with
  | zero =>
    unfold winN Sp.hits
    symm
    rw [List.length_eq_zero_iff, List.filter_eq_nil_iff]
    intro v _
    have := Int.emod_nonneg (Sp.at_ start v day - n) (show (21600 : Int) ≠ 0 by omega)
    simp
    omega
  | succ k ih =>
    rw [winN, ih (by omega)]
    unfold Sp.hits cntP
    symm
    refine filter_or_length l _ _ _ (fun v => ?_) (fun v => ?_)
    · have a := at_bounds start v day
      rw [Bool.eq_iff_iff]
      simp only [Bool.or_eq_true, decide_eq_true_eq]
      omega
    · have a := at_bounds start v day
      simp only [decide_eq_true_eq]
      omega

/-- The most in a window, among the first windows. -/
theorem max_hits_le (f : Nat → Nat) (n k : Nat) (h : k < n) : f k ≤ Sp.maxN f n := by
  induction n with
  | zero => omega
  | succ n ih =>
    unfold Sp.maxN
    rcases Nat.lt_or_ge k n with h' | h'
    · have := ih h'; omega
    · obtain rfl : k = n := by omega
      omega
theorem maxN_le (f : Nat → Nat) (n b : Nat) (h : ∀ k, k < n → f k ≤ b) : Sp.maxN f n ≤ b := by
  induction n with
  | zero => simp [Sp.maxN]
  | succ n ih =>
    unfold Sp.maxN
    have := ih (fun k hk => h k (by omega))
    have := h n (by omega)
    omega
theorem maxN_congr (f g : Nat → Nat) (n : Nat) (h : ∀ k, k < n → f k = g k) : Sp.maxN f n = Sp.maxN g n := by
  induction n with
  | zero => rfl
  | succ n ih =>
    unfold Sp.maxN
    rw [ih (fun k hk => h k (by omega)), h n (by omega)]

theorem hits_le (start : Int) (l : List Int) (day wide p : Int) : Sp.hits start l day wide p ≤ l.length := List.length_filter_le _ _
theorem hits_all (start : Int) (l : List Int) (day wide p : Int) (h : 21600 ≤ wide) : Sp.hits start l day wide p = l.length := by
  unfold Sp.hits
  rw [List.filter_eq_self.2]
  intro v _
  have := Int.emod_lt_of_pos (Sp.at_ start v day - p) (show (0 : Int) < 21600 by omega)
  simp
  omega
theorem left_le (start : Int) (l : List Int) (day off : Int) : Sp.left start l day off ≤ l.length := maxN_le _ _ _ fun _ _ => hits_le _ _ _ _ _
theorem left_all (start : Int) (l : List Int) (day off : Int) (h : 21600 ≤ 2 * off + 1) : Sp.left start l day off = l.length := by
  apply Nat.le_antisymm (left_le _ _ _ _)
  have := max_hits_le (fun p => Sp.hits start l day (2 * off + 1) (p : Nat)) 21600 0 (by omega)
  rw [hits_all _ _ _ _ _ h] at this
  exact this

/-- What the program reckons. -/
def wideOf (off : Int) : Nat := (min (2 * off + 1) 21600).toNat
def mostN (start : Int) (l : List Int) (day : Int) (wide : Nat) : Nat → Nat := Sp.maxN fun n => befN start l day (n + wide) - befN start l day n
theorem mostN_left (start : Int) (l : List Int) (day off : Int) (h : 0 ≤ off) : mostN start l day (wideOf off) 21600 = Sp.left start l day off := by
  unfold mostN Sp.left
  refine maxN_congr _ _ _ fun n _ => ?_
  have hw : wideOf off ≤ 21600 := by unfold wideOf; omega
  rw [befN_win, win_hits _ _ _ _ _ hw]
  rcases Int.lt_or_le (2 * off + 1) 21600 with h1 | h1
  · have e : ((wideOf off : Nat) : Int) = 2 * off + 1 := by unfold wideOf; omega
    rw [e]; omega
  · have e : ((wideOf off : Nat) : Int) = 21600 := by unfold wideOf; omega
    rw [e, hits_all _ _ _ _ _ (by omega), hits_all _ _ _ _ _ h1]; omega

theorem befN_le (start : Int) (l : List Int) (day : Int) (n : Nat) : befN start l day n ≤ n * l.length := by
  induction n with
  | zero => simp [befN]
  | succ n ih =>
    rw [befN, Nat.succ_mul]
    have : cntP start l day ((n % 21600 : Nat) : Int) ≤ l.length := List.length_filter_le _ _
    omega
theorem befN_mono (start : Int) (l : List Int) (day : Int) (n k : Nat) : befN start l day n ≤ befN start l day (n + k) := by
  rw [befN_win]; omega
theorem cntP_snoc (start : Int) (l : List Int) (v day p : Int) : cntP start (l ++ [v]) day p = cntP start l day p + if Sp.at_ start v day = p then 1 else 0 := by
  unfold cntP
  rw [List.filter_append, List.length_append]
  by_cases h : Sp.at_ start v day = p <;> simp [h]
theorem cntP_le (start : Int) (l : List Int) (day p : Int) : cntP start l day p ≤ l.length := List.length_filter_le _ _
end Go.Proofs.YtlcddcnmoajpjaaGreatDoor

namespace Go.Proofs.YtlcddcnmoajpjaaGreatDoor

abbrev Bs := List UInt8

/-- The parts of a list between single bytes. -/
def sp1 (c : UInt8) : Bs → List Bs
  | [] => [[]]
  | b :: l => if b = c then [] :: sp1 c l else (b :: (sp1 c l).headD []) :: (sp1 c l).tail

theorem sp1_ne (c : UInt8) (l : Bs) : sp1 c l ≠ [] := by
  cases l with
  | nil => simp [sp1]
  | cons b l => unfold sp1; split <;> simp
theorem sp1_cons_ne (c b : UInt8) (l : Bs) (h : b ≠ c) : sp1 c (b :: l) = (b :: (sp1 c l).headD []) :: (sp1 c l).tail := by
  rw [sp1, if_neg h]
theorem sp1_app (c : UInt8) (x l : Bs) (h : c ∉ x) : sp1 c (x ++ l) = (x ++ (sp1 c l).headD []) :: (sp1 c l).tail := by
  induction x with
  | nil =>
    simp only [List.nil_append]
    have := sp1_ne c l
    cases hs : sp1 c l with
    | nil => exact absurd hs this
    | cons a t => rfl
  | cons b x ih =>
    have hb : b ≠ c := fun e => h (by simp [e])
    have hx : c ∉ x := fun e => h (by simp [e])
    rw [List.cons_append, sp1_cons_ne c b _ hb, ih hx]
    rfl
theorem sp1_self (c : UInt8) (x : Bs) (h : c ∉ x) : sp1 c x = [x] := by
  have := sp1_app c x [] h
  simpa [sp1] using this
theorem sp1_step (c : UInt8) (x l : Bs) (h : c ∉ x) : sp1 c (x ++ c :: l) = x :: sp1 c l := by
  rw [sp1_app c x _ h]
  simp [sp1]
theorem sp1_tail (c : UInt8) (r : List Bs) (h : ∀ x ∈ r, c ∉ x) (x : Bs) (hx : c ∉ x) : sp1 c (x ++ Lib.joinTail [c] r) = x :: r := by
  induction r generalizing x with
  | nil => simpa [Lib.joinTail] using sp1_self c x hx
  | cons y r ih =>
    have e : x ++ Lib.joinTail [c] (y :: r) = x ++ c :: (y ++ Lib.joinTail [c] r) := by simp [Lib.joinTail]
    rw [e, sp1_step c x _ hx, ih (fun z hz => h z (by simp [hz])) y (h y (by simp))]
theorem sp1_join (c : UInt8) (xs : List Bs) (h0 : xs ≠ []) (h : ∀ x ∈ xs, c ∉ x) : sp1 c (Lib.join xs [c]) = xs := by
  cases xs with
  | nil => exact absurd rfl h0
  | cons x r => rw [Lib.join_cons]; exact sp1_tail c r (fun z hz => h z (by simp [hz])) x (h x (by simp))
theorem join_sp1 (c : UInt8) (l : Bs) : Lib.join (sp1 c l) [c] = l := by
  induction l with
  | nil => simp [sp1, Lib.join_one]
  | cons b l ih =>
    unfold sp1
    have hne := sp1_ne c l
    cases hs : sp1 c l with
    | nil => exact absurd hs hne
    | cons a t =>
      rw [hs, Lib.join_cons] at ih
      split
      · rename_i h
        rw [Lib.join_cons]
        subst h
        simp only [Lib.joinTail, List.map_cons, List.flatten_cons, List.nil_append] at ih ⊢
        rw [← ih]
        simp
      · rw [Lib.join_cons]
        simp only [List.headD_cons, List.tail_cons, List.cons_append]
        rw [ih]
theorem sp1_no (c : UInt8) (l : Bs) : ∀ x ∈ sp1 c l, c ∉ x := by
  induction l with
  | nil => simp [sp1]
  | cons b l ih =>
    unfold sp1
    have hne := sp1_ne c l
    cases hs : sp1 c l with
    | nil => exact absurd hs hne
    | cons a t =>
      rw [hs] at ih
      split
      · intro x hx
        rcases List.mem_cons.1 hx with rfl | hx
        · simp
        · exact ih x hx
      · rename_i h
        intro x hx
        rcases List.mem_cons.1 hx with rfl | hx
        · simp only [List.headD_cons, List.mem_cons, not_or]
          exact ⟨fun e => h e.symm, ih a (by simp)⟩
        · exact ih x (by simp at hx ⊢; exact .inr hx)
theorem sp1_length (c : UInt8) (l : Bs) : (sp1 c l).length = l.count c + 1 := by
  induction l with
  | nil => rfl
  | cons b l ih =>
    unfold sp1
    split
    · rename_i h; subst h; simp [ih]
    · rename_i h
      have hne := sp1_ne c l
      cases hs : sp1 c l with
      | nil => exact absurd hs hne
      | cons a t =>
        rw [hs] at ih
        rw [List.count_cons_of_ne (by simpa using h)]
        simpa using ih

theorem index_cons_ne (b c : UInt8) (l : Bs) (h : b ≠ c) : Lib.index (b :: l) [c] = if Lib.index l [c] == -1 then -1 else Lib.index l [c] + 1 := by
  have hp : ([c] : Bs).isPrefixOf (b :: l) = false := by simp [List.isPrefixOf, Ne.symm h]
  rw [Lib.index, hp]; simp
theorem index_cons_eq (c : UInt8) (l : Bs) : Lib.index (c :: l) [c] = 0 := by rw [Lib.index]; simp [List.isPrefixOf]

/-- The library's cut at all instances of one byte. -/
theorem splitK_sp1 (c : UInt8) (l : Bs) : Lib.splitK [c] 0 (Lib.count l [c]) l = sp1 c l := by
  induction l with
  | nil => rw [Lib.count_miss (by simp [Lib.index])]; rfl
  | cons b l ih =>
    by_cases h : b = c
    · subst h
      rw [Lib.count_cons_eq, Nat.add_comm, Lib.splitK, index_cons_eq]
      rw [sp1, if_pos rfl, ← ih]
      simp
    · rw [Lib.count_cons_ne b c l h, sp1_cons_ne c b l h, ← ih]
      cases hc : Lib.count l [c] with
      | zero => rfl
      | succ k =>
        rw [Lib.splitK, Lib.splitK, index_cons_ne b c l h]
        have hge := Lib.index_ge l [c]
        by_cases hm : Lib.index l [c] = -1
        · rw [hm]; rfl
        · have e1 : (Lib.index l [c] == -1) = false := by simpa using hm
          have e2 : (Lib.index l [c] + 1 == -1) = false := by rw [beq_eq_false_iff_ne]; omega
          simp only [e1, Bool.false_eq_true, if_false, e2]
          have e3 : (Lib.index l [c] + 1).toNat = (Lib.index l [c]).toNat + 1 := by omega
          rw [e3]
          simp [Nat.add_assoc]

/-! ### Lines -/

/-- A line of a word and numbers. -/
def lineL (name : Bs) (l : List Int) : Bs := name ++ (l.map fun n => 32 :: Lib.itoa n).flatten
theorem lineL_snoc (name : Bs) (l : List Int) (n : Int) : lineL name (l ++ [n]) = lineL name l ++ [32] ++ Lib.itoa n := by
  simp [lineL]

def wSky : Bs := [115, 107, 121]
def wBody : Bs := [98, 111, 100, 121]
def wNode : Bs := [110, 111, 100, 101]
def bodyNums (b : Sp.Body) : List Int := [b.num, b.den, b.start] ++ b.road
def bodyLine (b : Sp.Body) : Bs := lineL wBody (bodyNums b)
/-- The lines of a table, without the last one. -/
def tabLines (s : Sp.Sky) : List Bs := lineL wSky [(s.bodies.length : Int)] :: (s.bodies.map bodyLine ++ [lineL wNode [s.nnum, s.nden, s.nstart]])

/-- One line's part of the check. -/
def sumN (x : Bs) (i : Nat) : Nat → Nat
  | 0 => 0
  | k + 1 => sumN x i k + (x.getD k 0).toNat * (k + 1) * (i + 1)
def checkN (lines : List Bs) : Nat → Nat
  | 0 => 0
  | i + 1 => checkN lines i + sumN (lines.getD i []) i (lines.getD i []).length
def checkL (lines : List Bs) : Nat := checkN lines lines.length % 137

theorem sumN_le (x : Bs) (i k B : Nat) (h : k ≤ B) : sumN x i k ≤ k * (255 * B * (i + 1)) := by
  induction k with
  | zero => simp [sumN]
  | succ k ih =>
    rw [sumN, Nat.succ_mul]
    have := ih (by omega)
    have h1 : (x.getD k 0).toNat ≤ 255 := by have := (x.getD k 0).toNat_lt; omega
    have h2 : (x.getD k 0).toNat * (k + 1) * (i + 1) ≤ 255 * B * (i + 1) := Nat.mul_le_mul (Nat.mul_le_mul h1 (by omega)) (Nat.le_refl _)
    omega
theorem sumN_mono (x : Bs) (i k n : Nat) (h : k ≤ n) : sumN x i k ≤ sumN x i n := by
  induction n with
  | zero => obtain rfl : k = 0 := by omega
            exact Nat.le_refl _
  | succ n ih =>
    rcases Nat.lt_or_ge k (n + 1) with h' | h'
    · have := ih (by omega); rw [sumN]; omega
    · obtain rfl : k = n + 1 := by omega
      exact Nat.le_refl _

/-- The last line. -/
def endL (c : Nat) : Bs := [101, 110, 100, 32] ++ Lib.itoa ((c / 100 : Nat) : Int) ++ Lib.itoa ((c / 10 % 10 : Nat) : Int) ++ Lib.itoa ((c % 10 : Nat) : Int)
/-- The table of a sky. -/
def textL (s : Sp.Sky) : Bs := Lib.join (tabLines s) [10] ++ [10] ++ endL (checkL (tabLines s)) ++ [10]

/-! ### Numerals -/

def isDig (c : UInt8) : Bool := decide (48 ≤ c.toNat) && decide (c.toNat ≤ 57)
/-- The number that digits say. -/
def digN (l : Bs) : Nat → Nat
  | 0 => 0
  | k + 1 => 10 * digN l k + ((l.getD k 0).toNat - 48)
def digV (l : Bs) : Nat := digN l l.length
/-- The digits of a word, the number that it says, and whether it says one. -/
def numDig (w : Bs) : Bs := Lib.trimPrefix w [45]
def numVal (w : Bs) : Int := if (numDig w).length < w.length then -(digV (numDig w) : Int) else digV (numDig w)
def numFine (w : Bs) : Bool := (numDig w).all isDig && decide ((numDig w).length ≤ 5) && !(numDig w).isEmpty && (Lib.itoa (numVal w) == w)
def numP (w : Bs) : Option Int := if numFine w = true then some (numVal w) else none

end Go.Proofs.YtlcddcnmoajpjaaGreatDoor
