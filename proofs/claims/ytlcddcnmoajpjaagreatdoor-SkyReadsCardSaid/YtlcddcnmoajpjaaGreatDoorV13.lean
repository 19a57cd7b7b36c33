/- MoonLaws: Plain laws of moons, eclipses and meetings: which days are listed, in which order.
SpeedLaws: Plain laws of speeds that agree with notes, of days to look at a body, and of drifts. -/
import Derived.Test.YtlcddcnmoajpjaaGreatDoorV12
import Derived.Test.YtlcddcnmoajpjaaGreatDoorV01
namespace Go.Proofs.YtlcddcnmoajpjaaGreatDoor
open Sp (rd)

theorem dayMoons_mem (s : Sp.Sky) (d : Int) (x : Int × Bool) : x ∈ Sp.dayMoons s d ↔ x.1 = d ∧ Sp.moonB s d x.2 = true := by
  obtain ⟨e, f⟩ := x
  unfold Sp.dayMoons
  rw [List.mem_append]
  cases f <;> cases h1 : Sp.moonB s d false <;> cases h2 : Sp.moonB s d true <;> simp [*]
theorem moonsN_mem (s : Sp.Sky) (lo : Int) (k : Nat) (x : Int × Bool) : x ∈ Sp.moonsN s lo k ↔ lo ≤ x.1 ∧ x.1 < lo + k ∧ Sp.moonB s x.1 x.2 = true := by
  induction k with
  | zero => simp [Sp.moonsN]; omega
  | succ k ih =>
    rw [Sp.moonsN, List.mem_append, ih, dayMoons_mem]
    constructor
    · rintro (⟨h1, h2, h3⟩ | ⟨h1, h2⟩)
      · exact ⟨h1, by omega, h3⟩
      · exact ⟨by omega, by omega, by rw [h1]; exact h2⟩
    · rintro ⟨h1, h2, h3⟩
      by_cases e : x.1 = lo + (k : Int)
      · exact .inr ⟨e, by rw [← e]; exact h3⟩
      · exact .inl ⟨h1, by omega, h3⟩
theorem moonsL_mem (s : Sp.Sky) (lo hi : Int) (x : Int × Bool) : x ∈ Sp.moonsL s lo hi ↔ lo ≤ x.1 ∧ x.1 ≤ hi ∧ Sp.moonB s x.1 x.2 = true := by
  unfold Sp.moonsL
  rw [moonsN_mem]
  constructor <;> rintro ⟨h1, h2, h3⟩ <;> exact ⟨h1, by omega, h3⟩

/-- One moon is before another one. -/
def Sooner (a b : Int × Bool) : Prop := a.1 < b.1 ∨ a.1 = b.1 ∧ a.2 = false ∧ b.2 = true
theorem dayMoons_sorted (s : Sp.Sky) (d : Int) : List.Pairwise Sooner (Sp.dayMoons s d) := by
  unfold Sp.dayMoons
  cases Sp.moonB s d false <;> cases Sp.moonB s d true <;> simp [Sooner]
theorem moonsN_sorted (s : Sp.Sky) (lo : Int) (k : Nat) : List.Pairwise Sooner (Sp.moonsN s lo k) := by
  induction k with
  | zero => simp [Sp.moonsN]
  | succ k ih =>
    rw [Sp.moonsN, List.pairwise_append]
    refine ⟨ih, dayMoons_sorted s _, fun a ha b hb => .inl ?_⟩
    have h1 := ((moonsN_mem s lo k a).1 ha).2.1
    have h2 := ((dayMoons_mem s _ b).1 hb).1
    omega
theorem moonsL_sorted (s : Sp.Sky) (lo hi : Int) : List.Pairwise Sooner (Sp.moonsL s lo hi) := moonsN_sorted _ _ _
theorem dayMoons_le (s : Sp.Sky) (d : Int) : (Sp.dayMoons s d).length ≤ 2 := by
  unfold Sp.dayMoons
  cases Sp.moonB s d false <;> cases Sp.moonB s d true <;> simp
theorem moonsN_length (s : Sp.Sky) (lo : Int) (k : Nat) : (Sp.moonsN s lo k).length ≤ 2 * k := by
  induction k with
  | zero => simp [Sp.moonsN]
  | succ k ih =>
    rw [Sp.moonsN, List.length_append]
    have := dayMoons_le s (lo + k)
    omega
theorem moonsL_length (s : Sp.Sky) (lo hi : Int) : (Sp.moonsL s lo hi).length ≤ 2 * (hi + 1 - lo).toNat := moonsN_length _ _ _

/-- Between two moons that are listed one behind the other. -/
theorem pairwise_next {α : Type} {R : α → α → Prop} {l : List α} (h : List.Pairwise R l) (i : Nat) (a b : α) (ha : l[i]? = some a) (hb : l[i + 1]? = some b) : R a b := by
  rw [List.pairwise_iff_getElem] at h
  obtain ⟨h1, e1⟩ := List.getElem?_eq_some_iff.1 ha
  obtain ⟨h2, e2⟩ := List.getElem?_eq_some_iff.1 hb
  have := h i (i + 1) h1 h2 (by omega)
  rwa [e1, e2] at this

theorem meetsN_mem (s : Sp.Sky) (one other lo : Int) (k : Nat) (d : Int) : d ∈ Sp.meetsN s one other lo k ↔ lo ≤ d ∧ d < lo + k ∧ Sp.meetB s one other d = true := by
  induction k with
  | zero => simp [Sp.meetsN]; omega
  | succ k ih =>
    rw [Sp.meetsN, List.mem_append, ih]
    by_cases hb : Sp.meetB s one other (lo + (k : Int)) = true
    · rw [if_pos hb]
      constructor
      · rintro (⟨h1, h2, h3⟩ | h)
        · exact ⟨h1, by omega, h3⟩
        · obtain rfl : d = lo + (k : Int) := by simpa using h
          exact ⟨by omega, by omega, hb⟩
      · rintro ⟨h1, h2, h3⟩
        by_cases e : d = lo + (k : Int)
        · exact .inr (by simp [e])
        · exact .inl ⟨h1, by omega, h3⟩
    · rw [if_neg hb]
      constructor
      · rintro (⟨h1, h2, h3⟩ | h)
        · exact ⟨h1, by omega, h3⟩
        · cases h
      · rintro ⟨h1, h2, h3⟩
        refine .inl ⟨h1, ?_, h3⟩
        rcases Int.lt_or_le d (lo + (k : Int)) with h | h
        · exact h
        · obtain rfl : d = lo + (k : Int) := by omega
          exact absurd h3 hb
theorem meetsL_mem (s : Sp.Sky) (one other lo hi d : Int) : d ∈ Sp.meetsL s one other lo hi ↔ lo ≤ d ∧ d ≤ hi ∧ Sp.meetB s one other d = true := by
  unfold Sp.meetsL
  rw [meetsN_mem]
  constructor <;> rintro ⟨h1, h2, h3⟩ <;> exact ⟨h1, by omega, h3⟩
theorem meetsN_length (s : Sp.Sky) (one other lo : Int) (k : Nat) : (Sp.meetsN s one other lo k).length ≤ k := by
  induction k with
  | zero => simp [Sp.meetsN]
  | succ k ih =>
    rw [Sp.meetsN, List.length_append]
    split
    · simp; exact ih
    · simp; omega
theorem ahead_swap (s : Sp.Sky) (one other d : Int) : Sp.ahead s other one d = -Sp.ahead s one other d := by unfold Sp.ahead; omega
theorem meetB_swap (s : Sp.Sky) (one other d : Int) : Sp.meetB s other one d = Sp.meetB s one other d := by
  unfold Sp.meetB
  rw [ahead_swap s one other d, ahead_swap s one other (d - 1), Int.neg_neg, Int.neg_neg, Bool.or_comm]
theorem meetsN_swap (s : Sp.Sky) (one other lo : Int) (k : Nat) : Sp.meetsN s other one lo k = Sp.meetsN s one other lo k := by
  induction k with
  | zero => rfl
  | succ k ih => rw [Sp.meetsN, Sp.meetsN, ih, meetB_swap]

theorem nearN_le (s : Sp.Sky) (one other lo : Int) (k : Nat) : lo ≤ Sp.nearN s one other lo k ∧ Sp.nearN s one other lo k ≤ lo + k := by
  induction k with
  | zero => simp [Sp.nearN]
  | succ k ih =>
    unfold Sp.nearN
    split <;> omega
/-- On no day do two bodies differ less, nor as little before. -/
theorem nearN_best (s : Sp.Sky) (one other lo : Int) (k : Nat) (d : Int) (h1 : lo ≤ d) (h2 : d ≤ lo + k) :
    Sp.nearD s one other (Sp.nearN s one other lo k) ≤ Sp.nearD s one other d ∧ (Sp.nearD s one other d = Sp.nearD s one other (Sp.nearN s one other lo k) → Sp.nearN s one other lo k ≤ d) := by
  induction k with
  | zero =>
    obtain rfl : d = lo := by omega
    simp [Sp.nearN]
  | succ k ih =>
    have hle := nearN_le s one other lo k
    unfold Sp.nearN
    split
    · rename_i hlt
      by_cases e : d = lo + ((k + 1 : Nat) : Int)
      · rw [e]; exact ⟨Int.le_refl _, fun _ => Int.le_refl _⟩
      · have := ih (by omega)
        exact ⟨by omega, fun e => by omega⟩
    · rename_i hlt
      by_cases e : d = lo + ((k + 1 : Nat) : Int)
      · rw [e]; exact ⟨by omega, fun _ => by omega⟩
      · exact ih (by omega)

/-- A meeting of sun and moon at a new moon. -/
theorem moon_meets (s : Sp.Sky) (d : Int) (h : Sp.moonB s d false = true) : Sp.meetB s 1 0 d = true := by
  unfold Sp.moonB at h
  unfold Sp.meetB
  simp only [Sp.halfOf, Bool.false_eq_true, if_false, Int.sub_zero] at h
  rw [h]; rfl

theorem far_apart (s : Sp.Sky) (d : Int) : Sp.far s d = min (Sp.apart (Sp.place (Sp.body s 1) d) (Sp.node s d)) (Sp.apart (Sp.place (Sp.body s 1) d) (Sp.node s d + 10800)) := by
  unfold Sp.far Sp.apart Sp.round Sp.place
  dsimp only
  have : 0 ≤ Sp.node s d ∧ Sp.node s d < 21600 := by unfold Sp.node; omega
  omega

/-! ### Eclipses -/
theorem eclsOf_mem (s : Sp.Sky) (nw fl : Int) (l : List (Int × Bool)) (x : Sp.Ecl) : x ∈ Sp.eclsOf s nw fl l ↔ (x.day, x.full) ∈ l ∧ x.far = Sp.far s x.day ∧ Sp.far s x.day ≤ (if x.full then fl else nw) := by
  induction l with
  | nil => simp [Sp.eclsOf]
  | cons m l ih =>
    rw [Sp.eclsOf, List.mem_append, ih, List.mem_cons]
    obtain ⟨d, f⟩ := m
    obtain ⟨xd, xf, xr⟩ := x
    unfold Sp.eclOf
    dsimp only
    by_cases hc : Sp.far s d ≤ (if f = true then fl else nw)
    · rw [if_pos hc]
      constructor
      · rintro (h | ⟨h1, h2, h3⟩)
        · simp only [List.mem_singleton, Sp.Ecl.mk.injEq] at h
          obtain ⟨rfl, rfl, rfl⟩ := h
          exact ⟨.inl rfl, rfl, hc⟩
        · exact ⟨.inr h1, h2, h3⟩
      · rintro ⟨h1 | h1, h2, h3⟩
        · simp only [Prod.mk.injEq] at h1
          obtain ⟨rfl, rfl⟩ := h1
          exact .inl (by simp [h2])
        · exact .inr ⟨h1, h2, h3⟩
    · rw [if_neg hc]
      constructor
      · rintro (h | ⟨h1, h2, h3⟩)
        · cases h
        · exact ⟨.inr h1, h2, h3⟩
      · rintro ⟨h1 | h1, h2, h3⟩
        · simp only [Prod.mk.injEq] at h1
          obtain ⟨rfl, rfl⟩ := h1
          exact absurd h3 hc
        · exact .inr ⟨h1, h2, h3⟩
theorem eclsOf_length (s : Sp.Sky) (nw fl nw' fl' : Int) (l : List (Int × Bool)) (h1 : nw ≤ nw') (h2 : fl ≤ fl') : (Sp.eclsOf s nw fl l).length ≤ (Sp.eclsOf s nw' fl' l).length := by
  induction l with
  | nil => simp [Sp.eclsOf]
  | cons m l ih =>
    rw [Sp.eclsOf, Sp.eclsOf, List.length_append, List.length_append]
    have : (Sp.eclOf s nw fl m).length ≤ (Sp.eclOf s nw' fl' m).length := by
      unfold Sp.eclOf
      obtain ⟨d, f⟩ := m
      cases f <;> simp
      · by_cases hc : Sp.far s d ≤ nw
        · rw [if_pos hc, if_pos (by omega)]; simp
        · rw [if_neg hc]; simp
      · by_cases hc : Sp.far s d ≤ fl
        · rw [if_pos hc, if_pos (by omega)]; simp
        · rw [if_neg hc]; simp
    omega
theorem eclsOf_le (s : Sp.Sky) (nw fl : Int) (l : List (Int × Bool)) : (Sp.eclsOf s nw fl l).length ≤ l.length := by
  induction l with
  | nil => simp [Sp.eclsOf]
  | cons m l ih =>
    rw [Sp.eclsOf, List.length_append, List.length_cons]
    have : (Sp.eclOf s nw fl m).length ≤ 1 := by
      unfold Sp.eclOf
      generalize (if m.2 = true then fl else nw) = z
      by_cases h : Sp.far s m.1 ≤ z
      · rw [if_pos h]; simp
      · rw [if_neg h]; simp
    omega
theorem nextN_is_some (s : Sp.Sky) (full : Bool) (d : Int) (k : Nat) (m : Int) (h : Sp.nextN s full d k = some m) : d ≤ m ∧ m < d + k ∧ Sp.moonB s m full = true ∧ ∀ j, d ≤ j → j < m → Sp.moonB s j full = false := by
  induction k generalizing d with
  | zero => simp [Sp.nextN] at h
  | succ k ih =>
    rw [Sp.nextN] at h
    split at h
    · rename_i hd
      obtain rfl : d = m := by simpa using h
      exact ⟨by omega, by omega, hd, fun j h1 h2 => by omega⟩
    · rename_i hd
      obtain ⟨a, b, c, e⟩ := ih (d + 1) h
      refine ⟨by omega, by omega, c, fun j h1 h2 => ?_⟩
      rcases Int.lt_or_le d j with h3 | h3
      · exact e j (by omega) h2
      · obtain rfl : j = d := by omega
        simpa using hd
theorem nextN_is_none (s : Sp.Sky) (full : Bool) (d : Int) (k : Nat) (h : Sp.nextN s full d k = none) : ∀ j, d ≤ j → j < d + k → Sp.moonB s j full = false := by
  induction k generalizing d with
  | zero => intro j h1 h2; omega
  | succ k ih =>
    rw [Sp.nextN] at h
    split at h
    · cases h
    · rename_i hd
      intro j h1 h2
      rcases Int.lt_or_le d j with h3 | h3
      · exact ih (d + 1) h j (by omega) (by omega)
      · obtain rfl : j = d := by omega
        simpa using hd
end Go.Proofs.YtlcddcnmoajpjaaGreatDoor

namespace Go.Proofs.YtlcddcnmoajpjaaGreatDoor
open Sp (rd)

theorem speedsN_add (start : Int) (l : List Sp.Note) (low : Int) (k j : Nat) : Sp.speedsN start l low (k + j) = Sp.speedsN start l low k ++ Sp.speedsN start l (low + k) j := by
  induction j with
  | zero => simp [Sp.speedsN]
  | succ j ih =>
    rw [← Nat.add_assoc, Sp.speedsN, ih, Sp.speedsN, List.append_assoc]
    have e : low + ((k + j : Nat) : Int) = low + (k : Int) + (j : Int) := by omega
    rw [e]
theorem speedsN_mem (start : Int) (l : List Sp.Note) (low : Int) (k : Nat) (v : Int) : v ∈ Sp.speedsN start l low k ↔ low ≤ v ∧ v < low + k ∧ Sp.agrees start l v = true := by
  induction k with
  | zero => simp [Sp.speedsN]; omega
  | succ k ih =>
    rw [Sp.speedsN, List.mem_append, ih]
    by_cases hb : Sp.agrees start l (low + (k : Int)) = true
    · rw [if_pos hb]
      constructor
      · rintro (⟨h1, h2, h3⟩ | h)
        · exact ⟨h1, by omega, h3⟩
        · obtain rfl : v = low + (k : Int) := by simpa using h
          exact ⟨by omega, by omega, hb⟩
      · rintro ⟨h1, h2, h3⟩
        by_cases e : v = low + (k : Int)
        · exact .inr (by simp [e])
        · exact .inl ⟨h1, by omega, h3⟩
    · rw [if_neg hb]
      constructor
      · rintro (⟨h1, h2, h3⟩ | h)
        · exact ⟨h1, by omega, h3⟩
        · cases h
      · rintro ⟨h1, h2, h3⟩
        refine .inl ⟨h1, ?_, h3⟩
        rcases Int.lt_or_le v (low + (k : Int)) with h | h
        · exact h
        · obtain rfl : v = low + (k : Int) := by omega
          exact absurd h3 hb
theorem speedsN_sorted (start : Int) (l : List Sp.Note) (low : Int) (k : Nat) : List.Pairwise (· < ·) (Sp.speedsN start l low k) := by
  induction k with
  | zero => simp [Sp.speedsN]
  | succ k ih =>
    rw [Sp.speedsN, List.pairwise_append]
    refine ⟨ih, by split <;> simp, fun a ha b hb => ?_⟩
    have := ((speedsN_mem start l low k a).1 ha).2.1
    split at hb
    · obtain rfl : b = low + (k : Int) := by simpa using hb
      exact this
    · cases hb
theorem speedsL_mem (start : Int) (l : List Sp.Note) (low high v : Int) : v ∈ Sp.speedsL start l low high ↔ low ≤ v ∧ v ≤ high ∧ Sp.agrees start l v = true := by
  unfold Sp.speedsL
  rw [speedsN_mem]
  constructor <;> rintro ⟨h1, h2, h3⟩ <;> exact ⟨h1, by omega, h3⟩
theorem speedsL_sorted (start : Int) (l : List Sp.Note) (low high : Int) : List.Pairwise (· < ·) (Sp.speedsL start l low high) := speedsN_sorted _ _ _ _
theorem speedsN_length (start : Int) (l : List Sp.Note) (low : Int) (k : Nat) : (Sp.speedsN start l low k).length ≤ k := by
  induction k with
  | zero => simp [Sp.speedsN]
  | succ k ih =>
    rw [Sp.speedsN, List.length_append]
    split
    · simp; exact ih
    · simp; omega
theorem speedsL_length (start : Int) (l : List Sp.Note) (low high : Int) : (Sp.speedsL start l low high).length ≤ (high + 1 - low).toNat := speedsN_length _ _ _ _
theorem speedsL_part (start : Int) (l : List Sp.Note) (low high v : Int) (h1 : low ≤ v) (h2 : v ≤ high) :
    Sp.speedsL start l low high = Sp.speedsL start l low v ++ Sp.speedsL start l (v + 1) high := by
  unfold Sp.speedsL
  rw [show (high + 1 - low).toNat = (v + 1 - low).toNat + (high + 1 - (v + 1)).toNat by omega, speedsN_add]
  rw [show low + ((v + 1 - low).toNat : Int) = v + 1 by omega]
theorem speedsL_one (start : Int) (l : List Sp.Note) (v : Int) : Sp.speedsL start l v v = if Sp.agrees start l v then [v] else [] := by
  unfold Sp.speedsL
  rw [show (v + 1 - v).toNat = 1 by omega]
  simp [Sp.speedsN]

/-- A list of speeds under one more condition. -/
theorem speedsN_filter (start : Int) (l m : List Sp.Note) (low : Int) (k : Nat) (p : Int → Bool) (h : ∀ v, Sp.agrees start m v = (Sp.agrees start l v && p v)) : Sp.speedsN start m low k = (Sp.speedsN start l low k).filter p := by
  induction k with
  | zero => rfl
  | succ k ih =>
    rw [Sp.speedsN, Sp.speedsN, List.filter_append, ih, h]
    congr 1
    cases ha : Sp.agrees start l (low + (k : Int)) <;> cases hp : p (low + (k : Int)) <;> simp [hp]
theorem agrees_snoc (start : Int) (l : List Sp.Note) (n : Sp.Note) (v : Int) : Sp.agrees start (l ++ [n]) v = (Sp.agrees start l v && decide (Sp.apart (Sp.at_ start v n.day) n.seen ≤ n.off)) := by
  simp [Sp.agrees, List.all_append]
/-- Of a sorted list the first one is the least, the last one the greatest. -/
theorem sorted_head {l : List Int} (h : List.Pairwise (· < ·) l) (x : Int) (hx : x ∈ l) : l.headD 0 ≤ x := by
  cases l with
  | nil => cases hx
  | cons a t =>
    rcases List.mem_cons.1 hx with rfl | hx
    · exact Int.le_refl _
    · exact Int.le_of_lt (List.rel_of_pairwise_cons h hx)
theorem last_snoc (t : List Int) (a d : Int) : (t ++ [a]).getLastD d = a := by simp [List.getLastD_eq_getLast?]
theorem sorted_last {l : List Int} (h : List.Pairwise (· < ·) l) (x : Int) (hx : x ∈ l) : x ≤ l.getLastD 0 := by
  rcases List.eq_nil_or_concat l with rfl | ⟨t, a, rfl⟩
  · cases hx
  · simp only [List.concat_eq_append] at *
    rw [List.pairwise_append] at h
    rw [last_snoc]
    rcases List.mem_append.1 hx with hx | hx
    · exact Int.le_of_lt (h.2.2 x hx a (by simp))
    · have : x = a := by simpa using hx
      omega
theorem headD_mem {l : List Int} (h : l ≠ []) : l.headD 0 ∈ l := by cases l with | nil => exact absurd rfl h | cons a t => simp
theorem lastD_mem {l : List Int} (h : l ≠ []) : l.getLastD 0 ∈ l := by
  rcases List.eq_nil_or_concat l with rfl | ⟨t, a, rfl⟩
  · exact absurd rfl h
  · rw [List.concat_eq_append, last_snoc]; simp

/-- Those that can be seen at one place are in one window. -/
theorem seen_le (start : Int) (l : List Int) (day seen off : Int) (h0 : 0 ≤ off) : (l.filter fun v => decide (Sp.apart (Sp.at_ start v day) seen ≤ off)).length ≤ Sp.left start l day off := by
  have h1 := max_hits_le (fun p => Sp.hits start l day (2 * off + 1) (p : Nat)) 21600 ((seen - off) % 21600).toNat (by omega)
  refine Nat.le_trans ?_ h1
  unfold Sp.hits
  show _ ≤ (l.filter _).length
  have e : (((seen - off) % 21600).toNat : Int) = (seen - off) % 21600 := by omega
  rw [e]
  have hsub : ∀ v, decide (Sp.apart (Sp.at_ start v day) seen ≤ off) = true → decide ((Sp.at_ start v day - (seen - off) % 21600) % 21600 < 2 * off + 1) = true := by
    intro v hv
    simp only [decide_eq_true_eq] at hv ⊢
    unfold Sp.apart Sp.round at hv
    omega
  rw [← List.countP_eq_length_filter, ← List.countP_eq_length_filter]
  exact List.countP_mono_left fun v _ => hsub v
theorem left_pos (start : Int) (l : List Int) (day off : Int) (h0 : 0 ≤ off) (hl : l ≠ []) : 1 ≤ Sp.left start l day off := by
  cases l with
  | nil => exact absurd rfl hl
  | cons v l =>
    have a := at_bounds start v day
    have h1 := max_hits_le (fun p => Sp.hits start (v :: l) day (2 * off + 1) (p : Nat)) 21600 (Sp.at_ start v day).toNat (by omega)
    refine Nat.le_trans ?_ h1
    unfold Sp.hits
    show 1 ≤ ((v :: l).filter _).length
    rw [List.filter_cons, if_pos]
    · simp
    · have e : (((Sp.at_ start v day).toNat : Nat) : Int) = Sp.at_ start v day := by omega
      rw [e]
      simp
      omega

/-! ### The first best day -/
theorem watchN_le (start : Int) (l days : List Int) (off : Int) (k : Nat) : Sp.watchN start l days off k ≤ k := by
  induction k with
  | zero => simp [Sp.watchN]
  | succ k ih => unfold Sp.watchN; split <;> omega
theorem watchN_best (start : Int) (l days : List Int) (off : Int) (k i : Nat) (hi : i ≤ k) :
    Sp.left start l (rd days (Sp.watchN start l days off k)) off ≤ Sp.left start l (rd days i) off ∧
    (Sp.left start l (rd days (Sp.watchN start l days off k)) off = Sp.left start l (rd days i) off → Sp.watchN start l days off k ≤ i) := by
  induction k with
  | zero =>
    obtain rfl : i = 0 := by omega
    simp [Sp.watchN]
  | succ k ih =>
    have hle := watchN_le start l days off k
    unfold Sp.watchN
    split
    · rename_i hlt
      rcases Nat.lt_or_ge i (k + 1) with h | h
      · have := ih (by omega)
        exact ⟨by omega, fun e => by omega⟩
      · obtain rfl : i = k + 1 := by omega
        exact ⟨Nat.le_refl _, fun _ => Nat.le_refl _⟩
    · rename_i hlt
      rcases Nat.lt_or_ge i (k + 1) with h | h
      · exact ih (by omega)
      · obtain rfl : i = k + 1 := by omega
        exact ⟨by omega, fun _ => by omega⟩

/-! ### Drifts -/
theorem ediv_add_le (x y D : Int) (hD : 0 < D) : (x + y) / D ≤ x / D + y / D + 1 := by
  have h1 := Int.mul_ediv_add_emod x D
  have h2 := Int.mul_ediv_add_emod y D
  have h3 := Int.emod_lt_of_pos x hD
  have h4 := Int.emod_lt_of_pos y hD
  have h5 : x + y < D * (x / D + y / D + 2) := by rw [Int.mul_add, Int.mul_add]; omega
  have h6 := Int.ediv_lt_of_lt_mul hD (show x + y < (x / D + y / D + 2) * D by rw [Int.mul_comm]; exact h5)
  omega
theorem fold_add (D a b : Int) (hD : 0 < D) : min ((a + b) % D) (D - (a + b) % D) ≤ min (a % D) (D - a % D) + min (b % D) (D - b % D) := by
  have e : (a + b) % D = (a % D + b % D) % D := by rw [Int.add_emod]
  rw [e]
  have h1 := Int.emod_nonneg a (show D ≠ 0 by omega)
  have h2 := Int.emod_nonneg b (show D ≠ 0 by omega)
  have h3 := Int.emod_lt_of_pos a hD
  have h4 := Int.emod_lt_of_pos b hD
  generalize a % D = p at *
  generalize b % D = q at *
  by_cases h : p + q < D
  · rw [Int.emod_eq_of_lt (by omega) h]; omega
  · have : (p + q) % D = p + q - D := by
      rw [← Int.sub_emod_right, Int.emod_eq_of_lt (by omega) (by omega)]
    rw [this]; omega
/-- A drift, by the whole months' factor and the circle. -/
def driftOf (K D n : Int) : Int := min ((n * K) % D) (D - (n * K) % D) * 10800 / D
theorem drift_eq (s : Sp.Sky) (n : Int) : Sp.drift s n = driftOf (2 * (Sp.body s 0).num * ((Sp.body s 1).den * s.nnum + s.nden * (Sp.body s 1).num)) (Sp.monthDen s * s.nnum) n := by
  have e : 2 * n * (Sp.body s 0).num * ((Sp.body s 1).den * s.nnum + s.nden * (Sp.body s 1).num) = n * (2 * (Sp.body s 0).num * ((Sp.body s 1).den * s.nnum + s.nden * (Sp.body s 1).num)) := by
    generalize (Sp.body s 1).den * s.nnum + s.nden * (Sp.body s 1).num = z
    rw [Int.mul_comm 2 n, Int.mul_assoc n 2, Int.mul_assoc n]
  unfold Sp.drift driftOf
  dsimp only
  rw [e]
theorem driftOf_bounds (K D n : Int) (hD : 0 < D) : 0 ≤ driftOf K D n ∧ driftOf K D n ≤ 5400 := by
  unfold driftOf
  have h1 := Int.emod_nonneg (n * K) (show D ≠ 0 by omega)
  have h3 := Int.emod_lt_of_pos (n * K) hD
  generalize n * K % D = p at *
  constructor
  · exact Int.ediv_nonneg (by omega) (by omega)
  · exact Int.ediv_le_of_le_mul hD (by omega)
theorem driftOf_zero (K D : Int) (hD : 0 < D) : driftOf K D 0 = 0 := by
  unfold driftOf
  rw [Int.zero_mul, Int.zero_emod, Int.min_eq_left (by omega)]
  simp
theorem driftOf_add (K D a b : Int) (hD : 0 < D) : driftOf K D (a + b) ≤ driftOf K D a + driftOf K D b + 1 := by
  unfold driftOf
  rw [Int.add_mul]
  have h := fold_add D (a * K) (b * K) hD
  generalize min ((a * K + b * K) % D) (D - (a * K + b * K) % D) = x at *
  generalize min (a * K % D) (D - a * K % D) = y at *
  generalize min (b * K % D) (D - b * K % D) = z at *
  have h1 : x * 10800 / D ≤ (y * 10800 + z * 10800) / D := Int.ediv_le_ediv hD (by omega)
  have h2 := ediv_add_le (y * 10800) (z * 10800) D hD
  omega

theorem cycleN_is_some (s : Sp.Sky) (limit : Int) (n : Int) (k : Nat) (m : Int) (h : Sp.cycleN s limit n k = some m) : n ≤ m ∧ m < n + k ∧ Sp.drift s m ≤ limit ∧ ∀ j, n ≤ j → j < m → limit < Sp.drift s j := by
  induction k generalizing n with
  | zero => simp [Sp.cycleN] at h
  | succ k ih =>
    rw [Sp.cycleN] at h
    split at h
    · rename_i hd
      obtain rfl : n = m := by simpa using h
      exact ⟨by omega, by omega, hd, fun j h1 h2 => by omega⟩
    · rename_i hd
      obtain ⟨a, b, c, d⟩ := ih (n + 1) h
      refine ⟨by omega, by omega, c, fun j h1 h2 => ?_⟩
      rcases Int.lt_or_le n j with h3 | h3
      · exact d j (by omega) h2
      · obtain rfl : j = n := by omega
        omega
theorem cycleN_is_none (s : Sp.Sky) (limit : Int) (n : Int) (k : Nat) (h : Sp.cycleN s limit n k = none) : ∀ j, n ≤ j → j < n + k → limit < Sp.drift s j := by
  induction k generalizing n with
  | zero => intro j h1 h2; omega
  | succ k ih =>
    rw [Sp.cycleN] at h
    split at h
    · cases h
    · rename_i hd
      intro j h1 h2
      rcases Int.lt_or_le n j with h3 | h3
      · exact ih (n + 1) h j (by omega) (by omega)
      · obtain rfl : j = n := by omega
        omega
end Go.Proofs.YtlcddcnmoajpjaaGreatDoor
