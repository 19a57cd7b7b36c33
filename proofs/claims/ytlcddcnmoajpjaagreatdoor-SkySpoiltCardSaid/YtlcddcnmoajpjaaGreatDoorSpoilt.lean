/- Plain law of the check: a table of which one digit was changed is never a table. -/
import Derived.Test.YtlcddcnmoajpjaaGreatDoorTextLen
namespace Go.Proofs.YtlcddcnmoajpjaaGreatDoor
open Sp (rd)
set_option linter.unusedSimpArgs false
set_option linter.unusedVariables false

theorem sp1_hole (n : UInt8) (q : Bs) : ∀ p : Bs, ∃ (L1 : List Bs) (a b : Bs) (L2 : List Bs), ∀ c : UInt8, c ≠ n → sp1 n (p ++ c :: q) = L1 ++ (a ++ c :: b) :: L2
  | [] => ⟨[], [], (sp1 n q).headD [], (sp1 n q).tail, fun c hc => by rw [List.nil_append, sp1_cons_ne n c q hc]; rfl⟩
  | x :: p => by
    obtain ⟨L1, a, b, L2, h⟩ := sp1_hole n q p
    by_cases hx : x = n
    · refine ⟨[] :: L1, a, b, L2, fun c hc => ?_⟩
      have e := sp1_step n [] (p ++ c :: q) (by simp)
      rw [hx, List.cons_append, show n :: (p ++ c :: q) = [] ++ n :: (p ++ c :: q) from rfl, e, h c hc]
      rfl
    · cases L1 with
      | nil =>
        refine ⟨[], x :: a, b, L2, fun c hc => ?_⟩
        rw [List.cons_append, sp1_cons_ne n x _ hx, h c hc]
        rfl
      | cons l L1 =>
        refine ⟨(x :: l) :: L1, a, b, L2, fun c hc => ?_⟩
        rw [List.cons_append, sp1_cons_ne n x _ hx, h c hc]
        rfl
theorem checkN_app (T r : List Bs) (k : Nat) (hk : k ≤ T.length) : checkN (T ++ r) k = checkN T k := by
  induction k with
  | zero => rfl
  | succ k ih =>
    have e : (T ++ r).getD k [] = T.getD k [] := by
      rw [List.getD_eq_getElem?_getD, List.getD_eq_getElem?_getD, List.getElem?_append_left (by omega)]
    simp only [checkN, ih (by omega), e]
theorem sumN_hole (a b : Bs) (c d : UInt8) (i k : Nat) : sumN (a ++ c :: b) i k + (if a.length < k then d.toNat * (a.length + 1) * (i + 1) else 0) = sumN (a ++ d :: b) i k + (if a.length < k then c.toNat * (a.length + 1) * (i + 1) else 0) := by
  induction k with
  | zero => simp [sumN]
  | succ k ih =>
    simp only [sumN]
    by_cases h1 : a.length = k
    · subst h1
      rw [if_neg (Nat.lt_irrefl _), if_neg (Nat.lt_irrefl _)] at ih
      rw [if_pos (by omega), if_pos (by omega)]
      have e1 : ((a ++ c :: b).getD a.length 0) = c := by simp
      have e2 : ((a ++ d :: b).getD a.length 0) = d := by simp
      rw [e1, e2]
      omega
    · have e : (a ++ c :: b).getD k 0 = (a ++ d :: b).getD k 0 := by
        rw [List.getD_eq_getElem?_getD, List.getD_eq_getElem?_getD]
        rcases Nat.lt_or_ge k a.length with h | h
        · rw [List.getElem?_append_left h, List.getElem?_append_left h]
        · obtain ⟨m, hm⟩ : ∃ m, k - a.length = m + 1 := ⟨k - a.length - 1, by omega⟩
          rw [List.getElem?_append_right h, List.getElem?_append_right h, hm]
          rfl
      rw [e]
      by_cases h2 : a.length < k
      · rw [if_pos h2, if_pos h2] at ih
        rw [if_pos (by omega), if_pos (by omega)]
        omega
      · rw [if_neg h2, if_neg h2] at ih
        rw [if_neg (by omega), if_neg (by omega)]
        omega
theorem hole_getD (L1 L2 : List Bs) (y z : Bs) (k : Nat) (h : k ≠ L1.length) : (L1 ++ y :: L2).getD k [] = (L1 ++ z :: L2).getD k [] := by
  rw [List.getD_eq_getElem?_getD, List.getD_eq_getElem?_getD]
  rcases Nat.lt_or_ge k L1.length with h1 | h1
  · rw [List.getElem?_append_left h1, List.getElem?_append_left h1]
  · obtain ⟨m, hm⟩ : ∃ m, k - L1.length = m + 1 := ⟨k - L1.length - 1, by omega⟩
    rw [List.getElem?_append_right h1, List.getElem?_append_right h1, hm]
    rfl
theorem hole_at (L1 L2 : List Bs) (y : Bs) : (L1 ++ y :: L2).getD L1.length [] = y := by simp
theorem checkN_hole (L1 L2 : List Bs) (a b : Bs) (c d : UInt8) (k : Nat) :
    checkN (L1 ++ (a ++ c :: b) :: L2) k + (if L1.length < k then d.toNat * (a.length + 1) * (L1.length + 1) else 0) = checkN (L1 ++ (a ++ d :: b) :: L2) k + (if L1.length < k then c.toNat * (a.length + 1) * (L1.length + 1) else 0) := by
  induction k with
  | zero => simp [checkN]
  | succ k ih =>
    simp only [checkN]
    by_cases h1 : L1.length = k
    · have hs := sumN_hole a b c d k (a ++ c :: b).length
      rw [if_pos (by simp), if_pos (by simp)] at hs
      have el : (a ++ d :: b).length = (a ++ c :: b).length := by simp
      rw [if_neg (by omega), if_neg (by omega)] at ih
      rw [if_pos (by omega), if_pos (by omega)]
      have g1 : (L1 ++ (a ++ c :: b) :: L2).getD k [] = a ++ c :: b := by rw [← h1]; exact hole_at _ _ _
      have g2 : (L1 ++ (a ++ d :: b) :: L2).getD k [] = a ++ d :: b := by rw [← h1]; exact hole_at _ _ _
      rw [g1, g2, el, h1]
      omega
    · rw [hole_getD L1 L2 (a ++ c :: b) (a ++ d :: b) k (fun e => h1 e.symm)]
      by_cases h2 : L1.length < k
      · rw [if_pos h2, if_pos h2] at ih
        rw [if_pos (by omega), if_pos (by omega)]
        omega
      · rw [if_neg h2, if_neg h2] at ih
        rw [if_neg (by omega), if_neg (by omega)]
        omega
theorem itoa_one (u : Nat) (h : u < 10) : Lib.itoa (u : Int) = [UInt8.ofNat (48 + u)] := by
  rw [Lib.itoa_nonneg, Lib.decDigits, dif_pos h]
theorem endL_inj {c d : Nat} (hc : c < 137) (hd : d < 137) (h : endL c = endL d) : c = d := by
  unfold endL at h
  rw [itoa_one _ (by omega), itoa_one _ (by omega), itoa_one _ (by omega), itoa_one _ (by omega), itoa_one _ (by omega), itoa_one _ (by omega)] at h
  simp only [List.cons_append, List.nil_append, List.cons.injEq, and_true, true_and] at h
  obtain ⟨h1, h2, h3⟩ := h
  have e1 := congrArg UInt8.toNat h1
  have e2 := congrArg UInt8.toNat h2
  have e3 := congrArg UInt8.toNat h3
  simp only [UInt8.toNat_ofNat'] at e1 e2 e3
  omega
theorem cop137 : ∀ m, m < 137 → 0 < m → Nat.gcd 137 m = 1 := by decide
theorem no137 {x y z : Nat} (hx : 0 < x) (hx' : x < 137) (hy : 0 < y) (hy' : y < 137) (hz : 0 < z) (hz' : z < 137) : ¬ 137 ∣ x * y * z := by
  intro h
  have h1 := Nat.Coprime.dvd_of_dvd_mul_right (k := 137) (n := z) (m := x * y) (cop137 z hz' hz) h
  have h2 := Nat.Coprime.dvd_of_dvd_mul_right (k := 137) (n := y) (m := x) (cop137 y hy' hy) h1
  have := Nat.le_of_dvd hx h2
  omega

/-- A changed digit. -/
theorem spoilt {s : Sp.Sky} (hs : SkyOk s) (p q : Bs) (c d : UInt8) (ht : textL s = p ++ c :: q) (hc : isDig c = true) (hd : isDig d = true) (hne : c ≠ d) : parseP (p ++ d :: q) = none := by
  cases hp : parseP (p ++ d :: q) with
  | none => rfl
  | some x =>
    exfalso
    obtain ⟨hx, _⟩ := parse_some hp
    obtain ⟨L1, a, b, L2, hh⟩ := sp1_hole 10 q p
    have n1 : c ≠ 10 := by rintro rfl; simp [isDig] at hc
    have n2 : d ≠ 10 := by rintro rfl; simp [isDig] at hd
    have e1 := hh c n1
    have e2 := hh d n2
    rw [← ht, sp1_text] at e1
    rw [← hx, sp1_text] at e2
    have hlt := tabLines_length s
    have hls : (tabLines s).length = (tabLines x).length := by
      have l1 := congrArg List.length e1
      have l2 := congrArg List.length e2
      simp only [List.length_append, List.length_cons, List.length_nil] at l1 l2
      omega
    obtain ⟨n, hn⟩ : ∃ n, (tabLines s).length = n := ⟨_, rfl⟩
    have hn' : (tabLines x).length = n := by omega
    have c1 : checkN (tabLines s) n = checkN (L1 ++ (a ++ c :: b) :: L2) n := by rw [← e1]; exact (checkN_app _ _ n (by omega)).symm
    have c2 : checkN (tabLines x) n = checkN (L1 ++ (a ++ d :: b) :: L2) n := by rw [← e2]; exact (checkN_app _ _ n (by omega)).symm
    have g1 : (L1 ++ (a ++ c :: b) :: L2).getD n [] = endL (checkL (tabLines s)) := by rw [← e1, ← hn]; exact hole_at _ _ _
    have g2 : (L1 ++ (a ++ d :: b) :: L2).getD n [] = endL (checkL (tabLines x)) := by rw [← e2, ← hn']; exact hole_at _ _ _
    have hk := checkN_hole L1 L2 a b c d n
    have hcs : checkL (tabLines s) = checkN (tabLines s) n % 137 := by unfold checkL; rw [hn]
    have hcx : checkL (tabLines x) = checkN (tabLines x) n % 137 := by unfold checkL; rw [hn']
    rcases Nat.lt_trichotomy L1.length n with hi | hi | hi
    · rw [if_pos hi, if_pos hi] at hk
      rw [hole_getD L1 L2 (a ++ c :: b) (a ++ d :: b) n (by omega), g2] at g1
      have he := endL_inj (by rw [hcx]; exact Nat.mod_lt _ (by omega)) (by rw [hcs]; exact Nat.mod_lt _ (by omega)) g1
      rw [hcs, hcx, c1, c2] at he
      have hmem : (a ++ c :: b) ∈ tabLines s := by
        have : (tabLines s).getD L1.length [] = a ++ c :: b := by
          have hg := hole_at L1 L2 (a ++ c :: b)
          rw [← e1, List.getD_eq_getElem?_getD, List.getElem?_append_left (by omega), ← List.getD_eq_getElem?_getD] at hg
          exact hg
        rw [← this, List.getD_eq_getElem?_getD, List.getElem?_eq_getElem (by omega)]
        exact List.getElem_mem _
      have hlen : (a ++ c :: b).length ≤ 70 := by
        simp only [tabLines, List.mem_cons, List.mem_append, List.mem_map, List.mem_nil_iff, or_false] at hmem
        rcases hmem with h | ⟨bb, hb, h⟩ | h
        · have a1 := line6 wSky [(s.bodies.length : Int)] (fun n hn' => by obtain rfl := List.mem_singleton.1 hn'; have := hs.n4; omega)
          rw [h]
          have : wSky.length = 3 := rfl
          simp only [List.length_cons, List.length_nil] at a1
          omega
        · obtain ⟨k, hk, rfl⟩ := List.getElem_of_mem hb
          rw [← h, getD_bd hk]
          exact body70 (hs.all k hk)
        · have a2 := line6 wNode [s.nnum, s.nden, s.nstart] (fun n hn' => by
            simp only [List.mem_cons, List.mem_nil_iff, or_false] at hn'
            have := hs.num1; have := hs.num2; have := hs.den1; have := hs.den2; have := hs.start1; have := hs.start2
            rcases hn' with rfl | rfl | rfl <;> omega)
          rw [h]
          have : wNode.length = 4 := rfl
          simp only [List.length_cons, List.length_nil] at a2
          omega
      simp only [List.length_append, List.length_cons] at hlen
      have hn4 := hs.n4
      simp only [isDig, Bool.and_eq_true, decide_eq_true_eq] at hc hd
      have hcd : c.toNat ≠ d.toNat := fun e => hne (UInt8.toNat_inj.1 e)
      generalize checkN (L1 ++ (a ++ c :: b) :: L2) n = X at hk he
      generalize checkN (L1 ++ (a ++ d :: b) :: L2) n = Y at hk he
      rcases Nat.lt_or_ge c.toNat d.toNat with h | h
      · refine no137 (x := d.toNat - c.toNat) (y := a.length + 1) (z := L1.length + 1) (by omega) (by omega) (by omega) (by omega) (by omega) (by omega) ?_
        have m1 : d.toNat * (a.length + 1) * (L1.length + 1) = (d.toNat - c.toNat) * (a.length + 1) * (L1.length + 1) + c.toNat * (a.length + 1) * (L1.length + 1) := by
          rw [← Nat.add_mul, ← Nat.add_mul, Nat.sub_add_cancel (by omega)]
        omega
      · refine no137 (x := c.toNat - d.toNat) (y := a.length + 1) (z := L1.length + 1) (by omega) (by omega) (by omega) (by omega) (by omega) (by omega) ?_
        have m1 : c.toNat * (a.length + 1) * (L1.length + 1) = (c.toNat - d.toNat) * (a.length + 1) * (L1.length + 1) + d.toNat * (a.length + 1) * (L1.length + 1) := by
          rw [← Nat.add_mul, ← Nat.add_mul, Nat.sub_add_cancel (by omega)]
        omega
    · rw [if_neg (by omega), if_neg (by omega)] at hk
      have he : checkL (tabLines s) = checkL (tabLines x) := by rw [hcs, hcx, c1, c2]; omega
      rw [← hi, hole_at] at g1 g2
      rw [he, ← g2] at g1
      have := List.append_cancel_left g1
      simp only [List.cons.injEq, and_true] at this
      exact hne this
    · have l1 := congrArg List.length e1
      simp only [List.length_append, List.length_cons, List.length_nil] at l1
      have hi2 : L1.length = n + 1 := by omega
      have hg := hole_at L1 L2 (a ++ c :: b)
      rw [← e1, hi2, ← hn, List.getD_eq_getElem?_getD, List.getElem?_append_right (by omega)] at hg
      simp at hg
end Go.Proofs.YtlcddcnmoajpjaaGreatDoor
