/- How long the table of a sky is at most; what Read returns of a table. -/
import Derived.Test.YtlcddcnmoajpjaaGreatDoorV21
namespace Go.Proofs.YtlcddcnmoajpjaaGreatDoor
open Go.RowKit
open Sp (rd)
set_option linter.unusedSimpArgs false
set_option linter.unusedVariables false

theorem itoa_len5 (n : Int) (h : -9999 ≤ n) (h2 : n ≤ 99999) : (Lib.itoa n).length ≤ 5 := by
  by_cases h0 : 0 ≤ n
  · obtain ⟨u, rfl⟩ := Int.eq_ofNat_of_zero_le h0
    rw [Lib.itoa_nonneg]
    exact dec_len5 u (by omega)
  · obtain ⟨u, hu⟩ := Int.eq_ofNat_of_zero_le (show 0 ≤ -n by omega)
    have hn : n = -(u : Int) := by omega
    rw [hn, Lib.itoa_neg u (by omega), List.length_cons, Lib.decDigits_length]
    have := nDigits_le 3 u (by omega)
    omega
theorem flat6 (l : List Int) (h : ∀ n ∈ l, -9999 ≤ n ∧ n ≤ 99999) : ((l.map fun n => 32 :: Lib.itoa n).flatten).length ≤ 6 * l.length := by
  induction l with
  | nil => simp
  | cons n l ih =>
    have h1 := h n (by simp)
    have h2 := itoa_len5 n h1.1 h1.2
    have h3 := ih (fun m hm => h m (by simp [hm]))
    simp only [List.map_cons, List.flatten_cons, List.length_append, List.length_cons]
    omega
theorem line6 (name : Bs) (l : List Int) (h : ∀ n ∈ l, -9999 ≤ n ∧ n ≤ 99999) : (lineL name l).length ≤ name.length + 6 * l.length := by
  have := flat6 l h
  unfold lineL
  rw [List.length_append]
  omega
theorem body70 {b : Sp.Body} (h : BodyOk b) : (bodyLine b).length ≤ 70 := by
  have h1 := line6 wBody (bodyNums b) (fun n hn => by
    simp only [bodyNums, List.cons_append, List.nil_append, List.mem_cons] at hn
    rcases hn with rfl | rfl | rfl | hn
    · exact ⟨by have := h.num1; omega, by have := h.num2; omega⟩
    · exact ⟨by have := h.den1; omega, by have := h.den2; omega⟩
    · exact ⟨by have := h.start1; omega, by have := h.start2; omega⟩
    · have hr := h.road
      unfold Sp.roadOk at hr
      rw [List.all_eq_true] at hr
      have := inR_iff.1 (hr n hn)
      exact ⟨by omega, by omega⟩)
  rw [bodyNums_length] at h1
  have h2 := h.len2
  have : wBody.length = 4 := rfl
  unfold bodyLine
  omega
theorem ends_flat (l : List Bs) (B : Nat) (h : ∀ x ∈ l, x.length ≤ B) : ((l.map (· ++ [(10 : UInt8)])).flatten).length ≤ (B + 1) * l.length := by
  induction l with
  | nil => simp
  | cons x l ih =>
    have h1 := h x (by simp)
    have h3 := ih (fun m hm => h m (by simp [hm]))
    simp only [List.map_cons, List.flatten_cons, List.length_append, List.length_cons, List.length_nil]
    rw [Nat.mul_add]
    omega
theorem text_len {s : Sp.Sky} (h : SkyOk s) : (textL s).length ≤ 400 := by
  have hn := h.n4
  have e1 : Lib.join (tabLines s) [10] ++ [10] = ((tabLines s).map (· ++ [(10 : UInt8)])).flatten := by
    rw [← outL_join (tabLines s) (by simp [tabLines]), outL_flat _ _ (Nat.le_refl _), List.take_length]
  have e2 : (((tabLines s).map (· ++ [(10 : UInt8)])).flatten).length = (lineL wSky [(s.bodies.length : Int)]).length + 1 + ((((s.bodies.map bodyLine).map (· ++ [(10 : UInt8)])).flatten).length + ((lineL wNode [s.nnum, s.nden, s.nstart]).length + 1)) := by
    simp only [tabLines, List.map_cons, List.map_append, List.flatten_cons, List.flatten_append, List.length_append, List.length_cons, List.length_nil, List.map_nil, List.flatten_nil]
  have a1 := line6 wSky [(s.bodies.length : Int)] (fun n hn' => by obtain rfl := List.mem_singleton.1 hn'; omega)
  have a2 := line6 wNode [s.nnum, s.nden, s.nstart] (fun n hn' => by
    simp only [List.mem_cons, List.mem_nil_iff, or_false] at hn'
    have := h.num1; have := h.num2; have := h.den1; have := h.den2; have := h.start1; have := h.start2
    rcases hn' with rfl | rfl | rfl <;> omega)
  have a3 := ends_flat (s.bodies.map bodyLine) 70 (fun x hx => by
    obtain ⟨b, hb, rfl⟩ := List.mem_map.1 hx
    obtain ⟨k, hk, rfl⟩ := List.getElem_of_mem hb
    rw [getD_bd hk]
    exact body70 (h.all k hk))
  rw [List.length_map] at a3
  have a4 : (endL (checkL (tabLines s))).length ≤ 19 := by
    have hc : checkL (tabLines s) < 137 := Nat.mod_lt _ (by omega)
    have x1 := itoa_len5 ((checkL (tabLines s) / 100 : Nat) : Int) (by omega) (by omega)
    have x2 := itoa_len5 ((checkL (tabLines s) / 10 % 10 : Nat) : Int) (by omega) (by omega)
    have x3 := itoa_len5 ((checkL (tabLines s) % 10 : Nat) : Int) (by omega) (by omega)
    unfold endL
    simp only [List.length_append, List.length_cons, List.length_nil]
    omega
  have w1 : wSky.length = 3 := rfl
  have w2 : wNode.length = 4 := rfl
  unfold textL
  rw [e1, List.length_append, List.length_append, e2]
  simp only [List.length_cons, List.length_nil] at a1 a2 ⊢
  omega

theorem Read_ok (x : Bs) (s : Sp.Sky) (w : World) (hV : Env w) (hx : x.length ≤ 400) (hp : parseP x = some s) (hs : Sp.skyOk s = true) :
    Calls Tryz.prog 60 #[.string (bs x)] w fun e w' => ∃ A c, e = .returned (.tuple #[.agg #[.slice A s.bodies.length c, .int .i64 s.nnum, .int .i64 s.nden, .int .i64 s.nstart], .int .i64 0]) ∧ Bodies w' A s.bodies ∧ Ext w w' :=
  (Read_any x w hV (by omega)).mono fun e w' h => by
    obtain ⟨hE, ⟨code, hc, hne, _⟩ | ⟨s', A, c, _, hp', _, he, hB⟩⟩ := h
    · rw [if_neg (by omega), hp] at hc
      simp only [hs, if_true] at hc
      exact absurd hc hne
    · rw [hp] at hp'
      obtain rfl := Option.some.inj hp'
      exact ⟨A, c, he, hB, hE⟩
theorem Read_no (x : Bs) (w : World) (hV : Env w) (hx : x.length ≤ 100000) (code : Int) (hc : code = if 400 < x.length then 3 else match parseP x with | none => 4 | some s => if Sp.skyOk s then 0 else 2) (hne : code ≠ 0) :
    Calls Tryz.prog 60 #[.string (bs x)] w fun e w' => e = .returned (.tuple #[.agg #[.slice none 0 0, .int .i64 0, .int .i64 0, .int .i64 0], .int .i64 code]) ∧ Ext w w' :=
  (Read_any x w hV hx).mono fun e w' h => by
    obtain ⟨hE, ⟨code', hc', _, he⟩ | ⟨s', A, c, hl, hp', hs', he, hB⟩⟩ := h
    · have ec : code' = code := hc'.trans hc.symm
      rw [ec] at he
      exact ⟨he, hE⟩
    · rw [if_neg (by omega), hp'] at hc
      simp only [hs', if_true] at hc
      exact absurd hc hne
end Go.Proofs.YtlcddcnmoajpjaaGreatDoor
