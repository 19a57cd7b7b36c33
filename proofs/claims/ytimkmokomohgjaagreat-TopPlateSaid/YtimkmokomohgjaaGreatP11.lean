/- Volume 11: TpNearL: a plain law. -/
import Derived.Carry
import Derived.Test.YtimkmokomohgjaaGreatP05
namespace Go.Proofs.YtimkmokomohgjaaGreat
open Sp (rd)
set_option maxRecDepth 100000
set_option linter.unusedVariables false
theorem Tp.quot_lim2 {N g B : Int} (h1 : 1 ≤ N) (h2 : N ≤ B) (hg : 1 ≤ g) (h : g ∣ N) : 1 ≤ N / g ∧ N / g ≤ B := by
  obtain ⟨n, rfl⟩ := h
  rw [Int.mul_ediv_cancel_left n (by omega)]
  have hn : 1 ≤ n := by
    rcases Int.lt_or_le 0 n with h' | h'
    · omega
    · exfalso
      have := Int.mul_nonneg (a := g) (b := -n) (by omega) (by omega)
      have e := Int.mul_neg g n
      omega
  have := Int.mul_le_mul_of_nonneg_right hg (show (0 : Int) ≤ n by omega)
  omega
theorem Tp.red_lims {a b : Int} (ha : 1 ≤ a ∧ a ≤ 1000000) (hb : 1 ≤ b ∧ b ≤ 1000000) : (1 ≤ (Tp.red a b).drives ∧ (Tp.red a b).drives ≤ 1000000) ∧ (1 ≤ (Tp.red a b).driven ∧ (Tp.red a b).driven ≤ 1000000) := by
  have hg : 0 < Int.gcd a b := Int.gcd_pos_of_ne_zero_left _ (by omega)
  exact ⟨Tp.quot_lim2 ha.1 ha.2 (by omega) (Int.gcd_dvd_left ..), Tp.quot_lim2 hb.1 hb.2 (by omega) (Int.gcd_dvd_right ..)⟩
/-- A distance's numbers. -/
def Tp.DistOk (d : Ec.Pair) : Prop := (0 ≤ d.drives ∧ d.drives ≤ 1000000000) ∧ (0 ≤ d.driven ∧ d.driven ≤ 1000000)
theorem Tp.dist_ok {x f : Ec.Pair} (hx : (1 ≤ x.drives ∧ x.drives ≤ 1000000) ∧ (1 ≤ x.driven ∧ x.driven ≤ 1000000)) (hf : (1 ≤ f.drives ∧ f.drives ≤ 1000) ∧ (1 ≤ f.driven ∧ f.driven ≤ 1000)) : Tp.DistOk (Tp.dist x f) := by
  have p1 := mul_bounds0 (a := x.drives) (b := f.driven) (A := 1000000) (B := 1000) (by omega) hx.1.2 (by omega) hf.2.2
  have p2 := mul_bounds0 (a := f.drives) (b := x.driven) (A := 1000) (B := 1000000) (by omega) hf.1.2 (by omega) hx.2.2
  unfold Tp.DistOk Tp.dist Tp.cmpF
  simp only
  omega
theorem Tp.nearOne_len {all : List Int} {f : Ec.Pair} {drives i : Int} {st : List Ec.Pair × Ec.Pair} : (Tp.nearOne all f drives i st).1.length ≤ st.1.length + 1 := by
  unfold Tp.nearOne
  split
  · dsimp only
    split <;> split <;> simp
  · omega
theorem Tp.nearN_len {all : List Int} {f : Ec.Pair} : ∀ k, (Tp.nearN all f k).1.length ≤ 2 * k
  | 0 => by unfold Tp.nearN; simp
  | k + 1 => by
    have h := Tp.nearN_len (all := all) (f := f) k
    rw [Tp.nearN]
    unfold Tp.nearAt
    dsimp only
    have h1 := Tp.nearOne_len (all := all) (f := f) (drives := rd all k) (i := ((Tp.bsL all f.drives (rd all k * f.driven) : Nat) : Int) - 1) (st := Tp.nearN all f k)
    have h2 := Tp.nearOne_len (all := all) (f := f) (drives := rd all k) (i := ((Tp.bsL all f.drives (rd all k * f.driven) : Nat) : Int)) (st := Tp.nearOne all f (rd all k) (((Tp.bsL all f.drives (rd all k * f.driven) : Nat) : Int) - 1) (Tp.nearN all f k))
    omega
end Go.Proofs.YtimkmokomohgjaaGreat
