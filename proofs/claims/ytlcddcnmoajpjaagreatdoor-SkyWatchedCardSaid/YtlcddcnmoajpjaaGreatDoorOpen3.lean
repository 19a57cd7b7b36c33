/- How a list of days is read, with its capacity. -/
import Derived.Test.YtlcddcnmoajpjaaGreatDoorOpen2
namespace Go.Proofs.YtlcddcnmoajpjaaGreatDoor
open Go.ChangeShapes Go.WideShapes Go.ChangeAt Go.RowKit
open Sp (rd)

set_option maxRecDepth 100000
section
variable {H : Type} {enc : TypeId × Value → H} {W : World} {spare : Nat → Bool} {held : Bool} {fuel : Nat} {cs : List Value} {x : DataW H × List MemPlace}
theorem open_road_cap (h : DataW.trod enc Tryz.prog W 0 spare held fuel 64 cs = some x) : ∃ A l c, cs = [.slice A l.length c] ∧ Ints W A l ∧ l.length ≤ maxLen ∧ l.length ≤ c := by
  rcases open_ints Tryz.underlying64 Tryz.underlying3 (by kernel_rfl) h with ⟨rfl, _⟩ | ⟨a, len, cap, zs, rfl, _, hlc, hcm, hzl, _, hc, _⟩
  · exact ⟨none, [], 0, rfl, fun h0 => by simp at h0, Nat.zero_le _, Nat.le_refl _⟩
  · have hle : len ≤ zs.length := by rw [hzl]; split <;> omega
    have hlen : (zs.take len).length = len := by rw [List.length_take]; omega
    refine ⟨some a, zs.take len, cap, by rw [hlen], fun h0 => ?_, by omega, by omega⟩
    rw [hlen] at h0
    obtain ⟨b, off, rfl, hc2⟩ := ints_at hc (by omega)
    refine ⟨b, off, rfl, fun k hk => ?_⟩
    rw [hlen] at hk
    rw [hc2 k (by omega)]
    unfold Sp.rd
    rw [List.getD_eq_getElem?_getD, List.getD_eq_getElem?_getD, List.getElem?_take_of_lt hk]
theorem open_daysc {v : Value} {d : DataW H} {ps : List MemPlace} {r : Reach} {base : Nat} (hval : Value.okWide Tryz.prog W r base 64 v) (h : DataW.Trod enc Tryz.prog W 0 spare held 64 v d ps) :
    ∃ (l : List Int) (A : Option Addr) (c : Nat), v = .slice A l.length c ∧ Ints W A l ∧ l.length ≤ maxLen ∧ l.length ≤ c := by
  obtain ⟨a, len, cap, rfl⟩ := okWide_slice Tryz.underlying64 hval
  obtain ⟨fuel, hd⟩ := h
  obtain ⟨A, l, c, hc, hN, hl, hcc⟩ := open_road_cap hd
  simp [Value.cells] at hc
  exact ⟨l, A, c, by rw [hc.1, hc.2.1, hc.2.2], hN, hl, hcc⟩
end
end Go.Proofs.YtlcddcnmoajpjaaGreatDoor
