/- How the arguments of a law are read: notes, lists of days. -/
import Derived.Test.YtlcddcnmoajpjaaGreatDoorV21
namespace Go.Proofs.YtlcddcnmoajpjaaGreatDoor
open Go.ChangeShapes Go.WideShapes Go.ChangeAt Go.RowKit
open Sp (rd)

set_option maxRecDepth 100000
section
variable {H : Type} {enc : TypeId × Value → H} {W : World} {spare : Nat → Bool} {held : Bool} {fuel : Nat} {cs : List Value} {x : DataW H × List MemPlace}
theorem list_three {α : Type} {l : List α} (h : l.length = 3) : ∃ a b c, l = [a, b, c] := by
  cases l with
  | nil => simp at h
  | cons a l =>
    obtain ⟨c, d, rfl⟩ := list_two (l := l) (by simpa using h)
    exact ⟨a, c, d, rfl⟩
theorem cNote : Tryz.prog.cellsOf 76 = 3 := by kernel_rfl
theorem open_note_cells (h : DataW.trod enc Tryz.prog W 0 spare held fuel 76 cs = some x) : ∃ n : Sp.Note, cs = [.int .i64 n.day, .int .i64 n.seen, .int .i64 n.off] ∧ (-9223372036854775808 ≤ n.day ∧ n.day ≤ 9223372036854775807) ∧ (-9223372036854775808 ≤ n.seen ∧ n.seen ≤ 9223372036854775807) ∧ (-9223372036854775808 ≤ n.off ∧ n.off ≤ 9223372036854775807) := by
  obtain ⟨xs, m, rfl, rfl, hcs, hxs, each⟩ := DataW.trod_struct Tryz.underlying76 h
  obtain ⟨a, b, c, rfl⟩ := list_three (hcs.trans cNote)
  have hx2 : xs.length = 3 := hxs
  obtain ⟨y, hy⟩ := get_some (each 0 _ rfl) (by omega)
  obtain ⟨z, hz⟩ := get_some (each 1 _ rfl) (by omega)
  obtain ⟨u, hu⟩ := get_some (each 2 _ rfl) (by omega)
  simp [c3] at hy hz hu
  obtain ⟨n, hn, _, w1⟩ := DataW.trod_int Tryz.underlying3 hy
  obtain ⟨d, hd, _, w2⟩ := DataW.trod_int Tryz.underlying3 hz
  obtain ⟨e, he, _, w3⟩ := DataW.trod_int Tryz.underlying3 hu
  simp at hn hd he
  exact ⟨⟨n, d, e⟩, by rw [hn, hd, he], wf64 w1, wf64 w2, wf64 w3⟩
theorem open_note {v : Value} {d : DataW H} {ps : List MemPlace} {r : Reach} {base : Nat} (hval : Value.okWide Tryz.prog W r base 76 v) (h : DataW.Trod enc Tryz.prog W 0 spare held 76 v d ps) :
    ∃ n : Sp.Note, v = .agg #[.int .i64 n.day, .int .i64 n.seen, .int .i64 n.off] ∧ (-9223372036854775808 ≤ n.day ∧ n.day ≤ 9223372036854775807) ∧ (-9223372036854775808 ≤ n.seen ∧ n.seen ≤ 9223372036854775807) ∧ (-9223372036854775808 ≤ n.off ∧ n.off ≤ 9223372036854775807) := by
  obtain ⟨cells, rfl, hsz⟩ := okWide_struct Tryz.underlying76 hval
  obtain ⟨fuel, hd⟩ := h
  obtain ⟨n, hn, hw⟩ := open_note_cells hd
  refine ⟨n, ?_, hw⟩
  have : cells = #[.int .i64 n.day, .int .i64 n.seen, .int .i64 n.off] := by rw [← Array.toList_inj]; exact hn
  rw [this]
theorem open_notes_cells (h : DataW.trod enc Tryz.prog W 0 spare held fuel 58 cs = some x) : ∃ A l c, cs = [.slice A l.length c] ∧ Notes W A l ∧ l.length ≤ maxLen := by
  rcases DataW.trod_slice Tryz.underlying58 h with ⟨rfl, _⟩ | ⟨a, len, cap, elems, rest, n, rfl, rfl, rfl, _, hlc, hcm, hel, each, _, _⟩
  · exact ⟨none, [], 0, rfl, fun h0 => by simp at h0, Nat.zero_le _⟩
  · have one : ∀ i, i < len → ∃ B : Sp.Note, W.cells? 0 (a.add (i * 3)) 3 = some [.int .i64 B.day, .int .i64 B.seen, .int .i64 B.off] := by
      intro i hi
      have e := each i hi
      rw [cNote] at e
      obtain ⟨y, hy⟩ := get_some e (by omega)
      rw [Option.bind_eq_some_iff] at hy
      obtain ⟨cs', h1, h2⟩ := hy
      obtain ⟨B, rfl, _⟩ := open_note_cells h2
      exact ⟨B, h1⟩
    haveI : Inhabited Sp.Note := ⟨noNote⟩
    obtain ⟨f, hf⟩ := Go.Deep.choose_lt one
    have hll : ((List.range len).map f).length = len := by simp
    have hbd : ∀ k, k < len → nt ((List.range len).map f) k = f k := fun k hk => by
      unfold nt
      rw [List.getD_eq_getElem?_getD, List.getElem?_map, List.getElem?_range hk]
      rfl
    refine ⟨some a, (List.range len).map f, cap, by rw [hll], fun h0 => ?_, by omega⟩
    rw [hll] at h0
    have hc0 := hf 0 h0
    have hsp := (World.cells?_some hc0).2.2 0 (by omega)
    obtain ⟨b, off, spot⟩ := a
    have hspot : spot = none := by
      have : W.cell? ⟨b, off, spot⟩ = some (.int .i64 (f 0).day) := by simpa [Addr.add] using hsp
      simpa using World.cell?_spot this
    subst hspot
    refine ⟨b, off, rfl, fun k hk => ?_⟩
    rw [hll] at hk
    rw [hbd k hk]
    have g := (World.cells?_some (hf k hk)).2.2
    have g0 := g 0 (by omega)
    have g1 := g 1 (by omega)
    have g2 := g 2 (by omega)
    simp only [add_plain, Nat.add_zero] at g0 g1 g2
    exact ⟨g0, g1, g2⟩
theorem open_notes {v : Value} {d : DataW H} {ps : List MemPlace} {r : Reach} {base : Nat} (hval : Value.okWide Tryz.prog W r base 58 v) (h : DataW.Trod enc Tryz.prog W 0 spare held 58 v d ps) :
    ∃ (l : List Sp.Note) (A : Option Addr) (c : Nat), v = .slice A l.length c ∧ Notes W A l ∧ l.length ≤ maxLen := by
  obtain ⟨a, len, cap, rfl⟩ := okWide_slice Tryz.underlying58 hval
  obtain ⟨fuel, hd⟩ := h
  obtain ⟨A, l, c, hc, hN, hl⟩ := open_notes_cells hd
  simp [Value.cells] at hc
  exact ⟨l, A, c, by rw [hc.1, hc.2.1, hc.2.2], hN, hl⟩
theorem open_days {v : Value} {d : DataW H} {ps : List MemPlace} {r : Reach} {base : Nat} (hval : Value.okWide Tryz.prog W r base 64 v) (h : DataW.Trod enc Tryz.prog W 0 spare held 64 v d ps) :
    ∃ (l : List Int) (A : Option Addr) (c : Nat), v = .slice A l.length c ∧ Ints W A l ∧ l.length ≤ maxLen := by
  obtain ⟨a, len, cap, rfl⟩ := okWide_slice Tryz.underlying64 hval
  obtain ⟨fuel, hd⟩ := h
  obtain ⟨A, l, c, hc, hN, hl⟩ := open_road hd
  simp [Value.cells] at hc
  exact ⟨l, A, c, by rw [hc.1, hc.2.1, hc.2.2], hN, hl⟩
end
end Go.Proofs.YtlcddcnmoajpjaaGreatDoor
