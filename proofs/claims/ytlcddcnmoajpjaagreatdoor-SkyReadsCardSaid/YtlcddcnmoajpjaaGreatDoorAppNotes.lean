/- Rows of notes that a law makes by append. -/
import Derived.Deep.RegionLaw
import Derived.Laws.OwnMore
import Derived.Test.YtlcddcnmoajpjaaGreatDoorRefNotes
import Derived.Test.YtlcddcnmoajpjaaGreatDoorV21
namespace Go.Proofs.YtlcddcnmoajpjaaGreatDoor
open Go.RowKit
open Sp (rd)
set_option linter.unusedSimpArgs false
set_option linter.unusedVariables false

theorem info_note : (Tryz.prog.info? 76).map (fun i => (i.zero, i.size, i.bytes)) = some (some (.agg #[.int .i64 0, .int .i64 0, .int .i64 0]), 3, 24) := by kernel_rfl
def noteCells (l : List Sp.Note) : List Value := l.flatMap fun n => [.int .i64 n.day, .int .i64 n.seen, .int .i64 n.off]
theorem noteCells_length (l : List Sp.Note) : (noteCells l).length = l.length * 3 := by
  induction l with
  | nil => rfl
  | cons n l ih =>
    simp only [noteCells, List.flatMap_cons, List.length_append, List.length_cons, List.length_nil] at ih ⊢
    omega
theorem noteCells_app (l m : List Sp.Note) : noteCells (l ++ m) = noteCells l ++ noteCells m := by simp [noteCells]
theorem noteCells_get (l : List Sp.Note) : ∀ k, k < l.length → (noteCells l)[k * 3]? = some (.int .i64 (nt l k).day) ∧ (noteCells l)[k * 3 + 1]? = some (.int .i64 (nt l k).seen) ∧ (noteCells l)[k * 3 + 2]? = some (.int .i64 (nt l k).off) := by
  induction l with
  | nil => intro k hk; simp at hk
  | cons n l ih =>
    intro k hk
    cases k with
    | zero => simp [noteCells, nt]
    | succ k =>
      have := ih k (by simpa using hk)
      simp only [noteCells, List.flatMap_cons] at this ⊢
      rw [show (k + 1) * 3 = k * 3 + 3 by omega]
      simpa [nt] using this
theorem noteCells_one (l : List Sp.Note) : ∀ u ∈ noteCells l, u.oneCell' = true := by
  intro u hu
  simp only [noteCells, List.mem_flatMap, List.mem_cons, List.mem_nil_iff, or_false] at hu
  obtain ⟨n, _, rfl | rfl | rfl⟩ := hu <;> rfl
theorem noteCells_at {l : List Sp.Note} {j : Nat} {u : Value} (h : (noteCells l)[j]? = some u) : ∃ k r, k < l.length ∧ j = k * 3 + r ∧ ((r = 0 ∧ u = .int .i64 (nt l k).day) ∨ (r = 1 ∧ u = .int .i64 (nt l k).seen) ∨ (r = 2 ∧ u = .int .i64 (nt l k).off)) := by
  have hj : j < l.length * 3 := by rw [← noteCells_length]; exact (List.getElem?_eq_some_iff.1 h).1
  have hk : j / 3 < l.length := by omega
  obtain ⟨g0, g1, g2⟩ := noteCells_get l (j / 3) hk
  rcases (show j = j / 3 * 3 ∨ j = j / 3 * 3 + 1 ∨ j = j / 3 * 3 + 2 by omega) with e | e | e
  · rw [e, g0] at h; exact ⟨j / 3, 0, hk, by omega, .inl ⟨rfl, (Option.some.inj h).symm⟩⟩
  · rw [e, g1] at h; exact ⟨j / 3, 1, hk, by omega, .inr (.inl ⟨rfl, (Option.some.inj h).symm⟩)⟩
  · rw [e, g2] at h; exact ⟨j / 3, 2, hk, by omega, .inr (.inr ⟨rfl, (Option.some.inj h).symm⟩)⟩
theorem addP (b o j : Nat) : (⟨b, o, none⟩ : Addr).add j = ⟨b, o + j, none⟩ := by unfold Addr.add; split <;> simp_all
/-- The cells of notes, for an append. -/
theorem notes_news {w : World} {b o : Nat} {l : List Sp.Note} (hc : ∀ k, k < l.length → w.cell? ⟨b, o + k * 3, none⟩ = some (.int .i64 (nt l k).day) ∧ w.cell? ⟨b, o + k * 3 + 1, none⟩ = some (.int .i64 (nt l k).seen) ∧ w.cell? ⟨b, o + k * 3 + 2, none⟩ = some (.int .i64 (nt l k).off)) (W : World) (hE : Ext w W) :
    ∀ j u, (noteCells l)[j]? = some u → W.cell? ((⟨b, o, none⟩ : Addr).add j) = some u := fun j u hu => by
  obtain ⟨k, r, hk, rfl, h⟩ := noteCells_at hu
  obtain ⟨c0, c1, c2⟩ := hc k hk
  rw [addP]
  rcases h with ⟨rfl, rfl⟩ | ⟨rfl, rfl⟩ | ⟨rfl, rfl⟩
  · exact hE.cell c0
  · rw [← Nat.add_assoc]; exact hE.cell c1
  · rw [← Nat.add_assoc]; exact hE.cell c2
theorem Notes.of_own {w : World} {base : Nat} {v : Value} {l : List Sp.Note} (h : w.ownsRow base 76 3 v l.length (noteCells l)) : ∃ A c, v = .slice A l.length c ∧ Notes w A l := by
  rcases h.2 with ⟨rfl, h0⟩ | ⟨g, cap, cur, hv, _⟩
  · exact ⟨none, 0, by rw [h0], fun hh => by omega⟩
  · refine ⟨some ⟨g, 0, none⟩, cap, hv, fun _ => ⟨g, 0, rfl, fun k hk => ?_⟩⟩
    have hc := h.cells (g := g) (by rw [hv]; rfl)
    obtain ⟨g0, g1, g2⟩ := noteCells_get l k hk
    have h1 := hc _ _ g0
    have h2 := hc _ _ g1
    have h3 := hc _ _ g2
    rw [add0] at h1 h2 h3
    exact ⟨by simpa using h1, by simpa using h2, by simpa using h3⟩
theorem own_notes {w : World} {base g cap : Nat} {l : List Sp.Note} (h : w.ownsRow base 76 3 (.slice (some ⟨g, 0, none⟩) l.length cap) l.length (noteCells l)) : Notes w (some ⟨g, 0, none⟩) l := by
  obtain ⟨A, c, e, hN⟩ := Notes.of_own h
  simp only [Value.slice.injEq] at e
  rw [e.1]
  exact hN
theorem noteCells_set (l : List Sp.Note) (n : Sp.Note) (off : Int) : (noteCells (l ++ [n])).set (l.length * 3 + 2) (.int .i64 off) = noteCells (l ++ [⟨n.day, n.seen, off⟩]) := by
  rw [noteCells_app, noteCells_app, List.set_append_right _ _ (by rw [noteCells_length]; omega), noteCells_length]
  simp [noteCells]
theorem agrees_less (start : Int) (l : List Sp.Note) (n : Sp.Note) (less v : Int) (h0 : 0 ≤ less) : Sp.agrees start (l ++ [⟨n.day, n.seen, n.off - less⟩]) v = (Sp.agrees start (l ++ [n]) v && decide (Sp.apart (Sp.at_ start v n.day) n.seen ≤ n.off - less)) := by
  rw [agrees_snoc, agrees_snoc]
  cases Sp.agrees start l v
  · rfl
  · simp only [Bool.true_and]
    rw [Bool.eq_iff_iff]
    simp only [Bool.and_eq_true, decide_eq_true_eq]
    omega
theorem notesOk_less {l : List Sp.Note} {n : Sp.Note} {less : Int} (h : Sp.notesOk (l ++ [n]) = true) (h0 : 0 ≤ less) (h1 : less ≤ n.off) : Sp.notesOk (l ++ [⟨n.day, n.seen, n.off - less⟩]) = true := by
  simp only [Sp.notesOk, Bool.and_eq_true, decide_eq_true_eq, List.all_append, List.all_cons, List.all_nil, Bool.and_true, List.length_append, List.length_cons, List.length_nil, Sp.noteOk] at h ⊢
  obtain ⟨a, b, c, d, e⟩ := h
  have := inR_iff.1 e
  exact ⟨a, b, c, d, inR_iff.2 ⟨by omega, by omega⟩⟩
/-- One that asks more lets no more speeds. -/
theorem more_speeds {start : Int} {l m : List Sp.Note} {low high : Int} {p : Int → Bool} (h : ∀ v, Sp.agrees start m v = (Sp.agrees start l v && p v)) :
    (Sp.speedsL start m low high).length ≤ (Sp.speedsL start l low high).length ∧ (Sp.speedsL start l low high = [] → Sp.speedsL start m low high = []) ∧
      (Sp.speedsL start m low high ≠ [] → (Sp.speedsL start l low high).headD 0 ≤ (Sp.speedsL start m low high).headD 0 ∧ (Sp.speedsL start m low high).getLastD 0 ≤ (Sp.speedsL start l low high).getLastD 0) := by
  have e : Sp.speedsL start m low high = (Sp.speedsL start l low high).filter p := speedsN_filter start l m low _ p h
  have hs := speedsL_sorted start l low high
  refine ⟨by rw [e]; exact List.length_filter_le _ _, fun h0 => by rw [e, h0]; rfl, fun hne => ?_⟩
  have m1 := headD_mem hne
  have m2 := lastD_mem hne
  rw [e] at m1 m2 ⊢
  exact ⟨sorted_head hs _ (List.mem_filter.1 m1).1, sorted_last hs _ (List.mem_filter.1 m2).1⟩
/-- Behind 'x := append(append(nil, l...), n)' in one region: the frame's slots s0 (what is read), s1, s2 (the new element), s3, s4 (the row), s5 (x). -/
def AppPost (s0 s1 s2 s3 s4 s5 : Nat) (w0 : World) (m : List Sp.Note) (v0 v2 : Value) (a0 : Act) : Exit → Act → World → Prop
  | .normal, a', w' => ∃ (u1 u3 : Value) (g cap : Nat), w'.ownsRow w0.heap.size 76 3 (.slice (some ⟨g, 0, none⟩) m.length cap) m.length (noteCells m) ∧ Ext w0 w' ∧
      a' = (((((a0.put (some s0) v0).put (some s1) u1).put (some s2) v2).put (some s3) u3).put (some s4) (.slice (some ⟨g, 0, none⟩) m.length cap)).put (some s5) (.slice (some ⟨g, 0, none⟩) m.length cap)
  | _, _, _ => False
theorem AppPost.get {s0 s1 s2 s3 s4 s5 : Nat} {w0 : World} {m : List Sp.Note} {v0 v2 : Value} {a0 : Act} {e : Exit} {a' : Act} {w' : World} (h : AppPost s0 s1 s2 s3 s4 s5 w0 m v0 v2 a0 e a' w') :
    e = .normal ∧ ∃ (u1 u3 : Value) (g cap : Nat), w'.ownsRow w0.heap.size 76 3 (.slice (some ⟨g, 0, none⟩) m.length cap) m.length (noteCells m) ∧ Ext w0 w' ∧
      a' = (((((a0.put (some s0) v0).put (some s1) u1).put (some s2) v2).put (some s3) u3).put (some s4) (.slice (some ⟨g, 0, none⟩) m.length cap)).put (some s5) (.slice (some ⟨g, 0, none⟩) m.length cap) := by
  cases e <;> first | exact ⟨rfl, h⟩ | exact h.elim
theorem AppPost.mk {s0 s1 s2 s3 s4 s5 : Nat} {w0 : World} {m : List Sp.Note} {v0 v2 : Value} {a0 : Act} {a' : Act} {w' : World} (u1 u3 : Value) (g cap : Nat) (h1 : w'.ownsRow w0.heap.size 76 3 (.slice (some ⟨g, 0, none⟩) m.length cap) m.length (noteCells m)) (h2 : Ext w0 w')
    (h3 : a' = (((((a0.put (some s0) v0).put (some s1) u1).put (some s2) v2).put (some s3) u3).put (some s4) (.slice (some ⟨g, 0, none⟩) m.length cap)).put (some s5) (.slice (some ⟨g, 0, none⟩) m.length cap)) :
    AppPost s0 s1 s2 s3 s4 s5 w0 m v0 v2 a0 .normal a' w' := ⟨u1, u3, g, cap, h1, h2, h3⟩
theorem append_none (A : Option Addr) (c : Nat) (W : World) : (Builtin.append_ #[58, 58] 58 #[.slice none 0 0, .slice A 0 c]).run Tryz.prog W = .ok (.slice none 0 0) W := by
  obtain ⟨i0, hi0, hi1, hi2, hi3⟩ := info_parts info_note
  cases A with
  | none => simp [Builtin.append_, run_underlying Tryz.underlying58, sizeOf, typeInfo, hi0, Builtin.lenOf, Builtin.firstCells]
  | some a =>
    have hl := run_loadCells_list (P := Tryz.prog) W a [] (fun j v hj => by simp at hj)
    simp only [List.length_nil] at hl
    simp [Builtin.append_, run_underlying Tryz.underlying58, sizeOf, typeInfo, hi0, Builtin.lenOf, Builtin.firstCells, hl, Result.andThen]
theorem step_append_none {ops : Array Oper} {o : Oper} {a : Act} {K : Act → World → Prop} {Q : Exit → Act → World → Prop} {E : Prop} {w : World} (A : Option Addr) (c : Nat) (hgd : o.guard = none) (s x : Operand)
    (ho : o.op = .call { callee := .builtin .append, args := #[s, x], argTypes := #[58, 58] }) (hty : o.type = 58) (hs : a.eval s = .slice none 0 0) (hx : a.eval x = .slice A 0 c)
    (h : K (a.put o.dst (.slice none 0 0)) w) : if Region.wanted o (yielded ops a.tmps) = true then Oper.wp Tryz.prog o a w K Q else E := by
  have hw : Region.wanted o (yielded ops a.tmps) = true := by simp [Region.wanted, hgd]
  rw [if_pos hw]
  have hr := append_none A c w
  unfold Oper.wp execOp
  simp only [ho, resolve, invoke, builtin, Sem.run_bind, Sem.run_pure, Result.andThen_ok, List.map_toArray, List.map_cons, List.map_nil, hs, hx, hty, hr]
  exact h
theorem cut_at {P : Program} {c : Code} {a : Act} {w : World} {Q : Exit → Act → World → Prop} (R : Act → Exit → Act → World → Prop) (h1 : c.wp P (R a) a w) (h2 : ∀ e a' w', R a e a' w' → Q e a' w') : c.wp P Q a w := Code.wp_mono h2 h1
end Go.Proofs.YtlcddcnmoajpjaaGreatDoor
