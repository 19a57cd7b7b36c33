/- Bytes out of a string, one of them set, and back. -/
import Derived.Test.YtlcddcnmoajpjaaGreatDoorV21
namespace Go.Proofs.YtlcddcnmoajpjaaGreatDoor
open Go.RowKit
open Sp (rd)
set_option linter.unusedSimpArgs false
set_option linter.unusedVariables false

theorem bytes_new (x : Bs) (w : World) : ∃ (W : World) (cap : Nat), (convert 9 98 (.string (bs x))).run Tryz.prog w = .ok (.slice (some ⟨w.heap.size, 0, none⟩) x.length cap) W ∧ Ext w W ∧ w.heap.size < W.heap.size ∧
    (∀ j (hj : j < x.length), W.cell? ⟨w.heap.size, j, none⟩ = some (.int .u8 (x[j].toNat : Int))) ∧ (∀ j, j < x.length → W.frozen? ⟨w.heap.size, j, none⟩ = false) := by
  have h := run_bytes_of_string (P := Tryz.prog) w 9 98 5 (bs x) Tryz.underlying9 Tryz.underlying98 Tryz.underlying5
  rw [bs_size] at h
  refine ⟨_, _, h, ((Ext.refl w).drew).alloc _, by simp, fun j hj => ?_, fun j hj => ?_⟩
  · have hd : (bs x).data.size = x.length := bs_size x
    have hb := bytesRow_at (bs x) (grownCap w x.length 0 5) j (by omega)
    have hx : (bs x).data[j]'(by omega) = x[j] := by simp [bs]
    rw [hx] at hb
    rw [← hb]
    exact cell_of_row _ _ _ _ _ _ (heap_alloc_new _ _)
  · have hn := heap_alloc_new w.drew (.cells (bytesRow (bs x) (grownCap w x.length 0 5)) 5 ((bytesRow (bs x) (grownCap w x.length 0 5)).size, (bytesRow (bs x) (grownCap w x.length 0 5)).size + 1))
    have hn' : (w.drew.alloc (.cells (bytesRow (bs x) (grownCap w x.length 0 5)) 5 ((bytesRow (bs x) (grownCap w x.length 0 5)).size, (bytesRow (bs x) (grownCap w x.length 0 5)).size + 1))).heap[w.heap.size]? = _ := hn
    have hsz : x.length ≤ (bytesRow (bs x) (grownCap w x.length 0 5)).size := by
      have hd : (bs x).data.size = x.length := bs_size x
      unfold bytesRow
      simp [hd]
    simp only [World.frozen?, hn']
    simp
    omega
theorem bytes_back (x : Bs) (W : World) (g j cap : Nat) (d : UInt8) (hj : j < x.length) (hc : ∀ k (hk : k < x.length), W.cell? ⟨g, k, none⟩ = some (.int .u8 (x[k].toNat : Int))) :
    (convert 98 9 (.slice (some ⟨g, 0, none⟩) x.length cap)).run Tryz.prog (W.setCell ⟨g, j, none⟩ (.int .u8 (d.toNat : Int))) = .ok (.string (bs (x.set j d))) (W.setCell ⟨g, j, none⟩ (.int .u8 (d.toNat : Int))) := by
  have h := run_convert_bytes_back (P := Tryz.prog) (W.setCell ⟨g, j, none⟩ (.int .u8 (d.toNat : Int))) 98 9 5 ⟨g, 0, none⟩ cap (x.set j d) Tryz.underlying98 Tryz.underlying5 Tryz.underlying9 (fun k hk => by
    rw [List.length_set] at hk
    rw [add0]
    by_cases hkj : k = j
    · subst hkj
      rw [World.cell?_setCell_same _ _ _ (hc k hj)]
      simp
    · rw [World.cell?_setCell_other _ _ _ _ (show (⟨g, j, none⟩ : Addr) ≠ ⟨g, k, none⟩ from fun e => hkj (by injection e with _ e2 _; exact e2.symm)), hc k hk]
      rw [List.getElem_set_ne (fun e => hkj e.symm)])
  rw [List.length_set] at h
  exact h
theorem split_at (x : Bs) (j : Nat) (hj : j < x.length) (d : UInt8) : x = x.take j ++ x[j] :: x.drop (j + 1) ∧ x.set j d = x.take j ++ d :: x.drop (j + 1) := by
  constructor
  · rw [← List.drop_eq_getElem_cons hj, List.take_append_drop]
  · rw [List.set_eq_take_append_cons_drop, if_pos hj]
end Go.Proofs.YtlcddcnmoajpjaaGreatDoor
