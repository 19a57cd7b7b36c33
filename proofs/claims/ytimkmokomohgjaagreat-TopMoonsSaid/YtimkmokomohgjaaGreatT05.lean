/- Volume 5 of the texts that the laws of this seat use: TpS: walks of the program's functions, and plain laws. -/
import Derived.Carry
import Derived.Test.YtimkmokomohgjaaGreatT03
namespace Go.Proofs.YtimkmokomohgjaaGreat
open Go.RowKit
open Sp (rd)
set_option maxRecDepth 100000
set_option linter.unusedVariables false
def skyS : Sp.Sky := ⟨[⟨360, 1, 0, [0]⟩, ⟨27, 1, 0, [0, 300, 0, -300]⟩], 6000, 1, 1000⟩
theorem bodyAt_row {w : World} {g o h c : Nat} {t u : TypeId} {cs rs : Array Value} {B : Sp.Body} (h1 : Row w g t cs) (h2 : Row w h u rs) (c0 : cs[o]? = some (.int .i64 B.num)) (c1 : cs[o + 1]? = some (.int .i64 B.den)) (c2 : cs[o + 2]? = some (.int .i64 B.start))
    (c3 : cs[o + 3]? = some (.slice (some ⟨h, 0, none⟩) B.road.length c)) (hr : ∀ k, k < B.road.length → rs[k]? = some (.int .i64 (rd B.road k))) : BodyAt w g o B :=
  ⟨(h1.cell _).trans c0, (h1.cell _).trans c1, (h1.cell _).trans c2, _, _, (h1.cell _).trans c3, fun _ => ⟨h, 0, rfl, fun k hk => by rw [Nat.zero_add]; exact (h2.cell _).trans (hr k hk)⟩⟩
theorem l_S_any (w : World) : Calls Tryz.prog 38 #[] w fun e w' => ∃ A c, e = .returned (.agg #[.slice A 2 c, .int .i64 6000, .int .i64 1, .int .i64 1000]) ∧ Bodies w' A skyS.bodies ∧ Ext w w' := by
  go_enter Tryz.func38, Tryz.ntmps38
  go_wp2_with fail
  obtain ⟨b1, b2, b3, b4⟩ := blocks4 w (.cells #[.slice (some ⟨w.heap.size + 1 + 1 + 1, 0, none⟩) 2 2, .int .i64 6000, .int .i64 1, .int .i64 1000] 28) (.cells #[.int .i64 0] 3) (.cells #[.int .i64 0, .int .i64 300, .int .i64 0, .int .i64 (-300)] 3)
    (.cells #[.int .i64 360, .int .i64 1, .int .i64 0, .slice (some ⟨w.heap.size + 1, 0, none⟩) 1 1, .int .i64 27, .int .i64 1, .int .i64 0, .slice (some ⟨w.heap.size + 1 + 1, 0, none⟩) 4 4] 72)
  refine bodyPost_ret (results_cell_row rfl _ _ w.heap.size 28 _ (0, 0) _ rfl b1 Tryz.underlying28 rfl (by kernel_rfl)) rfl ?_
  refine ⟨_, _, rfl, fun _ => ⟨w.heap.size + 1 + 1 + 1, 0, rfl, fun k hk => ?_⟩, ((((Ext.refl w).alloc _).alloc _).alloc _).alloc _⟩
  match k, hk with
  | 0, _ => exact bodyAt_row (c := 1) b4 b2 rfl rfl rfl rfl (fun k hk => by match k, hk with | 0, _ => rfl)
  | 1, _ => exact bodyAt_row (c := 4) b4 b3 rfl rfl rfl rfl (fun k hk => by match k, hk with | 0, _ => rfl | 1, _ => rfl | 2, _ => rfl | 3, _ => rfl)
  | n + 2, h => exact absurd h (by simp [skyS])
theorem skyS_ok : Sp.skyOk skyS = true := by decide +kernel
theorem skyS_next : Sp.nextO skyS 1 false = some 30 := by decide +kernel
theorem skyS_Next (A : Option Addr) (c : Nat) (w : World) (h : Bodies w A skyS.bodies) :
    Calls Tryz.prog 11 #[.agg #[.slice A 2 c, .int .i64 6000, .int .i64 1, .int .i64 1000], .int .i64 1, .bool false] w fun e w' => e = .returned (.tuple #[.int .i64 30, .int .i64 0]) ∧ Ext w w' := by
  have := Next_ok0 skyS A c 1 false w h ⟨by decide, fun k hk => by
    have hk2 : k < 2 := hk
    rcases (show k = 0 ∨ k = 1 by omega) with rfl | rfl <;> decide⟩ skyS_ok (by decide) (Int.le_refl _)
  unfold nextV at this
  rw [skyS_next] at this
  exact this
end Go.Proofs.YtimkmokomohgjaaGreat
