/- Who holds the program: the harness and its sum, by the head words. -/
import Derived.Test.YtlcddcnmoajpjaaGreatDoorV21
namespace Go.Proofs.YtlcddcnmoajpjaaGreatDoor
open Go
set_option maxRecDepth 100000
theorem main_of {P : Program} {s : List Char} {r : List (List Char)} (h : wordsSigns P.initOrder.toList = "harness".toList :: s :: r) (hs : isSumSigns s = true) : P.mainIs = some (true, s) := by
  unfold Program.mainIs
  rw [h]
  show (if (!isSumSigns s) = true then none else if ("harness".toList == "harness".toList) = true then some (true, s) else _) = some (true, s)
  rw [hs, if_neg (by decide), if_pos (beq_self_eq_true _)]
theorem main_is : Tryz.prog.mainIs = some (true, "24726bc524473073bf03be47ef6a8c31fdf41f59a4ac5aff40414c94ace79ea9".toList) := by
  obtain ⟨r, h⟩ := io_words
  exact main_of h sumSigns
end Go.Proofs.YtlcddcnmoajpjaaGreatDoor
