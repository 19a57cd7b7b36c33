/- The closed facts of the row of SkyTurned. (Printed by wip/mkclosed.py.) -/
import Derived.Test.YtlcddcnmoajpjaaGreatDoorWords2
namespace Go.Proofs.YtlcddcnmoajpjaaGreatDoor.skyTurned
open Go.ChangeShapes Go.WideShapes Go.ChangeAt Go.RowKit
set_option maxRecDepth 100000
theorem k0 : OpenClaim.wf (OpenSpec.ofChange (OpenSpec.ofChange Rows.skyTurnedSpec).bare) Rows.skyTurnedRow = true := by kernel_rfl
theorem k1 : laidOutB Tryz.prog = true := by kernel_rfl
theorem k2 : mapsRowed Tryz.prog = true := by kernel_rfl
theorem k3 : (Tryz.f12.params.all fun x => Tryz.prog.readableRec x) = true := by kernel_rfl
theorem k4 : namedTie Tryz.prog Rows.skyTurnedRow.named (OpenSpec.ofChange Rows.skyTurnedSpec).bare.vars = true := by kernel_rfl
theorem k5 : (Rows.skyTurnedRow.stops == []) = true := by kernel_rfl
theorem k6 : (Tryz.prog.stops == []) = true := by kernel_rfl
theorem k7 : (Rows.skyTurnedRow.knobs == []) = true := by kernel_rfl
theorem k8 : (Tryz.prog.stopKnobs == []) = true := by kernel_rfl
theorem k9 : (Rows.skyTurnedRow.inPlace == Tryz.prog.inPlace 12) = true := by kernel_rfl
theorem k10 : (Rows.skyTurnedRow.unfollowed == Tryz.prog.unfollowed 12) = true := by kernel_rfl
theorem k11 : (Rows.skyTurnedRow.recurses == Tryz.prog.recurses 12) = true := by kernel_rfl
theorem k12 : (Rows.skyTurnedRow.named == Tryz.prog.varsNamed 12) = true := by kernel_rfl
theorem k13 : (Rows.skyTurnedRow.maps == (Tryz.f12.params.toList ++ DataSpec.varTypes Tryz.prog (OpenSpec.ofChange Rows.skyTurnedSpec).bare.plain).any fun x => Tryz.prog.mapsRec x) = true := by kernel_rfl
theorem k14 : (Rows.skyTurnedRow.ifaces == (Tryz.f12.params.toList ++ DataSpec.varTypes Tryz.prog (OpenSpec.ofChange Rows.skyTurnedSpec).bare.plain).any fun x => Tryz.prog.ifacesRec x) = true := by kernel_rfl
theorem k15 : (Rows.skyTurnedRow.mapsOut == Tryz.prog.mapsAmong Tryz.f12.resultTypes.toList) = true := by kernel_rfl
theorem k16 : (Rows.skyTurnedRow.loops == (Tryz.f12.params.toList ++ DataSpec.varTypes Tryz.prog (OpenSpec.ofChange Rows.skyTurnedSpec).bare.plain).any fun x => Tryz.prog.loopsFrom x) = true := by kernel_rfl
theorem k17 : (Rows.skyTurnedRow.wideKeys == (Tryz.f12.params.toList ++ DataSpec.varTypes Tryz.prog (OpenSpec.ofChange Rows.skyTurnedSpec).bare.plain ++ Tryz.f12.resultTypes.toList).any fun x => Tryz.prog.wideKeysFrom x) = true := by kernel_rfl
theorem k18 : ((OpenSpec.ofChange Rows.skyTurnedSpec).bare.vars.all fun x => Tryz.prog.varReadable x) = true := by kernel_rfl
theorem k19 : (Tryz.f12.resultTypes.all fun t => Tryz.prog.readableRec t && decide (t < Tryz.prog.types.size)) = true := by kernel_rfl
theorem k20 : (Rows.skyTurnedRow.ifacesOut == Tryz.f12.resultTypes.toList.any fun x => Tryz.prog.ifacesRec x) = true := by kernel_rfl
theorem k21 : (Rows.skyTurnedRow.loopsOut == Tryz.f12.resultTypes.toList.any fun x => Tryz.prog.loopsFrom x) = true := by kernel_rfl
theorem k22 : (Rows.skyTurnedRow.plainKeys == Tryz.prog.plainKeys) = true := by kernel_rfl
theorem k23 : Rows.skyTurnedRow.shortTexts.isNone = true := by kernel_rfl
theorem k24 : Tryz.prog.stopsHeard = true := by kernel_rfl
theorem k25 : Tryz.prog.mayEnter = true := may_yes
theorem k26 : (Rows.skyTurnedRow.lifted == Tryz.prog.liftsFinal) = true := by rw [lifts_no]; rfl
theorem k27 : (Tryz.prog.make == some Rows.skyTurnedRow.make) = true := by rw [make_cut]; rfl
theorem k28 : (Rows.skyTurnedRow.kinds == if Rows.skyTurnedRow.domain.isEmpty = true then [] else List.map (fun t => match Tryz.prog.underlying t with | some (TypeDesc.int k) => some k | _ => none) Tryz.f12.params.toList) = true := by kernel_rfl
theorem k29 : (Rows.skyTurnedRow.pinned == Rows.skyTurnedRow.pinnedBy) = true := by kernel_rfl
theorem k30 : (Rows.skyTurnedRow.veiled == (Tryz.f12.params.toList ++ DataSpec.varTypes Tryz.prog (OpenSpec.ofChange Rows.skyTurnedSpec).bare.plain ++ Tryz.f12.resultTypes.toList).any fun x => Tryz.prog.veiledRec x) = true := by kernel_rfl
theorem k31 : Rows.skyTurnedRow.veiledFits Tryz.prog Tryz.f12.params.toList (Tryz.f12.params.toList ++ DataSpec.varTypes Tryz.prog (OpenSpec.ofChange Rows.skyTurnedSpec).bare.plain ++ Tryz.f12.resultTypes.toList) = true := by kernel_rfl
theorem closed : joinedFacts Tryz.prog 12 Tryz.f12 (OpenSpec.ofChange Rows.skyTurnedSpec).bare Rows.skyTurnedRow = true := by
  unfold joinedFacts
  simp only [Bool.and_eq_true]
  exact ⟨⟨⟨⟨⟨⟨⟨⟨⟨⟨⟨⟨⟨⟨⟨⟨⟨⟨⟨⟨⟨⟨⟨⟨⟨⟨⟨⟨⟨⟨⟨k0, k1⟩, k2⟩, k3⟩, k4⟩, k5⟩, k6⟩, k7⟩, k8⟩, k9⟩, k10⟩, k11⟩, k12⟩, k13⟩, k14⟩, k15⟩, k16⟩, k17⟩, k18⟩, k19⟩, k20⟩, k21⟩, k22⟩, k23⟩, k24⟩, k25⟩, k26⟩, k27⟩, k28⟩, k29⟩, k30⟩, k31⟩
theorem wf_text : Rows.skyTurnedRow.wfByText (OpenSpec.ofChange Rows.skyTurnedSpec) = true := by kernel_rfl
theorem goes_no : false = Rows.skyTurnedRow.goesBy Tryz.prog := by kernel_rfl
end Go.Proofs.YtlcddcnmoajpjaaGreatDoor.skyTurned
