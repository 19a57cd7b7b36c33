/- The closed facts of the row of EclipsePrints. (Printed by wip/mkclosed.py.) -/
import Derived.Test.YtfkcbgehcbhjnaaGreatDoorH13
namespace Go.Proofs.YtfkcbgehcbhjnaaGreatDoor.eclipsePrints
open Go.ChangeShapes Go.WideShapes Go.ChangeAt Go.RowKit
set_option maxRecDepth 100000
theorem k0 : OpenClaim.wf (OpenSpec.ofChange (OpenSpec.ofChange Rows.eclipsePrintsSpec).bare) Rows.eclipsePrintsRow = true := by kernel_rfl
theorem k1 : laidOutB Tryz.prog = true := by kernel_rfl
theorem k2 : mapsRowed Tryz.prog = true := by kernel_rfl
theorem k3 : (Tryz.f3.params.all fun x => Tryz.prog.readableRec x) = true := by kernel_rfl
theorem k4 : namedTie Tryz.prog Rows.eclipsePrintsRow.named (OpenSpec.ofChange Rows.eclipsePrintsSpec).bare.vars = true := by kernel_rfl
theorem k5 : (Rows.eclipsePrintsRow.stops == []) = true := by kernel_rfl
theorem k6 : (Tryz.prog.stops == []) = true := by kernel_rfl
theorem k7 : (Rows.eclipsePrintsRow.knobs == []) = true := by kernel_rfl
theorem k8 : (Tryz.prog.stopKnobs == []) = true := by kernel_rfl
theorem k9 : (Rows.eclipsePrintsRow.inPlace == Tryz.prog.inPlace 3) = true := by kernel_rfl
theorem k10 : (Rows.eclipsePrintsRow.unfollowed == Tryz.prog.unfollowed 3) = true := by kernel_rfl
theorem k11 : (Rows.eclipsePrintsRow.recurses == Tryz.prog.recurses 3) = true := by kernel_rfl
theorem k12 : (Rows.eclipsePrintsRow.named == Tryz.prog.varsNamed 3) = true := by kernel_rfl
theorem k13 : (Rows.eclipsePrintsRow.maps == (Tryz.f3.params.toList ++ DataSpec.varTypes Tryz.prog (OpenSpec.ofChange Rows.eclipsePrintsSpec).bare.plain).any fun x => Tryz.prog.mapsRec x) = true := by kernel_rfl
theorem k14 : (Rows.eclipsePrintsRow.ifaces == (Tryz.f3.params.toList ++ DataSpec.varTypes Tryz.prog (OpenSpec.ofChange Rows.eclipsePrintsSpec).bare.plain).any fun x => Tryz.prog.ifacesRec x) = true := by kernel_rfl
theorem k15 : (Rows.eclipsePrintsRow.mapsOut == Tryz.prog.mapsAmong Tryz.f3.resultTypes.toList) = true := by kernel_rfl
theorem k16 : (Rows.eclipsePrintsRow.loops == (Tryz.f3.params.toList ++ DataSpec.varTypes Tryz.prog (OpenSpec.ofChange Rows.eclipsePrintsSpec).bare.plain).any fun x => Tryz.prog.loopsFrom x) = true := by kernel_rfl
theorem k17 : (Rows.eclipsePrintsRow.wideKeys == (Tryz.f3.params.toList ++ DataSpec.varTypes Tryz.prog (OpenSpec.ofChange Rows.eclipsePrintsSpec).bare.plain ++ Tryz.f3.resultTypes.toList).any fun x => Tryz.prog.wideKeysFrom x) = true := by kernel_rfl
theorem k18 : ((OpenSpec.ofChange Rows.eclipsePrintsSpec).bare.vars.all fun x => Tryz.prog.varReadable x) = true := by kernel_rfl
theorem k19 : (Tryz.f3.resultTypes.all fun t => Tryz.prog.readableRec t && decide (t < Tryz.prog.types.size)) = true := by kernel_rfl
theorem k20 : (Rows.eclipsePrintsRow.ifacesOut == Tryz.f3.resultTypes.toList.any fun x => Tryz.prog.ifacesRec x) = true := by kernel_rfl
theorem k21 : (Rows.eclipsePrintsRow.loopsOut == Tryz.f3.resultTypes.toList.any fun x => Tryz.prog.loopsFrom x) = true := by kernel_rfl
theorem k22 : (Rows.eclipsePrintsRow.plainKeys == Tryz.prog.plainKeys) = true := by kernel_rfl
theorem k23 : Rows.eclipsePrintsRow.shortTexts.isNone = true := by kernel_rfl
theorem k24 : Tryz.prog.stopsHeard = true := by kernel_rfl
theorem k25 : Tryz.prog.mayEnter = true := may_yes
theorem k26 : (Rows.eclipsePrintsRow.lifted == Tryz.prog.liftsFinal) = true := by rw [lifts_no]; rfl
theorem k27 : (Tryz.prog.make == some Rows.eclipsePrintsRow.make) = true := by rw [make_cut]; rfl
theorem k28 : (Rows.eclipsePrintsRow.kinds == if Rows.eclipsePrintsRow.domain.isEmpty = true then [] else List.map (fun t => match Tryz.prog.underlying t with | some (TypeDesc.int k) => some k | _ => none) Tryz.f3.params.toList) = true := by kernel_rfl
theorem k29 : (Rows.eclipsePrintsRow.pinned == Rows.eclipsePrintsRow.pinnedBy) = true := by kernel_rfl
theorem k30 : (Rows.eclipsePrintsRow.veiled == (Tryz.f3.params.toList ++ DataSpec.varTypes Tryz.prog (OpenSpec.ofChange Rows.eclipsePrintsSpec).bare.plain ++ Tryz.f3.resultTypes.toList).any fun x => Tryz.prog.veiledRec x) = true := by kernel_rfl
theorem k31 : Rows.eclipsePrintsRow.veiledFits Tryz.prog Tryz.f3.params.toList (Tryz.f3.params.toList ++ DataSpec.varTypes Tryz.prog (OpenSpec.ofChange Rows.eclipsePrintsSpec).bare.plain ++ Tryz.f3.resultTypes.toList) = true := by kernel_rfl
theorem closed : joinedFacts Tryz.prog 3 Tryz.f3 (OpenSpec.ofChange Rows.eclipsePrintsSpec).bare Rows.eclipsePrintsRow = true := by
  unfold joinedFacts
  simp only [Bool.and_eq_true]
  exact ⟨⟨⟨⟨⟨⟨⟨⟨⟨⟨⟨⟨⟨⟨⟨⟨⟨⟨⟨⟨⟨⟨⟨⟨⟨⟨⟨⟨⟨⟨⟨k0, k1⟩, k2⟩, k3⟩, k4⟩, k5⟩, k6⟩, k7⟩, k8⟩, k9⟩, k10⟩, k11⟩, k12⟩, k13⟩, k14⟩, k15⟩, k16⟩, k17⟩, k18⟩, k19⟩, k20⟩, k21⟩, k22⟩, k23⟩, k24⟩, k25⟩, k26⟩, k27⟩, k28⟩, k29⟩, k30⟩, k31⟩
theorem wf_text : Rows.eclipsePrintsRow.wfByText (OpenSpec.ofChange Rows.eclipsePrintsSpec) = true := by kernel_rfl
theorem goes_no : false = Rows.eclipsePrintsRow.goesBy Tryz.prog := by kernel_rfl
end Go.Proofs.YtfkcbgehcbhjnaaGreatDoor.eclipsePrints
