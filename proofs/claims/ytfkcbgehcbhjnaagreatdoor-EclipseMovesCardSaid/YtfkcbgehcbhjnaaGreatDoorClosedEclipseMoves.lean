/- The closed facts of the row of EclipseMoves. (Printed by wip/mkclosed.py.) -/
import Derived.Test.YtfkcbgehcbhjnaaGreatDoorH13
namespace Go.Proofs.YtfkcbgehcbhjnaaGreatDoor.eclipseMoves
open Go.ChangeShapes Go.WideShapes Go.ChangeAt Go.RowKit
set_option maxRecDepth 100000
theorem k0 : OpenClaim.wf (OpenSpec.ofChange (OpenSpec.ofChange Rows.eclipseMovesSpec).bare) Rows.eclipseMovesRow = true := by kernel_rfl
theorem k1 : laidOutB Tryz.prog = true := by kernel_rfl
theorem k2 : mapsRowed Tryz.prog = true := by kernel_rfl
theorem k3 : (Tryz.f9.params.all fun x => Tryz.prog.readableRec x) = true := by kernel_rfl
theorem k4 : namedTie Tryz.prog Rows.eclipseMovesRow.named (OpenSpec.ofChange Rows.eclipseMovesSpec).bare.vars = true := by kernel_rfl
theorem k5 : (Rows.eclipseMovesRow.stops == []) = true := by kernel_rfl
theorem k6 : (Tryz.prog.stops == []) = true := by kernel_rfl
theorem k7 : (Rows.eclipseMovesRow.knobs == []) = true := by kernel_rfl
theorem k8 : (Tryz.prog.stopKnobs == []) = true := by kernel_rfl
theorem k9 : (Rows.eclipseMovesRow.inPlace == Tryz.prog.inPlace 9) = true := by kernel_rfl
theorem k10 : (Rows.eclipseMovesRow.unfollowed == Tryz.prog.unfollowed 9) = true := by kernel_rfl
theorem k11 : (Rows.eclipseMovesRow.recurses == Tryz.prog.recurses 9) = true := by kernel_rfl
theorem k12 : (Rows.eclipseMovesRow.named == Tryz.prog.varsNamed 9) = true := by kernel_rfl
theorem k13 : (Rows.eclipseMovesRow.maps == (Tryz.f9.params.toList ++ DataSpec.varTypes Tryz.prog (OpenSpec.ofChange Rows.eclipseMovesSpec).bare.plain).any fun x => Tryz.prog.mapsRec x) = true := by kernel_rfl
theorem k14 : (Rows.eclipseMovesRow.ifaces == (Tryz.f9.params.toList ++ DataSpec.varTypes Tryz.prog (OpenSpec.ofChange Rows.eclipseMovesSpec).bare.plain).any fun x => Tryz.prog.ifacesRec x) = true := by kernel_rfl
theorem k15 : (Rows.eclipseMovesRow.mapsOut == Tryz.prog.mapsAmong Tryz.f9.resultTypes.toList) = true := by kernel_rfl
theorem k16 : (Rows.eclipseMovesRow.loops == (Tryz.f9.params.toList ++ DataSpec.varTypes Tryz.prog (OpenSpec.ofChange Rows.eclipseMovesSpec).bare.plain).any fun x => Tryz.prog.loopsFrom x) = true := by kernel_rfl
theorem k17 : (Rows.eclipseMovesRow.wideKeys == (Tryz.f9.params.toList ++ DataSpec.varTypes Tryz.prog (OpenSpec.ofChange Rows.eclipseMovesSpec).bare.plain ++ Tryz.f9.resultTypes.toList).any fun x => Tryz.prog.wideKeysFrom x) = true := by kernel_rfl
theorem k18 : ((OpenSpec.ofChange Rows.eclipseMovesSpec).bare.vars.all fun x => Tryz.prog.varReadable x) = true := by kernel_rfl
theorem k19 : (Tryz.f9.resultTypes.all fun t => Tryz.prog.readableRec t && decide (t < Tryz.prog.types.size)) = true := by kernel_rfl
theorem k20 : (Rows.eclipseMovesRow.ifacesOut == Tryz.f9.resultTypes.toList.any fun x => Tryz.prog.ifacesRec x) = true := by kernel_rfl
theorem k21 : (Rows.eclipseMovesRow.loopsOut == Tryz.f9.resultTypes.toList.any fun x => Tryz.prog.loopsFrom x) = true := by kernel_rfl
theorem k22 : (Rows.eclipseMovesRow.plainKeys == Tryz.prog.plainKeys) = true := by kernel_rfl
theorem k23 : Rows.eclipseMovesRow.shortTexts.isNone = true := by kernel_rfl
theorem k24 : Tryz.prog.stopsHeard = true := by kernel_rfl
theorem k25 : Tryz.prog.mayEnter = true := may_yes
theorem k26 : (Rows.eclipseMovesRow.lifted == Tryz.prog.liftsFinal) = true := by rw [lifts_no]; rfl
theorem k27 : (Tryz.prog.make == some Rows.eclipseMovesRow.make) = true := by rw [make_cut]; rfl
theorem k28 : (Rows.eclipseMovesRow.kinds == if Rows.eclipseMovesRow.domain.isEmpty = true then [] else List.map (fun t => match Tryz.prog.underlying t with | some (TypeDesc.int k) => some k | _ => none) Tryz.f9.params.toList) = true := by kernel_rfl
theorem k29 : (Rows.eclipseMovesRow.pinned == Rows.eclipseMovesRow.pinnedBy) = true := by kernel_rfl
theorem k30 : (Rows.eclipseMovesRow.veiled == (Tryz.f9.params.toList ++ DataSpec.varTypes Tryz.prog (OpenSpec.ofChange Rows.eclipseMovesSpec).bare.plain ++ Tryz.f9.resultTypes.toList).any fun x => Tryz.prog.veiledRec x) = true := by kernel_rfl
theorem k31 : Rows.eclipseMovesRow.veiledFits Tryz.prog Tryz.f9.params.toList (Tryz.f9.params.toList ++ DataSpec.varTypes Tryz.prog (OpenSpec.ofChange Rows.eclipseMovesSpec).bare.plain ++ Tryz.f9.resultTypes.toList) = true := by kernel_rfl
theorem closed : joinedFacts Tryz.prog 9 Tryz.f9 (OpenSpec.ofChange Rows.eclipseMovesSpec).bare Rows.eclipseMovesRow = true := by
  unfold joinedFacts
  simp only [Bool.and_eq_true]
  exact ⟨⟨⟨⟨⟨⟨⟨⟨⟨⟨⟨⟨⟨⟨⟨⟨⟨⟨⟨⟨⟨⟨⟨⟨⟨⟨⟨⟨⟨⟨⟨k0, k1⟩, k2⟩, k3⟩, k4⟩, k5⟩, k6⟩, k7⟩, k8⟩, k9⟩, k10⟩, k11⟩, k12⟩, k13⟩, k14⟩, k15⟩, k16⟩, k17⟩, k18⟩, k19⟩, k20⟩, k21⟩, k22⟩, k23⟩, k24⟩, k25⟩, k26⟩, k27⟩, k28⟩, k29⟩, k30⟩, k31⟩
theorem wf_text : Rows.eclipseMovesRow.wfByText (OpenSpec.ofChange Rows.eclipseMovesSpec) = true := by kernel_rfl
theorem goes_no : false = Rows.eclipseMovesRow.goesBy Tryz.prog := by kernel_rfl
end Go.Proofs.YtfkcbgehcbhjnaaGreatDoor.eclipseMoves
