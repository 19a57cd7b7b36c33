/- The closed facts of the row of EclipseLines. (Printed by wip/mkclosed.py.) -/
import Derived.Test.YtfkcbgehcbhjnaaGreatDoorH13
namespace Go.Proofs.YtfkcbgehcbhjnaaGreatDoor.eclipseLines
open Go.ChangeShapes Go.WideShapes Go.ChangeAt Go.RowKit
set_option maxRecDepth 100000
theorem k0 : OpenClaim.wf (OpenSpec.ofChange (OpenSpec.ofChange Rows.eclipseLinesSpec).bare) Rows.eclipseLinesRow = true := by kernel_rfl
theorem k1 : laidOutB Tryz.prog = true := by kernel_rfl
theorem k2 : mapsRowed Tryz.prog = true := by kernel_rfl
theorem k3 : (Tryz.f7.params.all fun x => Tryz.prog.readableRec x) = true := by kernel_rfl
theorem k4 : namedTie Tryz.prog Rows.eclipseLinesRow.named (OpenSpec.ofChange Rows.eclipseLinesSpec).bare.vars = true := by kernel_rfl
theorem k5 : (Rows.eclipseLinesRow.stops == []) = true := by kernel_rfl
theorem k6 : (Tryz.prog.stops == []) = true := by kernel_rfl
theorem k7 : (Rows.eclipseLinesRow.knobs == []) = true := by kernel_rfl
theorem k8 : (Tryz.prog.stopKnobs == []) = true := by kernel_rfl
theorem k9 : (Rows.eclipseLinesRow.inPlace == Tryz.prog.inPlace 7) = true := by kernel_rfl
theorem k10 : (Rows.eclipseLinesRow.unfollowed == Tryz.prog.unfollowed 7) = true := by kernel_rfl
theorem k11 : (Rows.eclipseLinesRow.recurses == Tryz.prog.recurses 7) = true := by kernel_rfl
theorem k12 : (Rows.eclipseLinesRow.named == Tryz.prog.varsNamed 7) = true := by kernel_rfl
theorem k13 : (Rows.eclipseLinesRow.maps == (Tryz.f7.params.toList ++ DataSpec.varTypes Tryz.prog (OpenSpec.ofChange Rows.eclipseLinesSpec).bare.plain).any fun x => Tryz.prog.mapsRec x) = true := by kernel_rfl
theorem k14 : (Rows.eclipseLinesRow.ifaces == (Tryz.f7.params.toList ++ DataSpec.varTypes Tryz.prog (OpenSpec.ofChange Rows.eclipseLinesSpec).bare.plain).any fun x => Tryz.prog.ifacesRec x) = true := by kernel_rfl
theorem k15 : (Rows.eclipseLinesRow.mapsOut == Tryz.prog.mapsAmong Tryz.f7.resultTypes.toList) = true := by kernel_rfl
theorem k16 : (Rows.eclipseLinesRow.loops == (Tryz.f7.params.toList ++ DataSpec.varTypes Tryz.prog (OpenSpec.ofChange Rows.eclipseLinesSpec).bare.plain).any fun x => Tryz.prog.loopsFrom x) = true := by kernel_rfl
theorem k17 : (Rows.eclipseLinesRow.wideKeys == (Tryz.f7.params.toList ++ DataSpec.varTypes Tryz.prog (OpenSpec.ofChange Rows.eclipseLinesSpec).bare.plain ++ Tryz.f7.resultTypes.toList).any fun x => Tryz.prog.wideKeysFrom x) = true := by kernel_rfl
theorem k18 : ((OpenSpec.ofChange Rows.eclipseLinesSpec).bare.vars.all fun x => Tryz.prog.varReadable x) = true := by kernel_rfl
theorem k19 : (Tryz.f7.resultTypes.all fun t => Tryz.prog.readableRec t && decide (t < Tryz.prog.types.size)) = true := by kernel_rfl
theorem k20 : (Rows.eclipseLinesRow.ifacesOut == Tryz.f7.resultTypes.toList.any fun x => Tryz.prog.ifacesRec x) = true := by kernel_rfl
theorem k21 : (Rows.eclipseLinesRow.loopsOut == Tryz.f7.resultTypes.toList.any fun x => Tryz.prog.loopsFrom x) = true := by kernel_rfl
theorem k22 : (Rows.eclipseLinesRow.plainKeys == Tryz.prog.plainKeys) = true := by kernel_rfl
theorem k23 : Rows.eclipseLinesRow.shortTexts.isNone = true := by kernel_rfl
theorem k24 : Tryz.prog.stopsHeard = true := by kernel_rfl
theorem k25 : Tryz.prog.mayEnter = true := may_yes
theorem k26 : (Rows.eclipseLinesRow.lifted == Tryz.prog.liftsFinal) = true := by rw [lifts_no]; rfl
theorem k27 : (Tryz.prog.make == some Rows.eclipseLinesRow.make) = true := by rw [make_cut]; rfl
theorem k28 : (Rows.eclipseLinesRow.kinds == if Rows.eclipseLinesRow.domain.isEmpty = true then [] else List.map (fun t => match Tryz.prog.underlying t with | some (TypeDesc.int k) => some k | _ => none) Tryz.f7.params.toList) = true := by kernel_rfl
theorem k29 : (Rows.eclipseLinesRow.pinned == Rows.eclipseLinesRow.pinnedBy) = true := by kernel_rfl
theorem k30 : (Rows.eclipseLinesRow.veiled == (Tryz.f7.params.toList ++ DataSpec.varTypes Tryz.prog (OpenSpec.ofChange Rows.eclipseLinesSpec).bare.plain ++ Tryz.f7.resultTypes.toList).any fun x => Tryz.prog.veiledRec x) = true := by kernel_rfl
theorem k31 : Rows.eclipseLinesRow.veiledFits Tryz.prog Tryz.f7.params.toList (Tryz.f7.params.toList ++ DataSpec.varTypes Tryz.prog (OpenSpec.ofChange Rows.eclipseLinesSpec).bare.plain ++ Tryz.f7.resultTypes.toList) = true := by kernel_rfl
theorem closed : joinedFacts Tryz.prog 7 Tryz.f7 (OpenSpec.ofChange Rows.eclipseLinesSpec).bare Rows.eclipseLinesRow = true := by
  unfold joinedFacts
  simp only [Bool.and_eq_true]
  exact ⟨⟨⟨⟨⟨⟨⟨⟨⟨⟨⟨⟨⟨⟨⟨⟨⟨⟨⟨⟨⟨⟨⟨⟨⟨⟨⟨⟨⟨⟨⟨k0, k1⟩, k2⟩, k3⟩, k4⟩, k5⟩, k6⟩, k7⟩, k8⟩, k9⟩, k10⟩, k11⟩, k12⟩, k13⟩, k14⟩, k15⟩, k16⟩, k17⟩, k18⟩, k19⟩, k20⟩, k21⟩, k22⟩, k23⟩, k24⟩, k25⟩, k26⟩, k27⟩, k28⟩, k29⟩, k30⟩, k31⟩
theorem wf_text : Rows.eclipseLinesRow.wfByText (OpenSpec.ofChange Rows.eclipseLinesSpec) = true := by kernel_rfl
theorem goes_no : false = Rows.eclipseLinesRow.goesBy Tryz.prog := by kernel_rfl
end Go.Proofs.YtfkcbgehcbhjnaaGreatDoor.eclipseLines
