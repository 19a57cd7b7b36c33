/- The closed facts of the row of EclipseReads. (Printed by wip/mkclosed.py.) -/
import Derived.Test.YtfkcbgehcbhjnaaGreatDoorH13
namespace Go.Proofs.YtfkcbgehcbhjnaaGreatDoor.eclipseReads
open Go.ChangeShapes Go.WideShapes Go.ChangeAt Go.RowKit
set_option maxRecDepth 100000
theorem k0 : OpenClaim.wf (OpenSpec.ofChange (OpenSpec.ofChange Rows.eclipseReadsSpec).bare) Rows.eclipseReadsRow = true := by kernel_rfl
theorem k1 : laidOutB Tryz.prog = true := by kernel_rfl
theorem k2 : mapsRowed Tryz.prog = true := by kernel_rfl
theorem k3 : (Tryz.f4.params.all fun x => Tryz.prog.readableRec x) = true := by kernel_rfl
theorem k4 : namedTie Tryz.prog Rows.eclipseReadsRow.named (OpenSpec.ofChange Rows.eclipseReadsSpec).bare.vars = true := by kernel_rfl
theorem k5 : (Rows.eclipseReadsRow.stops == []) = true := by kernel_rfl
theorem k6 : (Tryz.prog.stops == []) = true := by kernel_rfl
theorem k7 : (Rows.eclipseReadsRow.knobs == []) = true := by kernel_rfl
theorem k8 : (Tryz.prog.stopKnobs == []) = true := by kernel_rfl
theorem k9 : (Rows.eclipseReadsRow.inPlace == Tryz.prog.inPlace 4) = true := by kernel_rfl
theorem k10 : (Rows.eclipseReadsRow.unfollowed == Tryz.prog.unfollowed 4) = true := by kernel_rfl
theorem k11 : (Rows.eclipseReadsRow.recurses == Tryz.prog.recurses 4) = true := by kernel_rfl
theorem k12 : (Rows.eclipseReadsRow.named == Tryz.prog.varsNamed 4) = true := by kernel_rfl
theorem k13 : (Rows.eclipseReadsRow.maps == (Tryz.f4.params.toList ++ DataSpec.varTypes Tryz.prog (OpenSpec.ofChange Rows.eclipseReadsSpec).bare.plain).any fun x => Tryz.prog.mapsRec x) = true := by kernel_rfl
theorem k14 : (Rows.eclipseReadsRow.ifaces == (Tryz.f4.params.toList ++ DataSpec.varTypes Tryz.prog (OpenSpec.ofChange Rows.eclipseReadsSpec).bare.plain).any fun x => Tryz.prog.ifacesRec x) = true := by kernel_rfl
theorem k15 : (Rows.eclipseReadsRow.mapsOut == Tryz.prog.mapsAmong Tryz.f4.resultTypes.toList) = true := by kernel_rfl
theorem k16 : (Rows.eclipseReadsRow.loops == (Tryz.f4.params.toList ++ DataSpec.varTypes Tryz.prog (OpenSpec.ofChange Rows.eclipseReadsSpec).bare.plain).any fun x => Tryz.prog.loopsFrom x) = true := by kernel_rfl
theorem k17 : (Rows.eclipseReadsRow.wideKeys == (Tryz.f4.params.toList ++ DataSpec.varTypes Tryz.prog (OpenSpec.ofChange Rows.eclipseReadsSpec).bare.plain ++ Tryz.f4.resultTypes.toList).any fun x => Tryz.prog.wideKeysFrom x) = true := by kernel_rfl
theorem k18 : ((OpenSpec.ofChange Rows.eclipseReadsSpec).bare.vars.all fun x => Tryz.prog.varReadable x) = true := by kernel_rfl
theorem k19 : (Tryz.f4.resultTypes.all fun t => Tryz.prog.readableRec t && decide (t < Tryz.prog.types.size)) = true := by kernel_rfl
theorem k20 : (Rows.eclipseReadsRow.ifacesOut == Tryz.f4.resultTypes.toList.any fun x => Tryz.prog.ifacesRec x) = true := by kernel_rfl
theorem k21 : (Rows.eclipseReadsRow.loopsOut == Tryz.f4.resultTypes.toList.any fun x => Tryz.prog.loopsFrom x) = true := by kernel_rfl
theorem k22 : (Rows.eclipseReadsRow.plainKeys == Tryz.prog.plainKeys) = true := by kernel_rfl
theorem k23 : Rows.eclipseReadsRow.shortTexts.isNone = true := by kernel_rfl
theorem k24 : Tryz.prog.stopsHeard = true := by kernel_rfl
theorem k25 : Tryz.prog.mayEnter = true := may_yes
theorem k26 : (Rows.eclipseReadsRow.lifted == Tryz.prog.liftsFinal) = true := by rw [lifts_no]; rfl
theorem k27 : (Tryz.prog.make == some Rows.eclipseReadsRow.make) = true := by rw [make_cut]; rfl
theorem k28 : (Rows.eclipseReadsRow.kinds == if Rows.eclipseReadsRow.domain.isEmpty = true then [] else List.map (fun t => match Tryz.prog.underlying t with | some (TypeDesc.int k) => some k | _ => none) Tryz.f4.params.toList) = true := by kernel_rfl
theorem k29 : (Rows.eclipseReadsRow.pinned == Rows.eclipseReadsRow.pinnedBy) = true := by kernel_rfl
theorem k30 : (Rows.eclipseReadsRow.veiled == (Tryz.f4.params.toList ++ DataSpec.varTypes Tryz.prog (OpenSpec.ofChange Rows.eclipseReadsSpec).bare.plain ++ Tryz.f4.resultTypes.toList).any fun x => Tryz.prog.veiledRec x) = true := by kernel_rfl
theorem k31 : Rows.eclipseReadsRow.veiledFits Tryz.prog Tryz.f4.params.toList (Tryz.f4.params.toList ++ DataSpec.varTypes Tryz.prog (OpenSpec.ofChange Rows.eclipseReadsSpec).bare.plain ++ Tryz.f4.resultTypes.toList) = true := by kernel_rfl
theorem closed : joinedFacts Tryz.prog 4 Tryz.f4 (OpenSpec.ofChange Rows.eclipseReadsSpec).bare Rows.eclipseReadsRow = true := by
  unfold joinedFacts
  simp only [Bool.and_eq_true]
  exact ⟨⟨⟨⟨⟨⟨⟨⟨⟨⟨⟨⟨⟨⟨⟨⟨⟨⟨⟨⟨⟨⟨⟨⟨⟨⟨⟨⟨⟨⟨⟨k0, k1⟩, k2⟩, k3⟩, k4⟩, k5⟩, k6⟩, k7⟩, k8⟩, k9⟩, k10⟩, k11⟩, k12⟩, k13⟩, k14⟩, k15⟩, k16⟩, k17⟩, k18⟩, k19⟩, k20⟩, k21⟩, k22⟩, k23⟩, k24⟩, k25⟩, k26⟩, k27⟩, k28⟩, k29⟩, k30⟩, k31⟩
theorem wf_text : Rows.eclipseReadsRow.wfByText (OpenSpec.ofChange Rows.eclipseReadsSpec) = true := by kernel_rfl
theorem goes_no : false = Rows.eclipseReadsRow.goesBy Tryz.prog := by kernel_rfl
end Go.Proofs.YtfkcbgehcbhjnaaGreatDoor.eclipseReads
