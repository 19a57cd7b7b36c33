/- The closed facts of the row of SkyReads. (Printed by wip/mkclosed.py.) -/
import Derived.Test.YtlcddcnmoajpjaaGreatDoorWords2
namespace Go.Proofs.YtlcddcnmoajpjaaGreatDoor.skyReads
open Go.ChangeShapes Go.WideShapes Go.ChangeAt Go.RowKit
set_option maxRecDepth 100000
theorem k0 : OpenClaim.wf (OpenSpec.ofChange (OpenSpec.ofChange Rows.skyReadsSpec).bare) Rows.skyReadsRow = true := by kernel_rfl
theorem k1 : laidOutB Tryz.prog = true := by kernel_rfl
theorem k2 : mapsRowed Tryz.prog = true := by kernel_rfl
theorem k3 : (Tryz.f15.params.all fun x => Tryz.prog.readableRec x) = true := by kernel_rfl
theorem k4 : namedTie Tryz.prog Rows.skyReadsRow.named (OpenSpec.ofChange Rows.skyReadsSpec).bare.vars = true := by kernel_rfl
theorem k5 : (Rows.skyReadsRow.stops == []) = true := by kernel_rfl
theorem k6 : (Tryz.prog.stops == []) = true := by kernel_rfl
theorem k7 : (Rows.skyReadsRow.knobs == []) = true := by kernel_rfl
theorem k8 : (Tryz.prog.stopKnobs == []) = true := by kernel_rfl
theorem k9 : (Rows.skyReadsRow.inPlace == Tryz.prog.inPlace 15) = true := by kernel_rfl
theorem k10 : (Rows.skyReadsRow.unfollowed == Tryz.prog.unfollowed 15) = true := by kernel_rfl
theorem k11 : (Rows.skyReadsRow.recurses == Tryz.prog.recurses 15) = true := by kernel_rfl
theorem k12 : (Rows.skyReadsRow.named == Tryz.prog.varsNamed 15) = true := by kernel_rfl
theorem k13 : (Rows.skyReadsRow.maps == (Tryz.f15.params.toList ++ DataSpec.varTypes Tryz.prog (OpenSpec.ofChange Rows.skyReadsSpec).bare.plain).any fun x => Tryz.prog.mapsRec x) = true := by kernel_rfl
theorem k14 : (Rows.skyReadsRow.ifaces == (Tryz.f15.params.toList ++ DataSpec.varTypes Tryz.prog (OpenSpec.ofChange Rows.skyReadsSpec).bare.plain).any fun x => Tryz.prog.ifacesRec x) = true := by kernel_rfl
theorem k15 : (Rows.skyReadsRow.mapsOut == Tryz.prog.mapsAmong Tryz.f15.resultTypes.toList) = true := by kernel_rfl
theorem k16 : (Rows.skyReadsRow.loops == (Tryz.f15.params.toList ++ DataSpec.varTypes Tryz.prog (OpenSpec.ofChange Rows.skyReadsSpec).bare.plain).any fun x => Tryz.prog.loopsFrom x) = true := by kernel_rfl
theorem k17 : (Rows.skyReadsRow.wideKeys == (Tryz.f15.params.toList ++ DataSpec.varTypes Tryz.prog (OpenSpec.ofChange Rows.skyReadsSpec).bare.plain ++ Tryz.f15.resultTypes.toList).any fun x => Tryz.prog.wideKeysFrom x) = true := by kernel_rfl
theorem k18 : ((OpenSpec.ofChange Rows.skyReadsSpec).bare.vars.all fun x => Tryz.prog.varReadable x) = true := by kernel_rfl
theorem k19 : (Tryz.f15.resultTypes.all fun t => Tryz.prog.readableRec t && decide (t < Tryz.prog.types.size)) = true := by kernel_rfl
theorem k20 : (Rows.skyReadsRow.ifacesOut == Tryz.f15.resultTypes.toList.any fun x => Tryz.prog.ifacesRec x) = true := by kernel_rfl
theorem k21 : (Rows.skyReadsRow.loopsOut == Tryz.f15.resultTypes.toList.any fun x => Tryz.prog.loopsFrom x) = true := by kernel_rfl
theorem k22 : (Rows.skyReadsRow.plainKeys == Tryz.prog.plainKeys) = true := by kernel_rfl
theorem k23 : Rows.skyReadsRow.shortTexts.isNone = true := by kernel_rfl
theorem k24 : Tryz.prog.stopsHeard = true := by kernel_rfl
theorem k25 : Tryz.prog.mayEnter = true := may_yes
theorem k26 : (Rows.skyReadsRow.lifted == Tryz.prog.liftsFinal) = true := by rw [lifts_no]; rfl
theorem k27 : (Tryz.prog.make == some Rows.skyReadsRow.make) = true := by rw [make_cut]; rfl
theorem k28 : (Rows.skyReadsRow.kinds == if Rows.skyReadsRow.domain.isEmpty = true then [] else List.map (fun t => match Tryz.prog.underlying t with | some (TypeDesc.int k) => some k | _ => none) Tryz.f15.params.toList) = true := by kernel_rfl
theorem k29 : (Rows.skyReadsRow.pinned == Rows.skyReadsRow.pinnedBy) = true := by kernel_rfl
theorem k30 : (Rows.skyReadsRow.veiled == (Tryz.f15.params.toList ++ DataSpec.varTypes Tryz.prog (OpenSpec.ofChange Rows.skyReadsSpec).bare.plain ++ Tryz.f15.resultTypes.toList).any fun x => Tryz.prog.veiledRec x) = true := by kernel_rfl
theorem k31 : Rows.skyReadsRow.veiledFits Tryz.prog Tryz.f15.params.toList (Tryz.f15.params.toList ++ DataSpec.varTypes Tryz.prog (OpenSpec.ofChange Rows.skyReadsSpec).bare.plain ++ Tryz.f15.resultTypes.toList) = true := by kernel_rfl
theorem closed : joinedFacts Tryz.prog 15 Tryz.f15 (OpenSpec.ofChange Rows.skyReadsSpec).bare Rows.skyReadsRow = true := by
  unfold joinedFacts
  simp only [Bool.and_eq_true]
  exact ⟨⟨⟨⟨⟨⟨⟨⟨⟨⟨⟨⟨⟨⟨⟨⟨⟨⟨⟨⟨⟨⟨⟨⟨⟨⟨⟨⟨⟨⟨⟨k0, k1⟩, k2⟩, k3⟩, k4⟩, k5⟩, k6⟩, k7⟩, k8⟩, k9⟩, k10⟩, k11⟩, k12⟩, k13⟩, k14⟩, k15⟩, k16⟩, k17⟩, k18⟩, k19⟩, k20⟩, k21⟩, k22⟩, k23⟩, k24⟩, k25⟩, k26⟩, k27⟩, k28⟩, k29⟩, k30⟩, k31⟩
theorem wf_text : Rows.skyReadsRow.wfByText (OpenSpec.ofChange Rows.skyReadsSpec) = true := by kernel_rfl
theorem goes_no : false = Rows.skyReadsRow.goesBy Tryz.prog := by kernel_rfl
end Go.Proofs.YtlcddcnmoajpjaaGreatDoor.skyReads
