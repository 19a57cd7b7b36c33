/- The closed facts of the row of SkyWatches. (Printed by wip/mkclosed.py.) -/
import Derived.Test.YtlcddcnmoajpjaaGreatDoorWords2
namespace Go.Proofs.YtlcddcnmoajpjaaGreatDoor.skyWatches
open Go.ChangeShapes Go.WideShapes Go.ChangeAt Go.RowKit
set_option maxRecDepth 100000
theorem k0 : OpenClaim.wf (OpenSpec.ofChange (OpenSpec.ofChange Rows.skyWatchesSpec).bare) Rows.skyWatchesRow = true := by kernel_rfl
theorem k1 : laidOutB Tryz.prog = true := by kernel_rfl
theorem k2 : mapsRowed Tryz.prog = true := by kernel_rfl
theorem k3 : (Tryz.f9.params.all fun x => Tryz.prog.readableRec x) = true := by kernel_rfl
theorem k4 : namedTie Tryz.prog Rows.skyWatchesRow.named (OpenSpec.ofChange Rows.skyWatchesSpec).bare.vars = true := by kernel_rfl
theorem k5 : (Rows.skyWatchesRow.stops == []) = true := by kernel_rfl
theorem k6 : (Tryz.prog.stops == []) = true := by kernel_rfl
theorem k7 : (Rows.skyWatchesRow.knobs == []) = true := by kernel_rfl
theorem k8 : (Tryz.prog.stopKnobs == []) = true := by kernel_rfl
theorem k9 : (Rows.skyWatchesRow.inPlace == Tryz.prog.inPlace 9) = true := by kernel_rfl
theorem k10 : (Rows.skyWatchesRow.unfollowed == Tryz.prog.unfollowed 9) = true := by kernel_rfl
theorem k11 : (Rows.skyWatchesRow.recurses == Tryz.prog.recurses 9) = true := by kernel_rfl
theorem k12 : (Rows.skyWatchesRow.named == Tryz.prog.varsNamed 9) = true := by kernel_rfl
theorem k13 : (Rows.skyWatchesRow.maps == (Tryz.f9.params.toList ++ DataSpec.varTypes Tryz.prog (OpenSpec.ofChange Rows.skyWatchesSpec).bare.plain).any fun x => Tryz.prog.mapsRec x) = true := by kernel_rfl
theorem k14 : (Rows.skyWatchesRow.ifaces == (Tryz.f9.params.toList ++ DataSpec.varTypes Tryz.prog (OpenSpec.ofChange Rows.skyWatchesSpec).bare.plain).any fun x => Tryz.prog.ifacesRec x) = true := by kernel_rfl
theorem k15 : (Rows.skyWatchesRow.mapsOut == Tryz.prog.mapsAmong Tryz.f9.resultTypes.toList) = true := by kernel_rfl
theorem k16 : (Rows.skyWatchesRow.loops == (Tryz.f9.params.toList ++ DataSpec.varTypes Tryz.prog (OpenSpec.ofChange Rows.skyWatchesSpec).bare.plain).any fun x => Tryz.prog.loopsFrom x) = true := by kernel_rfl
theorem k17 : (Rows.skyWatchesRow.wideKeys == (Tryz.f9.params.toList ++ DataSpec.varTypes Tryz.prog (OpenSpec.ofChange Rows.skyWatchesSpec).bare.plain ++ Tryz.f9.resultTypes.toList).any fun x => Tryz.prog.wideKeysFrom x) = true := by kernel_rfl
theorem k18 : ((OpenSpec.ofChange Rows.skyWatchesSpec).bare.vars.all fun x => Tryz.prog.varReadable x) = true := by kernel_rfl
theorem k19 : (Tryz.f9.resultTypes.all fun t => Tryz.prog.readableRec t && decide (t < Tryz.prog.types.size)) = true := by kernel_rfl
theorem k20 : (Rows.skyWatchesRow.ifacesOut == Tryz.f9.resultTypes.toList.any fun x => Tryz.prog.ifacesRec x) = true := by kernel_rfl
theorem k21 : (Rows.skyWatchesRow.loopsOut == Tryz.f9.resultTypes.toList.any fun x => Tryz.prog.loopsFrom x) = true := by kernel_rfl
theorem k22 : (Rows.skyWatchesRow.plainKeys == Tryz.prog.plainKeys) = true := by kernel_rfl
theorem k23 : Rows.skyWatchesRow.shortTexts.isNone = true := by kernel_rfl
theorem k24 : Tryz.prog.stopsHeard = true := by kernel_rfl
theorem k25 : Tryz.prog.mayEnter = true := may_yes
theorem k26 : (Rows.skyWatchesRow.lifted == Tryz.prog.liftsFinal) = true := by rw [lifts_no]; rfl
theorem k27 : (Tryz.prog.make == some Rows.skyWatchesRow.make) = true := by rw [make_cut]; rfl
theorem k28 : (Rows.skyWatchesRow.kinds == if Rows.skyWatchesRow.domain.isEmpty = true then [] else List.map (fun t => match Tryz.prog.underlying t with | some (TypeDesc.int k) => some k | _ => none) Tryz.f9.params.toList) = true := by kernel_rfl
theorem k29 : (Rows.skyWatchesRow.pinned == Rows.skyWatchesRow.pinnedBy) = true := by kernel_rfl
theorem k30 : (Rows.skyWatchesRow.veiled == (Tryz.f9.params.toList ++ DataSpec.varTypes Tryz.prog (OpenSpec.ofChange Rows.skyWatchesSpec).bare.plain ++ Tryz.f9.resultTypes.toList).any fun x => Tryz.prog.veiledRec x) = true := by kernel_rfl
theorem k31 : Rows.skyWatchesRow.veiledFits Tryz.prog Tryz.f9.params.toList (Tryz.f9.params.toList ++ DataSpec.varTypes Tryz.prog (OpenSpec.ofChange Rows.skyWatchesSpec).bare.plain ++ Tryz.f9.resultTypes.toList) = true := by kernel_rfl
theorem closed : joinedFacts Tryz.prog 9 Tryz.f9 (OpenSpec.ofChange Rows.skyWatchesSpec).bare Rows.skyWatchesRow = true := by
  unfold joinedFacts
  simp only [Bool.and_eq_true]
  exact ⟨⟨⟨⟨⟨⟨⟨⟨⟨⟨⟨⟨⟨⟨⟨⟨⟨⟨⟨⟨⟨⟨⟨⟨⟨⟨⟨⟨⟨⟨⟨k0, k1⟩, k2⟩, k3⟩, k4⟩, k5⟩, k6⟩, k7⟩, k8⟩, k9⟩, k10⟩, k11⟩, k12⟩, k13⟩, k14⟩, k15⟩, k16⟩, k17⟩, k18⟩, k19⟩, k20⟩, k21⟩, k22⟩, k23⟩, k24⟩, k25⟩, k26⟩, k27⟩, k28⟩, k29⟩, k30⟩, k31⟩
theorem wf_text : Rows.skyWatchesRow.wfByText (OpenSpec.ofChange Rows.skyWatchesSpec) = true := by kernel_rfl
theorem goes_no : false = Rows.skyWatchesRow.goesBy Tryz.prog := by kernel_rfl
end Go.Proofs.YtlcddcnmoajpjaaGreatDoor.skyWatches
