/- The closed facts of the row of SkyMeets. (Printed by wip/mkclosed.py.) -/
import Derived.Test.YtlcddcnmoajpjaaGreatDoorWords2
namespace Go.Proofs.YtlcddcnmoajpjaaGreatDoor.skyMeets
open Go.ChangeShapes Go.WideShapes Go.ChangeAt Go.RowKit
set_option maxRecDepth 100000
theorem k0 : OpenClaim.wf (OpenSpec.ofChange (OpenSpec.ofChange Rows.skyMeetsSpec).bare) Rows.skyMeetsRow = true := by kernel_rfl
theorem k1 : laidOutB Tryz.prog = true := by kernel_rfl
theorem k2 : mapsRowed Tryz.prog = true := by kernel_rfl
theorem k3 : (Tryz.f17.params.all fun x => Tryz.prog.readableRec x) = true := by kernel_rfl
theorem k4 : namedTie Tryz.prog Rows.skyMeetsRow.named (OpenSpec.ofChange Rows.skyMeetsSpec).bare.vars = true := by kernel_rfl
theorem k5 : (Rows.skyMeetsRow.stops == []) = true := by kernel_rfl
theorem k6 : (Tryz.prog.stops == []) = true := by kernel_rfl
theorem k7 : (Rows.skyMeetsRow.knobs == []) = true := by kernel_rfl
theorem k8 : (Tryz.prog.stopKnobs == []) = true := by kernel_rfl
theorem k9 : (Rows.skyMeetsRow.inPlace == Tryz.prog.inPlace 17) = true := by kernel_rfl
theorem k10 : (Rows.skyMeetsRow.unfollowed == Tryz.prog.unfollowed 17) = true := by kernel_rfl
theorem k11 : (Rows.skyMeetsRow.recurses == Tryz.prog.recurses 17) = true := by kernel_rfl
theorem k12 : (Rows.skyMeetsRow.named == Tryz.prog.varsNamed 17) = true := by kernel_rfl
theorem k13 : (Rows.skyMeetsRow.maps == (Tryz.f17.params.toList ++ DataSpec.varTypes Tryz.prog (OpenSpec.ofChange Rows.skyMeetsSpec).bare.plain).any fun x => Tryz.prog.mapsRec x) = true := by kernel_rfl
theorem k14 : (Rows.skyMeetsRow.ifaces == (Tryz.f17.params.toList ++ DataSpec.varTypes Tryz.prog (OpenSpec.ofChange Rows.skyMeetsSpec).bare.plain).any fun x => Tryz.prog.ifacesRec x) = true := by kernel_rfl
theorem k15 : (Rows.skyMeetsRow.mapsOut == Tryz.prog.mapsAmong Tryz.f17.resultTypes.toList) = true := by kernel_rfl
theorem k16 : (Rows.skyMeetsRow.loops == (Tryz.f17.params.toList ++ DataSpec.varTypes Tryz.prog (OpenSpec.ofChange Rows.skyMeetsSpec).bare.plain).any fun x => Tryz.prog.loopsFrom x) = true := by kernel_rfl
theorem k17 : (Rows.skyMeetsRow.wideKeys == (Tryz.f17.params.toList ++ DataSpec.varTypes Tryz.prog (OpenSpec.ofChange Rows.skyMeetsSpec).bare.plain ++ Tryz.f17.resultTypes.toList).any fun x => Tryz.prog.wideKeysFrom x) = true := by kernel_rfl
theorem k18 : ((OpenSpec.ofChange Rows.skyMeetsSpec).bare.vars.all fun x => Tryz.prog.varReadable x) = true := by kernel_rfl
theorem k19 : (Tryz.f17.resultTypes.all fun t => Tryz.prog.readableRec t && decide (t < Tryz.prog.types.size)) = true := by kernel_rfl
theorem k20 : (Rows.skyMeetsRow.ifacesOut == Tryz.f17.resultTypes.toList.any fun x => Tryz.prog.ifacesRec x) = true := by kernel_rfl
theorem k21 : (Rows.skyMeetsRow.loopsOut == Tryz.f17.resultTypes.toList.any fun x => Tryz.prog.loopsFrom x) = true := by kernel_rfl
theorem k22 : (Rows.skyMeetsRow.plainKeys == Tryz.prog.plainKeys) = true := by kernel_rfl
theorem k23 : Rows.skyMeetsRow.shortTexts.isNone = true := by kernel_rfl
theorem k24 : Tryz.prog.stopsHeard = true := by kernel_rfl
theorem k25 : Tryz.prog.mayEnter = true := may_yes
theorem k26 : (Rows.skyMeetsRow.lifted == Tryz.prog.liftsFinal) = true := by rw [lifts_no]; rfl
theorem k27 : (Tryz.prog.make == some Rows.skyMeetsRow.make) = true := by rw [make_cut]; rfl
theorem k28 : (Rows.skyMeetsRow.kinds == if Rows.skyMeetsRow.domain.isEmpty = true then [] else List.map (fun t => match Tryz.prog.underlying t with | some (TypeDesc.int k) => some k | _ => none) Tryz.f17.params.toList) = true := by kernel_rfl
theorem k29 : (Rows.skyMeetsRow.pinned == Rows.skyMeetsRow.pinnedBy) = true := by kernel_rfl
theorem k30 : (Rows.skyMeetsRow.veiled == (Tryz.f17.params.toList ++ DataSpec.varTypes Tryz.prog (OpenSpec.ofChange Rows.skyMeetsSpec).bare.plain ++ Tryz.f17.resultTypes.toList).any fun x => Tryz.prog.veiledRec x) = true := by kernel_rfl
theorem k31 : Rows.skyMeetsRow.veiledFits Tryz.prog Tryz.f17.params.toList (Tryz.f17.params.toList ++ DataSpec.varTypes Tryz.prog (OpenSpec.ofChange Rows.skyMeetsSpec).bare.plain ++ Tryz.f17.resultTypes.toList) = true := by kernel_rfl
theorem closed : joinedFacts Tryz.prog 17 Tryz.f17 (OpenSpec.ofChange Rows.skyMeetsSpec).bare Rows.skyMeetsRow = true := by
  unfold joinedFacts
  simp only [Bool.and_eq_true]
  exact ⟨⟨⟨⟨⟨⟨⟨⟨⟨⟨⟨⟨⟨⟨⟨⟨⟨⟨⟨⟨⟨⟨⟨⟨⟨⟨⟨⟨⟨⟨⟨k0, k1⟩, k2⟩, k3⟩, k4⟩, k5⟩, k6⟩, k7⟩, k8⟩, k9⟩, k10⟩, k11⟩, k12⟩, k13⟩, k14⟩, k15⟩, k16⟩, k17⟩, k18⟩, k19⟩, k20⟩, k21⟩, k22⟩, k23⟩, k24⟩, k25⟩, k26⟩, k27⟩, k28⟩, k29⟩, k30⟩, k31⟩
theorem wf_text : Rows.skyMeetsRow.wfByText (OpenSpec.ofChange Rows.skyMeetsSpec) = true := by kernel_rfl
theorem goes_no : false = Rows.skyMeetsRow.goesBy Tryz.prog := by kernel_rfl
end Go.Proofs.YtlcddcnmoajpjaaGreatDoor.skyMeets
