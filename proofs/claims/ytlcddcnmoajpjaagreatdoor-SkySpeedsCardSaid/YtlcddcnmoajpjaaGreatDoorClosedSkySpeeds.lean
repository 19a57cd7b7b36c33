/- The closed facts of the row of SkySpeeds. (Printed by wip/mkclosed.py.) -/
import Derived.Test.YtlcddcnmoajpjaaGreatDoorWords2
namespace Go.Proofs.YtlcddcnmoajpjaaGreatDoor.skySpeeds
open Go.ChangeShapes Go.WideShapes Go.ChangeAt Go.RowKit
set_option maxRecDepth 100000
theorem k0 : OpenClaim.wf (OpenSpec.ofChange (OpenSpec.ofChange Rows.skySpeedsSpec).bare) Rows.skySpeedsRow = true := by kernel_rfl
theorem k1 : laidOutB Tryz.prog = true := by kernel_rfl
theorem k2 : mapsRowed Tryz.prog = true := by kernel_rfl
theorem k3 : (Tryz.f7.params.all fun x => Tryz.prog.readableRec x) = true := by kernel_rfl
theorem k4 : namedTie Tryz.prog Rows.skySpeedsRow.named (OpenSpec.ofChange Rows.skySpeedsSpec).bare.vars = true := by kernel_rfl
theorem k5 : (Rows.skySpeedsRow.stops == []) = true := by kernel_rfl
theorem k6 : (Tryz.prog.stops == []) = true := by kernel_rfl
theorem k7 : (Rows.skySpeedsRow.knobs == []) = true := by kernel_rfl
theorem k8 : (Tryz.prog.stopKnobs == []) = true := by kernel_rfl
theorem k9 : (Rows.skySpeedsRow.inPlace == Tryz.prog.inPlace 7) = true := by kernel_rfl
theorem k10 : (Rows.skySpeedsRow.unfollowed == Tryz.prog.unfollowed 7) = true := by kernel_rfl
theorem k11 : (Rows.skySpeedsRow.recurses == Tryz.prog.recurses 7) = true := by kernel_rfl
theorem k12 : (Rows.skySpeedsRow.named == Tryz.prog.varsNamed 7) = true := by kernel_rfl
theorem k13 : (Rows.skySpeedsRow.maps == (Tryz.f7.params.toList ++ DataSpec.varTypes Tryz.prog (OpenSpec.ofChange Rows.skySpeedsSpec).bare.plain).any fun x => Tryz.prog.mapsRec x) = true := by kernel_rfl
theorem k14 : (Rows.skySpeedsRow.ifaces == (Tryz.f7.params.toList ++ DataSpec.varTypes Tryz.prog (OpenSpec.ofChange Rows.skySpeedsSpec).bare.plain).any fun x => Tryz.prog.ifacesRec x) = true := by kernel_rfl
theorem k15 : (Rows.skySpeedsRow.mapsOut == Tryz.prog.mapsAmong Tryz.f7.resultTypes.toList) = true := by kernel_rfl
theorem k16 : (Rows.skySpeedsRow.loops == (Tryz.f7.params.toList ++ DataSpec.varTypes Tryz.prog (OpenSpec.ofChange Rows.skySpeedsSpec).bare.plain).any fun x => Tryz.prog.loopsFrom x) = true := by kernel_rfl
theorem k17 : (Rows.skySpeedsRow.wideKeys == (Tryz.f7.params.toList ++ DataSpec.varTypes Tryz.prog (OpenSpec.ofChange Rows.skySpeedsSpec).bare.plain ++ Tryz.f7.resultTypes.toList).any fun x => Tryz.prog.wideKeysFrom x) = true := by kernel_rfl
theorem k18 : ((OpenSpec.ofChange Rows.skySpeedsSpec).bare.vars.all fun x => Tryz.prog.varReadable x) = true := by kernel_rfl
theorem k19 : (Tryz.f7.resultTypes.all fun t => Tryz.prog.readableRec t && decide (t < Tryz.prog.types.size)) = true := by kernel_rfl
theorem k20 : (Rows.skySpeedsRow.ifacesOut == Tryz.f7.resultTypes.toList.any fun x => Tryz.prog.ifacesRec x) = true := by kernel_rfl
theorem k21 : (Rows.skySpeedsRow.loopsOut == Tryz.f7.resultTypes.toList.any fun x => Tryz.prog.loopsFrom x) = true := by kernel_rfl
theorem k22 : (Rows.skySpeedsRow.plainKeys == Tryz.prog.plainKeys) = true := by kernel_rfl
theorem k23 : Rows.skySpeedsRow.shortTexts.isNone = true := by kernel_rfl
theorem k24 : Tryz.prog.stopsHeard = true := by kernel_rfl
theorem k25 : Tryz.prog.mayEnter = true := may_yes
theorem k26 : (Rows.skySpeedsRow.lifted == Tryz.prog.liftsFinal) = true := by rw [lifts_no]; rfl
theorem k27 : (Tryz.prog.make == some Rows.skySpeedsRow.make) = true := by rw [make_cut]; rfl
theorem k28 : (Rows.skySpeedsRow.kinds == if Rows.skySpeedsRow.domain.isEmpty = true then [] else List.map (fun t => match Tryz.prog.underlying t with | some (TypeDesc.int k) => some k | _ => none) Tryz.f7.params.toList) = true := by kernel_rfl
theorem k29 : (Rows.skySpeedsRow.pinned == Rows.skySpeedsRow.pinnedBy) = true := by kernel_rfl
theorem k30 : (Rows.skySpeedsRow.veiled == (Tryz.f7.params.toList ++ DataSpec.varTypes Tryz.prog (OpenSpec.ofChange Rows.skySpeedsSpec).bare.plain ++ Tryz.f7.resultTypes.toList).any fun x => Tryz.prog.veiledRec x) = true := by kernel_rfl
theorem k31 : Rows.skySpeedsRow.veiledFits Tryz.prog Tryz.f7.params.toList (Tryz.f7.params.toList ++ DataSpec.varTypes Tryz.prog (OpenSpec.ofChange Rows.skySpeedsSpec).bare.plain ++ Tryz.f7.resultTypes.toList) = true := by kernel_rfl
theorem closed : joinedFacts Tryz.prog 7 Tryz.f7 (OpenSpec.ofChange Rows.skySpeedsSpec).bare Rows.skySpeedsRow = true := by
  unfold joinedFacts
  simp only [Bool.and_eq_true]
  exact ⟨⟨⟨⟨⟨⟨⟨⟨⟨⟨⟨⟨⟨⟨⟨⟨⟨⟨⟨⟨⟨⟨⟨⟨⟨⟨⟨⟨⟨⟨⟨k0, k1⟩, k2⟩, k3⟩, k4⟩, k5⟩, k6⟩, k7⟩, k8⟩, k9⟩, k10⟩, k11⟩, k12⟩, k13⟩, k14⟩, k15⟩, k16⟩, k17⟩, k18⟩, k19⟩, k20⟩, k21⟩, k22⟩, k23⟩, k24⟩, k25⟩, k26⟩, k27⟩, k28⟩, k29⟩, k30⟩, k31⟩
theorem wf_text : Rows.skySpeedsRow.wfByText (OpenSpec.ofChange Rows.skySpeedsSpec) = true := by kernel_rfl
theorem goes_no : false = Rows.skySpeedsRow.goesBy Tryz.prog := by kernel_rfl
end Go.Proofs.YtlcddcnmoajpjaaGreatDoor.skySpeeds
