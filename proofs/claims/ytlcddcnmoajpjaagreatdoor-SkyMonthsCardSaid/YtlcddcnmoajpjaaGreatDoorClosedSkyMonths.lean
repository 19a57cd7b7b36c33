/- The closed facts of the row of SkyMonths. (Printed by wip/mkclosed.py.) -/
import Derived.Test.YtlcddcnmoajpjaaGreatDoorWords2
namespace Go.Proofs.YtlcddcnmoajpjaaGreatDoor.skyMonths
open Go.ChangeShapes Go.WideShapes Go.ChangeAt Go.RowKit
set_option maxRecDepth 100000
theorem k0 : OpenClaim.wf (OpenSpec.ofChange (OpenSpec.ofChange Rows.skyMonthsSpec).bare) Rows.skyMonthsRow = true := by kernel_rfl
theorem k1 : laidOutB Tryz.prog = true := by kernel_rfl
theorem k2 : mapsRowed Tryz.prog = true := by kernel_rfl
theorem k3 : (Tryz.f19.params.all fun x => Tryz.prog.readableRec x) = true := by kernel_rfl
theorem k4 : namedTie Tryz.prog Rows.skyMonthsRow.named (OpenSpec.ofChange Rows.skyMonthsSpec).bare.vars = true := by kernel_rfl
theorem k5 : (Rows.skyMonthsRow.stops == []) = true := by kernel_rfl
theorem k6 : (Tryz.prog.stops == []) = true := by kernel_rfl
theorem k7 : (Rows.skyMonthsRow.knobs == []) = true := by kernel_rfl
theorem k8 : (Tryz.prog.stopKnobs == []) = true := by kernel_rfl
theorem k9 : (Rows.skyMonthsRow.inPlace == Tryz.prog.inPlace 19) = true := by kernel_rfl
theorem k10 : (Rows.skyMonthsRow.unfollowed == Tryz.prog.unfollowed 19) = true := by kernel_rfl
theorem k11 : (Rows.skyMonthsRow.recurses == Tryz.prog.recurses 19) = true := by kernel_rfl
theorem k12 : (Rows.skyMonthsRow.named == Tryz.prog.varsNamed 19) = true := by kernel_rfl
theorem k13 : (Rows.skyMonthsRow.maps == (Tryz.f19.params.toList ++ DataSpec.varTypes Tryz.prog (OpenSpec.ofChange Rows.skyMonthsSpec).bare.plain).any fun x => Tryz.prog.mapsRec x) = true := by kernel_rfl
theorem k14 : (Rows.skyMonthsRow.ifaces == (Tryz.f19.params.toList ++ DataSpec.varTypes Tryz.prog (OpenSpec.ofChange Rows.skyMonthsSpec).bare.plain).any fun x => Tryz.prog.ifacesRec x) = true := by kernel_rfl
theorem k15 : (Rows.skyMonthsRow.mapsOut == Tryz.prog.mapsAmong Tryz.f19.resultTypes.toList) = true := by kernel_rfl
theorem k16 : (Rows.skyMonthsRow.loops == (Tryz.f19.params.toList ++ DataSpec.varTypes Tryz.prog (OpenSpec.ofChange Rows.skyMonthsSpec).bare.plain).any fun x => Tryz.prog.loopsFrom x) = true := by kernel_rfl
theorem k17 : (Rows.skyMonthsRow.wideKeys == (Tryz.f19.params.toList ++ DataSpec.varTypes Tryz.prog (OpenSpec.ofChange Rows.skyMonthsSpec).bare.plain ++ Tryz.f19.resultTypes.toList).any fun x => Tryz.prog.wideKeysFrom x) = true := by kernel_rfl
theorem k18 : ((OpenSpec.ofChange Rows.skyMonthsSpec).bare.vars.all fun x => Tryz.prog.varReadable x) = true := by kernel_rfl
theorem k19 : (Tryz.f19.resultTypes.all fun t => Tryz.prog.readableRec t && decide (t < Tryz.prog.types.size)) = true := by kernel_rfl
theorem k20 : (Rows.skyMonthsRow.ifacesOut == Tryz.f19.resultTypes.toList.any fun x => Tryz.prog.ifacesRec x) = true := by kernel_rfl
theorem k21 : (Rows.skyMonthsRow.loopsOut == Tryz.f19.resultTypes.toList.any fun x => Tryz.prog.loopsFrom x) = true := by kernel_rfl
theorem k22 : (Rows.skyMonthsRow.plainKeys == Tryz.prog.plainKeys) = true := by kernel_rfl
theorem k23 : Rows.skyMonthsRow.shortTexts.isNone = true := by kernel_rfl
theorem k24 : Tryz.prog.stopsHeard = true := by kernel_rfl
theorem k25 : Tryz.prog.mayEnter = true := may_yes
theorem k26 : (Rows.skyMonthsRow.lifted == Tryz.prog.liftsFinal) = true := by rw [lifts_no]; rfl
theorem k27 : (Tryz.prog.make == some Rows.skyMonthsRow.make) = true := by rw [make_cut]; rfl
theorem k28 : (Rows.skyMonthsRow.kinds == if Rows.skyMonthsRow.domain.isEmpty = true then [] else List.map (fun t => match Tryz.prog.underlying t with | some (TypeDesc.int k) => some k | _ => none) Tryz.f19.params.toList) = true := by kernel_rfl
theorem k29 : (Rows.skyMonthsRow.pinned == Rows.skyMonthsRow.pinnedBy) = true := by kernel_rfl
theorem k30 : (Rows.skyMonthsRow.veiled == (Tryz.f19.params.toList ++ DataSpec.varTypes Tryz.prog (OpenSpec.ofChange Rows.skyMonthsSpec).bare.plain ++ Tryz.f19.resultTypes.toList).any fun x => Tryz.prog.veiledRec x) = true := by kernel_rfl
theorem k31 : Rows.skyMonthsRow.veiledFits Tryz.prog Tryz.f19.params.toList (Tryz.f19.params.toList ++ DataSpec.varTypes Tryz.prog (OpenSpec.ofChange Rows.skyMonthsSpec).bare.plain ++ Tryz.f19.resultTypes.toList) = true := by kernel_rfl
theorem closed : joinedFacts Tryz.prog 19 Tryz.f19 (OpenSpec.ofChange Rows.skyMonthsSpec).bare Rows.skyMonthsRow = true := by
  unfold joinedFacts
  simp only [Bool.and_eq_true]
  exact ⟨⟨⟨⟨⟨⟨⟨⟨⟨⟨⟨⟨⟨⟨⟨⟨⟨⟨⟨⟨⟨⟨⟨⟨⟨⟨⟨⟨⟨⟨⟨k0, k1⟩, k2⟩, k3⟩, k4⟩, k5⟩, k6⟩, k7⟩, k8⟩, k9⟩, k10⟩, k11⟩, k12⟩, k13⟩, k14⟩, k15⟩, k16⟩, k17⟩, k18⟩, k19⟩, k20⟩, k21⟩, k22⟩, k23⟩, k24⟩, k25⟩, k26⟩, k27⟩, k28⟩, k29⟩, k30⟩, k31⟩
theorem wf_text : Rows.skyMonthsRow.wfByText (OpenSpec.ofChange Rows.skyMonthsSpec) = true := by kernel_rfl
theorem goes_no : false = Rows.skyMonthsRow.goesBy Tryz.prog := by kernel_rfl
end Go.Proofs.YtlcddcnmoajpjaaGreatDoor.skyMonths
