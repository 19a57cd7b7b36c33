/- The closed facts of the row of SkyEven. (Printed by wip/mkclosed.py.) -/
import Derived.Test.YtlcddcnmoajpjaaGreatDoorWords2
namespace Go.Proofs.YtlcddcnmoajpjaaGreatDoor.skyEven
open Go.ChangeShapes Go.WideShapes Go.ChangeAt Go.RowKit
set_option maxRecDepth 100000
theorem k0 : OpenClaim.wf (OpenSpec.ofChange (OpenSpec.ofChange Rows.skyEvenSpec).bare) Rows.skyEvenRow = true := by kernel_rfl
theorem k1 : laidOutB Tryz.prog = true := by kernel_rfl
theorem k2 : mapsRowed Tryz.prog = true := by kernel_rfl
theorem k3 : (Tryz.f13.params.all fun x => Tryz.prog.readableRec x) = true := by kernel_rfl
theorem k4 : namedTie Tryz.prog Rows.skyEvenRow.named (OpenSpec.ofChange Rows.skyEvenSpec).bare.vars = true := by kernel_rfl
theorem k5 : (Rows.skyEvenRow.stops == []) = true := by kernel_rfl
theorem k6 : (Tryz.prog.stops == []) = true := by kernel_rfl
theorem k7 : (Rows.skyEvenRow.knobs == []) = true := by kernel_rfl
theorem k8 : (Tryz.prog.stopKnobs == []) = true := by kernel_rfl
theorem k9 : (Rows.skyEvenRow.inPlace == Tryz.prog.inPlace 13) = true := by kernel_rfl
theorem k10 : (Rows.skyEvenRow.unfollowed == Tryz.prog.unfollowed 13) = true := by kernel_rfl
theorem k11 : (Rows.skyEvenRow.recurses == Tryz.prog.recurses 13) = true := by kernel_rfl
theorem k12 : (Rows.skyEvenRow.named == Tryz.prog.varsNamed 13) = true := by kernel_rfl
theorem k13 : (Rows.skyEvenRow.maps == (Tryz.f13.params.toList ++ DataSpec.varTypes Tryz.prog (OpenSpec.ofChange Rows.skyEvenSpec).bare.plain).any fun x => Tryz.prog.mapsRec x) = true := by kernel_rfl
theorem k14 : (Rows.skyEvenRow.ifaces == (Tryz.f13.params.toList ++ DataSpec.varTypes Tryz.prog (OpenSpec.ofChange Rows.skyEvenSpec).bare.plain).any fun x => Tryz.prog.ifacesRec x) = true := by kernel_rfl
theorem k15 : (Rows.skyEvenRow.mapsOut == Tryz.prog.mapsAmong Tryz.f13.resultTypes.toList) = true := by kernel_rfl
theorem k16 : (Rows.skyEvenRow.loops == (Tryz.f13.params.toList ++ DataSpec.varTypes Tryz.prog (OpenSpec.ofChange Rows.skyEvenSpec).bare.plain).any fun x => Tryz.prog.loopsFrom x) = true := by kernel_rfl
theorem k17 : (Rows.skyEvenRow.wideKeys == (Tryz.f13.params.toList ++ DataSpec.varTypes Tryz.prog (OpenSpec.ofChange Rows.skyEvenSpec).bare.plain ++ Tryz.f13.resultTypes.toList).any fun x => Tryz.prog.wideKeysFrom x) = true := by kernel_rfl
theorem k18 : ((OpenSpec.ofChange Rows.skyEvenSpec).bare.vars.all fun x => Tryz.prog.varReadable x) = true := by kernel_rfl
theorem k19 : (Tryz.f13.resultTypes.all fun t => Tryz.prog.readableRec t && decide (t < Tryz.prog.types.size)) = true := by kernel_rfl
theorem k20 : (Rows.skyEvenRow.ifacesOut == Tryz.f13.resultTypes.toList.any fun x => Tryz.prog.ifacesRec x) = true := by kernel_rfl
theorem k21 : (Rows.skyEvenRow.loopsOut == Tryz.f13.resultTypes.toList.any fun x => Tryz.prog.loopsFrom x) = true := by kernel_rfl
theorem k22 : (Rows.skyEvenRow.plainKeys == Tryz.prog.plainKeys) = true := by kernel_rfl
theorem k23 : Rows.skyEvenRow.shortTexts.isNone = true := by kernel_rfl
theorem k24 : Tryz.prog.stopsHeard = true := by kernel_rfl
theorem k25 : Tryz.prog.mayEnter = true := may_yes
theorem k26 : (Rows.skyEvenRow.lifted == Tryz.prog.liftsFinal) = true := by rw [lifts_no]; rfl
theorem k27 : (Tryz.prog.make == some Rows.skyEvenRow.make) = true := by rw [make_cut]; rfl
theorem k28 : (Rows.skyEvenRow.kinds == if Rows.skyEvenRow.domain.isEmpty = true then [] else List.map (fun t => match Tryz.prog.underlying t with | some (TypeDesc.int k) => some k | _ => none) Tryz.f13.params.toList) = true := by kernel_rfl
theorem k29 : (Rows.skyEvenRow.pinned == Rows.skyEvenRow.pinnedBy) = true := by kernel_rfl
theorem k30 : (Rows.skyEvenRow.veiled == (Tryz.f13.params.toList ++ DataSpec.varTypes Tryz.prog (OpenSpec.ofChange Rows.skyEvenSpec).bare.plain ++ Tryz.f13.resultTypes.toList).any fun x => Tryz.prog.veiledRec x) = true := by kernel_rfl
theorem k31 : Rows.skyEvenRow.veiledFits Tryz.prog Tryz.f13.params.toList (Tryz.f13.params.toList ++ DataSpec.varTypes Tryz.prog (OpenSpec.ofChange Rows.skyEvenSpec).bare.plain ++ Tryz.f13.resultTypes.toList) = true := by kernel_rfl
theorem closed : joinedFacts Tryz.prog 13 Tryz.f13 (OpenSpec.ofChange Rows.skyEvenSpec).bare Rows.skyEvenRow = true := by
  unfold joinedFacts
  simp only [Bool.and_eq_true]
  exact ⟨⟨⟨⟨⟨⟨⟨⟨⟨⟨⟨⟨⟨⟨⟨⟨⟨⟨⟨⟨⟨⟨⟨⟨⟨⟨⟨⟨⟨⟨⟨k0, k1⟩, k2⟩, k3⟩, k4⟩, k5⟩, k6⟩, k7⟩, k8⟩, k9⟩, k10⟩, k11⟩, k12⟩, k13⟩, k14⟩, k15⟩, k16⟩, k17⟩, k18⟩, k19⟩, k20⟩, k21⟩, k22⟩, k23⟩, k24⟩, k25⟩, k26⟩, k27⟩, k28⟩, k29⟩, k30⟩, k31⟩
theorem wf_text : Rows.skyEvenRow.wfByText (OpenSpec.ofChange Rows.skyEvenSpec) = true := by kernel_rfl
theorem goes_no : false = Rows.skyEvenRow.goesBy Tryz.prog := by kernel_rfl
end Go.Proofs.YtlcddcnmoajpjaaGreatDoor.skyEven
