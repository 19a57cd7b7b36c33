/- The closed facts of the row of SkyNexts. (Printed by wip/mkclosed.py.) -/
import Derived.Test.YtlcddcnmoajpjaaGreatDoorWords2
namespace Go.Proofs.YtlcddcnmoajpjaaGreatDoor.skyNexts
open Go.ChangeShapes Go.WideShapes Go.ChangeAt Go.RowKit
set_option maxRecDepth 100000
theorem k0 : OpenClaim.wf (OpenSpec.ofChange (OpenSpec.ofChange Rows.skyNextsSpec).bare) Rows.skyNextsRow = true := by kernel_rfl
theorem k1 : laidOutB Tryz.prog = true := by kernel_rfl
theorem k2 : mapsRowed Tryz.prog = true := by kernel_rfl
theorem k3 : (Tryz.f22.params.all fun x => Tryz.prog.readableRec x) = true := by kernel_rfl
theorem k4 : namedTie Tryz.prog Rows.skyNextsRow.named (OpenSpec.ofChange Rows.skyNextsSpec).bare.vars = true := by kernel_rfl
theorem k5 : (Rows.skyNextsRow.stops == []) = true := by kernel_rfl
theorem k6 : (Tryz.prog.stops == []) = true := by kernel_rfl
theorem k7 : (Rows.skyNextsRow.knobs == []) = true := by kernel_rfl
theorem k8 : (Tryz.prog.stopKnobs == []) = true := by kernel_rfl
theorem k9 : (Rows.skyNextsRow.inPlace == Tryz.prog.inPlace 22) = true := by kernel_rfl
theorem k10 : (Rows.skyNextsRow.unfollowed == Tryz.prog.unfollowed 22) = true := by kernel_rfl
theorem k11 : (Rows.skyNextsRow.recurses == Tryz.prog.recurses 22) = true := by kernel_rfl
theorem k12 : (Rows.skyNextsRow.named == Tryz.prog.varsNamed 22) = true := by kernel_rfl
theorem k13 : (Rows.skyNextsRow.maps == (Tryz.f22.params.toList ++ DataSpec.varTypes Tryz.prog (OpenSpec.ofChange Rows.skyNextsSpec).bare.plain).any fun x => Tryz.prog.mapsRec x) = true := by kernel_rfl
theorem k14 : (Rows.skyNextsRow.ifaces == (Tryz.f22.params.toList ++ DataSpec.varTypes Tryz.prog (OpenSpec.ofChange Rows.skyNextsSpec).bare.plain).any fun x => Tryz.prog.ifacesRec x) = true := by kernel_rfl
theorem k15 : (Rows.skyNextsRow.mapsOut == Tryz.prog.mapsAmong Tryz.f22.resultTypes.toList) = true := by kernel_rfl
theorem k16 : (Rows.skyNextsRow.loops == (Tryz.f22.params.toList ++ DataSpec.varTypes Tryz.prog (OpenSpec.ofChange Rows.skyNextsSpec).bare.plain).any fun x => Tryz.prog.loopsFrom x) = true := by kernel_rfl
theorem k17 : (Rows.skyNextsRow.wideKeys == (Tryz.f22.params.toList ++ DataSpec.varTypes Tryz.prog (OpenSpec.ofChange Rows.skyNextsSpec).bare.plain ++ Tryz.f22.resultTypes.toList).any fun x => Tryz.prog.wideKeysFrom x) = true := by kernel_rfl
theorem k18 : ((OpenSpec.ofChange Rows.skyNextsSpec).bare.vars.all fun x => Tryz.prog.varReadable x) = true := by kernel_rfl
theorem k19 : (Tryz.f22.resultTypes.all fun t => Tryz.prog.readableRec t && decide (t < Tryz.prog.types.size)) = true := by kernel_rfl
theorem k20 : (Rows.skyNextsRow.ifacesOut == Tryz.f22.resultTypes.toList.any fun x => Tryz.prog.ifacesRec x) = true := by kernel_rfl
theorem k21 : (Rows.skyNextsRow.loopsOut == Tryz.f22.resultTypes.toList.any fun x => Tryz.prog.loopsFrom x) = true := by kernel_rfl
theorem k22 : (Rows.skyNextsRow.plainKeys == Tryz.prog.plainKeys) = true := by kernel_rfl
theorem k23 : Rows.skyNextsRow.shortTexts.isNone = true := by kernel_rfl
theorem k24 : Tryz.prog.stopsHeard = true := by kernel_rfl
theorem k25 : Tryz.prog.mayEnter = true := may_yes
theorem k26 : (Rows.skyNextsRow.lifted == Tryz.prog.liftsFinal) = true := by rw [lifts_no]; rfl
theorem k27 : (Tryz.prog.make == some Rows.skyNextsRow.make) = true := by rw [make_cut]; rfl
theorem k28 : (Rows.skyNextsRow.kinds == if Rows.skyNextsRow.domain.isEmpty = true then [] else List.map (fun t => match Tryz.prog.underlying t with | some (TypeDesc.int k) => some k | _ => none) Tryz.f22.params.toList) = true := by kernel_rfl
theorem k29 : (Rows.skyNextsRow.pinned == Rows.skyNextsRow.pinnedBy) = true := by kernel_rfl
theorem k30 : (Rows.skyNextsRow.veiled == (Tryz.f22.params.toList ++ DataSpec.varTypes Tryz.prog (OpenSpec.ofChange Rows.skyNextsSpec).bare.plain ++ Tryz.f22.resultTypes.toList).any fun x => Tryz.prog.veiledRec x) = true := by kernel_rfl
theorem k31 : Rows.skyNextsRow.veiledFits Tryz.prog Tryz.f22.params.toList (Tryz.f22.params.toList ++ DataSpec.varTypes Tryz.prog (OpenSpec.ofChange Rows.skyNextsSpec).bare.plain ++ Tryz.f22.resultTypes.toList) = true := by kernel_rfl
theorem closed : joinedFacts Tryz.prog 22 Tryz.f22 (OpenSpec.ofChange Rows.skyNextsSpec).bare Rows.skyNextsRow = true := by
  unfold joinedFacts
  simp only [Bool.and_eq_true]
  exact ⟨⟨⟨⟨⟨⟨⟨⟨⟨⟨⟨⟨⟨⟨⟨⟨⟨⟨⟨⟨⟨⟨⟨⟨⟨⟨⟨⟨⟨⟨⟨k0, k1⟩, k2⟩, k3⟩, k4⟩, k5⟩, k6⟩, k7⟩, k8⟩, k9⟩, k10⟩, k11⟩, k12⟩, k13⟩, k14⟩, k15⟩, k16⟩, k17⟩, k18⟩, k19⟩, k20⟩, k21⟩, k22⟩, k23⟩, k24⟩, k25⟩, k26⟩, k27⟩, k28⟩, k29⟩, k30⟩, k31⟩
theorem wf_text : Rows.skyNextsRow.wfByText (OpenSpec.ofChange Rows.skyNextsSpec) = true := by kernel_rfl
theorem goes_no : false = Rows.skyNextsRow.goesBy Tryz.prog := by kernel_rfl
end Go.Proofs.YtlcddcnmoajpjaaGreatDoor.skyNexts
