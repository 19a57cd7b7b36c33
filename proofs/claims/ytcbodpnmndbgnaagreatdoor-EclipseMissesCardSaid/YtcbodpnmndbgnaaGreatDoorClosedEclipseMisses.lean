/- The closed facts of the row of EclipseMisses. (Printed by wip/mkclosed.py.) -/
import Derived.Test.YtcbodpnmndbgnaaGreatDoorF14
namespace Go.Proofs.YtcbodpnmndbgnaaGreatDoor.eclipseMisses
open Go.ChangeShapes Go.WideShapes Go.ChangeAt Go.RowKit
set_option maxRecDepth 100000
theorem k0 : OpenClaim.wf (OpenSpec.ofChange (OpenSpec.ofChange Rows.eclipseMissesSpec).bare) Rows.eclipseMissesRow = true := by kernel_rfl
theorem k1 : laidOutB Tryz.prog = true := by kernel_rfl
theorem k2 : mapsRowed Tryz.prog = true := by kernel_rfl
theorem k3 : (Tryz.f13.params.all fun x => Tryz.prog.readableRec x) = true := by kernel_rfl
theorem k4 : namedTie Tryz.prog Rows.eclipseMissesRow.named (OpenSpec.ofChange Rows.eclipseMissesSpec).bare.vars = true := by kernel_rfl
theorem k5 : (Rows.eclipseMissesRow.stops == []) = true := by kernel_rfl
theorem k6 : (Tryz.prog.stops == []) = true := by kernel_rfl
theorem k7 : (Rows.eclipseMissesRow.knobs == []) = true := by kernel_rfl
theorem k8 : (Tryz.prog.stopKnobs == []) = true := by kernel_rfl
theorem k9 : (Rows.eclipseMissesRow.inPlace == Tryz.prog.inPlace 13) = true := by kernel_rfl
theorem k10 : (Rows.eclipseMissesRow.unfollowed == Tryz.prog.unfollowed 13) = true := by kernel_rfl
theorem k11 : (Rows.eclipseMissesRow.recurses == Tryz.prog.recurses 13) = true := by kernel_rfl
theorem k12 : (Rows.eclipseMissesRow.named == Tryz.prog.varsNamed 13) = true := by kernel_rfl
theorem k13 : (Rows.eclipseMissesRow.maps == (Tryz.f13.params.toList ++ DataSpec.varTypes Tryz.prog (OpenSpec.ofChange Rows.eclipseMissesSpec).bare.plain).any fun x => Tryz.prog.mapsRec x) = true := by kernel_rfl
theorem k14 : (Rows.eclipseMissesRow.ifaces == (Tryz.f13.params.toList ++ DataSpec.varTypes Tryz.prog (OpenSpec.ofChange Rows.eclipseMissesSpec).bare.plain).any fun x => Tryz.prog.ifacesRec x) = true := by kernel_rfl
theorem k15 : (Rows.eclipseMissesRow.mapsOut == Tryz.prog.mapsAmong Tryz.f13.resultTypes.toList) = true := by kernel_rfl
theorem k16 : (Rows.eclipseMissesRow.loops == (Tryz.f13.params.toList ++ DataSpec.varTypes Tryz.prog (OpenSpec.ofChange Rows.eclipseMissesSpec).bare.plain).any fun x => Tryz.prog.loopsFrom x) = true := by kernel_rfl
theorem k17 : (Rows.eclipseMissesRow.wideKeys == (Tryz.f13.params.toList ++ DataSpec.varTypes Tryz.prog (OpenSpec.ofChange Rows.eclipseMissesSpec).bare.plain ++ Tryz.f13.resultTypes.toList).any fun x => Tryz.prog.wideKeysFrom x) = true := by kernel_rfl
theorem k18 : ((OpenSpec.ofChange Rows.eclipseMissesSpec).bare.vars.all fun x => Tryz.prog.varReadable x) = true := by kernel_rfl
theorem k19 : (Tryz.f13.resultTypes.all fun t => Tryz.prog.readableRec t && decide (t < Tryz.prog.types.size)) = true := by kernel_rfl
theorem k20 : (Rows.eclipseMissesRow.ifacesOut == Tryz.f13.resultTypes.toList.any fun x => Tryz.prog.ifacesRec x) = true := by kernel_rfl
theorem k21 : (Rows.eclipseMissesRow.loopsOut == Tryz.f13.resultTypes.toList.any fun x => Tryz.prog.loopsFrom x) = true := by kernel_rfl
theorem k22 : (Rows.eclipseMissesRow.plainKeys == Tryz.prog.plainKeys) = true := by kernel_rfl
theorem k23 : Rows.eclipseMissesRow.shortTexts.isNone = true := by kernel_rfl
theorem k24 : Tryz.prog.stopsHeard = true := by kernel_rfl
theorem k25 : Tryz.prog.mayEnter = true := may_yes
theorem k26 : (Rows.eclipseMissesRow.lifted == Tryz.prog.liftsFinal) = true := by rw [lifts_no]; rfl
theorem k27 : (Tryz.prog.make == some Rows.eclipseMissesRow.make) = true := by rw [make_cut]; rfl
theorem k28 : (Rows.eclipseMissesRow.kinds == if Rows.eclipseMissesRow.domain.isEmpty = true then [] else List.map (fun t => match Tryz.prog.underlying t with | some (TypeDesc.int k) => some k | _ => none) Tryz.f13.params.toList) = true := by kernel_rfl
theorem k29 : (Rows.eclipseMissesRow.pinned == Rows.eclipseMissesRow.pinnedBy) = true := by kernel_rfl
theorem k30 : (Rows.eclipseMissesRow.veiled == (Tryz.f13.params.toList ++ DataSpec.varTypes Tryz.prog (OpenSpec.ofChange Rows.eclipseMissesSpec).bare.plain ++ Tryz.f13.resultTypes.toList).any fun x => Tryz.prog.veiledRec x) = true := by kernel_rfl
theorem k31 : Rows.eclipseMissesRow.veiledFits Tryz.prog Tryz.f13.params.toList (Tryz.f13.params.toList ++ DataSpec.varTypes Tryz.prog (OpenSpec.ofChange Rows.eclipseMissesSpec).bare.plain ++ Tryz.f13.resultTypes.toList) = true := by kernel_rfl
theorem closed : joinedFacts Tryz.prog 13 Tryz.f13 (OpenSpec.ofChange Rows.eclipseMissesSpec).bare Rows.eclipseMissesRow = true := by
  unfold joinedFacts
  simp only [Bool.and_eq_true]
  exact ⟨⟨⟨⟨⟨⟨⟨⟨⟨⟨⟨⟨⟨⟨⟨⟨⟨⟨⟨⟨⟨⟨⟨⟨⟨⟨⟨⟨⟨⟨⟨k0, k1⟩, k2⟩, k3⟩, k4⟩, k5⟩, k6⟩, k7⟩, k8⟩, k9⟩, k10⟩, k11⟩, k12⟩, k13⟩, k14⟩, k15⟩, k16⟩, k17⟩, k18⟩, k19⟩, k20⟩, k21⟩, k22⟩, k23⟩, k24⟩, k25⟩, k26⟩, k27⟩, k28⟩, k29⟩, k30⟩, k31⟩
theorem wf_text : Rows.eclipseMissesRow.wfByText (OpenSpec.ofChange Rows.eclipseMissesSpec) = true := by kernel_rfl
theorem goes_no : false = Rows.eclipseMissesRow.goesBy Tryz.prog := by kernel_rfl
end Go.Proofs.YtcbodpnmndbgnaaGreatDoor.eclipseMisses
