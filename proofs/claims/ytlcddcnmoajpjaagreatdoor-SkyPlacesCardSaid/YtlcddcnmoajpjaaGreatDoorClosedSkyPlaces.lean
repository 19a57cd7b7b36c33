/- The closed facts of the row of SkyPlaces. (Printed by wip/mkclosed.py.) -/
import Derived.Test.YtlcddcnmoajpjaaGreatDoorWords2
namespace Go.Proofs.YtlcddcnmoajpjaaGreatDoor.skyPlaces
open Go.ChangeShapes Go.WideShapes Go.ChangeAt Go.RowKit
set_option maxRecDepth 100000
theorem k0 : OpenClaim.wf (OpenSpec.ofChange (OpenSpec.ofChange Rows.skyPlacesSpec).bare) Rows.skyPlacesRow = true := by kernel_rfl
theorem k1 : laidOutB Tryz.prog = true := by kernel_rfl
theorem k2 : mapsRowed Tryz.prog = true := by kernel_rfl
theorem k3 : (Tryz.f21.params.all fun x => Tryz.prog.readableRec x) = true := by kernel_rfl
theorem k4 : namedTie Tryz.prog Rows.skyPlacesRow.named (OpenSpec.ofChange Rows.skyPlacesSpec).bare.vars = true := by kernel_rfl
theorem k5 : (Rows.skyPlacesRow.stops == []) = true := by kernel_rfl
theorem k6 : (Tryz.prog.stops == []) = true := by kernel_rfl
theorem k7 : (Rows.skyPlacesRow.knobs == []) = true := by kernel_rfl
theorem k8 : (Tryz.prog.stopKnobs == []) = true := by kernel_rfl
theorem k9 : (Rows.skyPlacesRow.inPlace == Tryz.prog.inPlace 21) = true := by kernel_rfl
theorem k10 : (Rows.skyPlacesRow.unfollowed == Tryz.prog.unfollowed 21) = true := by kernel_rfl
theorem k11 : (Rows.skyPlacesRow.recurses == Tryz.prog.recurses 21) = true := by kernel_rfl
theorem k12 : (Rows.skyPlacesRow.named == Tryz.prog.varsNamed 21) = true := by kernel_rfl
theorem k13 : (Rows.skyPlacesRow.maps == (Tryz.f21.params.toList ++ DataSpec.varTypes Tryz.prog (OpenSpec.ofChange Rows.skyPlacesSpec).bare.plain).any fun x => Tryz.prog.mapsRec x) = true := by kernel_rfl
theorem k14 : (Rows.skyPlacesRow.ifaces == (Tryz.f21.params.toList ++ DataSpec.varTypes Tryz.prog (OpenSpec.ofChange Rows.skyPlacesSpec).bare.plain).any fun x => Tryz.prog.ifacesRec x) = true := by kernel_rfl
theorem k15 : (Rows.skyPlacesRow.mapsOut == Tryz.prog.mapsAmong Tryz.f21.resultTypes.toList) = true := by kernel_rfl
theorem k16 : (Rows.skyPlacesRow.loops == (Tryz.f21.params.toList ++ DataSpec.varTypes Tryz.prog (OpenSpec.ofChange Rows.skyPlacesSpec).bare.plain).any fun x => Tryz.prog.loopsFrom x) = true := by kernel_rfl
theorem k17 : (Rows.skyPlacesRow.wideKeys == (Tryz.f21.params.toList ++ DataSpec.varTypes Tryz.prog (OpenSpec.ofChange Rows.skyPlacesSpec).bare.plain ++ Tryz.f21.resultTypes.toList).any fun x => Tryz.prog.wideKeysFrom x) = true := by kernel_rfl
theorem k18 : ((OpenSpec.ofChange Rows.skyPlacesSpec).bare.vars.all fun x => Tryz.prog.varReadable x) = true := by kernel_rfl
theorem k19 : (Tryz.f21.resultTypes.all fun t => Tryz.prog.readableRec t && decide (t < Tryz.prog.types.size)) = true := by kernel_rfl
theorem k20 : (Rows.skyPlacesRow.ifacesOut == Tryz.f21.resultTypes.toList.any fun x => Tryz.prog.ifacesRec x) = true := by kernel_rfl
theorem k21 : (Rows.skyPlacesRow.loopsOut == Tryz.f21.resultTypes.toList.any fun x => Tryz.prog.loopsFrom x) = true := by kernel_rfl
theorem k22 : (Rows.skyPlacesRow.plainKeys == Tryz.prog.plainKeys) = true := by kernel_rfl
theorem k23 : Rows.skyPlacesRow.shortTexts.isNone = true := by kernel_rfl
theorem k24 : Tryz.prog.stopsHeard = true := by kernel_rfl
theorem k25 : Tryz.prog.mayEnter = true := may_yes
theorem k26 : (Rows.skyPlacesRow.lifted == Tryz.prog.liftsFinal) = true := by rw [lifts_no]; rfl
theorem k27 : (Tryz.prog.make == some Rows.skyPlacesRow.make) = true := by rw [make_cut]; rfl
theorem k28 : (Rows.skyPlacesRow.kinds == if Rows.skyPlacesRow.domain.isEmpty = true then [] else List.map (fun t => match Tryz.prog.underlying t with | some (TypeDesc.int k) => some k | _ => none) Tryz.f21.params.toList) = true := by kernel_rfl
theorem k29 : (Rows.skyPlacesRow.pinned == Rows.skyPlacesRow.pinnedBy) = true := by kernel_rfl
theorem k30 : (Rows.skyPlacesRow.veiled == (Tryz.f21.params.toList ++ DataSpec.varTypes Tryz.prog (OpenSpec.ofChange Rows.skyPlacesSpec).bare.plain ++ Tryz.f21.resultTypes.toList).any fun x => Tryz.prog.veiledRec x) = true := by kernel_rfl
theorem k31 : Rows.skyPlacesRow.veiledFits Tryz.prog Tryz.f21.params.toList (Tryz.f21.params.toList ++ DataSpec.varTypes Tryz.prog (OpenSpec.ofChange Rows.skyPlacesSpec).bare.plain ++ Tryz.f21.resultTypes.toList) = true := by kernel_rfl
theorem closed : joinedFacts Tryz.prog 21 Tryz.f21 (OpenSpec.ofChange Rows.skyPlacesSpec).bare Rows.skyPlacesRow = true := by
  unfold joinedFacts
  simp only [Bool.and_eq_true]
  exact ⟨⟨⟨⟨⟨⟨⟨⟨⟨⟨⟨⟨⟨⟨⟨⟨⟨⟨⟨⟨⟨⟨⟨⟨⟨⟨⟨⟨⟨⟨⟨k0, k1⟩, k2⟩, k3⟩, k4⟩, k5⟩, k6⟩, k7⟩, k8⟩, k9⟩, k10⟩, k11⟩, k12⟩, k13⟩, k14⟩, k15⟩, k16⟩, k17⟩, k18⟩, k19⟩, k20⟩, k21⟩, k22⟩, k23⟩, k24⟩, k25⟩, k26⟩, k27⟩, k28⟩, k29⟩, k30⟩, k31⟩
theorem wf_text : Rows.skyPlacesRow.wfByText (OpenSpec.ofChange Rows.skyPlacesSpec) = true := by kernel_rfl
theorem goes_no : false = Rows.skyPlacesRow.goesBy Tryz.prog := by kernel_rfl
end Go.Proofs.YtlcddcnmoajpjaaGreatDoor.skyPlaces
