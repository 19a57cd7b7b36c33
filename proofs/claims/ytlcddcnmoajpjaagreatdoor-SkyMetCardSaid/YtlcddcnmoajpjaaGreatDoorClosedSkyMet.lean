/- The closed facts of the row of SkyMet. (Printed by wip/mkclosed.py.) -/
import Derived.Test.YtlcddcnmoajpjaaGreatDoorWords2
namespace Go.Proofs.YtlcddcnmoajpjaaGreatDoor.skyMet
open Go.ChangeShapes Go.WideShapes Go.ChangeAt Go.RowKit
set_option maxRecDepth 100000
theorem k0 : OpenClaim.wf (OpenSpec.ofChange (OpenSpec.ofChange Rows.skyMetSpec).bare) Rows.skyMetRow = true := by kernel_rfl
theorem k1 : laidOutB Tryz.prog = true := by kernel_rfl
theorem k2 : mapsRowed Tryz.prog = true := by kernel_rfl
theorem k3 : (Tryz.f18.params.all fun x => Tryz.prog.readableRec x) = true := by kernel_rfl
theorem k4 : namedTie Tryz.prog Rows.skyMetRow.named (OpenSpec.ofChange Rows.skyMetSpec).bare.vars = true := by kernel_rfl
theorem k5 : (Rows.skyMetRow.stops == []) = true := by kernel_rfl
theorem k6 : (Tryz.prog.stops == []) = true := by kernel_rfl
theorem k7 : (Rows.skyMetRow.knobs == []) = true := by kernel_rfl
theorem k8 : (Tryz.prog.stopKnobs == []) = true := by kernel_rfl
theorem k9 : (Rows.skyMetRow.inPlace == Tryz.prog.inPlace 18) = true := by kernel_rfl
theorem k10 : (Rows.skyMetRow.unfollowed == Tryz.prog.unfollowed 18) = true := by kernel_rfl
theorem k11 : (Rows.skyMetRow.recurses == Tryz.prog.recurses 18) = true := by kernel_rfl
theorem k12 : (Rows.skyMetRow.named == Tryz.prog.varsNamed 18) = true := by kernel_rfl
theorem k13 : (Rows.skyMetRow.maps == (Tryz.f18.params.toList ++ DataSpec.varTypes Tryz.prog (OpenSpec.ofChange Rows.skyMetSpec).bare.plain).any fun x => Tryz.prog.mapsRec x) = true := by kernel_rfl
theorem k14 : (Rows.skyMetRow.ifaces == (Tryz.f18.params.toList ++ DataSpec.varTypes Tryz.prog (OpenSpec.ofChange Rows.skyMetSpec).bare.plain).any fun x => Tryz.prog.ifacesRec x) = true := by kernel_rfl
theorem k15 : (Rows.skyMetRow.mapsOut == Tryz.prog.mapsAmong Tryz.f18.resultTypes.toList) = true := by kernel_rfl
theorem k16 : (Rows.skyMetRow.loops == (Tryz.f18.params.toList ++ DataSpec.varTypes Tryz.prog (OpenSpec.ofChange Rows.skyMetSpec).bare.plain).any fun x => Tryz.prog.loopsFrom x) = true := by kernel_rfl
theorem k17 : (Rows.skyMetRow.wideKeys == (Tryz.f18.params.toList ++ DataSpec.varTypes Tryz.prog (OpenSpec.ofChange Rows.skyMetSpec).bare.plain ++ Tryz.f18.resultTypes.toList).any fun x => Tryz.prog.wideKeysFrom x) = true := by kernel_rfl
theorem k18 : ((OpenSpec.ofChange Rows.skyMetSpec).bare.vars.all fun x => Tryz.prog.varReadable x) = true := by kernel_rfl
theorem k19 : (Tryz.f18.resultTypes.all fun t => Tryz.prog.readableRec t && decide (t < Tryz.prog.types.size)) = true := by kernel_rfl
theorem k20 : (Rows.skyMetRow.ifacesOut == Tryz.f18.resultTypes.toList.any fun x => Tryz.prog.ifacesRec x) = true := by kernel_rfl
theorem k21 : (Rows.skyMetRow.loopsOut == Tryz.f18.resultTypes.toList.any fun x => Tryz.prog.loopsFrom x) = true := by kernel_rfl
theorem k22 : (Rows.skyMetRow.plainKeys == Tryz.prog.plainKeys) = true := by kernel_rfl
theorem k23 : Rows.skyMetRow.shortTexts.isNone = true := by kernel_rfl
theorem k24 : Tryz.prog.stopsHeard = true := by kernel_rfl
theorem k25 : Tryz.prog.mayEnter = true := may_yes
theorem k26 : (Rows.skyMetRow.lifted == Tryz.prog.liftsFinal) = true := by rw [lifts_no]; rfl
theorem k27 : (Tryz.prog.make == some Rows.skyMetRow.make) = true := by rw [make_cut]; rfl
theorem k28 : (Rows.skyMetRow.kinds == if Rows.skyMetRow.domain.isEmpty = true then [] else List.map (fun t => match Tryz.prog.underlying t with | some (TypeDesc.int k) => some k | _ => none) Tryz.f18.params.toList) = true := by kernel_rfl
theorem k29 : (Rows.skyMetRow.pinned == Rows.skyMetRow.pinnedBy) = true := by kernel_rfl
theorem k30 : (Rows.skyMetRow.veiled == (Tryz.f18.params.toList ++ DataSpec.varTypes Tryz.prog (OpenSpec.ofChange Rows.skyMetSpec).bare.plain ++ Tryz.f18.resultTypes.toList).any fun x => Tryz.prog.veiledRec x) = true := by kernel_rfl
theorem k31 : Rows.skyMetRow.veiledFits Tryz.prog Tryz.f18.params.toList (Tryz.f18.params.toList ++ DataSpec.varTypes Tryz.prog (OpenSpec.ofChange Rows.skyMetSpec).bare.plain ++ Tryz.f18.resultTypes.toList) = true := by kernel_rfl
theorem closed : joinedFacts Tryz.prog 18 Tryz.f18 (OpenSpec.ofChange Rows.skyMetSpec).bare Rows.skyMetRow = true := by
  unfold joinedFacts
  simp only [Bool.and_eq_true]
  exact ⟨⟨⟨⟨⟨⟨⟨⟨⟨⟨⟨⟨⟨⟨⟨⟨⟨⟨⟨⟨⟨⟨⟨⟨⟨⟨⟨⟨⟨⟨⟨k0, k1⟩, k2⟩, k3⟩, k4⟩, k5⟩, k6⟩, k7⟩, k8⟩, k9⟩, k10⟩, k11⟩, k12⟩, k13⟩, k14⟩, k15⟩, k16⟩, k17⟩, k18⟩, k19⟩, k20⟩, k21⟩, k22⟩, k23⟩, k24⟩, k25⟩, k26⟩, k27⟩, k28⟩, k29⟩, k30⟩, k31⟩
theorem wf_text : Rows.skyMetRow.wfByText (OpenSpec.ofChange Rows.skyMetSpec) = true := by kernel_rfl
theorem goes_no : false = Rows.skyMetRow.goesBy Tryz.prog := by kernel_rfl
end Go.Proofs.YtlcddcnmoajpjaaGreatDoor.skyMet
