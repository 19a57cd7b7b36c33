/- The closed facts of the row of SkyCycles. (Printed by wip/mkclosed.py.) -/
import Derived.Test.YtlcddcnmoajpjaaGreatDoorWords2
namespace Go.Proofs.YtlcddcnmoajpjaaGreatDoor.skyCycles
open Go.ChangeShapes Go.WideShapes Go.ChangeAt Go.RowKit
set_option maxRecDepth 100000
theorem k0 : OpenClaim.wf (OpenSpec.ofChange (OpenSpec.ofChange Rows.skyCyclesSpec).bare) Rows.skyCyclesRow = true := by kernel_rfl
theorem k1 : laidOutB Tryz.prog = true := by kernel_rfl
theorem k2 : mapsRowed Tryz.prog = true := by kernel_rfl
theorem k3 : (Tryz.f20.params.all fun x => Tryz.prog.readableRec x) = true := by kernel_rfl
theorem k4 : namedTie Tryz.prog Rows.skyCyclesRow.named (OpenSpec.ofChange Rows.skyCyclesSpec).bare.vars = true := by kernel_rfl
theorem k5 : (Rows.skyCyclesRow.stops == []) = true := by kernel_rfl
theorem k6 : (Tryz.prog.stops == []) = true := by kernel_rfl
theorem k7 : (Rows.skyCyclesRow.knobs == []) = true := by kernel_rfl
theorem k8 : (Tryz.prog.stopKnobs == []) = true := by kernel_rfl
theorem k9 : (Rows.skyCyclesRow.inPlace == Tryz.prog.inPlace 20) = true := by kernel_rfl
theorem k10 : (Rows.skyCyclesRow.unfollowed == Tryz.prog.unfollowed 20) = true := by kernel_rfl
theorem k11 : (Rows.skyCyclesRow.recurses == Tryz.prog.recurses 20) = true := by kernel_rfl
theorem k12 : (Rows.skyCyclesRow.named == Tryz.prog.varsNamed 20) = true := by kernel_rfl
theorem k13 : (Rows.skyCyclesRow.maps == (Tryz.f20.params.toList ++ DataSpec.varTypes Tryz.prog (OpenSpec.ofChange Rows.skyCyclesSpec).bare.plain).any fun x => Tryz.prog.mapsRec x) = true := by kernel_rfl
theorem k14 : (Rows.skyCyclesRow.ifaces == (Tryz.f20.params.toList ++ DataSpec.varTypes Tryz.prog (OpenSpec.ofChange Rows.skyCyclesSpec).bare.plain).any fun x => Tryz.prog.ifacesRec x) = true := by kernel_rfl
theorem k15 : (Rows.skyCyclesRow.mapsOut == Tryz.prog.mapsAmong Tryz.f20.resultTypes.toList) = true := by kernel_rfl
theorem k16 : (Rows.skyCyclesRow.loops == (Tryz.f20.params.toList ++ DataSpec.varTypes Tryz.prog (OpenSpec.ofChange Rows.skyCyclesSpec).bare.plain).any fun x => Tryz.prog.loopsFrom x) = true := by kernel_rfl
theorem k17 : (Rows.skyCyclesRow.wideKeys == (Tryz.f20.params.toList ++ DataSpec.varTypes Tryz.prog (OpenSpec.ofChange Rows.skyCyclesSpec).bare.plain ++ Tryz.f20.resultTypes.toList).any fun x => Tryz.prog.wideKeysFrom x) = true := by kernel_rfl
theorem k18 : ((OpenSpec.ofChange Rows.skyCyclesSpec).bare.vars.all fun x => Tryz.prog.varReadable x) = true := by kernel_rfl
theorem k19 : (Tryz.f20.resultTypes.all fun t => Tryz.prog.readableRec t && decide (t < Tryz.prog.types.size)) = true := by kernel_rfl
theorem k20 : (Rows.skyCyclesRow.ifacesOut == Tryz.f20.resultTypes.toList.any fun x => Tryz.prog.ifacesRec x) = true := by kernel_rfl
theorem k21 : (Rows.skyCyclesRow.loopsOut == Tryz.f20.resultTypes.toList.any fun x => Tryz.prog.loopsFrom x) = true := by kernel_rfl
theorem k22 : (Rows.skyCyclesRow.plainKeys == Tryz.prog.plainKeys) = true := by kernel_rfl
theorem k23 : Rows.skyCyclesRow.shortTexts.isNone = true := by kernel_rfl
theorem k24 : Tryz.prog.stopsHeard = true := by kernel_rfl
theorem k25 : Tryz.prog.mayEnter = true := may_yes
theorem k26 : (Rows.skyCyclesRow.lifted == Tryz.prog.liftsFinal) = true := by rw [lifts_no]; rfl
theorem k27 : (Tryz.prog.make == some Rows.skyCyclesRow.make) = true := by rw [make_cut]; rfl
theorem k28 : (Rows.skyCyclesRow.kinds == if Rows.skyCyclesRow.domain.isEmpty = true then [] else List.map (fun t => match Tryz.prog.underlying t with | some (TypeDesc.int k) => some k | _ => none) Tryz.f20.params.toList) = true := by kernel_rfl
theorem k29 : (Rows.skyCyclesRow.pinned == Rows.skyCyclesRow.pinnedBy) = true := by kernel_rfl
theorem k30 : (Rows.skyCyclesRow.veiled == (Tryz.f20.params.toList ++ DataSpec.varTypes Tryz.prog (OpenSpec.ofChange Rows.skyCyclesSpec).bare.plain ++ Tryz.f20.resultTypes.toList).any fun x => Tryz.prog.veiledRec x) = true := by kernel_rfl
theorem k31 : Rows.skyCyclesRow.veiledFits Tryz.prog Tryz.f20.params.toList (Tryz.f20.params.toList ++ DataSpec.varTypes Tryz.prog (OpenSpec.ofChange Rows.skyCyclesSpec).bare.plain ++ Tryz.f20.resultTypes.toList) = true := by kernel_rfl
theorem closed : joinedFacts Tryz.prog 20 Tryz.f20 (OpenSpec.ofChange Rows.skyCyclesSpec).bare Rows.skyCyclesRow = true := by
  unfold joinedFacts
  simp only [Bool.and_eq_true]
  exact ⟨⟨⟨⟨⟨⟨⟨⟨⟨⟨⟨⟨⟨⟨⟨⟨⟨⟨⟨⟨⟨⟨⟨⟨⟨⟨⟨⟨⟨⟨⟨k0, k1⟩, k2⟩, k3⟩, k4⟩, k5⟩, k6⟩, k7⟩, k8⟩, k9⟩, k10⟩, k11⟩, k12⟩, k13⟩, k14⟩, k15⟩, k16⟩, k17⟩, k18⟩, k19⟩, k20⟩, k21⟩, k22⟩, k23⟩, k24⟩, k25⟩, k26⟩, k27⟩, k28⟩, k29⟩, k30⟩, k31⟩
theorem wf_text : Rows.skyCyclesRow.wfByText (OpenSpec.ofChange Rows.skyCyclesSpec) = true := by kernel_rfl
theorem goes_no : false = Rows.skyCyclesRow.goesBy Tryz.prog := by kernel_rfl
end Go.Proofs.YtlcddcnmoajpjaaGreatDoor.skyCycles
