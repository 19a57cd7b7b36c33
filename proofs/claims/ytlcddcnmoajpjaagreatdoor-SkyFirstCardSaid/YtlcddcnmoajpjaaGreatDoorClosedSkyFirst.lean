/- The closed facts of the row of SkyFirst. (Printed by wip/mkclosed.py.) -/
import Derived.Test.YtlcddcnmoajpjaaGreatDoorWords2
namespace Go.Proofs.YtlcddcnmoajpjaaGreatDoor.skyFirst
open Go.ChangeShapes Go.WideShapes Go.ChangeAt Go.RowKit
set_option maxRecDepth 100000
theorem k0 : OpenClaim.wf (OpenSpec.ofChange (OpenSpec.ofChange Rows.skyFirstSpec).bare) Rows.skyFirstRow = true := by kernel_rfl
theorem k1 : laidOutB Tryz.prog = true := by kernel_rfl
theorem k2 : mapsRowed Tryz.prog = true := by kernel_rfl
theorem k3 : (Tryz.f23.params.all fun x => Tryz.prog.readableRec x) = true := by kernel_rfl
theorem k4 : namedTie Tryz.prog Rows.skyFirstRow.named (OpenSpec.ofChange Rows.skyFirstSpec).bare.vars = true := by kernel_rfl
theorem k5 : (Rows.skyFirstRow.stops == []) = true := by kernel_rfl
theorem k6 : (Tryz.prog.stops == []) = true := by kernel_rfl
theorem k7 : (Rows.skyFirstRow.knobs == []) = true := by kernel_rfl
theorem k8 : (Tryz.prog.stopKnobs == []) = true := by kernel_rfl
theorem k9 : (Rows.skyFirstRow.inPlace == Tryz.prog.inPlace 23) = true := by kernel_rfl
theorem k10 : (Rows.skyFirstRow.unfollowed == Tryz.prog.unfollowed 23) = true := by kernel_rfl
theorem k11 : (Rows.skyFirstRow.recurses == Tryz.prog.recurses 23) = true := by kernel_rfl
theorem k12 : (Rows.skyFirstRow.named == Tryz.prog.varsNamed 23) = true := by kernel_rfl
theorem k13 : (Rows.skyFirstRow.maps == (Tryz.f23.params.toList ++ DataSpec.varTypes Tryz.prog (OpenSpec.ofChange Rows.skyFirstSpec).bare.plain).any fun x => Tryz.prog.mapsRec x) = true := by kernel_rfl
theorem k14 : (Rows.skyFirstRow.ifaces == (Tryz.f23.params.toList ++ DataSpec.varTypes Tryz.prog (OpenSpec.ofChange Rows.skyFirstSpec).bare.plain).any fun x => Tryz.prog.ifacesRec x) = true := by kernel_rfl
theorem k15 : (Rows.skyFirstRow.mapsOut == Tryz.prog.mapsAmong Tryz.f23.resultTypes.toList) = true := by kernel_rfl
theorem k16 : (Rows.skyFirstRow.loops == (Tryz.f23.params.toList ++ DataSpec.varTypes Tryz.prog (OpenSpec.ofChange Rows.skyFirstSpec).bare.plain).any fun x => Tryz.prog.loopsFrom x) = true := by kernel_rfl
theorem k17 : (Rows.skyFirstRow.wideKeys == (Tryz.f23.params.toList ++ DataSpec.varTypes Tryz.prog (OpenSpec.ofChange Rows.skyFirstSpec).bare.plain ++ Tryz.f23.resultTypes.toList).any fun x => Tryz.prog.wideKeysFrom x) = true := by kernel_rfl
theorem k18 : ((OpenSpec.ofChange Rows.skyFirstSpec).bare.vars.all fun x => Tryz.prog.varReadable x) = true := by kernel_rfl
theorem k19 : (Tryz.f23.resultTypes.all fun t => Tryz.prog.readableRec t && decide (t < Tryz.prog.types.size)) = true := by kernel_rfl
theorem k20 : (Rows.skyFirstRow.ifacesOut == Tryz.f23.resultTypes.toList.any fun x => Tryz.prog.ifacesRec x) = true := by kernel_rfl
theorem k21 : (Rows.skyFirstRow.loopsOut == Tryz.f23.resultTypes.toList.any fun x => Tryz.prog.loopsFrom x) = true := by kernel_rfl
theorem k22 : (Rows.skyFirstRow.plainKeys == Tryz.prog.plainKeys) = true := by kernel_rfl
theorem k23 : Rows.skyFirstRow.shortTexts.isNone = true := by kernel_rfl
theorem k24 : Tryz.prog.stopsHeard = true := by kernel_rfl
theorem k25 : Tryz.prog.mayEnter = true := may_yes
theorem k26 : (Rows.skyFirstRow.lifted == Tryz.prog.liftsFinal) = true := by rw [lifts_no]; rfl
theorem k27 : (Tryz.prog.make == some Rows.skyFirstRow.make) = true := by rw [make_cut]; rfl
theorem k28 : (Rows.skyFirstRow.kinds == if Rows.skyFirstRow.domain.isEmpty = true then [] else List.map (fun t => match Tryz.prog.underlying t with | some (TypeDesc.int k) => some k | _ => none) Tryz.f23.params.toList) = true := by kernel_rfl
theorem k29 : (Rows.skyFirstRow.pinned == Rows.skyFirstRow.pinnedBy) = true := by kernel_rfl
theorem k30 : (Rows.skyFirstRow.veiled == (Tryz.f23.params.toList ++ DataSpec.varTypes Tryz.prog (OpenSpec.ofChange Rows.skyFirstSpec).bare.plain ++ Tryz.f23.resultTypes.toList).any fun x => Tryz.prog.veiledRec x) = true := by kernel_rfl
theorem k31 : Rows.skyFirstRow.veiledFits Tryz.prog Tryz.f23.params.toList (Tryz.f23.params.toList ++ DataSpec.varTypes Tryz.prog (OpenSpec.ofChange Rows.skyFirstSpec).bare.plain ++ Tryz.f23.resultTypes.toList) = true := by kernel_rfl
theorem closed : joinedFacts Tryz.prog 23 Tryz.f23 (OpenSpec.ofChange Rows.skyFirstSpec).bare Rows.skyFirstRow = true := by
  unfold joinedFacts
  simp only [Bool.and_eq_true]
  exact ⟨⟨⟨⟨⟨⟨⟨⟨⟨⟨⟨⟨⟨⟨⟨⟨⟨⟨⟨⟨⟨⟨⟨⟨⟨⟨⟨⟨⟨⟨⟨k0, k1⟩, k2⟩, k3⟩, k4⟩, k5⟩, k6⟩, k7⟩, k8⟩, k9⟩, k10⟩, k11⟩, k12⟩, k13⟩, k14⟩, k15⟩, k16⟩, k17⟩, k18⟩, k19⟩, k20⟩, k21⟩, k22⟩, k23⟩, k24⟩, k25⟩, k26⟩, k27⟩, k28⟩, k29⟩, k30⟩, k31⟩
theorem wf_text : Rows.skyFirstRow.wfByText (OpenSpec.ofChange Rows.skyFirstSpec) = true := by kernel_rfl
theorem goes_no : false = Rows.skyFirstRow.goesBy Tryz.prog := by kernel_rfl
end Go.Proofs.YtlcddcnmoajpjaaGreatDoor.skyFirst
