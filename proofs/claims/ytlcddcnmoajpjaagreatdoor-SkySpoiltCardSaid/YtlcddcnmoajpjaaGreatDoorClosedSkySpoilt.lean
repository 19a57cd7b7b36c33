/- The closed facts of the row of SkySpoilt. (Printed by wip/mkclosed.py.) -/
import Derived.Test.YtlcddcnmoajpjaaGreatDoorWords2
namespace Go.Proofs.YtlcddcnmoajpjaaGreatDoor.skySpoilt
open Go.ChangeShapes Go.WideShapes Go.ChangeAt Go.RowKit
set_option maxRecDepth 100000
theorem k0 : OpenClaim.wf (OpenSpec.ofChange (OpenSpec.ofChange Rows.skySpoiltSpec).bare) Rows.skySpoiltRow = true := by kernel_rfl
theorem k1 : laidOutB Tryz.prog = true := by kernel_rfl
theorem k2 : mapsRowed Tryz.prog = true := by kernel_rfl
theorem k3 : (Tryz.f16.params.all fun x => Tryz.prog.readableRec x) = true := by kernel_rfl
theorem k4 : namedTie Tryz.prog Rows.skySpoiltRow.named (OpenSpec.ofChange Rows.skySpoiltSpec).bare.vars = true := by kernel_rfl
theorem k5 : (Rows.skySpoiltRow.stops == []) = true := by kernel_rfl
theorem k6 : (Tryz.prog.stops == []) = true := by kernel_rfl
theorem k7 : (Rows.skySpoiltRow.knobs == []) = true := by kernel_rfl
theorem k8 : (Tryz.prog.stopKnobs == []) = true := by kernel_rfl
theorem k9 : (Rows.skySpoiltRow.inPlace == Tryz.prog.inPlace 16) = true := by kernel_rfl
theorem k10 : (Rows.skySpoiltRow.unfollowed == Tryz.prog.unfollowed 16) = true := by kernel_rfl
theorem k11 : (Rows.skySpoiltRow.recurses == Tryz.prog.recurses 16) = true := by kernel_rfl
theorem k12 : (Rows.skySpoiltRow.named == Tryz.prog.varsNamed 16) = true := by kernel_rfl
theorem k13 : (Rows.skySpoiltRow.maps == (Tryz.f16.params.toList ++ DataSpec.varTypes Tryz.prog (OpenSpec.ofChange Rows.skySpoiltSpec).bare.plain).any fun x => Tryz.prog.mapsRec x) = true := by kernel_rfl
theorem k14 : (Rows.skySpoiltRow.ifaces == (Tryz.f16.params.toList ++ DataSpec.varTypes Tryz.prog (OpenSpec.ofChange Rows.skySpoiltSpec).bare.plain).any fun x => Tryz.prog.ifacesRec x) = true := by kernel_rfl
theorem k15 : (Rows.skySpoiltRow.mapsOut == Tryz.prog.mapsAmong Tryz.f16.resultTypes.toList) = true := by kernel_rfl
theorem k16 : (Rows.skySpoiltRow.loops == (Tryz.f16.params.toList ++ DataSpec.varTypes Tryz.prog (OpenSpec.ofChange Rows.skySpoiltSpec).bare.plain).any fun x => Tryz.prog.loopsFrom x) = true := by kernel_rfl
theorem k17 : (Rows.skySpoiltRow.wideKeys == (Tryz.f16.params.toList ++ DataSpec.varTypes Tryz.prog (OpenSpec.ofChange Rows.skySpoiltSpec).bare.plain ++ Tryz.f16.resultTypes.toList).any fun x => Tryz.prog.wideKeysFrom x) = true := by kernel_rfl
theorem k18 : ((OpenSpec.ofChange Rows.skySpoiltSpec).bare.vars.all fun x => Tryz.prog.varReadable x) = true := by kernel_rfl
theorem k19 : (Tryz.f16.resultTypes.all fun t => Tryz.prog.readableRec t && decide (t < Tryz.prog.types.size)) = true := by kernel_rfl
theorem k20 : (Rows.skySpoiltRow.ifacesOut == Tryz.f16.resultTypes.toList.any fun x => Tryz.prog.ifacesRec x) = true := by kernel_rfl
theorem k21 : (Rows.skySpoiltRow.loopsOut == Tryz.f16.resultTypes.toList.any fun x => Tryz.prog.loopsFrom x) = true := by kernel_rfl
theorem k22 : (Rows.skySpoiltRow.plainKeys == Tryz.prog.plainKeys) = true := by kernel_rfl
theorem k23 : Rows.skySpoiltRow.shortTexts.isNone = true := by kernel_rfl
theorem k24 : Tryz.prog.stopsHeard = true := by kernel_rfl
theorem k25 : Tryz.prog.mayEnter = true := may_yes
theorem k26 : (Rows.skySpoiltRow.lifted == Tryz.prog.liftsFinal) = true := by rw [lifts_no]; rfl
theorem k27 : (Tryz.prog.make == some Rows.skySpoiltRow.make) = true := by rw [make_cut]; rfl
theorem k28 : (Rows.skySpoiltRow.kinds == if Rows.skySpoiltRow.domain.isEmpty = true then [] else List.map (fun t => match Tryz.prog.underlying t with | some (TypeDesc.int k) => some k | _ => none) Tryz.f16.params.toList) = true := by kernel_rfl
theorem k29 : (Rows.skySpoiltRow.pinned == Rows.skySpoiltRow.pinnedBy) = true := by kernel_rfl
theorem k30 : (Rows.skySpoiltRow.veiled == (Tryz.f16.params.toList ++ DataSpec.varTypes Tryz.prog (OpenSpec.ofChange Rows.skySpoiltSpec).bare.plain ++ Tryz.f16.resultTypes.toList).any fun x => Tryz.prog.veiledRec x) = true := by kernel_rfl
theorem k31 : Rows.skySpoiltRow.veiledFits Tryz.prog Tryz.f16.params.toList (Tryz.f16.params.toList ++ DataSpec.varTypes Tryz.prog (OpenSpec.ofChange Rows.skySpoiltSpec).bare.plain ++ Tryz.f16.resultTypes.toList) = true := by kernel_rfl
theorem closed : joinedFacts Tryz.prog 16 Tryz.f16 (OpenSpec.ofChange Rows.skySpoiltSpec).bare Rows.skySpoiltRow = true := by
  unfold joinedFacts
  simp only [Bool.and_eq_true]
  exact ⟨⟨⟨⟨⟨⟨⟨⟨⟨⟨⟨⟨⟨⟨⟨⟨⟨⟨⟨⟨⟨⟨⟨⟨⟨⟨⟨⟨⟨⟨⟨k0, k1⟩, k2⟩, k3⟩, k4⟩, k5⟩, k6⟩, k7⟩, k8⟩, k9⟩, k10⟩, k11⟩, k12⟩, k13⟩, k14⟩, k15⟩, k16⟩, k17⟩, k18⟩, k19⟩, k20⟩, k21⟩, k22⟩, k23⟩, k24⟩, k25⟩, k26⟩, k27⟩, k28⟩, k29⟩, k30⟩, k31⟩
theorem wf_text : Rows.skySpoiltRow.wfByText (OpenSpec.ofChange Rows.skySpoiltSpec) = true := by kernel_rfl
theorem goes_no : false = Rows.skySpoiltRow.goesBy Tryz.prog := by kernel_rfl
end Go.Proofs.YtlcddcnmoajpjaaGreatDoor.skySpoilt
