/- The closed facts of the row of EclipseSpoilt. (Printed by wip/mkclosed.py.) -/
import Derived.Test.YtfkcbgehcbhjnaaGreatDoorH13
namespace Go.Proofs.YtfkcbgehcbhjnaaGreatDoor.eclipseSpoilt
open Go.ChangeShapes Go.WideShapes Go.ChangeAt Go.RowKit
set_option maxRecDepth 100000
theorem k0 : OpenClaim.wf (OpenSpec.ofChange (OpenSpec.ofChange Rows.eclipseSpoiltSpec).bare) Rows.eclipseSpoiltRow = true := by kernel_rfl
theorem k1 : laidOutB Tryz.prog = true := by kernel_rfl
theorem k2 : mapsRowed Tryz.prog = true := by kernel_rfl
theorem k3 : (Tryz.f5.params.all fun x => Tryz.prog.readableRec x) = true := by kernel_rfl
theorem k4 : namedTie Tryz.prog Rows.eclipseSpoiltRow.named (OpenSpec.ofChange Rows.eclipseSpoiltSpec).bare.vars = true := by kernel_rfl
theorem k5 : (Rows.eclipseSpoiltRow.stops == []) = true := by kernel_rfl
theorem k6 : (Tryz.prog.stops == []) = true := by kernel_rfl
theorem k7 : (Rows.eclipseSpoiltRow.knobs == []) = true := by kernel_rfl
theorem k8 : (Tryz.prog.stopKnobs == []) = true := by kernel_rfl
theorem k9 : (Rows.eclipseSpoiltRow.inPlace == Tryz.prog.inPlace 5) = true := by kernel_rfl
theorem k10 : (Rows.eclipseSpoiltRow.unfollowed == Tryz.prog.unfollowed 5) = true := by kernel_rfl
theorem k11 : (Rows.eclipseSpoiltRow.recurses == Tryz.prog.recurses 5) = true := by kernel_rfl
theorem k12 : (Rows.eclipseSpoiltRow.named == Tryz.prog.varsNamed 5) = true := by kernel_rfl
theorem k13 : (Rows.eclipseSpoiltRow.maps == (Tryz.f5.params.toList ++ DataSpec.varTypes Tryz.prog (OpenSpec.ofChange Rows.eclipseSpoiltSpec).bare.plain).any fun x => Tryz.prog.mapsRec x) = true := by kernel_rfl
theorem k14 : (Rows.eclipseSpoiltRow.ifaces == (Tryz.f5.params.toList ++ DataSpec.varTypes Tryz.prog (OpenSpec.ofChange Rows.eclipseSpoiltSpec).bare.plain).any fun x => Tryz.prog.ifacesRec x) = true := by kernel_rfl
theorem k15 : (Rows.eclipseSpoiltRow.mapsOut == Tryz.prog.mapsAmong Tryz.f5.resultTypes.toList) = true := by kernel_rfl
theorem k16 : (Rows.eclipseSpoiltRow.loops == (Tryz.f5.params.toList ++ DataSpec.varTypes Tryz.prog (OpenSpec.ofChange Rows.eclipseSpoiltSpec).bare.plain).any fun x => Tryz.prog.loopsFrom x) = true := by kernel_rfl
theorem k17 : (Rows.eclipseSpoiltRow.wideKeys == (Tryz.f5.params.toList ++ DataSpec.varTypes Tryz.prog (OpenSpec.ofChange Rows.eclipseSpoiltSpec).bare.plain ++ Tryz.f5.resultTypes.toList).any fun x => Tryz.prog.wideKeysFrom x) = true := by kernel_rfl
theorem k18 : ((OpenSpec.ofChange Rows.eclipseSpoiltSpec).bare.vars.all fun x => Tryz.prog.varReadable x) = true := by kernel_rfl
theorem k19 : (Tryz.f5.resultTypes.all fun t => Tryz.prog.readableRec t && decide (t < Tryz.prog.types.size)) = true := by kernel_rfl
theorem k20 : (Rows.eclipseSpoiltRow.ifacesOut == Tryz.f5.resultTypes.toList.any fun x => Tryz.prog.ifacesRec x) = true := by kernel_rfl
theorem k21 : (Rows.eclipseSpoiltRow.loopsOut == Tryz.f5.resultTypes.toList.any fun x => Tryz.prog.loopsFrom x) = true := by kernel_rfl
theorem k22 : (Rows.eclipseSpoiltRow.plainKeys == Tryz.prog.plainKeys) = true := by kernel_rfl
theorem k23 : Rows.eclipseSpoiltRow.shortTexts.isNone = true := by kernel_rfl
theorem k24 : Tryz.prog.stopsHeard = true := by kernel_rfl
theorem k25 : Tryz.prog.mayEnter = true := may_yes
theorem k26 : (Rows.eclipseSpoiltRow.lifted == Tryz.prog.liftsFinal) = true := by rw [lifts_no]; rfl
theorem k27 : (Tryz.prog.make == some Rows.eclipseSpoiltRow.make) = true := by rw [make_cut]; rfl
theorem k28 : (Rows.eclipseSpoiltRow.kinds == if Rows.eclipseSpoiltRow.domain.isEmpty = true then [] else List.map (fun t => match Tryz.prog.underlying t with | some (TypeDesc.int k) => some k | _ => none) Tryz.f5.params.toList) = true := by kernel_rfl
theorem k29 : (Rows.eclipseSpoiltRow.pinned == Rows.eclipseSpoiltRow.pinnedBy) = true := by kernel_rfl
theorem k30 : (Rows.eclipseSpoiltRow.veiled == (Tryz.f5.params.toList ++ DataSpec.varTypes Tryz.prog (OpenSpec.ofChange Rows.eclipseSpoiltSpec).bare.plain ++ Tryz.f5.resultTypes.toList).any fun x => Tryz.prog.veiledRec x) = true := by kernel_rfl
theorem k31 : Rows.eclipseSpoiltRow.veiledFits Tryz.prog Tryz.f5.params.toList (Tryz.f5.params.toList ++ DataSpec.varTypes Tryz.prog (OpenSpec.ofChange Rows.eclipseSpoiltSpec).bare.plain ++ Tryz.f5.resultTypes.toList) = true := by kernel_rfl
theorem closed : joinedFacts Tryz.prog 5 Tryz.f5 (OpenSpec.ofChange Rows.eclipseSpoiltSpec).bare Rows.eclipseSpoiltRow = true := by
  unfold joinedFacts
  simp only [Bool.and_eq_true]
  exact ⟨⟨⟨⟨⟨⟨⟨⟨⟨⟨⟨⟨⟨⟨⟨⟨⟨⟨⟨⟨⟨⟨⟨⟨⟨⟨⟨⟨⟨⟨⟨k0, k1⟩, k2⟩, k3⟩, k4⟩, k5⟩, k6⟩, k7⟩, k8⟩, k9⟩, k10⟩, k11⟩, k12⟩, k13⟩, k14⟩, k15⟩, k16⟩, k17⟩, k18⟩, k19⟩, k20⟩, k21⟩, k22⟩, k23⟩, k24⟩, k25⟩, k26⟩, k27⟩, k28⟩, k29⟩, k30⟩, k31⟩
theorem wf_text : Rows.eclipseSpoiltRow.wfByText (OpenSpec.ofChange Rows.eclipseSpoiltSpec) = true := by kernel_rfl
theorem goes_no : false = Rows.eclipseSpoiltRow.goesBy Tryz.prog := by kernel_rfl
end Go.Proofs.YtfkcbgehcbhjnaaGreatDoor.eclipseSpoilt
