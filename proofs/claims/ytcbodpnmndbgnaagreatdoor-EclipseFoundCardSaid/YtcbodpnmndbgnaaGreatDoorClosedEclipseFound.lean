/- The closed facts of the row of EclipseFound. (Printed by wip/mkclosed.py.) -/
import Derived.Test.YtcbodpnmndbgnaaGreatDoorD12
namespace Go.Proofs.YtcbodpnmndbgnaaGreatDoor.eclipseFound
open Go.ChangeShapes Go.WideShapes Go.ChangeAt Go.RowKit
set_option maxRecDepth 100000
theorem k0 : OpenClaim.wf (OpenSpec.ofChange (OpenSpec.ofChange Rows.eclipseFoundSpec).bare) Rows.eclipseFoundRow = true := by kernel_rfl
theorem k1 : laidOutB Tryz.prog = true := by kernel_rfl
theorem k2 : mapsRowed Tryz.prog = true := by kernel_rfl
theorem k3 : (Tryz.f14.params.all fun x => Tryz.prog.readableRec x) = true := by kernel_rfl
theorem k4 : namedTie Tryz.prog Rows.eclipseFoundRow.named (OpenSpec.ofChange Rows.eclipseFoundSpec).bare.vars = true := by kernel_rfl
theorem k5 : (Rows.eclipseFoundRow.stops == []) = true := by kernel_rfl
theorem k6 : (Tryz.prog.stops == []) = true := by kernel_rfl
theorem k7 : (Rows.eclipseFoundRow.knobs == []) = true := by kernel_rfl
theorem k8 : (Tryz.prog.stopKnobs == []) = true := by kernel_rfl
theorem k9 : (Rows.eclipseFoundRow.inPlace == Tryz.prog.inPlace 14) = true := by kernel_rfl
theorem k10 : (Rows.eclipseFoundRow.unfollowed == Tryz.prog.unfollowed 14) = true := by kernel_rfl
theorem k11 : (Rows.eclipseFoundRow.recurses == Tryz.prog.recurses 14) = true := by kernel_rfl
theorem k12 : (Rows.eclipseFoundRow.named == Tryz.prog.varsNamed 14) = true := by kernel_rfl
theorem k13 : (Rows.eclipseFoundRow.maps == (Tryz.f14.params.toList ++ DataSpec.varTypes Tryz.prog (OpenSpec.ofChange Rows.eclipseFoundSpec).bare.plain).any fun x => Tryz.prog.mapsRec x) = true := by kernel_rfl
theorem k14 : (Rows.eclipseFoundRow.ifaces == (Tryz.f14.params.toList ++ DataSpec.varTypes Tryz.prog (OpenSpec.ofChange Rows.eclipseFoundSpec).bare.plain).any fun x => Tryz.prog.ifacesRec x) = true := by kernel_rfl
theorem k15 : (Rows.eclipseFoundRow.mapsOut == Tryz.prog.mapsAmong Tryz.f14.resultTypes.toList) = true := by kernel_rfl
theorem k16 : (Rows.eclipseFoundRow.loops == (Tryz.f14.params.toList ++ DataSpec.varTypes Tryz.prog (OpenSpec.ofChange Rows.eclipseFoundSpec).bare.plain).any fun x => Tryz.prog.loopsFrom x) = true := by kernel_rfl
theorem k17 : (Rows.eclipseFoundRow.wideKeys == (Tryz.f14.params.toList ++ DataSpec.varTypes Tryz.prog (OpenSpec.ofChange Rows.eclipseFoundSpec).bare.plain ++ Tryz.f14.resultTypes.toList).any fun x => Tryz.prog.wideKeysFrom x) = true := by kernel_rfl
theorem k18 : ((OpenSpec.ofChange Rows.eclipseFoundSpec).bare.vars.all fun x => Tryz.prog.varReadable x) = true := by kernel_rfl
theorem k19 : (Tryz.f14.resultTypes.all fun t => Tryz.prog.readableRec t && decide (t < Tryz.prog.types.size)) = true := by kernel_rfl
theorem k20 : (Rows.eclipseFoundRow.ifacesOut == Tryz.f14.resultTypes.toList.any fun x => Tryz.prog.ifacesRec x) = true := by kernel_rfl
theorem k21 : (Rows.eclipseFoundRow.loopsOut == Tryz.f14.resultTypes.toList.any fun x => Tryz.prog.loopsFrom x) = true := by kernel_rfl
theorem k22 : (Rows.eclipseFoundRow.plainKeys == Tryz.prog.plainKeys) = true := by kernel_rfl
theorem k23 : Rows.eclipseFoundRow.shortTexts.isNone = true := by kernel_rfl
theorem k24 : Tryz.prog.stopsHeard = true := by kernel_rfl
theorem k25 : Tryz.prog.mayEnter = true := may_yes
theorem k26 : (Rows.eclipseFoundRow.lifted == Tryz.prog.liftsFinal) = true := by rw [lifts_no]; rfl
theorem k27 : (Tryz.prog.make == some Rows.eclipseFoundRow.make) = true := by rw [make_cut]; rfl
theorem k28 : (Rows.eclipseFoundRow.kinds == if Rows.eclipseFoundRow.domain.isEmpty = true then [] else List.map (fun t => match Tryz.prog.underlying t with | some (TypeDesc.int k) => some k | _ => none) Tryz.f14.params.toList) = true := by kernel_rfl
theorem k29 : (Rows.eclipseFoundRow.pinned == Rows.eclipseFoundRow.pinnedBy) = true := by kernel_rfl
theorem k30 : (Rows.eclipseFoundRow.veiled == (Tryz.f14.params.toList ++ DataSpec.varTypes Tryz.prog (OpenSpec.ofChange Rows.eclipseFoundSpec).bare.plain ++ Tryz.f14.resultTypes.toList).any fun x => Tryz.prog.veiledRec x) = true := by kernel_rfl
theorem k31 : Rows.eclipseFoundRow.veiledFits Tryz.prog Tryz.f14.params.toList (Tryz.f14.params.toList ++ DataSpec.varTypes Tryz.prog (OpenSpec.ofChange Rows.eclipseFoundSpec).bare.plain ++ Tryz.f14.resultTypes.toList) = true := by kernel_rfl
theorem closed : joinedFacts Tryz.prog 14 Tryz.f14 (OpenSpec.ofChange Rows.eclipseFoundSpec).bare Rows.eclipseFoundRow = true := by
  unfold joinedFacts
  simp only [Bool.and_eq_true]
  exact ⟨⟨⟨⟨⟨⟨⟨⟨⟨⟨⟨⟨⟨⟨⟨⟨⟨⟨⟨⟨⟨⟨⟨⟨⟨⟨⟨⟨⟨⟨⟨k0, k1⟩, k2⟩, k3⟩, k4⟩, k5⟩, k6⟩, k7⟩, k8⟩, k9⟩, k10⟩, k11⟩, k12⟩, k13⟩, k14⟩, k15⟩, k16⟩, k17⟩, k18⟩, k19⟩, k20⟩, k21⟩, k22⟩, k23⟩, k24⟩, k25⟩, k26⟩, k27⟩, k28⟩, k29⟩, k30⟩, k31⟩
theorem wf_text : Rows.eclipseFoundRow.wfByText (OpenSpec.ofChange Rows.eclipseFoundSpec) = true := by kernel_rfl
theorem goes_no : false = Rows.eclipseFoundRow.goesBy Tryz.prog := by kernel_rfl
end Go.Proofs.YtcbodpnmndbgnaaGreatDoor.eclipseFound
