/- The closed facts of the row of EclipseHands. (Printed by wip/mkclosed.py.) -/
import Derived.Test.YtcbodpnmndbgnaaGreatDoorA13
namespace Go.Proofs.YtcbodpnmndbgnaaGreatDoor.eclipseHands
open Go.ChangeShapes Go.WideShapes Go.ChangeAt Go.RowKit
set_option maxRecDepth 100000
theorem k0 : OpenClaim.wf (OpenSpec.ofChange (OpenSpec.ofChange Rows.eclipseHandsSpec).bare) Rows.eclipseHandsRow = true := by kernel_rfl
theorem k1 : laidOutB Tryz.prog = true := by kernel_rfl
theorem k2 : mapsRowed Tryz.prog = true := by kernel_rfl
theorem k3 : (Tryz.f12.params.all fun x => Tryz.prog.readableRec x) = true := by kernel_rfl
theorem k4 : namedTie Tryz.prog Rows.eclipseHandsRow.named (OpenSpec.ofChange Rows.eclipseHandsSpec).bare.vars = true := by kernel_rfl
theorem k5 : (Rows.eclipseHandsRow.stops == []) = true := by kernel_rfl
theorem k6 : (Tryz.prog.stops == []) = true := by kernel_rfl
theorem k7 : (Rows.eclipseHandsRow.knobs == []) = true := by kernel_rfl
theorem k8 : (Tryz.prog.stopKnobs == []) = true := by kernel_rfl
theorem k9 : (Rows.eclipseHandsRow.inPlace == Tryz.prog.inPlace 12) = true := by kernel_rfl
theorem k10 : (Rows.eclipseHandsRow.unfollowed == Tryz.prog.unfollowed 12) = true := by kernel_rfl
theorem k11 : (Rows.eclipseHandsRow.recurses == Tryz.prog.recurses 12) = true := by kernel_rfl
theorem k12 : (Rows.eclipseHandsRow.named == Tryz.prog.varsNamed 12) = true := by kernel_rfl
theorem k13 : (Rows.eclipseHandsRow.maps == (Tryz.f12.params.toList ++ DataSpec.varTypes Tryz.prog (OpenSpec.ofChange Rows.eclipseHandsSpec).bare.plain).any fun x => Tryz.prog.mapsRec x) = true := by kernel_rfl
theorem k14 : (Rows.eclipseHandsRow.ifaces == (Tryz.f12.params.toList ++ DataSpec.varTypes Tryz.prog (OpenSpec.ofChange Rows.eclipseHandsSpec).bare.plain).any fun x => Tryz.prog.ifacesRec x) = true := by kernel_rfl
theorem k15 : (Rows.eclipseHandsRow.mapsOut == Tryz.prog.mapsAmong Tryz.f12.resultTypes.toList) = true := by kernel_rfl
theorem k16 : (Rows.eclipseHandsRow.loops == (Tryz.f12.params.toList ++ DataSpec.varTypes Tryz.prog (OpenSpec.ofChange Rows.eclipseHandsSpec).bare.plain).any fun x => Tryz.prog.loopsFrom x) = true := by kernel_rfl
theorem k17 : (Rows.eclipseHandsRow.wideKeys == (Tryz.f12.params.toList ++ DataSpec.varTypes Tryz.prog (OpenSpec.ofChange Rows.eclipseHandsSpec).bare.plain ++ Tryz.f12.resultTypes.toList).any fun x => Tryz.prog.wideKeysFrom x) = true := by kernel_rfl
theorem k18 : ((OpenSpec.ofChange Rows.eclipseHandsSpec).bare.vars.all fun x => Tryz.prog.varReadable x) = true := by kernel_rfl
theorem k19 : (Tryz.f12.resultTypes.all fun t => Tryz.prog.readableRec t && decide (t < Tryz.prog.types.size)) = true := by kernel_rfl
theorem k20 : (Rows.eclipseHandsRow.ifacesOut == Tryz.f12.resultTypes.toList.any fun x => Tryz.prog.ifacesRec x) = true := by kernel_rfl
theorem k21 : (Rows.eclipseHandsRow.loopsOut == Tryz.f12.resultTypes.toList.any fun x => Tryz.prog.loopsFrom x) = true := by kernel_rfl
theorem k22 : (Rows.eclipseHandsRow.plainKeys == Tryz.prog.plainKeys) = true := by kernel_rfl
theorem k23 : Rows.eclipseHandsRow.shortTexts.isNone = true := by kernel_rfl
theorem k24 : Tryz.prog.stopsHeard = true := by kernel_rfl
theorem k25 : Tryz.prog.mayEnter = true := may_yes
theorem k26 : (Rows.eclipseHandsRow.lifted == Tryz.prog.liftsFinal) = true := by rw [lifts_no]; rfl
theorem k27 : (Tryz.prog.make == some Rows.eclipseHandsRow.make) = true := by rw [make_cut]; rfl
theorem k28 : (Rows.eclipseHandsRow.kinds == if Rows.eclipseHandsRow.domain.isEmpty = true then [] else List.map (fun t => match Tryz.prog.underlying t with | some (TypeDesc.int k) => some k | _ => none) Tryz.f12.params.toList) = true := by kernel_rfl
theorem k29 : (Rows.eclipseHandsRow.pinned == Rows.eclipseHandsRow.pinnedBy) = true := by kernel_rfl
theorem k30 : (Rows.eclipseHandsRow.veiled == (Tryz.f12.params.toList ++ DataSpec.varTypes Tryz.prog (OpenSpec.ofChange Rows.eclipseHandsSpec).bare.plain ++ Tryz.f12.resultTypes.toList).any fun x => Tryz.prog.veiledRec x) = true := by kernel_rfl
theorem k31 : Rows.eclipseHandsRow.veiledFits Tryz.prog Tryz.f12.params.toList (Tryz.f12.params.toList ++ DataSpec.varTypes Tryz.prog (OpenSpec.ofChange Rows.eclipseHandsSpec).bare.plain ++ Tryz.f12.resultTypes.toList) = true := by kernel_rfl
theorem closed : joinedFacts Tryz.prog 12 Tryz.f12 (OpenSpec.ofChange Rows.eclipseHandsSpec).bare Rows.eclipseHandsRow = true := by
  unfold joinedFacts
  simp only [Bool.and_eq_true]
  exact ⟨⟨⟨⟨⟨⟨⟨⟨⟨⟨⟨⟨⟨⟨⟨⟨⟨⟨⟨⟨⟨⟨⟨⟨⟨⟨⟨⟨⟨⟨⟨k0, k1⟩, k2⟩, k3⟩, k4⟩, k5⟩, k6⟩, k7⟩, k8⟩, k9⟩, k10⟩, k11⟩, k12⟩, k13⟩, k14⟩, k15⟩, k16⟩, k17⟩, k18⟩, k19⟩, k20⟩, k21⟩, k22⟩, k23⟩, k24⟩, k25⟩, k26⟩, k27⟩, k28⟩, k29⟩, k30⟩, k31⟩
theorem wf_text : Rows.eclipseHandsRow.wfByText (OpenSpec.ofChange Rows.eclipseHandsSpec) = true := by kernel_rfl
theorem goes_no : false = Rows.eclipseHandsRow.goesBy Tryz.prog := by kernel_rfl
end Go.Proofs.YtcbodpnmndbgnaaGreatDoor.eclipseHands
