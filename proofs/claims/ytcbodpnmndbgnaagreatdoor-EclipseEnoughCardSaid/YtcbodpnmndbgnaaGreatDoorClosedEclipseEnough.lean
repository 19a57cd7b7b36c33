/- The closed facts of the row of EclipseEnough. (Printed by wip/mkclosed.py.) -/
import Derived.Test.YtcbodpnmndbgnaaGreatDoorE12
namespace Go.Proofs.YtcbodpnmndbgnaaGreatDoor.eclipseEnough
open Go.ChangeShapes Go.WideShapes Go.ChangeAt Go.RowKit
set_option maxRecDepth 100000
theorem k0 : OpenClaim.wf (OpenSpec.ofChange (OpenSpec.ofChange Rows.eclipseEnoughSpec).bare) Rows.eclipseEnoughRow = true := by kernel_rfl
theorem k1 : laidOutB Tryz.prog = true := by kernel_rfl
theorem k2 : mapsRowed Tryz.prog = true := by kernel_rfl
theorem k3 : (Tryz.f9.params.all fun x => Tryz.prog.readableRec x) = true := by kernel_rfl
theorem k4 : namedTie Tryz.prog Rows.eclipseEnoughRow.named (OpenSpec.ofChange Rows.eclipseEnoughSpec).bare.vars = true := by kernel_rfl
theorem k5 : (Rows.eclipseEnoughRow.stops == []) = true := by kernel_rfl
theorem k6 : (Tryz.prog.stops == []) = true := by kernel_rfl
theorem k7 : (Rows.eclipseEnoughRow.knobs == []) = true := by kernel_rfl
theorem k8 : (Tryz.prog.stopKnobs == []) = true := by kernel_rfl
theorem k9 : (Rows.eclipseEnoughRow.inPlace == Tryz.prog.inPlace 9) = true := by kernel_rfl
theorem k10 : (Rows.eclipseEnoughRow.unfollowed == Tryz.prog.unfollowed 9) = true := by kernel_rfl
theorem k11 : (Rows.eclipseEnoughRow.recurses == Tryz.prog.recurses 9) = true := by kernel_rfl
theorem k12 : (Rows.eclipseEnoughRow.named == Tryz.prog.varsNamed 9) = true := by kernel_rfl
theorem k13 : (Rows.eclipseEnoughRow.maps == (Tryz.f9.params.toList ++ DataSpec.varTypes Tryz.prog (OpenSpec.ofChange Rows.eclipseEnoughSpec).bare.plain).any fun x => Tryz.prog.mapsRec x) = true := by kernel_rfl
theorem k14 : (Rows.eclipseEnoughRow.ifaces == (Tryz.f9.params.toList ++ DataSpec.varTypes Tryz.prog (OpenSpec.ofChange Rows.eclipseEnoughSpec).bare.plain).any fun x => Tryz.prog.ifacesRec x) = true := by kernel_rfl
theorem k15 : (Rows.eclipseEnoughRow.mapsOut == Tryz.prog.mapsAmong Tryz.f9.resultTypes.toList) = true := by kernel_rfl
theorem k16 : (Rows.eclipseEnoughRow.loops == (Tryz.f9.params.toList ++ DataSpec.varTypes Tryz.prog (OpenSpec.ofChange Rows.eclipseEnoughSpec).bare.plain).any fun x => Tryz.prog.loopsFrom x) = true := by kernel_rfl
theorem k17 : (Rows.eclipseEnoughRow.wideKeys == (Tryz.f9.params.toList ++ DataSpec.varTypes Tryz.prog (OpenSpec.ofChange Rows.eclipseEnoughSpec).bare.plain ++ Tryz.f9.resultTypes.toList).any fun x => Tryz.prog.wideKeysFrom x) = true := by kernel_rfl
theorem k18 : ((OpenSpec.ofChange Rows.eclipseEnoughSpec).bare.vars.all fun x => Tryz.prog.varReadable x) = true := by kernel_rfl
theorem k19 : (Tryz.f9.resultTypes.all fun t => Tryz.prog.readableRec t && decide (t < Tryz.prog.types.size)) = true := by kernel_rfl
theorem k20 : (Rows.eclipseEnoughRow.ifacesOut == Tryz.f9.resultTypes.toList.any fun x => Tryz.prog.ifacesRec x) = true := by kernel_rfl
theorem k21 : (Rows.eclipseEnoughRow.loopsOut == Tryz.f9.resultTypes.toList.any fun x => Tryz.prog.loopsFrom x) = true := by kernel_rfl
theorem k22 : (Rows.eclipseEnoughRow.plainKeys == Tryz.prog.plainKeys) = true := by kernel_rfl
theorem k23 : Rows.eclipseEnoughRow.shortTexts.isNone = true := by kernel_rfl
theorem k24 : Tryz.prog.stopsHeard = true := by kernel_rfl
theorem k25 : Tryz.prog.mayEnter = true := may_yes
theorem k26 : (Rows.eclipseEnoughRow.lifted == Tryz.prog.liftsFinal) = true := by rw [lifts_no]; rfl
theorem k27 : (Tryz.prog.make == some Rows.eclipseEnoughRow.make) = true := by rw [make_cut]; rfl
theorem k28 : (Rows.eclipseEnoughRow.kinds == if Rows.eclipseEnoughRow.domain.isEmpty = true then [] else List.map (fun t => match Tryz.prog.underlying t with | some (TypeDesc.int k) => some k | _ => none) Tryz.f9.params.toList) = true := by kernel_rfl
theorem k29 : (Rows.eclipseEnoughRow.pinned == Rows.eclipseEnoughRow.pinnedBy) = true := by kernel_rfl
theorem k30 : (Rows.eclipseEnoughRow.veiled == (Tryz.f9.params.toList ++ DataSpec.varTypes Tryz.prog (OpenSpec.ofChange Rows.eclipseEnoughSpec).bare.plain ++ Tryz.f9.resultTypes.toList).any fun x => Tryz.prog.veiledRec x) = true := by kernel_rfl
theorem k31 : Rows.eclipseEnoughRow.veiledFits Tryz.prog Tryz.f9.params.toList (Tryz.f9.params.toList ++ DataSpec.varTypes Tryz.prog (OpenSpec.ofChange Rows.eclipseEnoughSpec).bare.plain ++ Tryz.f9.resultTypes.toList) = true := by kernel_rfl
theorem closed : joinedFacts Tryz.prog 9 Tryz.f9 (OpenSpec.ofChange Rows.eclipseEnoughSpec).bare Rows.eclipseEnoughRow = true := by
  unfold joinedFacts
  simp only [Bool.and_eq_true]
  exact ⟨⟨⟨⟨⟨⟨⟨⟨⟨⟨⟨⟨⟨⟨⟨⟨⟨⟨⟨⟨⟨⟨⟨⟨⟨⟨⟨⟨⟨⟨⟨k0, k1⟩, k2⟩, k3⟩, k4⟩, k5⟩, k6⟩, k7⟩, k8⟩, k9⟩, k10⟩, k11⟩, k12⟩, k13⟩, k14⟩, k15⟩, k16⟩, k17⟩, k18⟩, k19⟩, k20⟩, k21⟩, k22⟩, k23⟩, k24⟩, k25⟩, k26⟩, k27⟩, k28⟩, k29⟩, k30⟩, k31⟩
theorem wf_text : Rows.eclipseEnoughRow.wfByText (OpenSpec.ofChange Rows.eclipseEnoughSpec) = true := by kernel_rfl
theorem goes_no : false = Rows.eclipseEnoughRow.goesBy Tryz.prog := by kernel_rfl
end Go.Proofs.YtcbodpnmndbgnaaGreatDoor.eclipseEnough
