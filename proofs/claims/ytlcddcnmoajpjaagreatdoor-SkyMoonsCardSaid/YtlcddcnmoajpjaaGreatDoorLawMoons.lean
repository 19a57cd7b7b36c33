/- The walk of the law SkyMoons. -/
import Derived.Test.YtlcddcnmoajpjaaGreatDoorV21
namespace Go.Proofs.YtlcddcnmoajpjaaGreatDoor
open Go.RowKit
open Sp (rd)

set_option maxRecDepth 100000 in
set_option maxHeartbeats 2000000 in
theorem law_SkyMoons (s : Sp.Sky) (A : Option Addr) (c : Nat) (lo hi : Int) (w : World) (hV : Env w) (hm : Bodies w A s.bodies) (hl : Long s.bodies) :
    Calls Tryz.prog 3 #[.agg #[.slice A s.bodies.length c, .int .i64 s.nnum, .int .i64 s.nden, .int .i64 s.nstart], .int .i64 lo, .int .i64 hi] w fun e w' => e = .returned (.bool true) ∧ Ext w w' := by
  have HL := Lib.hid hl
  have HM := Lib.hid hm
  have HV := Lib.hid hV
  clear hm hl hV
  go_enter Tryz.func3, Tryz.ntmps3
  go_wp2_with fail
  have hr0 := Row.new w 28 #[.slice A s.bodies.length c, .int .i64 s.nnum, .int .i64 s.nden, .int .i64 s.nstart]
  have hE0 : Ext w (w.alloc (.cells #[.slice A s.bodies.length c, .int .i64 s.nnum, .int .i64 s.nden, .int .i64 s.nstart] 28)) := (Ext.refl w).alloc _
  generalize w.alloc (.cells #[.slice A s.bodies.length c, .int .i64 s.nnum, .int .i64 s.nden, .int .i64 s.nstart] 28) = w0 at *
  refine (short_any s A c w0 (HM.out.ext hE0) HL.out).mono ?_
  rintro e w1 ⟨rfl, hE1⟩
  have HE1 := Lib.hid (hE0.trans hE1)
  have hr1 := hr0.ext hE1
  clear hE1 hE0 hr0
  cases hsh : shortB s.bodies
  · go_wp2_with fail
    refine (known_any w1 (HV.out.ext HE1.out)).mono ?_
    rintro e w2 ⟨rfl, hE2⟩
    go_wp2_with fail
    go_ret
    exact ⟨rfl, HE1.out.trans hE2⟩
  · have hS := short_of hsh
    have hfew := few_of hsh
    have b1 := hr1.cell
    cases hok : (Sp.skyOk s && Sp.isSpan lo hi)
    · go_wp2_with fail
      refine (Moons_err s A c lo hi w1 (HM.out.ext HE1.out) hS hok).mono ?_
      rintro e w2 ⟨rfl, hE2⟩
      have HE2 := Lib.hid (HE1.out.trans hE2)
      have b2 := (hr1.ext hE2).cell
      clear b1 hE2
      go_wp2_with fail
      refine (r_Sky_any s A c w2 (HM.out.ext HE2.out) hS).mono ?_
      rintro e w3 ⟨rfl, hE3⟩
      have HE3 := Lib.hid (HE2.out.trans hE3)
      clear b2 hE3
      cases h1 : Sp.skyOk s
      · go_wp2_with fail
        refine (known_any w3 (HV.out.ext HE3.out)).mono ?_
        rintro e w4 ⟨rfl, hE4⟩
        go_wp2_with fail
        go_ret
        exact ⟨rfl, HE3.out.trans hE4⟩
      · have h2 : Sp.isSpan lo hi = false := by simpa [h1] using hok
        go_wp2_with (go_at_call 28; refine (r_Span_any _ _ _).mono ?_; rintro e w' ⟨rfl, rfl⟩)
        refine (known_any w3 (HV.out.ext HE3.out)).mono ?_
        rintro e w4 ⟨rfl, hE4⟩
        go_wp2_with fail
        go_ret
        exact ⟨rfl, HE3.out.trans hE4⟩
    · have hok' := hok
      simp only [Bool.and_eq_true] at hok'
      obtain ⟨h1, h2⟩ := hok'
      have hsp := span_of h2
      have hlen := moonsN_le s lo (hi + 1 - lo).toNat
      have HLEN : Hid ((Sp.moonsL s lo hi).length ≤ 100000) := Lib.hid (by unfold Sp.moonsL; omega)
      clear hok hlen
      go_wp2_with fail
      refine (Moons_ok s A c lo hi w1 (HM.out.ext HE1.out) hS h1 h2).mono ?_
      rintro e w2 ⟨v, rfl, hv, hE2⟩
      have HE2 := Lib.hid (HE1.out.trans hE2)
      have b2 := (hr1.ext hE2).cell
      have hr2 := hr1.ext hE2
      have HVV := Lib.hid hv
      clear b1 hE2 hv
      go_wp2_with fail
      refine (r_Sky_any s A c w2 (HM.out.ext HE2.out) hS).mono ?_
      rintro e w3 ⟨rfl, hE3⟩
      have HE3 := Lib.hid (HE2.out.trans hE3)
      have HV3 := Lib.hid (HVV.out.ext hE3)
      have b3 := (hr2.ext hE3).cell
      clear b2 hE3
      rw [h1]
      go_wp2_with (go_at_call 28; refine (r_Span_any _ _ _).mono ?_; rintro e w' ⟨rfl, rfl⟩)
      refine (r_Moons_any s A c _ _ _ lo hi w3 (skyOk_iff.1 h1) (HM.out.ext HE3.out) (by omega) (by omega) (by omega)).mono ?_
      rintro e w4 ⟨v2, rfl, hv2, hE4⟩
      have HE4 := Lib.hid (HE3.out.trans hE4)
      have HV4 := Lib.hid (HV3.out.ext hE4)
      have HW4 := Lib.hid hv2
      clear hE4 hv2
      go_wp2_with fail
      refine (r_SameMoons_any v v2 _ _ w4 HV4.out HW4.out HLEN.out HLEN.out).mono ?_
      rintro e w5 ⟨rfl, hE5⟩
      have HE5 := Lib.hid (HE4.out.trans hE5)
      clear hE5
      simp only [decide_true]
      go_wp2_with fail
      refine (known_any w5 (HV.out.ext HE5.out)).mono ?_
      rintro e w6 ⟨rfl, hE6⟩
      go_wp2_with fail
      go_ret
      exact ⟨rfl, HE5.out.trans hE6⟩
end Go.Proofs.YtlcddcnmoajpjaaGreatDoor
