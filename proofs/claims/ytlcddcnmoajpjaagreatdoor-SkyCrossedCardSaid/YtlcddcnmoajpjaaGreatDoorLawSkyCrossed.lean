/- The walk of the law SkyCrossed. (Printed by wip/mklaws1.py.) -/
import Derived.Test.YtlcddcnmoajpjaaGreatDoorLawHelp
namespace Go.Proofs.YtlcddcnmoajpjaaGreatDoor
open Go.RowKit
open Sp (rd)
set_option linter.unusedSimpArgs false
set_option linter.unusedVariables false

theorem moonB_passes (s : Sp.Sky) (d : Int) (f : Bool) : Sp.passes (Sp.ahead s 1 0 (d - 1) - Sp.halfOf f) (Sp.ahead s 1 0 d - Sp.halfOf f) = Sp.moonB s d f := rfl
theorem moonsL_in (s : Sp.Sky) (lo hi d : Int) (f : Bool) (h1 : lo ≤ d) (h2 : d ≤ hi) : decide ((d, f) ∈ Sp.moonsL s lo hi) = Sp.moonB s d f := by
  rw [Bool.eq_iff_iff, decide_eq_true_eq, moonsL_mem]
  simp [h1, h2]

set_option maxRecDepth 100000 in
set_option maxHeartbeats 4000000 in
theorem law_SkyCrossed (s : Sp.Sky) (A : Option Addr) (c : Nat) (lo hi day : Int) (full : Bool) (w : World) (hV : Env w) (hm : Bodies w A s.bodies) (hl : Long s.bodies) :
    Calls Tryz.prog 4 #[.agg #[.slice A s.bodies.length c, .int .i64 s.nnum, .int .i64 s.nden, .int .i64 s.nstart], .int .i64 lo, .int .i64 hi, .int .i64 day, .bool full] w fun e w' => e = .returned (.bool true) ∧ Ext w w' := by
  have HL := Lib.hid hl
  have HM := Lib.hid hm
  have HV := Lib.hid hV
  clear hm hl hV
  go_enter Tryz.func4, Tryz.ntmps4
  go_wp2_with fail
  have HR0 := Lib.hid (Row.new w 28 #[.slice A s.bodies.length c, .int .i64 s.nnum, .int .i64 s.nden, .int .i64 s.nstart])
  have HE0 : Hid (Ext w (w.alloc (.cells #[.slice A s.bodies.length c, .int .i64 s.nnum, .int .i64 s.nden, .int .i64 s.nstart] 28))) := Lib.hid ((Ext.refl w).alloc _)
  generalize w.alloc (.cells #[.slice A s.bodies.length c, .int .i64 s.nnum, .int .i64 s.nden, .int .i64 s.nstart] 28) = w0 at *
  have b0 := HR0.out.cell
  refine (short_any s A c w0 (HM.out.ext HE0.out) HL.out).mono ?_
  rintro e w1 ⟨rfl, hE1⟩
  have HE1 := Lib.hid (HE0.out.trans hE1)
  have HR1 := Lib.hid (HR0.out.ext hE1)
  clear b0
  have b1 := HR1.out.cell
  clear hE1
  cases hsh : shortB s.bodies with
  | false =>
    go_wp2_with fail
    refine (known_any w1 (HV.out.ext HE1.out)).mono ?_
    rintro e w2 ⟨rfl, hE2⟩
    go_wp2_with fail
    go_ret
    exact ⟨rfl, HE1.out.trans hE2⟩
  | true =>
    have hS := Lib.hid (short_of hsh)
    have hfew := few_of hsh
    clear hsh
    cases h1 : Sp.skyOk s with
    | false =>
      go_wp2_with fail
      refine (r_Sky_any s A c w1 (HM.out.ext HE1.out) hS.out).mono ?_
      rintro e w2 ⟨rfl, hE2⟩
      have HE2 := Lib.hid (HE1.out.trans hE2)
      have HR2 := Lib.hid (HR1.out.ext hE2)
      clear b1
      have b2 := HR2.out.cell
      clear hE2
      rw [h1]
      go_wp2_with fail
      refine (known_any w2 (HV.out.ext HE2.out)).mono ?_
      rintro e w3 ⟨rfl, hE3⟩
      go_wp2_with fail
      go_ret
      exact ⟨rfl, HE2.out.trans hE3⟩
    | true =>
      cases h2 : Sp.isSpan lo hi with
      | false =>
        go_wp2_with fail
        refine (r_Sky_any s A c w1 (HM.out.ext HE1.out) hS.out).mono ?_
        rintro e w2 ⟨rfl, hE2⟩
        have HE2 := Lib.hid (HE1.out.trans hE2)
        have HR2 := Lib.hid (HR1.out.ext hE2)
        clear b1
        have b2 := HR2.out.cell
        clear hE2
        rw [h1]
        go_wp2_with fail
        refine (r_Span_any _ _ _).mono ?_
        rintro e w' ⟨rfl, rfl⟩
        rw [h2]
        go_wp2_with fail
        refine (known_any w2 (HV.out.ext HE2.out)).mono ?_
        rintro e w3 ⟨rfl, hE3⟩
        go_wp2_with fail
        go_ret
        exact ⟨rfl, HE2.out.trans hE3⟩
      | true =>
        by_cases ha : day < lo
        case pos =>
          go_wp2_with fail
          refine (r_Sky_any s A c w1 (HM.out.ext HE1.out) hS.out).mono ?_
          rintro e w2 ⟨rfl, hE2⟩
          have HE2 := Lib.hid (HE1.out.trans hE2)
          have HR2 := Lib.hid (HR1.out.ext hE2)
          clear b1
          have b2 := HR2.out.cell
          clear hE2
          rw [h1]
          go_wp2_with fail
          refine (r_Span_any _ _ _).mono ?_
          rintro e w' ⟨rfl, rfl⟩
          rw [h2]
          go_wp2_with fail
          refine (known_any w2 (HV.out.ext HE2.out)).mono ?_
          rintro e w3 ⟨rfl, hE3⟩
          go_wp2_with fail
          go_ret
          exact ⟨rfl, HE2.out.trans hE3⟩
        case neg =>
          by_cases hb : hi < day
          case pos =>
            go_wp2_with fail
            refine (r_Sky_any s A c w1 (HM.out.ext HE1.out) hS.out).mono ?_
            rintro e w2 ⟨rfl, hE2⟩
            have HE2 := Lib.hid (HE1.out.trans hE2)
            have HR2 := Lib.hid (HR1.out.ext hE2)
            clear b1
            have b2 := HR2.out.cell
            clear hE2
            rw [h1]
            go_wp2_with fail
            refine (r_Span_any _ _ _).mono ?_
            rintro e w' ⟨rfl, rfl⟩
            rw [h2]
            go_wp2_with fail
            refine (known_any w2 (HV.out.ext HE2.out)).mono ?_
            rintro e w3 ⟨rfl, hE3⟩
            go_wp2_with fail
            go_ret
            exact ⟨rfl, HE2.out.trans hE3⟩
          case neg =>
            have hsp := span_of h2
            have hlen := moonsL_length s lo hi
            have HLEN : Hid ((Sp.moonsL s lo hi).length ≤ 100000) := Lib.hid (by omega)
            have HIN := Lib.hid (moonsL_in s lo hi day full (by omega) (by omega))
            have hl3 : (Sp.moonsL s lo hi).length ≤ 1602 := by omega
            clear hlen
            have hn2 := (skyOk_iff.1 h1).n2
            have c1 : (Sp.isBody s 1 && (Sp.isBody s 0 && ((1 : Int) != 0))) = true := by simp [Sp.isBody, Sp.inR]; omega
            go_wp2_with fail
            refine (r_Sky_any s A c w1 (HM.out.ext HE1.out) hS.out).mono ?_
            rintro e w2 ⟨rfl, hE2⟩
            have HE2 := Lib.hid (HE1.out.trans hE2)
            have HR2 := Lib.hid (HR1.out.ext hE2)
            clear b1
            have b2 := HR2.out.cell
            clear hE2
            rw [h1]
            go_wp2_with fail
            refine (r_Span_any _ _ _).mono ?_
            rintro e w' ⟨rfl, rfl⟩
            rw [h2]
            go_wp2_with fail
            refine (Moons_ok s A c lo hi w2 (HM.out.ext HE2.out) hS.out h1 h2).mono ?_
            rintro e w3 ⟨v, rfl, hHV1, hE3⟩
            have HE3 := Lib.hid (HE2.out.trans hE3)
            have HR3 := Lib.hid (HR2.out.ext hE3)
            clear b2
            have b3 := HR3.out.cell
            clear hE3
            have HV1 := Lib.hid hHV1
            clear hHV1
            obtain ⟨AM, cM, hveq, hcell⟩ := HV1.out
            subst hveq
            have HC := Lib.hid hcell
            have HMEM := Lib.hid (fun m => (moonsL_mem s lo hi m).1)
            have HSO := Lib.hid (moonsL_sorted s lo hi)
            obtain ⟨l, hL⟩ : ∃ l, Sp.moonsL s lo hi = l := ⟨_, rfl⟩
            rw [hL] at HV1 HC HMEM HSO HLEN hl3 HIN ⊢
            clear hcell hL
            go_wp2_with fail
            go_loopw [13] (fun i wr => ∃ k : Nat, k ≤ l.length ∧ i = .int .i64 k ∧ Ext w3 wr) (fun i _ => l.length - (intOf i).toNat)
            case atStart => exact ⟨0, Nat.zero_le _, rfl, Ext.refl _⟩
            case round =>
              obtain ⟨k, hk, rfl, hE⟩ := hrel
              by_cases hlt : k < l.length
              case pos =>
                obtain ⟨b, oo, rfl, hcell⟩ := HC.out (by omega)
                have a0 := hE.cell (hcell k hlt).1
                have a1 := hE.cell (hcell k hlt).2
                obtain ⟨m1, m2, _⟩ := HMEM.out l[k] (List.getElem_mem hlt)
                have HE := Lib.hid hE
                clear b3 hE
                cases k with
                | zero =>
                  clear hcell
                  generalize l[0] = x at *
                  obtain ⟨xd, xf⟩ := x
                  simp only at a0 a1 m1 m2
                  simp only [Nat.zero_mul, Nat.add_zero] at a0 a1
                  have g1 : decide (xd < lo) = false := decide_eq_false (by omega)
                  have g2 : decide (hi < xd) = false := decide_eq_false (by omega)
                  have g3 : decide ((0 : Int) < ((0 : Nat) : Int)) = false := rfl
                  clear m1 m2
                  go_wp2_with fail
                  go_quiet (fail)
                  go_wp2_with fail
                  exact ⟨⟨1, by omega, by go_num, HE.out.drewN _⟩, by simp [intOf]; omega⟩
                | succ j =>
                  have hj : j < l.length := by omega
                  have e0 := HE.out.cell (hcell j hj).1
                  have e1 := HE.out.cell (hcell j hj).2
                  have hso := pairwise_next HSO.out j l[j] l[j + 1] (List.getElem?_eq_getElem hj) (List.getElem?_eq_getElem hlt)
                  clear hcell
                  generalize l[j] = y at *
                  generalize l[j + 1] = x at *
                  obtain ⟨xd, xf⟩ := x
                  obtain ⟨yd, yf⟩ := y
                  simp only [Sooner] at a0 a1 e0 e1 m1 m2 hso
                  have g1 : decide (xd < lo) = false := decide_eq_false (by omega)
                  have g2 : decide (hi < xd) = false := decide_eq_false (by omega)
                  have g3 : decide ((0 : Int) < ((j + 1 : Nat) : Int)) = true := decide_eq_true (by omega)
                  clear m1 m2
                  rcases hso with hso | ⟨hso, hy, hx⟩
                  · have g4 : decide (xd < yd) = false := decide_eq_false (by omega)
                    have g5 : (xd == yd) = false := by simp; omega
                    clear hso
                    go_wp2_with fail
                    go_quiet (fail)
                    go_wp2_with fail
                    exact ⟨⟨j + 1 + 1, by omega, by go_num, HE.out.drewN _⟩, by simp [intOf]; omega⟩
                  · subst hso hy hx
                    have g4 : decide (yd < yd) = false := decide_eq_false (by omega)
                    go_wp2_with fail
                    go_quiet (fail)
                    go_wp2_with fail
                    exact ⟨⟨j + 1 + 1, by omega, by go_num, HE.out.drewN _⟩, by simp [intOf]; omega⟩
              case neg =>
                obtain rfl : k = l.length := by omega
                have HEW := Lib.hid (HE3.out.trans hE)
                have HRW := Lib.hid (HR3.out.ext hE)
                have HVW := Lib.hid (HV1.out.ext hE)
                clear b3 hE
                have bw := HRW.out.cell
                cases hB : Sp.moonB s day full
                · skip
                  cases full
                  · have hcr : Sp.passes (Sp.ahead s 1 0 (day - 1) - 0) (Sp.ahead s 1 0 day - 0) = false := (moonB_passes s day false).trans hB
                    go_wp2_with fail
                    refine wp_region_later (by kernel_rfl) (by kernel_rfl) (fun W hW => ?_)
                    subst hW
                    have q1 := Later.block (w := W) HRW.out
                    have HVX := Lib.hid (fun X : Later W => HVW.out.ext X.ext)
                    have HBX := Lib.hid (fun X : Later W => HM.out.ext (HEW.out.trans X.ext))
                    have HNV := Lib.hid (fun X : Later W => HV.out.ext (HEW.out.trans X.ext))
                    repeat (go_big_quiet_step (fail))
                    go_big_quiet_step ((go_at_call 31; exact Later.call ((listed_any _ l day false _ (by exact HVX.out _) HLEN.out).mono fun _ _ h => ⟨by rw [h.1, HIN.out, hB], h.2⟩)))
                    repeat (go_big_quiet_step (fail))
                    go_big_quiet_step ((go_at_call 32; exact Later.call ((crossed_any s A c 1 0 day 0 _ (by exact HBX.out _) hS.out h1 c1 (by omega) (by omega) (by omega)).mono fun _ _ h => ⟨by rw [h.1, hcr], h.2⟩)))
                    repeat (go_big_quiet_step (fail))
                    go_big_quiet_step ((go_at_call 25; exact Later.call (known_any _ (by exact HNV.out _))))
                    repeat (go_big_quiet_step (fail))
                    refine wpQuiet_nil ?_
                    rintro ⟨W3, hE3⟩
                    go_wp2_with fail
                    go_ret
                    exact ⟨rfl, HEW.out.trans hE3⟩
                  · have hcr : Sp.passes (Sp.ahead s 1 0 (day - 1) - 10800) (Sp.ahead s 1 0 day - 10800) = false := (moonB_passes s day true).trans hB
                    go_wp2_with fail
                    refine wp_region_later (by kernel_rfl) (by kernel_rfl) (fun W hW => ?_)
                    subst hW
                    have q1 := Later.block (w := W) HRW.out
                    have HVX := Lib.hid (fun X : Later W => HVW.out.ext X.ext)
                    have HBX := Lib.hid (fun X : Later W => HM.out.ext (HEW.out.trans X.ext))
                    have HNV := Lib.hid (fun X : Later W => HV.out.ext (HEW.out.trans X.ext))
                    repeat (go_big_quiet_step (fail))
                    go_big_quiet_step ((go_at_call 31; exact Later.call ((listed_any _ l day true _ (by exact HVX.out _) HLEN.out).mono fun _ _ h => ⟨by rw [h.1, HIN.out, hB], h.2⟩)))
                    repeat (go_big_quiet_step (fail))
                    go_big_quiet_step ((go_at_call 32; exact Later.call ((crossed_any s A c 1 0 day 10800 _ (by exact HBX.out _) hS.out h1 c1 (by omega) (by omega) (by omega)).mono fun _ _ h => ⟨by rw [h.1, hcr], h.2⟩)))
                    repeat (go_big_quiet_step (fail))
                    go_big_quiet_step ((go_at_call 25; exact Later.call (known_any _ (by exact HNV.out _))))
                    repeat (go_big_quiet_step (fail))
                    refine wpQuiet_nil ?_
                    rintro ⟨W3, hE3⟩
                    go_wp2_with fail
                    go_ret
                    exact ⟨rfl, HEW.out.trans hE3⟩
                · skip
                  cases full
                  · have hcr : Sp.passes (Sp.ahead s 1 0 (day - 1) - 0) (Sp.ahead s 1 0 day - 0) = true := (moonB_passes s day false).trans hB
                    go_wp2_with fail
                    refine wp_region_later (by kernel_rfl) (by kernel_rfl) (fun W hW => ?_)
                    subst hW
                    have q1 := Later.block (w := W) HRW.out
                    have HVX := Lib.hid (fun X : Later W => HVW.out.ext X.ext)
                    have HBX := Lib.hid (fun X : Later W => HM.out.ext (HEW.out.trans X.ext))
                    have HNV := Lib.hid (fun X : Later W => HV.out.ext (HEW.out.trans X.ext))
                    repeat (go_big_quiet_step (fail))
                    go_big_quiet_step ((go_at_call 31; exact Later.call ((listed_any _ l day false _ (by exact HVX.out _) HLEN.out).mono fun _ _ h => ⟨by rw [h.1, HIN.out, hB], h.2⟩)))
                    repeat (go_big_quiet_step (fail))
                    go_big_quiet_step ((go_at_call 32; exact Later.call ((crossed_any s A c 1 0 day 0 _ (by exact HBX.out _) hS.out h1 c1 (by omega) (by omega) (by omega)).mono fun _ _ h => ⟨by rw [h.1, hcr], h.2⟩)))
                    repeat (go_big_quiet_step (fail))
                    go_big_quiet_step ((go_at_call 25; exact Later.call (known_any _ (by exact HNV.out _))))
                    repeat (go_big_quiet_step (fail))
                    refine wpQuiet_nil ?_
                    rintro ⟨W3, hE3⟩
                    go_wp2_with fail
                    go_ret
                    exact ⟨rfl, HEW.out.trans hE3⟩
                  · have hcr : Sp.passes (Sp.ahead s 1 0 (day - 1) - 10800) (Sp.ahead s 1 0 day - 10800) = true := (moonB_passes s day true).trans hB
                    go_wp2_with fail
                    refine wp_region_later (by kernel_rfl) (by kernel_rfl) (fun W hW => ?_)
                    subst hW
                    have q1 := Later.block (w := W) HRW.out
                    have HVX := Lib.hid (fun X : Later W => HVW.out.ext X.ext)
                    have HBX := Lib.hid (fun X : Later W => HM.out.ext (HEW.out.trans X.ext))
                    have HNV := Lib.hid (fun X : Later W => HV.out.ext (HEW.out.trans X.ext))
                    repeat (go_big_quiet_step (fail))
                    go_big_quiet_step ((go_at_call 31; exact Later.call ((listed_any _ l day true _ (by exact HVX.out _) HLEN.out).mono fun _ _ h => ⟨by rw [h.1, HIN.out, hB], h.2⟩)))
                    repeat (go_big_quiet_step (fail))
                    go_big_quiet_step ((go_at_call 32; exact Later.call ((crossed_any s A c 1 0 day 10800 _ (by exact HBX.out _) hS.out h1 c1 (by omega) (by omega) (by omega)).mono fun _ _ h => ⟨by rw [h.1, hcr], h.2⟩)))
                    repeat (go_big_quiet_step (fail))
                    go_big_quiet_step ((go_at_call 25; exact Later.call (known_any _ (by exact HNV.out _))))
                    repeat (go_big_quiet_step (fail))
                    refine wpQuiet_nil ?_
                    rintro ⟨W3, hE3⟩
                    go_wp2_with fail
                    go_ret
                    exact ⟨rfl, HEW.out.trans hE3⟩
end Go.Proofs.YtlcddcnmoajpjaaGreatDoor
