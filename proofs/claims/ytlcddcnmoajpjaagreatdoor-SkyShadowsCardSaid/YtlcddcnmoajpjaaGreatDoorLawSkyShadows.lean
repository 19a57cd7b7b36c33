/- The walk of the law SkyShadows. (Printed by wip/mklaws1.py.) -/
import Derived.Test.YtlcddcnmoajpjaaGreatDoorLawHelp
namespace Go.Proofs.YtlcddcnmoajpjaaGreatDoor
open Go.RowKit
open Sp (rd)
set_option linter.unusedSimpArgs false
set_option linter.unusedVariables false

theorem shadow_in (s : Sp.Sky) (nw fl lo hi d : Int) (f : Bool) (h : (d, f) ∈ Sp.moonsL s lo hi) : decide ((⟨d, f, Sp.far s d⟩ : Sp.Ecl) ∈ Sp.ecls s nw fl lo hi) = decide (Sp.far s d ≤ (if f then fl else nw)) := by
  rw [decide_eq_decide]
  unfold Sp.ecls
  rw [eclsOf_mem]
  simp [h]
theorem shadow_more (s : Sp.Sky) (nw fl lo hi more : Int) (h0 : 0 ≤ more) (x : Sp.Ecl) (h : x ∈ Sp.ecls s nw fl lo hi) : x ∈ Sp.ecls s (nw + more) (fl + more) lo hi ∧ (x.day, x.full) ∈ Sp.moonsL s lo hi := by
  unfold Sp.ecls at h ⊢
  rw [eclsOf_mem] at h ⊢
  refine ⟨⟨h.1, h.2.1, ?_⟩, h.1⟩
  have := h.2.2
  cases hx : x.full <;> rw [hx] at this <;> simp at this ⊢ <;> omega
theorem shadow_len (s : Sp.Sky) (nw fl lo hi more : Int) (h0 : 0 ≤ more) : (Sp.ecls s nw fl lo hi).length ≤ (Sp.ecls s (nw + more) (fl + more) lo hi).length ∧ (Sp.ecls s (nw + more) (fl + more) lo hi).length ≤ (Sp.moonsL s lo hi).length :=
  ⟨eclsOf_length s _ _ _ _ _ (by omega) (by omega), eclsOf_le s _ _ _⟩
theorem far_lim (s : Sp.Sky) (d : Int) : 0 ≤ Sp.far s d ∧ Sp.far s d ≤ 5400 := by
  unfold Sp.far
  dsimp only
  omega

set_option maxRecDepth 100000 in
set_option maxHeartbeats 8000000 in
theorem law_SkyShadows (s : Sp.Sky) (A : Option Addr) (c : Nat) (nw fl lo hi day more : Int) (w : World) (hV : Env w) (hm : Bodies w A s.bodies) (hl : Long s.bodies) :
    Calls Tryz.prog 6 #[.agg #[.slice A s.bodies.length c, .int .i64 s.nnum, .int .i64 s.nden, .int .i64 s.nstart], .int .i64 nw, .int .i64 fl, .int .i64 lo, .int .i64 hi, .int .i64 day, .int .i64 more] w fun e w' => e = .returned (.bool true) ∧ Ext w w' := by
  have HL := Lib.hid hl
  have HM := Lib.hid hm
  have HV := Lib.hid hV
  clear hm hl hV
  go_enter Tryz.func6, Tryz.ntmps6
  go_wp2_with fail
  have HR0 := Lib.hid (Row.new w 28 #[.slice A s.bodies.length c, .int .i64 s.nnum, .int .i64 s.nden, .int .i64 s.nstart])
  have HE0 : Hid (Ext w (w.alloc (.cells #[.slice A s.bodies.length c, .int .i64 s.nnum, .int .i64 s.nden, .int .i64 s.nstart] 28))) := Lib.hid ((Ext.refl w).alloc _)
  generalize w.alloc (.cells #[.slice A s.bodies.length c, .int .i64 s.nnum, .int .i64 s.nden, .int .i64 s.nstart] 28) = w0 at *
  have b0 := HR0.out.cell
  refine (short_any s A c w0 (HM.out.ext HE0.out) HL.out).mono ?_
  rintro e w1 ⟨rfl, hE1⟩
  have HE1 := Lib.hid (HE0.out.trans hE1)
  have HR1 := Lib.hid (HR0.out.ext hE1)
  clear b0
  have b1 := HR1.out.cell
  clear hE1
  cases hsh : shortB s.bodies with
  | false =>
    go_wp2_with fail
    refine (known_any w1 (HV.out.ext HE1.out)).mono ?_
    rintro e w2 ⟨rfl, hE2⟩
    go_wp2_with fail
    go_ret
    exact ⟨rfl, HE1.out.trans hE2⟩
  | true =>
    have hS := Lib.hid (short_of hsh)
    have hfew := few_of hsh
    clear hsh
    cases h1 : Sp.skyOk s with
    | false =>
      go_wp2_with fail
      refine (r_Sky_any s A c w1 (HM.out.ext HE1.out) hS.out).mono ?_
      rintro e w2 ⟨rfl, hE2⟩
      have HE2 := Lib.hid (HE1.out.trans hE2)
      have HR2 := Lib.hid (HR1.out.ext hE2)
      clear b1
      have b2 := HR2.out.cell
      clear hE2
      rw [h1]
      go_wp2_with fail
      refine (known_any w2 (HV.out.ext HE2.out)).mono ?_
      rintro e w3 ⟨rfl, hE3⟩
      go_wp2_with fail
      go_ret
      exact ⟨rfl, HE2.out.trans hE3⟩
    | true =>
      cases h2 : Sp.isLimit nw with
      | false =>
        go_wp2_with fail
        refine (r_Sky_any s A c w1 (HM.out.ext HE1.out) hS.out).mono ?_
        rintro e w2 ⟨rfl, hE2⟩
        have HE2 := Lib.hid (HE1.out.trans hE2)
        have HR2 := Lib.hid (HR1.out.ext hE2)
        clear b1
        have b2 := HR2.out.cell
        clear hE2
        rw [h1]
        go_wp2_with fail
        refine (r_Limit_any _ _).mono ?_
        rintro e w' ⟨rfl, rfl⟩
        rw [h2]
        go_wp2_with fail
        refine (known_any w2 (HV.out.ext HE2.out)).mono ?_
        rintro e w3 ⟨rfl, hE3⟩
        go_wp2_with fail
        go_ret
        exact ⟨rfl, HE2.out.trans hE3⟩
      | true =>
        cases h3 : Sp.isLimit fl with
        | false =>
          go_wp2_with fail
          refine (r_Sky_any s A c w1 (HM.out.ext HE1.out) hS.out).mono ?_
          rintro e w2 ⟨rfl, hE2⟩
          have HE2 := Lib.hid (HE1.out.trans hE2)
          have HR2 := Lib.hid (HR1.out.ext hE2)
          clear b1
          have b2 := HR2.out.cell
          clear hE2
          rw [h1]
          go_wp2_with fail
          refine (r_Limit_any _ _).mono ?_
          rintro e w' ⟨rfl, rfl⟩
          rw [h2]
          go_wp2_with fail
          refine (r_Limit_any _ _).mono ?_
          rintro e w' ⟨rfl, rfl⟩
          rw [h3]
          go_wp2_with fail
          refine (known_any w2 (HV.out.ext HE2.out)).mono ?_
          rintro e w3 ⟨rfl, hE3⟩
          go_wp2_with fail
          go_ret
          exact ⟨rfl, HE2.out.trans hE3⟩
        | true =>
          cases h4 : Sp.isSpan lo hi with
          | false =>
            go_wp2_with fail
            refine (r_Sky_any s A c w1 (HM.out.ext HE1.out) hS.out).mono ?_
            rintro e w2 ⟨rfl, hE2⟩
            have HE2 := Lib.hid (HE1.out.trans hE2)
            have HR2 := Lib.hid (HR1.out.ext hE2)
            clear b1
            have b2 := HR2.out.cell
            clear hE2
            rw [h1]
            go_wp2_with fail
            refine (r_Limit_any _ _).mono ?_
            rintro e w' ⟨rfl, rfl⟩
            rw [h2]
            go_wp2_with fail
            refine (r_Limit_any _ _).mono ?_
            rintro e w' ⟨rfl, rfl⟩
            rw [h3]
            go_wp2_with fail
            refine (r_Span_any _ _ _).mono ?_
            rintro e w' ⟨rfl, rfl⟩
            rw [h4]
            go_wp2_with fail
            refine (known_any w2 (HV.out.ext HE2.out)).mono ?_
            rintro e w3 ⟨rfl, hE3⟩
            go_wp2_with fail
            go_ret
            exact ⟨rfl, HE2.out.trans hE3⟩
          | true =>
            obtain ⟨l1, l2⟩ := limit_of h2
            obtain ⟨l3, l4⟩ := limit_of h3
            have hsp := span_of h4
            by_cases ha : day < lo
            case pos =>
              go_wp2_with fail
              refine (r_Sky_any s A c w1 (HM.out.ext HE1.out) hS.out).mono ?_
              rintro e w2 ⟨rfl, hE2⟩
              have HE2 := Lib.hid (HE1.out.trans hE2)
              have HR2 := Lib.hid (HR1.out.ext hE2)
              clear b1
              have b2 := HR2.out.cell
              clear hE2
              rw [h1]
              go_wp2_with fail
              refine (r_Limit_any _ _).mono ?_
              rintro e w' ⟨rfl, rfl⟩
              rw [h2]
              go_wp2_with fail
              refine (r_Limit_any _ _).mono ?_
              rintro e w' ⟨rfl, rfl⟩
              rw [h3]
              go_wp2_with fail
              refine (r_Span_any _ _ _).mono ?_
              rintro e w' ⟨rfl, rfl⟩
              rw [h4]
              go_wp2_with fail
              refine (known_any w2 (HV.out.ext HE2.out)).mono ?_
              rintro e w3 ⟨rfl, hE3⟩
              go_wp2_with fail
              go_ret
              exact ⟨rfl, HE2.out.trans hE3⟩
            case neg =>
              by_cases hb : hi < day
              case pos =>
                go_wp2_with fail
                refine (r_Sky_any s A c w1 (HM.out.ext HE1.out) hS.out).mono ?_
                rintro e w2 ⟨rfl, hE2⟩
                have HE2 := Lib.hid (HE1.out.trans hE2)
                have HR2 := Lib.hid (HR1.out.ext hE2)
                clear b1
                have b2 := HR2.out.cell
                clear hE2
                rw [h1]
                go_wp2_with fail
                refine (r_Limit_any _ _).mono ?_
                rintro e w' ⟨rfl, rfl⟩
                rw [h2]
                go_wp2_with fail
                refine (r_Limit_any _ _).mono ?_
                rintro e w' ⟨rfl, rfl⟩
                rw [h3]
                go_wp2_with fail
                refine (r_Span_any _ _ _).mono ?_
                rintro e w' ⟨rfl, rfl⟩
                rw [h4]
                go_wp2_with fail
                refine (known_any w2 (HV.out.ext HE2.out)).mono ?_
                rintro e w3 ⟨rfl, hE3⟩
                go_wp2_with fail
                go_ret
                exact ⟨rfl, HE2.out.trans hE3⟩
              case neg =>
                by_cases hm0 : more < 0
                case pos =>
                  go_wp2_with fail
                  refine (r_Sky_any s A c w1 (HM.out.ext HE1.out) hS.out).mono ?_
                  rintro e w2 ⟨rfl, hE2⟩
                  have HE2 := Lib.hid (HE1.out.trans hE2)
                  have HR2 := Lib.hid (HR1.out.ext hE2)
                  clear b1
                  have b2 := HR2.out.cell
                  clear hE2
                  rw [h1]
                  go_wp2_with fail
                  refine (r_Limit_any _ _).mono ?_
                  rintro e w' ⟨rfl, rfl⟩
                  rw [h2]
                  go_wp2_with fail
                  refine (r_Limit_any _ _).mono ?_
                  rintro e w' ⟨rfl, rfl⟩
                  rw [h3]
                  go_wp2_with fail
                  refine (r_Span_any _ _ _).mono ?_
                  rintro e w' ⟨rfl, rfl⟩
                  rw [h4]
                  go_wp2_with fail
                  refine (known_any w2 (HV.out.ext HE2.out)).mono ?_
                  rintro e w3 ⟨rfl, hE3⟩
                  go_wp2_with fail
                  go_ret
                  exact ⟨rfl, HE2.out.trans hE3⟩
                case neg =>
                  by_cases hm1 : 5400 - max nw fl < more
                  case pos =>
                    go_wp2_with fail
                    refine (r_Sky_any s A c w1 (HM.out.ext HE1.out) hS.out).mono ?_
                    rintro e w2 ⟨rfl, hE2⟩
                    have HE2 := Lib.hid (HE1.out.trans hE2)
                    have HR2 := Lib.hid (HR1.out.ext hE2)
                    clear b1
                    have b2 := HR2.out.cell
                    clear hE2
                    rw [h1]
                    go_wp2_with fail
                    refine (r_Limit_any _ _).mono ?_
                    rintro e w' ⟨rfl, rfl⟩
                    rw [h2]
                    go_wp2_with fail
                    refine (r_Limit_any _ _).mono ?_
                    rintro e w' ⟨rfl, rfl⟩
                    rw [h3]
                    go_wp2_with fail
                    refine (r_Span_any _ _ _).mono ?_
                    rintro e w' ⟨rfl, rfl⟩
                    rw [h4]
                    go_wp2_with fail
                    refine (known_any w2 (HV.out.ext HE2.out)).mono ?_
                    rintro e w3 ⟨rfl, hE3⟩
                    go_wp2_with fail
                    go_ret
                    exact ⟨rfl, HE2.out.trans hE3⟩
                  case neg =>
                    have h5 : Sp.isDay day = true := inR_iff.2 ⟨by omega, by omega⟩
                    have h6 : Sp.isLimit (nw + more) = true := inR_iff.2 ⟨by omega, by omega⟩
                    have h7 : Sp.isLimit (fl + more) = true := inR_iff.2 ⟨by omega, by omega⟩
                    have hn2 := (skyOk_iff.1 h1).n2
                    have h8 : Sp.isBody s 1 = true := inR_iff.2 ⟨by omega, by omega⟩
                    obtain ⟨e1, e2⟩ := shadow_len s nw fl lo hi more (by omega)
                    have e3 := moonsL_length s lo hi
                    have hl3 : (Sp.moonsL s lo hi).length ≤ 1602 := by omega
                    have HMORE := Lib.hid (shadow_more s nw fl lo hi more (by omega))
                    have HIN := Lib.hid (shadow_in s nw fl lo hi day)
                    have HFA := Lib.hid (far_apart s day)
                    have hfl := far_lim s day
                    obtain ⟨q, hq⟩ : ∃ q, Sp.place (Sp.body s 1) day = q := ⟨_, rfl⟩
                    obtain ⟨t, ht⟩ : ∃ t, Sp.node s day = t := ⟨_, rfl⟩
                    have bq : 0 ≤ q ∧ q < 21600 := hq ▸ emod_bounds _ 21600 (by omega)
                    have bt : 0 ≤ t ∧ t < 21600 := ht ▸ emod_bounds _ 21600 (by omega)
                    have s2 : Sp.spot q = true := inR_iff.2 ⟨by omega, by omega⟩
                    have s4 : Sp.spot t = true := inR_iff.2 ⟨by omega, by omega⟩
                    rw [hq, ht] at HFA
                    have HQ := Lib.hid hq
                    have HT := Lib.hid ht
                    clear hq ht e3
                    obtain ⟨F, hF⟩ : ∃ F, Sp.far s day = F := ⟨_, rfl⟩
                    rw [hF] at HIN HFA hfl
                    clear hF
                    obtain ⟨f1, hf1⟩ : ∃ f1, Sp.apart q t = f1 := ⟨_, rfl⟩
                    obtain ⟨f2, hf2⟩ : ∃ f2, Sp.apart q (t + 10800) = f2 := ⟨_, rfl⟩
                    rw [hf1, hf2] at HFA
                    go_wp2_with fail
                    refine (r_Sky_any s A c w1 (HM.out.ext HE1.out) hS.out).mono ?_
                    rintro e w2 ⟨rfl, hE2⟩
                    have HE2 := Lib.hid (HE1.out.trans hE2)
                    have HR2 := Lib.hid (HR1.out.ext hE2)
                    clear b1
                    have b2 := HR2.out.cell
                    clear hE2
                    rw [h1]
                    go_wp2_with fail
                    refine (r_Limit_any _ _).mono ?_
                    rintro e w' ⟨rfl, rfl⟩
                    rw [h2]
                    go_wp2_with fail
                    refine (r_Limit_any _ _).mono ?_
                    rintro e w' ⟨rfl, rfl⟩
                    rw [h3]
                    go_wp2_with fail
                    refine (r_Span_any _ _ _).mono ?_
                    rintro e w' ⟨rfl, rfl⟩
                    rw [h4]
                    go_wp2_with fail
                    refine (Ecl_ok s A c nw fl lo hi w2 (HM.out.ext HE2.out) hS.out h1 h2 h3 h4).mono ?_
                    rintro e w3 ⟨v1, rfl, hHV1, hE3⟩
                    have HE3 := Lib.hid (HE2.out.trans hE3)
                    have HR3 := Lib.hid (HR2.out.ext hE3)
                    clear b2
                    have b3 := HR3.out.cell
                    clear hE3
                    have HV1 := Lib.hid hHV1
                    clear hHV1
                    go_wp2_with fail
                    refine (Ecl_ok s A c (nw + more) (fl + more) lo hi w3 (HM.out.ext HE3.out) hS.out h1 h6 h7 h4).mono ?_
                    rintro e w4 ⟨v2, rfl, hHV2, hE4⟩
                    have HE4 := Lib.hid (HE3.out.trans hE4)
                    have HR4 := Lib.hid (HR3.out.ext hE4)
                    clear b3
                    have b4 := HR4.out.cell
                    replace HV1 := Lib.hid (HV1.out.ext hE4)
                    clear hE4
                    have HV2 := Lib.hid hHV2
                    clear hHV2
                    go_wp2_with fail
                    refine (Moons_ok s A c lo hi w4 (HM.out.ext HE4.out) hS.out h1 h4).mono ?_
                    rintro e w5 ⟨v3, rfl, hHV3, hE5⟩
                    have HE5 := Lib.hid (HE4.out.trans hE5)
                    have HR5 := Lib.hid (HR4.out.ext hE5)
                    clear b4
                    have b5 := HR5.out.cell
                    replace HV1 := Lib.hid (HV1.out.ext hE5)
                    replace HV2 := Lib.hid (HV2.out.ext hE5)
                    clear hE5
                    have HV3 := Lib.hid hHV3
                    clear hHV3
                    go_wp2_with fail
                    refine (Place_ok s A c 1 day w5 (HM.out.ext HE5.out) hS.out h1 h8 h5).mono ?_
                    rintro e w6 ⟨rfl, hE6⟩
                    have HE6 := Lib.hid (HE5.out.trans hE6)
                    have HR6 := Lib.hid (HR5.out.ext hE6)
                    clear b5
                    have b6 := HR6.out.cell
                    replace HV1 := Lib.hid (HV1.out.ext hE6)
                    replace HV2 := Lib.hid (HV2.out.ext hE6)
                    replace HV3 := Lib.hid (HV3.out.ext hE6)
                    clear hE6
                    rw [HQ.out]
                    go_wp2_with fail
                    refine (Node_ok s A c day w6 (HM.out.ext HE6.out) hS.out h1 h5).mono ?_
                    rintro e w7 ⟨rfl, hE7⟩
                    have HE7 := Lib.hid (HE6.out.trans hE7)
                    have HR7 := Lib.hid (HR6.out.ext hE7)
                    clear b6
                    have b7 := HR7.out.cell
                    replace HV1 := Lib.hid (HV1.out.ext hE7)
                    replace HV2 := Lib.hid (HV2.out.ext hE7)
                    replace HV3 := Lib.hid (HV3.out.ext hE7)
                    clear hE7
                    rw [HT.out]
                    obtain ⟨A1, c1, hv1, hc1⟩ := HV1.out
                    obtain ⟨A2, c2, hv2, _⟩ := HV2.out
                    obtain ⟨A3, c3, hv3, hc3⟩ := HV3.out
                    subst hv1 hv2 hv3
                    have HC1 := Lib.hid hc1
                    have HC3 := Lib.hid hc3
                    clear hc1 hc3
                    obtain ⟨L1, hL1⟩ : ∃ L, Sp.ecls s nw fl lo hi = L := ⟨_, rfl⟩
                    obtain ⟨L2, hL2⟩ : ∃ L, Sp.ecls s (nw + more) (fl + more) lo hi = L := ⟨_, rfl⟩
                    obtain ⟨L3, hL3⟩ : ∃ L, Sp.moonsL s lo hi = L := ⟨_, rfl⟩
                    rw [hL1] at HV1 HC1 HMORE HIN e1 ⊢
                    rw [hL2] at HV2 HMORE e1 e2 ⊢
                    rw [hL3] at HV3 HC3 HMORE HIN e2 hl3 ⊢
                    clear hL1 hL2 hL3
                    go_wp2_with fail
                    refine (r_Spot_any _ _).mono ?_
                    rintro e w' ⟨rfl, rfl⟩
                    rw [s2]
                    go_wp2_with fail
                    refine (r_Spot_any _ _).mono ?_
                    rintro e w' ⟨rfl, rfl⟩
                    rw [s4]
                    go_wp2_with fail
                    refine (r_Apart_any _ _ _ (by omega) (by omega) (by omega) (by omega)).mono ?_
                    rintro e w' ⟨rfl, rfl⟩
                    rw [hf1]
                    go_wp2_with fail
                    refine (r_Apart_any _ _ _ (by omega) (by omega) (by omega) (by omega)).mono ?_
                    rintro e w' ⟨rfl, rfl⟩
                    rw [hf2]
                    have HF := Lib.hid hfl
                    clear hf1 hf2
                    go_wp2_with fail
                    rw [← HFA.out]
                    go_loopw [26] (fun i wr => ∃ k : Nat, k ≤ L3.length ∧ i = .int .i64 k ∧ Ext w7 wr) (fun i _ => L3.length - (intOf i).toNat)
                    case atStart => exact ⟨0, Nat.zero_le _, rfl, Ext.refl _⟩
                    case round =>
                      obtain ⟨k, hk, rfl, hE⟩ := hrel
                      by_cases hlt : k < L3.length
                      case pos =>
                        obtain ⟨b, oo, rfl, hcell⟩ := HC3.out (by omega)
                        have a0 := hE.cell (hcell k hlt).1
                        have a1 := hE.cell (hcell k hlt).2
                        have HMM := Lib.hid (List.getElem_mem hlt)
                        have HE := Lib.hid hE
                        have HVW := Lib.hid (HV1.out.ext hE)
                        clear b7 hE hcell
                        generalize L3[k] = x at *
                        obtain ⟨xd, xf⟩ := x
                        simp only at a0 a1
                        by_cases hd : xd = day
                        case pos =>
                          subst hd
                          cases xf
                          · have hin := HIN.out false HMM.out
                            simp only [Bool.false_eq_true, if_false, if_true] at hin
                            by_cases hf : F ≤ nw
                            · skip
                              go_wp2_with fail
                              refine (met_any _ L1 ⟨xd, false, F⟩ _ HVW.out (by omega)).mono ?_
                              rintro e w' ⟨rfl, hE'⟩
                              rw [hin, decide_eq_true (by omega)]
                              have HE' := Lib.hid (HE.out.trans hE')
                              clear hE'
                              go_wp2_with fail
                              exact ⟨⟨k + 1, by omega, by go_num, HE'.out⟩, by simp [intOf]; omega⟩
                            · skip
                              go_wp2_with fail
                              refine (met_any _ L1 ⟨xd, false, F⟩ _ HVW.out (by omega)).mono ?_
                              rintro e w' ⟨rfl, hE'⟩
                              rw [hin, decide_eq_false (by omega)]
                              have HE' := Lib.hid (HE.out.trans hE')
                              clear hE'
                              go_wp2_with fail
                              exact ⟨⟨k + 1, by omega, by go_num, HE'.out⟩, by simp [intOf]; omega⟩
                          · have hin := HIN.out true HMM.out
                            simp only [Bool.false_eq_true, if_false, if_true] at hin
                            by_cases hf : F ≤ fl
                            · skip
                              go_wp2_with fail
                              refine (met_any _ L1 ⟨xd, true, F⟩ _ HVW.out (by omega)).mono ?_
                              rintro e w' ⟨rfl, hE'⟩
                              rw [hin, decide_eq_true (by omega)]
                              have HE' := Lib.hid (HE.out.trans hE')
                              clear hE'
                              go_wp2_with fail
                              exact ⟨⟨k + 1, by omega, by go_num, HE'.out⟩, by simp [intOf]; omega⟩
                            · skip
                              go_wp2_with fail
                              refine (met_any _ L1 ⟨xd, true, F⟩ _ HVW.out (by omega)).mono ?_
                              rintro e w' ⟨rfl, hE'⟩
                              rw [hin, decide_eq_false (by omega)]
                              have HE' := Lib.hid (HE.out.trans hE')
                              clear hE'
                              go_wp2_with fail
                              exact ⟨⟨k + 1, by omega, by go_num, HE'.out⟩, by simp [intOf]; omega⟩
                        case neg =>
                          go_wp2_with fail
                          exact ⟨⟨k + 1, by omega, by go_num, HE.out⟩, by simp [intOf]; omega⟩
                      case neg =>
                        obtain rfl : k = L3.length := by omega
                        have HE := Lib.hid hE
                        have HVA := Lib.hid (HV1.out.ext hE)
                        have HVB := Lib.hid (HV2.out.ext hE)
                        have HVC := Lib.hid (HV3.out.ext hE)
                        clear hE b7
                        go_wp2_with fail
                        go_loopw [28] (fun i ws => ∃ k : Nat, k ≤ L1.length ∧ i = .int .i64 k ∧ Ext wr ws) (fun i _ => L1.length - (intOf i).toNat)
                        case atStart => exact ⟨0, Nat.zero_le _, rfl, Ext.refl _⟩
                        case round =>
                          obtain ⟨m, hm, rfl, hF⟩ := hrel
                          by_cases hlm : m < L1.length
                          case pos =>
                            obtain ⟨b, oo, rfl, hcell⟩ := HC1.out (by omega)
                            have a0 := (HE.out.trans hF).cell (hcell m hlm).1
                            have a1 := (HE.out.trans hF).cell (hcell m hlm).2.1
                            have a2 := (HE.out.trans hF).cell (hcell m hlm).2.2
                            have HMM := Lib.hid (HMORE.out _ (List.getElem_mem hlm))
                            have HF2 := Lib.hid hF
                            clear hF hcell
                            generalize L1[m] = x at *
                            go_wp2_with fail
                            refine wp_region_later (by kernel_rfl) (by kernel_rfl) (fun W hW => ?_)
                            subst hW
                            have x0 := fun X : Later W => X.ext.cell a0
                            have x1 := fun X : Later W => X.ext.cell a1
                            have x2 := fun X : Later W => X.ext.cell a2
                            have HX2 := Lib.hid (fun X : Later W => HVB.out.ext (HF2.out.trans X.ext))
                            have HX3 := Lib.hid (fun X : Later W => HVC.out.ext (HF2.out.trans X.ext))
                            clear a0 a1 a2
                            repeat (go_big_quiet_step (fail))
                            go_big_quiet_step ((go_at_call 41; exact Later.call ((met_any _ L2 x _ (by exact HX2.out _) (by omega)).mono fun _ _ h => ⟨by rw [h.1, decide_eq_true HMM.out.1], h.2⟩)))
                            repeat (go_big_quiet_step (fail))
                            go_big_quiet_step ((go_at_call 31; exact Later.call ((listed_any _ L3 x.day x.full _ (by exact HX3.out _) (by omega)).mono fun _ _ h => ⟨by rw [h.1, decide_eq_true HMM.out.2], h.2⟩)))
                            repeat (go_big_quiet_step (fail))
                            refine wpQuiet_nil ?_
                            rintro ⟨W3, hE3⟩
                            dsimp only
                            have HF3 := Lib.hid (HF2.out.trans hE3)
                            clear hE3 x0 x1 x2
                            go_wp2_with fail
                            exact ⟨⟨m + 1, by omega, by go_num, HF3.out⟩, by simp [intOf]; omega⟩
                          case neg =>
                            have HF2 := Lib.hid ((HE7.out.trans HE.out).trans hF)
                            clear hF
                            go_wp2_with fail
                            refine (known_any _ (HV.out.ext HF2.out)).mono ?_
                            rintro e w' ⟨rfl, hE'⟩
                            go_wp2_with fail
                            go_ret
                            exact ⟨rfl, HF2.out.trans hE'⟩
end Go.Proofs.YtlcddcnmoajpjaaGreatDoor
