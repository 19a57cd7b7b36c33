/- The walk of the law TopMoons, over whatever known20 is. (Printed by wip/mktoplaws.py.) -/
import Derived.Carry
import Derived.BigQuiet
import Derived.Test.YtimkmokomohgjaaGreatT06
import Derived.Test.YtimkmokomohgjaaGreatT03
import Derived.Test.YtimkmokomohgjaaGreatT02
import Derived.Test.YtimkmokomohgjaaGreatT01
namespace Go.Proofs.YtimkmokomohgjaaGreat
open Go.RowKit
open Sp (rd)
set_option linter.unusedSimpArgs false
set_option linter.unusedVariables false

theorem Tp.quot_lims {N g n : Int} (h1 : 1 ≤ N) (h2 : N ≤ 100000000) (hg : 1 ≤ g) (h : N = g * n) : 1 ≤ n ∧ n ≤ 100000000 := by
  have hn : 1 ≤ n := by
    rcases Int.lt_or_le 0 n with h' | h'
    · omega
    · exfalso
      have := Int.mul_nonneg (a := g) (b := -n) (by omega) (by omega)
      rw [Int.mul_neg] at this
      omega
  have := Int.mul_le_mul_of_nonneg_right hg (show (0 : Int) ≤ n by omega)
  omega
theorem Tp.two_of {s : Sp.Sky} {sn sd mn md st : Int} (hb : s.bodies = [⟨sn, sd, st, [0]⟩, ⟨mn, md, st, [0]⟩]) (h : Sp.skyOk s = true) : Tp.Two s sn sd mn md st := by
  unfold Sp.skyOk at h
  rw [hb] at h
  simp [Sp.bodyOk, Sp.period, Sp.inR] at h
  exact ⟨hb, by omega, by omega⟩
theorem Tp.nextO_at {s : Sp.Sky} {day a : Int} (h : Sp.nextO s day false = some a) (h1 : 1 ≤ day) (h2 : day ≤ 20000) : day ≤ a ∧ a ≤ 20000 ∧ Sp.moonB s a false = true := by
  unfold Sp.nextO at h
  rw [show max 1 day = day by omega] at h
  have := nextN_is_some s false _ _ a h
  exact ⟨this.1, by omega, this.2.2.1⟩
set_option maxRecDepth 100000 in
set_option maxHeartbeats 8000000 in
theorem law_TopMoons (sn sd mn md nn nd ns st day : Int) (w : World) (hK : ∀ W, Ext w W → Calls Tryz.prog 8 #[] W fun e w' => e = .returned (.bool true) ∧ Ext W w') :
    Calls Tryz.prog 3 #[.agg #[.int .i64 sn, .int .i64 sd], .agg #[.int .i64 mn, .int .i64 md], .agg #[.int .i64 nn, .int .i64 nd, .int .i64 ns], .int .i64 st, .int .i64 day] w fun e w' => e = .returned (.bool true) ∧ Ext w w' := by
  have HK := Lib.hid hK
  clear hK
  have HR5 : Hid (Row (((w.alloc (.cells #[.int .i64 sn, .int .i64 sd] 23)).alloc (.cells #[.int .i64 mn, .int .i64 md] 23)).alloc (.cells #[.int .i64 nn, .int .i64 nd, .int .i64 ns] 25)) w.heap.size 23 #[.int .i64 sn, .int .i64 sd]) := Lib.hid (blocks3 w _ _ _).1
  have HR6 : Hid (Row (((w.alloc (.cells #[.int .i64 sn, .int .i64 sd] 23)).alloc (.cells #[.int .i64 mn, .int .i64 md] 23)).alloc (.cells #[.int .i64 nn, .int .i64 nd, .int .i64 ns] 25)) (w.heap.size + 1) 23 #[.int .i64 mn, .int .i64 md]) := Lib.hid (blocks3 w _ _ _).2.1
  have HR7 : Hid (Row (((w.alloc (.cells #[.int .i64 sn, .int .i64 sd] 23)).alloc (.cells #[.int .i64 mn, .int .i64 md] 23)).alloc (.cells #[.int .i64 nn, .int .i64 nd, .int .i64 ns] 25)) (w.heap.size + 1 + 1) 25 #[.int .i64 nn, .int .i64 nd, .int .i64 ns]) := Lib.hid (blocks3 w _ _ _).2.2
  have HE0 : Hid (Ext w (((w.alloc (.cells #[.int .i64 sn, .int .i64 sd] 23)).alloc (.cells #[.int .i64 mn, .int .i64 md] 23)).alloc (.cells #[.int .i64 nn, .int .i64 nd, .int .i64 ns] 25))) := Lib.hid ((((Ext.refl w).alloc _).alloc _).alloc _)
  have bR5 := HR5.out.cell
  have bR6 := HR6.out.cell
  have bR7 := HR7.out.cell
  go_enter Tryz.func3, Tryz.ntmps3
  go_wp2_with fail
  generalize ((w.alloc (.cells #[.int .i64 sn, .int .i64 sd] 23)).alloc (.cells #[.int .i64 mn, .int .i64 md] 23)).alloc (.cells #[.int .i64 nn, .int .i64 nd, .int .i64 ns] 25) = w0 at *
  refine (top_sky20_any sn sd mn md nn nd ns st w0).mono ?_
  rintro e w1 ⟨A, rfl, hA, hE1⟩
  clear bR5 bR6 bR7 HR5 HR6 HR7
  have HE1 := Lib.hid (HE0.out.trans hE1)
  clear hE1
  have HM := Lib.hid hA
  clear hA
  have HSH : Hid (Short (Sp.Sky.mk [⟨sn, sd, st, [0]⟩, ⟨mn, md, st, [0]⟩] nn nd ns).bodies) := Lib.hid ⟨by simp, fun k hk => by
    have hk2 : k < 2 := hk
    rcases (show k = 0 ∨ k = 1 by omega) with rfl | rfl <;> simp [bd]⟩
  obtain ⟨s, hs⟩ : ∃ s : Sp.Sky, s = ⟨[⟨sn, sd, st, [0]⟩, ⟨mn, md, st, [0]⟩], nn, nd, ns⟩ := ⟨_, rfl⟩
  rw [← hs] at HSH
  have hb2 : s.bodies = [⟨sn, sd, st, [0]⟩, ⟨mn, md, st, [0]⟩] := by rw [hs]
  have hb3 : s.nnum = nn ∧ s.nden = nd ∧ s.nstart = ns := by rw [hs]; exact ⟨rfl, rfl, rfl⟩
  have hb4 : s.bodies.length = 2 := by rw [hb2]; rfl
  have HB2 := Lib.hid hb2
  rw [← hb2] at HM
  have HSK : Hid (∀ (W : World), Bodies W A s.bodies → Calls Tryz.prog 7 #[.agg #[.slice A 2 2, .int .i64 nn, .int .i64 nd, .int .i64 ns]] W fun e w' => e = .returned (.bool (Sp.skyOk s)) ∧ Ext W w') := Lib.hid fun W h => by have := r_Sky_any s A 2 W h HSH.out; rwa [hb4, hb3.1, hb3.2.1, hb3.2.2] at this
  have HMN : Hid (∀ (W : World), Bodies W A s.bodies → Sp.isMonth s = false → Sp.skyOk s = true → Calls Tryz.prog 9 #[.agg #[.slice A 2 2, .int .i64 nn, .int .i64 nd, .int .i64 ns]] W fun e w' => e = .returned (.tuple #[.int .i64 0, .int .i64 0, .int .i64 7]) ∧ Ext W w') := Lib.hid fun W h h1 h2 => by have := MonthNo_ok s A 2 W h HSH.out h1 h2; rwa [hb4, hb3.1, hb3.2.1, hb3.2.2] at this
  have HMO : Hid (∀ (W : World), Bodies W A s.bodies → Sp.isMonth s = true → Sp.skyOk s = true → Calls Tryz.prog 9 #[.agg #[.slice A 2 2, .int .i64 nn, .int .i64 nd, .int .i64 ns]] W fun e w' => e = .returned (.tuple #[.int .i64 (Sp.monthNum s / monthG s), .int .i64 (Sp.monthDen s / monthG s), .int .i64 0]) ∧ Ext W w') := Lib.hid fun W h h1 h2 => by have := Month_ok s A 2 W h HSH.out h1 h2; rwa [hb4, hb3.1, hb3.2.1, hb3.2.2] at this
  have HNX : Hid (∀ (W : World), Bodies W A s.bodies → Sp.skyOk s = true → (1 ≤ day ∧ day < 20000) → Calls Tryz.prog 11 #[.agg #[.slice A 2 2, .int .i64 nn, .int .i64 nd, .int .i64 ns], .int .i64 day, .bool false] W fun e w' => e = .returned (nextV s day false) ∧ Ext W w') := Lib.hid fun W h h1 h2 => by
    have hd : Sp.isDay day = true := by simp [Sp.isDay, Sp.inR]; omega
    rcases Int.lt_or_le 1 day with h3 | h3
    · have := Next_ok1 s A 2 day false W h HSH.out h1 hd h3; rwa [hb4, hb3.1, hb3.2.1, hb3.2.2] at this
    · have := Next_ok0 s A 2 day false W h HSH.out h1 hd h3; rwa [hb4, hb3.1, hb3.2.1, hb3.2.2] at this
  have HMS : Hid (∀ (W : World), Bodies W A s.bodies → Sp.skyOk s = true → (1 ≤ day ∧ day < 20000) → Calls Tryz.prog 13 #[.agg #[.slice A 2 2, .int .i64 nn, .int .i64 nd, .int .i64 ns], .int .i64 day, .int .i64 (day + 1)] W fun e w' => ∃ v, e = .returned (.tuple #[v, .int .i64 0]) ∧ MoonsVal w' v (Sp.moonsL s day (day + 1)) ∧ Ext W w') := Lib.hid fun W h h1 h2 => by
    have := Moons_ok s A 2 day (day + 1) W h HSH.out h1 (by simp [Sp.isSpan, Sp.inR]; omega); rwa [hb4, hb3.1, hb3.2.1, hb3.2.2] at this
  clear hs hb2 hb3 hb4 HSH
  go_wp2_with fail
  have HRS := Lib.hid (Row.new w1 28 #[.slice A 2 2, .int .i64 nn, .int .i64 nd, .int .i64 ns])
  have hX2 : Ext w1 (w1.alloc (.cells #[.slice A 2 2, .int .i64 nn, .int .i64 nd, .int .i64 ns] 28)) := (Ext.refl _).alloc _
  have HE2 := Lib.hid (HE1.out.trans hX2)
  replace HM := Lib.hid (HM.out.ext hX2)
  have bRS := HRS.out.cell
  clear hX2
  go_wp2_with fail
  generalize w1.alloc (.cells #[.slice A 2 2, .int .i64 nn, .int .i64 nd, .int .i64 ns] 28) = w2 at *
  refine (HSK.out w2 HM.out).mono ?_
  rintro e w3 ⟨rfl, hE3⟩
  have HE3 := Lib.hid (HE2.out.trans hE3)
  replace HM := Lib.hid (HM.out.ext hE3)
  replace HRS := Lib.hid (HRS.out.ext hE3)
  clear bRS
  have bRS := HRS.out.cell
  clear hE3
  dsimp only
  cases c0 : Sp.skyOk s with
  | false =>
    go_wp2_with fail
    refine (HK.out w3 HE3.out).mono ?_
    rintro e w4 ⟨rfl, hE4⟩
    dsimp only
    go_wp2_with fail
    go_ret
    exact ⟨rfl, HE3.out.trans hE4⟩
  | true =>
    by_cases d0 : day < 1
    case pos =>
      go_wp2_with fail
      refine (HK.out w3 HE3.out).mono ?_
      rintro e w4 ⟨rfl, hE4⟩
      dsimp only
      go_wp2_with fail
      go_ret
      exact ⟨rfl, HE3.out.trans hE4⟩
    case neg =>
      by_cases d1 : 20000 ≤ day
      case pos =>
        go_wp2_with fail
        refine (HK.out w3 HE3.out).mono ?_
        rintro e w4 ⟨rfl, hE4⟩
        dsimp only
        go_wp2_with fail
        go_ret
        exact ⟨rfl, HE3.out.trans hE4⟩
      case neg =>
        cases c1 : Sp.isMonth s with
        | false =>
          go_wp2_with fail
          refine (HMN.out w3 HM.out c1 c0).mono ?_
          rintro e w4 ⟨rfl, hE4⟩
          have HE4 := Lib.hid (HE3.out.trans hE4)
          replace HM := Lib.hid (HM.out.ext hE4)
          replace HRS := Lib.hid (HRS.out.ext hE4)
          clear bRS
          have bRS := HRS.out.cell
          clear hE4
          go_wp2_with fail
          refine (HK.out w4 HE4.out).mono ?_
          rintro e w5 ⟨rfl, hE5⟩
          dsimp only
          go_wp2_with fail
          go_ret
          exact ⟨rfl, HE4.out.trans hE5⟩
        | true =>
          have hmb := month_bounds (skyOk_iff.1 c0) c1
          have hgb := monthG_bounds (skyOk_iff.1 c0) c1
          have hgn : Sp.monthNum s = monthG s * (Sp.monthNum s / monthG s) := (Int.mul_ediv_cancel' (Int.gcd_dvd_left ..)).symm
          have hgd : Sp.monthDen s = monthG s * (Sp.monthDen s / monthG s) := (Int.mul_ediv_cancel' (Int.gcd_dvd_right ..)).symm
          have HMO2 := Lib.hid (fun W h => HMO.out W h c1 c0)
          obtain ⟨g, hg⟩ : ∃ g, monthG s = g := ⟨_, rfl⟩
          rw [hg] at hgb hgn hgd HMO2
          obtain ⟨n, hn⟩ : ∃ n, Sp.monthNum s / g = n := ⟨_, rfl⟩
          obtain ⟨d, hd⟩ : ∃ d, Sp.monthDen s / g = d := ⟨_, rfl⟩
          rw [hn] at hgn HMO2
          rw [hd] at hgd HMO2
          have hN : 1 ≤ n ∧ n ≤ 100000000 := Tp.quot_lims hmb.1 hmb.2.1 hgb.1 hgn
          have hD : 1 ≤ d ∧ d ≤ 100000000 := Tp.quot_lims hmb.2.2.1 hmb.2.2.2 hgb.1 hgd
          have HGN := Lib.hid (And.intro hgb.1 (And.intro hgn hgd))
          clear hg hn hd hgn hgd hmb hgb HMO HMN
          go_wp2_with fail
          refine (HMO2.out w3 HM.out).mono ?_
          rintro e w4 ⟨rfl, hE4⟩
          have HE4 := Lib.hid (HE3.out.trans hE4)
          replace HM := Lib.hid (HM.out.ext hE4)
          replace HRS := Lib.hid (HRS.out.ext hE4)
          clear bRS
          have bRS := HRS.out.cell
          clear hE4
          go_wp2_with fail
          have HRD := Lib.hid (Row.new w4 36 #[.int .i64 n, .int .i64 d, .int .i64 0])
          have hX5 : Ext w4 (w4.alloc (.cells #[.int .i64 n, .int .i64 d, .int .i64 0] 36)) := (Ext.refl _).alloc _
          have HE5 := Lib.hid (HE4.out.trans hX5)
          replace HM := Lib.hid (HM.out.ext hX5)
          replace HRS := Lib.hid (HRS.out.ext hX5)
          clear bRS
          have bRS := HRS.out.cell
          have bRD := HRD.out.cell
          clear hX5
          go_wp2_with fail
          generalize w4.alloc (.cells #[.int .i64 n, .int .i64 d, .int .i64 0] 36) = w5 at *
          refine (r6_Moon_any n d w5 (by omega) (by omega)).mono ?_
          rintro e w6 ⟨rfl, hE6⟩
          have HE6 := Lib.hid (HE5.out.trans hE6)
          replace HM := Lib.hid (HM.out.ext hE6)
          replace HRS := Lib.hid (HRS.out.ext hE6)
          clear bRS
          have bRS := HRS.out.cell
          replace HRD := Lib.hid (HRD.out.ext hE6)
          clear bRD
          have bRD := HRD.out.cell
          clear hE6
          dsimp only
          cases c2 : Tp.moonOk n d with
          | false =>
            go_wp2_with fail
            refine (HK.out w6 HE6.out).mono ?_
            rintro e w7 ⟨rfl, hE7⟩
            dsimp only
            go_wp2_with fail
            go_ret
            exact ⟨rfl, HE6.out.trans hE7⟩
          | true =>
            have hmo : (1 ≤ d ∧ d ≤ 1000) ∧ 29 * d ≤ n ∧ n ≤ 30 * d := by
              have h := c2
              unfold Tp.moonOk at h
              simp [Sp.inR] at h
              omega
            have HAG := Lib.hid (fun t W (h : 0 ≤ t ∧ t ≤ 20000) => dl_Age_ok n d 0 t W hmo.1 hmo.2 (by omega) (by omega))
            have hTW : Tp.Two s sn sd mn md st := Tp.two_of HB2.out c0
            have HNW := Lib.hid (fun t h => hTW.age HGN.out.1 HGN.out.2.1 HGN.out.2.2 hmo.1.1 hmo.2 t h)
            have HLN := Lib.hid (fun t h => Tp.Two.listed (hTW.new HGN.out.1 HGN.out.2.1 HGN.out.2.2 hmo.1.1 hmo.2 t h))
            clear hTW hmo hN hD c2
            go_wp2_with fail
            refine (HNX.out w6 HM.out c0 ⟨by omega, by omega⟩).mono ?_
            rintro e w7 ⟨rfl, hE7⟩
            have HE7 := Lib.hid (HE6.out.trans hE7)
            replace HM := Lib.hid (HM.out.ext hE7)
            replace HRS := Lib.hid (HRS.out.ext hE7)
            clear bRS
            have bRS := HRS.out.cell
            replace HRD := Lib.hid (HRD.out.ext hE7)
            clear bRD
            have bRD := HRD.out.cell
            clear hE7
            unfold nextV
            cases hnx : Sp.nextO s day false with
            | none =>
              clear hnx
              dsimp only
              go_wp2_with fail
              refine (HAG.out day w7 ⟨by omega, by omega⟩).mono ?_
              rintro e w8 ⟨rfl, hE8⟩
              have HE8 := Lib.hid (HE7.out.trans hE8)
              replace HM := Lib.hid (HM.out.ext hE8)
              replace HRS := Lib.hid (HRS.out.ext hE8)
              clear bRS
              have bRS := HRS.out.cell
              replace HRD := Lib.hid (HRD.out.ext hE8)
              clear bRD
              have bRD := HRD.out.cell
              clear hE8
              obtain ⟨old, hold⟩ : ∃ a, Tp.age n d 0 day = a := ⟨_, rfl⟩
              have HL0 := Lib.hid (HLN.out day)
              rw [hold] at HL0 ⊢
              clear hold
              go_wp2_with fail
              refine (HMS.out w8 HM.out c0 ⟨by omega, by omega⟩).mono ?_
              rintro e w9 ⟨v, rfl, hv, hE9⟩
              have HE9 := Lib.hid (HE8.out.trans hE9)
              replace HM := Lib.hid (HM.out.ext hE9)
              replace HRS := Lib.hid (HRS.out.ext hE9)
              clear bRS
              have bRS := HRS.out.cell
              replace HRD := Lib.hid (HRD.out.ext hE9)
              clear bRD
              have bRD := HRD.out.cell
              clear hE9
              obtain ⟨Am, cm, rfl, hmv⟩ := hv
              have hfw := Tp.Two.few s day
              obtain ⟨L, hLL⟩ : ∃ L, Sp.moonsL s day (day + 1) = L := ⟨_, rfl⟩
              rw [hLL] at hmv hfw HL0 ⊢
              have HMV := Lib.hid hmv
              clear hLL hmv
              have hf4 : ¬ (4 : Int) < (L.length : Int) := by omega
              go_wp2_with fail
              go_loopw [24, 25] (fun v i wr => ∃ k : Nat, k ≤ L.length ∧ i = .int .i64 (k : Int) ∧ v = .bool ((L.take k).any fun m => !m.2) ∧ Ext w9 wr) (fun _ i _ => L.length - (intOf i).toNat)
              case atStart => exact ⟨0, Nat.zero_le _, rfl, rfl, Ext.refl _⟩
              case round =>
                obtain ⟨k, hk, rfl, rfl, hE⟩ := hrel
                have HX := Lib.hid hE
                by_cases hlt : k < L.length
                · obtain ⟨b, o, rfl, hc⟩ := HMV.out (by omega)
                  have ck := hE.cell (hc k hlt).2
                  have HS := Lib.hid (any_take_succ L (0, false) (fun m => !m.2) k hlt)
                  have hz : L.getD k (0, false) = L[k] := by rw [List.getD_eq_getElem?_getD, List.getElem?_eq_getElem hlt]; rfl
                  rw [hz] at HS
                  obtain ⟨z, hz2⟩ : ∃ z, L[k] = z := ⟨_, rfl⟩
                  rw [hz2] at ck HS
                  obtain ⟨zd, zf⟩ := z
                  simp only at ck HS
                  obtain ⟨nb, hnb⟩ : ∃ b, (L.take k).any (fun m => !m.2) = b := ⟨_, rfl⟩
                  rw [hnb] at HS ⊢
                  have hlt' : (k : Int) < (L.length : Int) := by omega
                  clear hc hz hz2 hnb hE
                  cases nb
                  · cases zf
                    · go_wp2_with fail
                      go_roundw
                      case rel => exact ⟨k + 1, by omega, by go_num, by rw [HS.out] <;> rfl, HX.out⟩
                      case measure => simp [intOf]; omega
                    · go_wp2_with fail
                      go_roundw
                      case rel => exact ⟨k + 1, by omega, by go_num, by rw [HS.out] <;> rfl, HX.out⟩
                      case measure => simp [intOf]; omega
                  · go_wp2_with fail
                    go_roundw
                    case rel => exact ⟨k + 1, by omega, by go_num, by rw [HS.out] <;> rfl, HX.out⟩
                    case measure => simp [intOf]; omega
                · obtain rfl : k = L.length := by omega
                  rw [List.take_length]
                  obtain ⟨nb, hnb⟩ : ∃ b, L.any (fun m => !m.2) = b := ⟨_, rfl⟩
                  rw [hnb] at HL0 ⊢
                  clear hnb hE
                  have HEX := Lib.hid (HE9.out.trans HX.out)
                  by_cases hold : old = 0
                  · obtain rfl : nb = true := HL0.out hold
                    subst hold
                    go_wp2_with fail
                    refine (HK.out wr HEX.out).mono ?_
                    rintro e wz ⟨rfl, hEz⟩
                    dsimp only
                    go_wp2_with fail
                    go_ret
                    exact ⟨rfl, HEX.out.trans hEz⟩
                  · have hold1 : (old != 0) = true := by simpa using hold
                    go_wp2_with fail
                    refine (HK.out wr HEX.out).mono ?_
                    rintro e wz ⟨rfl, hEz⟩
                    dsimp only
                    go_wp2_with fail
                    go_ret
                    exact ⟨rfl, HEX.out.trans hEz⟩
            | some at_ =>
              have hno := Tp.nextO_at hnx (by omega) (by omega)
              have hage := HNW.out at_ hno.2.2
              clear hnx
              dsimp only
              go_wp2_with fail
              refine (HAG.out at_ w7 ⟨by omega, by omega⟩).mono ?_
              rintro e w8 ⟨rfl, hE8⟩
              have HE8 := Lib.hid (HE7.out.trans hE8)
              replace HM := Lib.hid (HM.out.ext hE8)
              replace HRS := Lib.hid (HRS.out.ext hE8)
              clear bRS
              have bRS := HRS.out.cell
              replace HRD := Lib.hid (HRD.out.ext hE8)
              clear bRD
              have bRD := HRD.out.cell
              clear hE8
              obtain ⟨old0, hold0⟩ : ∃ a, Tp.age n d 0 at_ = a := ⟨_, rfl⟩
              rw [hold0] at hage ⊢
              obtain ⟨hno1, hno2, hno3⟩ := hno
              clear hold0 hno3
              go_wp2_with fail
              refine (HAG.out day w8 ⟨by omega, by omega⟩).mono ?_
              rintro e w9 ⟨rfl, hE9⟩
              have HE9 := Lib.hid (HE8.out.trans hE9)
              replace HM := Lib.hid (HM.out.ext hE9)
              replace HRS := Lib.hid (HRS.out.ext hE9)
              clear bRS
              have bRS := HRS.out.cell
              replace HRD := Lib.hid (HRD.out.ext hE9)
              clear bRD
              have bRD := HRD.out.cell
              clear hE9
              obtain ⟨old, hold⟩ : ∃ a, Tp.age n d 0 day = a := ⟨_, rfl⟩
              have HL0 := Lib.hid (HLN.out day)
              rw [hold] at HL0 ⊢
              clear hold
              go_wp2_with fail
              refine (HMS.out w9 HM.out c0 ⟨by omega, by omega⟩).mono ?_
              rintro e w10 ⟨v, rfl, hv, hE10⟩
              have HE10 := Lib.hid (HE9.out.trans hE10)
              replace HM := Lib.hid (HM.out.ext hE10)
              replace HRS := Lib.hid (HRS.out.ext hE10)
              clear bRS
              have bRS := HRS.out.cell
              replace HRD := Lib.hid (HRD.out.ext hE10)
              clear bRD
              have bRD := HRD.out.cell
              clear hE10
              obtain ⟨Am, cm, rfl, hmv⟩ := hv
              have hfw := Tp.Two.few s day
              obtain ⟨L, hLL⟩ : ∃ L, Sp.moonsL s day (day + 1) = L := ⟨_, rfl⟩
              rw [hLL] at hmv hfw HL0 ⊢
              have HMV := Lib.hid hmv
              clear hLL hmv
              have hf4 : ¬ (4 : Int) < (L.length : Int) := by omega
              go_wp2_with fail
              go_loopw [24, 25] (fun v i wr => ∃ k : Nat, k ≤ L.length ∧ i = .int .i64 (k : Int) ∧ v = .bool ((L.take k).any fun m => !m.2) ∧ Ext w10 wr) (fun _ i _ => L.length - (intOf i).toNat)
              case atStart => exact ⟨0, Nat.zero_le _, rfl, rfl, Ext.refl _⟩
              case round =>
                obtain ⟨k, hk, rfl, rfl, hE⟩ := hrel
                have HX := Lib.hid hE
                by_cases hlt : k < L.length
                · obtain ⟨b, o, rfl, hc⟩ := HMV.out (by omega)
                  have ck := hE.cell (hc k hlt).2
                  have HS := Lib.hid (any_take_succ L (0, false) (fun m => !m.2) k hlt)
                  have hz : L.getD k (0, false) = L[k] := by rw [List.getD_eq_getElem?_getD, List.getElem?_eq_getElem hlt]; rfl
                  rw [hz] at HS
                  obtain ⟨z, hz2⟩ : ∃ z, L[k] = z := ⟨_, rfl⟩
                  rw [hz2] at ck HS
                  obtain ⟨zd, zf⟩ := z
                  simp only at ck HS
                  obtain ⟨nb, hnb⟩ : ∃ b, (L.take k).any (fun m => !m.2) = b := ⟨_, rfl⟩
                  rw [hnb] at HS ⊢
                  have hlt' : (k : Int) < (L.length : Int) := by omega
                  clear hc hz hz2 hnb hE
                  cases nb
                  · cases zf
                    · go_wp2_with fail
                      go_roundw
                      case rel => exact ⟨k + 1, by omega, by go_num, by rw [HS.out] <;> rfl, HX.out⟩
                      case measure => simp [intOf]; omega
                    · go_wp2_with fail
                      go_roundw
                      case rel => exact ⟨k + 1, by omega, by go_num, by rw [HS.out] <;> rfl, HX.out⟩
                      case measure => simp [intOf]; omega
                  · go_wp2_with fail
                    go_roundw
                    case rel => exact ⟨k + 1, by omega, by go_num, by rw [HS.out] <;> rfl, HX.out⟩
                    case measure => simp [intOf]; omega
                · obtain rfl : k = L.length := by omega
                  rw [List.take_length]
                  obtain ⟨nb, hnb⟩ : ∃ b, L.any (fun m => !m.2) = b := ⟨_, rfl⟩
                  rw [hnb] at HL0 ⊢
                  clear hnb hE
                  have HEX := Lib.hid (HE10.out.trans HX.out)
                  by_cases hold : old = 0
                  · obtain rfl : nb = true := HL0.out hold
                    subst hold
                    go_wp2_with fail
                    refine (HK.out wr HEX.out).mono ?_
                    rintro e wz ⟨rfl, hEz⟩
                    dsimp only
                    go_wp2_with fail
                    go_ret
                    exact ⟨rfl, HEX.out.trans hEz⟩
                  · have hold1 : (old != 0) = true := by simpa using hold
                    go_wp2_with fail
                    refine (HK.out wr HEX.out).mono ?_
                    rintro e wz ⟨rfl, hEz⟩
                    dsimp only
                    go_wp2_with fail
                    go_ret
                    exact ⟨rfl, HEX.out.trans hEz⟩
end Go.Proofs.YtimkmokomohgjaaGreat
