/- The walk of the law TopPlate, over whatever known20 is. (Printed by wip/mktopplate.py.) -/
import Derived.Carry
import Derived.BigQuiet
import Derived.Test.YtimkmokomohgjaaGreatP08
import Derived.Test.YtimkmokomohgjaaGreatP06
import Derived.Test.YtimkmokomohgjaaGreatP07
import Derived.Test.YtimkmokomohgjaaGreatP01
import Derived.Test.YtimkmokomohgjaaGreatP04
namespace Go.Proofs.YtimkmokomohgjaaGreat
open Go.RowKit
open Sp (rd)
set_option linter.unusedSimpArgs false
set_option linter.unusedVariables false

/-- By how much the arbors turn, and in which sense, as shop.Rates tells. -/
def Tp.RatesAt (links : List (Int × Ec.Pair)) (n : Nat) (w : World) (Ar Bu : Nat) : Prop := ∀ a, a ≤ n → w.cell? ⟨Ar, a * 2, none⟩ = some (.int .i64 (Ec.turnsN (Tp.trainL links a))) ∧ w.cell? ⟨Ar, a * 2 + 1, none⟩ = some (.int .i64 (Ec.turnsD (Tp.trainL links a))) ∧ w.cell? ⟨Bu, a, none⟩ = some (.bool (((Tp.trainL links a).length : Int) % 2 == 0))
theorem Tp.RatesAt.ext {links : List (Int × Ec.Pair)} {n : Nat} {w w' : World} {Ar Bu : Nat} (h : Tp.RatesAt links n w Ar Bu) (he : Ext w w') : Tp.RatesAt links n w' Ar Bu := fun a ha => ⟨he.cell (h a ha).1, he.cell (h a ha).2.1, he.cell (h a ha).2.2⟩
theorem Tp.rate_all {links : List (Int × Ec.Pair)} {n a : Nat} (h2 : a ≤ n) : pd (Tp.rateL links n) a = ⟨Ec.turnsN (Tp.trainL links a), Ec.turnsD (Tp.trainL links a)⟩ := by
  cases a with
  | zero =>
    rw [Tp.trainL_zero]
    simp [pd, Tp.rateL, Ec.turnsN, Ec.turnsD, Ec.turnsG, Ec.drivesP, Ec.drivenP]
  | succ a =>
    unfold pd Tp.rateL
    rw [List.getD_eq_getElem?_getD, List.getElem?_cons_succ, List.getElem?_map, List.getElem?_range (by omega)]
    rfl
theorem Tp.same_all {links : List (Int × Ec.Pair)} {n a : Nat} (h2 : a ≤ n) : (Tp.sameL links n)[a]? = some (((Tp.trainL links a).length : Int) % 2 == 0) := by
  cases a with
  | zero =>
    rw [Tp.trainL_zero]
    rfl
  | succ a =>
    unfold Tp.sameL
    rw [List.getElem?_cons_succ, List.getElem?_map, List.getElem?_range (by omega)]
    rfl
theorem Tp.rates_own {links : List (Int × Ec.Pair)} {n base : Nat} {w : World} {v u : Value} (hv : w.ownsRow base 69 2 v (n + 1) (Tp.pc (Tp.rateL links n))) (hu : w.ownsRow base 4 1 u (n + 1) ((Tp.sameL links n).map .bool)) :
    ∃ Ar cr Bu cu, v = .slice (some ⟨Ar, 0, none⟩) (n + 1) cr ∧ u = .slice (some ⟨Bu, 0, none⟩) (n + 1) cu ∧ Tp.RatesAt links n w Ar Bu := by
  obtain ⟨Ar, cr, rfl, _⟩ := Tp.own_slc hv (by omega)
  obtain ⟨Bu, cu, rfl, _⟩ := Tp.own_slc hu (by omega)
  refine ⟨Ar, cr, Bu, cu, rfl, rfl, fun a ha => ?_⟩
  have h1 := hv.cells (g := Ar) rfl
  have h2 := hu.cells (g := Bu) rfl
  have g := Tp.pc_get (Tp.rateL links n) a (by rw [Tp.rateL_len]; omega)
  rw [Tp.rate_all ha] at g
  have k1 := h1 _ _ g.1
  have k2 := h1 _ _ g.2
  have k3 := h2 a (.bool (((Tp.trainL links a).length : Int) % 2 == 0)) (by rw [List.getElem?_map, Tp.same_all ha]; rfl)
  rw [add0] at k1 k2 k3
  exact ⟨by simpa using k1, by simpa using k2, by simpa using k3⟩
/-- By how much the wheels turn, as plate.Ratios tells. -/
def Tp.TurnsAt (links : List (Int × Ec.Pair)) (nw : Nat) (w : World) (H : Nat) : Prop := ∀ x, x < nw → w.cell? ⟨H, x * 2, none⟩ = some (.int .i64 (Tp.tvW links x).drives) ∧ w.cell? ⟨H, x * 2 + 1, none⟩ = some (.int .i64 (Tp.tvW links x).driven)
theorem Tp.TurnsAt.ext {links : List (Int × Ec.Pair)} {nw : Nat} {w w' : World} {H : Nat} (h : Tp.TurnsAt links nw w H) (he : Ext w w') : Tp.TurnsAt links nw w' H := fun x hx => ⟨he.cell (h x hx).1, he.cell (h x hx).2⟩
theorem Tp.OutAt.turns {links : List (Int × Ec.Pair)} {nw : Nat} {w : World} {v : Value} (h : Tp.OutAt links nw w v) (hok : Tp.LinksOk links) (hn : 2 * links.length = nw) : ∃ H, v = .slice (some ⟨H, 0, none⟩) nw nw ∧ Tp.TurnsAt links nw w H := by
  obtain ⟨H, out, rfl, hr, hw⟩ := h
  subst hn
  refine ⟨H, rfl, fun x hx => ?_⟩
  have hl := hw.len
  have hall := Tp.all_turn hok hw (x / 2) (by omega)
  have hx' : Tp.at_ out x = Tp.tvW links x := by
    rcases Nat.mod_two_eq_zero_or_one x with h | h
    · have e : 2 * (x / 2) = x := by omega
      rw [e] at hall
      exact hall.1
    · have e : 2 * (x / 2) + 1 = x := by omega
      have h2 := hall.2
      rwa [e] at h2
  have := Tp.row_turn hr (k := x) (by omega)
  rwa [hx'] at this
/-- The wheel turns as its arbor does. -/
theorem Tp.tvW_sense (links : List (Int × Ec.Pair)) (x : Nat) : (Tp.tvW links x).driven = Ec.turnsD (Tp.trainL links (Tp.wc links x)) ∧ Ec.turnsN (Tp.trainL links (Tp.wc links x)) = (if ((Tp.trainL links (Tp.wc links x)).length : Int) % 2 == 0 then (Tp.tvW links x).drives else -(Tp.tvW links x).drives) := by
  refine ⟨rfl, ?_⟩
  unfold Tp.tvW Tp.tvA Tp.sg
  by_cases h : ((Tp.trainL links (Tp.wc links x)).length : Int) % 2 = 0
  · simp [h]
  · simp [h]
theorem Tp.wc_le {links : List (Int × Ec.Pair)} {x : Nat} (hok : Tp.LinksOk links) (hx : x < 2 * links.length) : Tp.wc links x ≤ links.length := by
  have := (hok.frm (x / 2)).1
  unfold Tp.wc
  split <;> omega
set_option maxRecDepth 100000 in
set_option maxHeartbeats 64000000 in
theorem law_TopPlate (A : Option Addr) (c : Nat) (Bb : Option Addr) (cb : Nat) (links : List (Int × Ec.Pair)) (hands : List Int) (w : World)
    (hK : ∀ W, Ext w W → Calls Tryz.prog 8 #[] W fun e w' => e = .returned (.bool true) ∧ Ext W w') (hm : Tp.Links w A links) (hh : Ints w Bb hands) (hcap : links.length ≤ c) :
    Calls Tryz.prog 4 #[.agg #[.slice A links.length c, .slice Bb hands.length cb]] w fun e w' => e = .returned (.bool true) ∧ Ext w w' := by
  have HK := Lib.hid hK
  have HML := Lib.hid hm
  have HMH := Lib.hid hh
  have HPC := Lib.hid (fun W h1 h2 => top_piece20_any A c Bb cb links hands W h1 h2)
  have HRT : Hid (Tp.PieceAll links hands → ∀ W, Tp.Links W A links → Ints W Bb hands → Calls Tryz.prog 18 #[.agg #[.slice A links.length c, .slice Bb hands.length cb]] W fun e w' => ∃ Ar cr Bu cu, e = .returned (.tuple #[.slice (some ⟨Ar, 0, none⟩) (links.length + 1) cr, .slice (some ⟨Bu, 0, none⟩) (links.length + 1) cu, .int .i64 0]) ∧ Tp.RatesAt links links.length w' Ar Bu ∧ Ext W w') := Lib.hid (fun hp W h1 h2 => by
    refine (sh_Rates_over A c Bb hands.length cb links W h1 hp.ok.from_ (by have := hp.ok.n5; omega) hp.train (fun W' h => sh_isPiece_yes A c Bb cb links hands W' (h1.ext h) (h2.ext h) hp.ok hcap)).mono ?_
    rintro e w' ⟨v, u, rfl, hv, hu, hE⟩
    obtain ⟨Ar, cr, Bu, cu, rfl, rfl, hR⟩ := Tp.rates_own hv hu
    exact ⟨Ar, cr, Bu, cu, rfl, hR, hE⟩)
  have HP20 : Hid (Tp.PieceAll links hands → ∀ W, Tp.Links W A links → _) := Lib.hid (fun hp W h => top_plate20_any A c (.slice Bb hands.length cb) links W h hp.ok.n1 hp.ok.n5 hp.ok.from_)
  have HR2 := Lib.hid (fun (hp : Tp.PieceAll links hands) nc nw bC cC bW cW bM cM W hpl h4 hnc hnw => r2_Piece_any links nc nw bC cC bW cW bM cM W hpl hp.ok.from_ hp.ok.n1 h4 hnc hnw)
  have HRS := Lib.hid (fun (hp : Tp.PieceAll links hands) nc nw bC cC bW cW bM cM W hpl h4 hnw ht hnc h1 h2 => pl_Ratios_any links hands links.length nc nw bC cC bW cW bM cM W hp hpl rfl hp.ok.n1 h4 hnw ht hp.ok.from_ hnc h1 h2)
  have HTU := Lib.hid (fun (hp : Tp.PieceAll links hands) nw W v (h : Tp.OutAt links nw W v) hn => h.turns hp.ok.from_ hn)
  have HLM := Lib.hid (fun (hp : Tp.PieceAll links hands) x hx => Tp.tvW_lim (w := x) hp hx)
  have HWC := Lib.hid (fun (hp : Tp.PieceAll links hands) x hx => Tp.wc_le (x := x) hp.ok.from_ hx)
  obtain ⟨n, hn⟩ : ∃ n, links.length = n := ⟨_, rfl⟩
  obtain ⟨m, hmm⟩ : ∃ m, hands.length = m := ⟨_, rfl⟩
  have HN := Lib.hid hn
  rw [hn, hmm] at HPC HRT HP20 ⊢
  rw [hn] at HR2 HRS HTU HLM HWC
  clear hn hmm hm hh hcap hK
  have HRP : Hid (Row (w.alloc (.cells #[.slice A n c, .slice Bb m cb] 50)) w.heap.size 50 #[.slice A n c, .slice Bb m cb]) := Lib.hid (Row.new w _ _)
  have hE0 : Ext w (w.alloc (.cells #[.slice A n c, .slice Bb m cb] 50)) := (Ext.refl w).alloc _
  have HE0 := Lib.hid hE0
  replace HML := Lib.hid (HML.out.ext hE0)
  replace HMH := Lib.hid (HMH.out.ext hE0)
  clear hE0
  have bRP := HRP.out.cell
  go_enter Tryz.func4, Tryz.ntmps4
  go_wp2_with fail
  generalize w.alloc (.cells #[.slice A n c, .slice Bb m cb] 50) = w0 at *
  refine (HPC.out w0 HML.out HMH.out).mono ?_
  rintro e w1 ⟨bp, rfl, hp, hE1⟩
  have HE1 := Lib.hid (HE0.out.trans hE1)
  replace HML := Lib.hid (HML.out.ext hE1)
  replace HMH := Lib.hid (HMH.out.ext hE1)
  replace HRP := Lib.hid (HRP.out.ext hE1)
  clear bRP
  have bRP := HRP.out.cell
  clear hE1
  cases cp : bp with
  | false =>
    go_wp2_with fail
    refine (HK.out w1 HE1.out).mono ?_
    rintro e w2 ⟨rfl, hE2⟩
    dsimp only
    go_wp2_with fail
    go_ret
    exact ⟨rfl, HE1.out.trans hE2⟩
  | true =>
    subst cp
    have HPA := Lib.hid (hp rfl)
    clear hp HPC
    have hn5 : n ≤ 5 := by rw [← HN.out]; exact HPA.out.ok.n5
    have hn1 : 1 ≤ n := by rw [← HN.out]; exact HPA.out.ok.n1
    replace HRT := Lib.hid (HRT.out HPA.out)
    replace HP20 := Lib.hid (HP20.out HPA.out)
    replace HR2 := Lib.hid (HR2.out HPA.out)
    replace HRS := Lib.hid (HRS.out HPA.out)
    replace HTU := Lib.hid (HTU.out HPA.out)
    replace HLM := Lib.hid (HLM.out HPA.out)
    replace HWC := Lib.hid (HWC.out HPA.out)
    by_cases d1 : (4 : Int) < (n : Int)
    case pos =>
      go_wp2_with fail
      refine (HK.out w1 HE1.out).mono ?_
      rintro e w2 ⟨rfl, hE2⟩
      dsimp only
      go_wp2_with fail
      go_ret
      exact ⟨rfl, HE1.out.trans hE2⟩
    case neg =>
      have hn4 : n ≤ 4 := by omega
      have e1 : decide ((4 : Int) < (n : Int)) = false := decide_eq_false d1
      go_wp2_with fail
      refine (HP20.out w1 HML.out).mono ?_
      rintro e w2 ⟨bC, cC, bW, cW, bM, cM, rfl, hcC, hcM, hpl, hE2⟩
      have HE2 := Lib.hid (HE1.out.trans hE2)
      replace HML := Lib.hid (HML.out.ext hE2)
      replace HMH := Lib.hid (HMH.out.ext hE2)
      replace HRP := Lib.hid (HRP.out.ext hE2)
      clear bRP
      have bRP := HRP.out.cell
      clear hE2
      obtain ⟨nc, hnc⟩ : ∃ k, n + 1 = k := ⟨_, rfl⟩
      obtain ⟨nw, hnw⟩ : ∃ k, 2 * n = k := ⟨_, rfl⟩
      have HPL := Lib.hid hpl
      rw [hnc] at hcC ⊢
      rw [hnw] at HLM HWC ⊢
      have HNC := Lib.hid hnc
      have HNW := Lib.hid hnw
      have HCC := Lib.hid hcC
      have HCM := Lib.hid hcM
      have HN4 := Lib.hid hn4
      clear hpl HP20 hnc hnw hcC hcM
      have HRD := Lib.hid (Row.new w2 56 #[.int .i64 120, .int .i64 120, .int .i64 0, .int .i64 0, .int .i64 0, .slice (some ⟨bC, 0, none⟩) nc cC, .slice (some ⟨bW, 0, none⟩) nw cW, .slice (some ⟨bM, 0, none⟩) n cM])
      have hX3 : Ext w2 (w2.alloc (.cells #[.int .i64 120, .int .i64 120, .int .i64 0, .int .i64 0, .int .i64 0, .slice (some ⟨bC, 0, none⟩) nc cC, .slice (some ⟨bW, 0, none⟩) nw cW, .slice (some ⟨bM, 0, none⟩) n cM] 56)) := (Ext.refl _).alloc _
      have HE3 := Lib.hid (HE2.out.trans hX3)
      replace HML := Lib.hid (HML.out.ext hX3)
      replace HMH := Lib.hid (HMH.out.ext hX3)
      replace HPL := Lib.hid (HPL.out.ext hX3)
      replace HRP := Lib.hid (HRP.out.ext hX3)
      clear bRP
      have bRP := HRP.out.cell
      have bRD := HRD.out.cell
      clear hX3
      go_wp2_with fail
      generalize w2.alloc (.cells #[.int .i64 120, .int .i64 120, .int .i64 0, .int .i64 0, .int .i64 0, .slice (some ⟨bC, 0, none⟩) nc cC, .slice (some ⟨bW, 0, none⟩) nw cW, .slice (some ⟨bM, 0, none⟩) n cM] 56) = w3 at *
      refine (HR2.out nc nw bC cC bW cW bM cM w3 HPL.out HN4.out HNC.out HNW.out).mono ?_
      rintro e w4 ⟨br, rfl, hr, hE4⟩
      have HE4 := Lib.hid (HE3.out.trans hE4)
      replace HML := Lib.hid (HML.out.ext hE4)
      replace HMH := Lib.hid (HMH.out.ext hE4)
      replace HPL := Lib.hid (HPL.out.ext hE4)
      replace HRP := Lib.hid (HRP.out.ext hE4)
      clear bRP
      have bRP := HRP.out.cell
      replace HRD := Lib.hid (HRD.out.ext hE4)
      clear bRD
      have bRD := HRD.out.cell
      clear hE4
      cases cr : br with
      | false =>
        go_wp2_with fail
        refine (HK.out w4 HE4.out).mono ?_
        rintro e w5 ⟨rfl, hE5⟩
        dsimp only
        go_wp2_with fail
        go_ret
        exact ⟨rfl, HE4.out.trans hE5⟩
      | true =>
        subst cr
        have HT := Lib.hid (hr rfl)
        rw [HN.out, HNW.out] at HT
        clear hr HR2
        go_wp2_with fail
        refine (HRS.out nc nw bC cC bW cW bM cM w4 HPL.out HN4.out HNW.out HT.out HNC.out HCC.out HCM.out).mono ?_
        rintro e w5 ⟨v, rfl, hv, hE5⟩
        obtain ⟨H, rfl, htu⟩ := HTU.out nw _ v hv HNW.out
        have HE5 := Lib.hid (HE4.out.trans hE5)
        replace HML := Lib.hid (HML.out.ext hE5)
        replace HMH := Lib.hid (HMH.out.ext hE5)
        replace HPL := Lib.hid (HPL.out.ext hE5)
        replace HRP := Lib.hid (HRP.out.ext hE5)
        clear bRP
        have bRP := HRP.out.cell
        replace HRD := Lib.hid (HRD.out.ext hE5)
        clear bRD
        have bRD := HRD.out.cell
        clear hE5
        have HTA := Lib.hid htu
        clear htu hv HRS HTU HT
        go_wp2_with fail
        refine (HRT.out w5 HML.out HMH.out).mono ?_
        rintro e w6 ⟨Ar, cr, Bu, cu, rfl, hra, hE6⟩
        have HE6 := Lib.hid (HE5.out.trans hE6)
        replace HML := Lib.hid (HML.out.ext hE6)
        replace HMH := Lib.hid (HMH.out.ext hE6)
        replace HPL := Lib.hid (HPL.out.ext hE6)
        replace HTA := Lib.hid (HTA.out.ext hE6)
        replace HRP := Lib.hid (HRP.out.ext hE6)
        clear bRP
        have bRP := HRP.out.cell
        replace HRD := Lib.hid (HRD.out.ext hE6)
        clear bRD
        have bRD := HRD.out.cell
        clear hE6
        have HRA := Lib.hid hra
        clear hra HRT
        have hnn : ((n + 1 : Nat) : Int) = (n : Int) + 1 := by omega
        go_wp2_with fail
        go_loopw [9, 10, 11] (fun i a t wr => ∃ x : Nat, x ≤ nw ∧ i = .int .i64 (x : Int) ∧ Ext w6 wr) (fun i _ _ _ => nw - (intOf i).toNat)
        case atStart => exact ⟨0, Nat.zero_le _, rfl, Ext.refl _⟩
        case round =>
          obtain ⟨x, hx, rfl, hE7⟩ := hrel
          generalize wr = w7 at *
          have HEL := Lib.hid hE7
          have HE7 := Lib.hid (HE6.out.trans hE7)
          replace HML := Lib.hid (HML.out.ext hE7)
          replace HMH := Lib.hid (HMH.out.ext hE7)
          replace HPL := Lib.hid (HPL.out.ext hE7)
          replace HTA := Lib.hid (HTA.out.ext hE7)
          replace HRA := Lib.hid (HRA.out.ext hE7)
          replace HRP := Lib.hid (HRP.out.ext hE7)
          clear bRP
          have bRP := HRP.out.cell
          replace HRD := Lib.hid (HRD.out.ext hE7)
          clear bRD
          have bRD := HRD.out.cell
          clear hE7
          rcases Nat.lt_or_eq_of_le hx with h9 | h9
          · have h9' : (x : Int) < (nw : Int) := by omega
            have hw8 : (x : Int) < 8 := by have := HNW.out; omega
            obtain ⟨d1, _⟩ := HPL.out.whl x (by have := HNW.out; rw [HN.out]; omega)
            obtain ⟨d2, d3⟩ := HTA.out x h9
            obtain ⟨s1, s2⟩ := Tp.tvW_sense links x
            obtain ⟨⟨_, l1, l2⟩, _⟩ := HLM.out x h9
            have l3 := HWC.out x h9
            obtain ⟨a, ha⟩ : ∃ a, Tp.wc links x = a := ⟨_, rfl⟩
            rw [ha] at d1 s1 s2 l3
            obtain ⟨r1, r2, r3⟩ := HRA.out a (by omega)
            obtain ⟨t, ht⟩ : ∃ t, (Tp.tvW links x).drives = t := ⟨_, rfl⟩
            obtain ⟨u, hu⟩ : ∃ u, (Tp.tvW links x).driven = u := ⟨_, rfl⟩
            rw [ht] at d2 s2 l1 l2
            rw [hu] at d3 s1
            rw [← s1] at r2
            rw [s2] at r1
            obtain ⟨b, hb⟩ : ∃ b, (((Tp.trainL links a).length : Int) % 2 == 0) = b := ⟨_, rfl⟩
            rw [hb] at r1 r3
            clear ha ht hu s1 s2 hb
            have la : (a : Int) < (n : Int) + 1 := by omega
            have la2 : a < n + 1 := by omega
            have q1 : (t != t) = false := by simp
            have q2 : (u != u) = false := by simp
            have q3 : (-t != -t) = false := by simp
            cases b with
            | false =>
              simp only [if_true, if_false, Bool.false_eq_true, reduceIte] at r1
              go_wp2_with fail
              go_quiet (fail)
              go_wp2_with fail
              go_roundw
              case rel => exact ⟨x + 1, by omega, by go_num, HEL.out.drewN _⟩
              case measure => simp [intOf]; omega
            | true =>
              simp only [if_true, if_false, Bool.false_eq_true, reduceIte] at r1
              go_wp2_with fail
              go_quiet (fail)
              go_wp2_with fail
              go_roundw
              case rel => exact ⟨x + 1, by omega, by go_num, HEL.out.drewN _⟩
              case measure => simp [intOf]; omega
          · subst h9
            go_wp2_with fail
            refine (HK.out w7 HE7.out).mono ?_
            rintro e w8 ⟨rfl, hE8⟩
            dsimp only
            go_wp2_with fail
            go_ret
            exact ⟨rfl, HE7.out.trans hE8⟩
end Go.Proofs.YtimkmokomohgjaaGreat
