/- Volume 2 of the texts that the laws of this seat use: EcTurns EcTrain TpRule TpShop0 TpOpen2 EcWorld TpRange TpRangeAll EcFree EcFree2: walks of the program's functions, and plain laws. -/
import Derived.Deep.DrawnRows
import Derived.Carry
import Derived.BigQuiet
import Derived.Laws.IdiomArrays
import Derived.Maps.Own
import Derived.Maps.OwnOps
import Derived.RangeFuncNested
import Derived.RangeFuncBound
import Derived.RangeFuncCalls
import Derived.RangeFuncLeaves
import Derived.Great.Frames
import Derived.Test.YtimkmokomohgjaaGreatP01
namespace Go.Proofs.YtimkmokomohgjaaGreat
open Go.RowKit
open Sp (rd)
attribute [local go_sem ↓] Go.wp_at_zero Go.wp_at_succ
def pd (l : List Ec.Pair) (k : Nat) : Ec.Pair := l.getD k Ec.noPair
/-- A train in memory. -/
def Pairs (w : World) (A : Option Addr) (l : List Ec.Pair) : Prop :=
  0 < l.length → ∃ b o, A = some ⟨b, o, none⟩ ∧ ∀ k, k < l.length → w.cell? ⟨b, o + k * 2, none⟩ = some (.int .i64 (pd l k).drives) ∧ w.cell? ⟨b, o + k * 2 + 1, none⟩ = some (.int .i64 (pd l k).driven)
theorem Pairs.ext {w w' : World} {A : Option Addr} {l : List Ec.Pair} (h : Pairs w A l) (he : Ext w w') : Pairs w' A l := fun h0 =>
  let ⟨b, o, e, hc⟩ := h h0
  ⟨b, o, e, fun k hk => ⟨he.cell (hc k hk).1, he.cell (hc k hk).2⟩⟩
/-- Trains as defined, and what follows of them. -/
structure TrainOk (l : List Ec.Pair) : Prop where
  n1 : 1 ≤ l.length
  n3 : l.length ≤ 3
  all : ∀ k, k < l.length → (4 ≤ (pd l k).drives ∧ (pd l k).drives ≤ 60) ∧ (4 ≤ (pd l k).driven ∧ (pd l k).driven ≤ 60)
theorem trainOk_of {l : List Ec.Pair} (h : Ec.trainOk l = true) : TrainOk l := by
  simp only [Ec.trainOk, Bool.and_eq_true, inR_iff, List.all_eq_true] at h
  refine ⟨by omega, by omega, fun k hk => ?_⟩
  have := h.2 (pd l k) (by unfold pd; rw [List.getD_eq_getElem?_getD, List.getElem?_eq_getElem hk]; exact List.getElem_mem hk)
  simp only [Ec.pairOk, Ec.isTeeth, Bool.and_eq_true, inR_iff] at this
  exact this
theorem mul_bounds0 {a b A B : Int} (h1 : 0 ≤ a) (h2 : a ≤ A) (h3 : 0 ≤ b) (h4 : b ≤ B) : 0 ≤ a * b ∧ a * b ≤ A * B :=
  ⟨Int.mul_nonneg h1 h3, Int.mul_le_mul h2 h4 h3 (by omega)⟩
theorem prod_bounds (f : Ec.Pair → Int) : ∀ (l : List Ec.Pair) (k : Nat), l.length = k → k ≤ 3 → (∀ p ∈ l, 4 ≤ f p ∧ f p ≤ 60) → 1 ≤ l.foldl (fun n p => n * f p) 1 ∧ l.foldl (fun n p => n * f p) 1 ≤ 216000 := by
  intro l k hl hk h
  match l, hl with
  | [], _ => simp
  | [a], _ => have := h a (by simp); simp; omega
  | [a, b], _ =>
    have h1 := h a (by simp)
    have h2 := h b (by simp)
    have := mul_bounds (a := f a) (b := f b) (A := 60) (B := 60) (by omega) (by omega) (by omega) (by omega)
    have : 1 * 1 ≤ f a * f b := Int.mul_le_mul (by omega) (by omega) (by omega) (by omega)
    simp; omega
  | [a, b, c], _ =>
    have h1 := h a (by simp)
    have h2 := h b (by simp)
    have h3 := h c (by simp)
    have k1 : 1 * 1 ≤ f a * f b := Int.mul_le_mul (by omega) (by omega) (by omega) (by omega)
    have k2 : f a * f b ≤ 60 * 60 := Int.mul_le_mul (by omega) (by omega) (by omega) (by omega)
    have k3 : 1 * 1 ≤ f a * f b * f c := Int.mul_le_mul (by omega) (by omega) (by omega) (by omega)
    have k4 : f a * f b * f c ≤ 3600 * 60 := Int.mul_le_mul (by omega) (by omega) (by omega) (by omega)
    simp; omega
  | _ :: _ :: _ :: _ :: _, hl => simp at hl; omega
theorem TrainOk.mem {l : List Ec.Pair} (h : TrainOk l) : ∀ p ∈ l, (4 ≤ p.drives ∧ p.drives ≤ 60) ∧ (4 ≤ p.driven ∧ p.driven ≤ 60) := by
  intro p hp
  obtain ⟨k, hk, rfl⟩ := List.mem_iff_getElem.1 hp
  have := h.all k hk
  unfold pd at this
  rwa [List.getD_eq_getElem?_getD, List.getElem?_eq_getElem hk] at this
theorem TrainOk.prods {l : List Ec.Pair} (h : TrainOk l) : (1 ≤ Ec.drivesP l ∧ Ec.drivesP l ≤ 216000) ∧ (1 ≤ Ec.drivenP l ∧ Ec.drivenP l ≤ 216000) :=
  ⟨prod_bounds (·.drives) l _ rfl h.n3 fun p hp => (h.mem p hp).1, prod_bounds (·.driven) l _ rfl h.n3 fun p hp => (h.mem p hp).2⟩
theorem TrainOk.turns {l : List Ec.Pair} (h : TrainOk l) : (1 ≤ Ec.turnsN l ∧ Ec.turnsN l ≤ 216000) ∧ (1 ≤ Ec.turnsD l ∧ Ec.turnsD l ≤ 216000) := by
  obtain ⟨⟨a1, a2⟩, b1, b2⟩ := h.prods
  unfold Ec.turnsN Ec.turnsD Ec.turnsG
  have hg : 1 ≤ (Int.gcd (Ec.drivesP l) (Ec.drivenP l) : Int) := by
    have := Int.gcd_pos_of_ne_zero_left (a := Ec.drivesP l) (Ec.drivenP l) (by omega)
    omega
  have e1 := Int.ediv_mul_cancel (Int.gcd_dvd_left (a := Ec.drivesP l) (b := Ec.drivenP l))
  have e2 := Int.ediv_mul_cancel (Int.gcd_dvd_right (a := Ec.drivesP l) (b := Ec.drivenP l))
  have f1 := ediv_bounds (Ec.drivesP l) _ hg (by omega)
  have f2 := ediv_bounds (Ec.drivenP l) _ hg (by omega)
  refine ⟨⟨?_, by omega⟩, ?_, by omega⟩
  · rcases Int.lt_or_le 0 (Ec.drivesP l / (Int.gcd (Ec.drivesP l) (Ec.drivenP l) : Int)) with h | h
    · omega
    · rw [show Ec.drivesP l / (Int.gcd (Ec.drivesP l) (Ec.drivenP l) : Int) = 0 by omega] at e1; omega
  · rcases Int.lt_or_le 0 (Ec.drivenP l / (Int.gcd (Ec.drivesP l) (Ec.drivenP l) : Int)) with h | h
    · omega
    · rw [show Ec.drivenP l / (Int.gcd (Ec.drivesP l) (Ec.drivenP l) : Int) = 0 by omega] at e2; omega
theorem t_in_any (x lo hi : Int) (w : World) : Calls Tryz.prog 146 #[.int .i64 x, .int .i64 lo, .int .i64 hi] w fun e w' => e = .returned (.bool (Sp.inR x lo hi)) ∧ w = w' := by
  go_enter Tryz.func146, Tryz.ntmps146
  go_wp2
  · go_ret
    exact ⟨ret_bool (by simp [Sp.inR, *]), rfl⟩
  · go_ret
    exact ⟨ret_bool (by simp [Sp.inR, *]; omega), rfl⟩
theorem t_isTeeth_any (n : Int) (w : World) : Calls Tryz.prog 145 #[.int .i64 n] w fun e w' => e = .returned (.bool (Ec.isTeeth n)) ∧ w = w' := by
  go_enter Tryz.func145, Tryz.ntmps145
  go_wp2_with (go_at_call 146; refine (t_in_any _ _ _ _).mono ?_; rintro e w' ⟨rfl, rfl⟩)
  go_ret
  exact ⟨rfl, rfl⟩
theorem t_badPair_any (p : Ec.Pair) (w : World) : Calls Tryz.prog 176 #[.agg #[.int .i64 p.drives, .int .i64 p.driven]] w fun e w' => e = .returned (.bool (!Ec.pairOk p)) ∧ Ext w w' := by
  cases h1 : Ec.isTeeth p.drives
  all_goals
    go_enter Tryz.func176, Tryz.ntmps176
    go_wp2_with (go_at_call 145; refine (t_isTeeth_any _ _).mono ?_; rintro e w' ⟨rfl, rfl⟩)
    go_ret
    exact ⟨ret_bool (by simp [Ec.pairOk, h1]), (Ext.refl _).alloc _⟩
theorem t_index_pair (A : Option Addr) (c : Nat) (l : List Ec.Pair) (w : World) (hm : Pairs w A l) (hl : l.length ≤ 100000) :
    Calls Tryz.prog 202 #[.slice A l.length c, .func (.func 176) #[] #[]] w (FoundInt (l.any fun b => !Ec.pairOk b) w) := by
  have HM := Lib.hid hm
  clear hm
  go_enter Tryz.func202, Tryz.ntmps202
  go_wp2_with fail
  go_loopw [5, 8] (fun _ i wr => ∃ k : Nat, k ≤ l.length ∧ i = .int .i64 k ∧ (l.take k).any (fun b => !Ec.pairOk b) = false ∧ Ext w wr) (fun _ i _ => l.length - (intOf i).toNat)
  case atStart => exact ⟨0, Nat.zero_le _, rfl, rfl, Ext.refl _⟩
  case round =>
    obtain ⟨k, hk, rfl, hq, hE⟩ := hrel
    have HQ := Lib.hid hq
    clear hq
    by_cases hlt : k < l.length
    · obtain ⟨b, o, rfl, hc⟩ := (HM.out.ext hE) (by omega)
      obtain ⟨c0, c1⟩ := hc k hlt
      have HS := Lib.hid (any_take_succ l Ec.noPair (fun b => !Ec.pairOk b) k hlt)
      have HT := Lib.hid (any_of_take l Ec.noPair (fun b => !Ec.pairOk b) k hlt)
      clear hc
      cases hv : (!Ec.pairOk (pd l k))
      · go_wp2_with fail
        refine (t_badPair_any (pd l k) _).mono ?_
        rintro e w' ⟨rfl, hE'⟩
        replace hE := hE.trans hE'
        clear c0 c1
        go_wp2_with fail
        go_roundw
        case rel => exact ⟨k + 1, by omega, by go_num, by rw [HS.out, HQ.out]; exact hv, hE⟩
        case measure => simp [intOf]; omega
      · go_wp2_with fail
        refine (t_badPair_any (pd l k) _).mono ?_
        rintro e w' ⟨rfl, hE'⟩
        replace hE := hE.trans hE'
        clear c0 c1
        go_wp2_with fail
        go_ret
        exact ⟨_, rfl, by rw [HT.out hv]; simp, hE⟩
    · go_wp2_with fail
      go_ret
      have e : l.take k = l := List.take_of_length_le (by omega)
      have := HQ.out
      rw [e] at this
      exact ⟨_, rfl, by rw [this]; rfl, hE⟩
theorem t_contains_pair (A : Option Addr) (c : Nat) (l : List Ec.Pair) (w : World) (hm : Pairs w A l) (hl : l.length ≤ 100000) :
    Calls Tryz.prog 175 #[.slice A l.length c, .func (.func 176) #[] #[]] w fun e w' => e = .returned (.bool (l.any fun b => !Ec.pairOk b)) ∧ Ext w w' := by
  go_enter Tryz.func175, Tryz.ntmps175
  go_wp2_with fail
  refine (t_index_pair A c l w hm hl).mono ?_
  rintro e w1 ⟨r, rfl, hr, hE⟩
  have HR := Lib.hid hr
  clear hr
  go_wp2_with fail
  go_ret
  exact ⟨ret_bool HR.out, hE⟩
theorem t_isTrain_any (A : Option Addr) (c : Nat) (l : List Ec.Pair) (w : World) (hm : Pairs w A l) (hl : l.length ≤ 100000) :
    Calls Tryz.prog 125 #[.slice A l.length c] w fun e w' => e = .returned (.bool (Ec.trainOk l)) ∧ Ext w w' := by
  have HM := Lib.hid hm
  clear hm
  cases h1 : Sp.inR l.length 1 3
  · go_enter Tryz.func125, Tryz.ntmps125
    go_wp2_with fail
    refine (t_in_any _ _ _ _).mono ?_
    rintro e w1 ⟨rfl, rfl⟩
    go_wp2_with fail
    go_ret
    exact ⟨ret_bool (by simp [Ec.trainOk, h1]), Ext.refl _⟩
  · go_enter Tryz.func125, Tryz.ntmps125
    go_wp2_with fail
    refine (t_in_any _ _ _ _).mono ?_
    rintro e w1 ⟨rfl, rfl⟩
    go_wp2_with fail
    refine (t_contains_pair A c l _ HM.out hl).mono ?_
    rintro e w2 ⟨rfl, hE2⟩
    go_wp2_with fail
    go_ret
    exact ⟨ret_bool (by simp [Ec.trainOk, h1, List.not_any_eq_all_not]), hE2⟩
theorem t_gcd_any (a b : Int) (w : World) (h1 : 0 ≤ a) (h2 : a ≤ 1000000000000) (h3 : 0 ≤ b) (h4 : b ≤ 1000000000000) :
    Calls Tryz.prog 203 #[.int .i64 a, .int .i64 b] w fun e w' => e = .returned (.int .i64 (Int.gcd a b)) ∧ Ext w w' := by
  go_enter Tryz.func203, Tryz.ntmps203
  go_wp2_with fail
  go_loopw [0, 1] (fun x y wr => ∃ a' b' : Int, x = .int .i64 a' ∧ y = .int .i64 b' ∧ 0 ≤ a' ∧ a' ≤ 1000000000000 ∧ 0 ≤ b' ∧ b' ≤ 1000000000000 ∧ Int.gcd a' b' = Int.gcd a b ∧ Ext w wr) (fun _ y _ => (intOf y).toNat)
  case atStart => exact ⟨a, b, rfl, rfl, h1, h2, h3, h4, rfl, Ext.refl _⟩
  case round =>
    obtain ⟨a', b', rfl, rfl, k1, k2, k3, k4, hg, hE⟩ := hrel
    by_cases hb : 0 < b'
    · have hb0 : ¬ b' = 0 := by omega
      have ht : a'.tmod b' = a' % b' := Int.tmod_eq_emod_of_nonneg k1
      have hm1 := Int.emod_nonneg a' hb0
      have hm2 := Int.emod_lt_of_pos a' hb
      go_wp2_with fail
      go_quiet (fail)
      go_wp2
      go_roundw
      case rel => exact ⟨b', a' % b', rfl, rfl, by omega, by omega, by omega, by omega, (gcd_step k1 k3).trans hg, hE.drewN _⟩
      case measure => simp [intOf]; omega
    · obtain rfl : b' = 0 := by omega
      go_wp2_with fail
      go_ret
      refine ⟨?_, hE⟩
      rw [← hg]
      exact ret_int (gcd_end k1).symm
/-- The product of a list. -/
def prodL (l : List Int) : Int := l.foldl (fun n x => n * x) 1
theorem prodL_take (l : List Int) (k : Nat) (hk : k < l.length) : prodL (l.take (k + 1)) = prodL (l.take k) * rd l k := by
  rw [List.take_succ_eq_append_getElem hk, prodL, List.foldl_append]
  simp [prodL, rd, List.getD_eq_getElem?_getD, List.getElem?_eq_getElem hk]
theorem prodL_bound (l : List Int) (hl : l.length ≤ 3) (h : ∀ k, k < l.length → 4 ≤ rd l k ∧ rd l k ≤ 60) : ∀ k, k ≤ l.length → 1 ≤ prodL (l.take k) ∧ prodL (l.take k) ≤ 216000 ∧ (k < 3 → prodL (l.take k) ≤ 3600) ∧ (k < 2 → prodL (l.take k) ≤ 60) ∧ (k = 0 → prodL (l.take k) = 1) := by
  intro k hk
  induction k with
  | zero => simp [prodL]
  | succ k ih =>
    obtain ⟨h1, h2, h3, h4, h5⟩ := ih (by omega)
    have hb := h k (by omega)
    rw [prodL_take l k (by omega)]
    obtain ⟨p, hp⟩ : ∃ p, prodL (l.take k) = p := ⟨_, rfl⟩
    obtain ⟨q, hq⟩ : ∃ q, rd l k = q := ⟨_, rfl⟩
    rw [hp] at h1 h2 h3 h4 h5 ⊢
    rw [hq] at hb ⊢
    have a1 : 1 * 1 ≤ p * q := Int.mul_le_mul (by omega) (by omega) (by omega) (by omega)
    rcases (show k = 0 ∨ k = 1 ∨ k = 2 by omega) with rfl | rfl | rfl
    · obtain rfl := h5 rfl
      refine ⟨by omega, by omega, fun _ => by omega, fun _ => by omega, fun e => by omega⟩
    · have := h4 (by omega)
      have a2 : p * q ≤ 60 * 60 := Int.mul_le_mul (by omega) (by omega) (by omega) (by omega)
      refine ⟨by omega, by omega, fun _ => by omega, fun e => by omega, fun e => by omega⟩
    · have := h3 (by omega)
      have a2 : p * q ≤ 3600 * 60 := Int.mul_le_mul (by omega) (by omega) (by omega) (by omega)
      refine ⟨by omega, by omega, fun e => by omega, fun e => by omega, fun e => by omega⟩
theorem t_product_any (A : Option Addr) (c : Nat) (l : List Int) (w : World) (hm : Ints w A l) (hl : l.length ≤ 3) (h : ∀ k, k < l.length → 4 ≤ rd l k ∧ rd l k ≤ 60) :
    Calls Tryz.prog 148 #[.slice A l.length c] w fun e w' => e = .returned (.int .i64 (prodL l)) ∧ w = w' := by
  have HM := Lib.hid hm
  have HB := Lib.hid (prodL_bound l hl h)
  have HH := Lib.hid h
  clear hm h
  go_enter Tryz.func148, Tryz.ntmps148
  go_wp2_with fail
  go_loop [3, 5, 8] (fun p _ i => ∃ k : Nat, k ≤ l.length ∧ i = .int .i64 k ∧ p = .int .i64 (prodL (l.take k))) (fun _ _ i => l.length - (intOf i).toNat)
  case atStart => exact ⟨0, Nat.zero_le _, rfl, rfl⟩
  case round =>
    obtain ⟨k, hk, rfl, rfl⟩ := hrel
    by_cases hlt : k < l.length
    · obtain ⟨b, o, rfl, hc⟩ := HM.out (by omega)
      have ck := hc k hlt
      have h1 := HB.out k hk
      have h2 := HB.out (k + 1) hlt
      have h3 := HH.out k hlt
      have HT := Lib.hid (prodL_take l k hlt)
      rw [HT.out] at h2
      obtain ⟨h21, h22, _⟩ := h2
      obtain ⟨h11, h12, _⟩ := h1
      clear hc
      go_wp2_with fail
      go_round
      case rel => exact ⟨k + 1, by omega, by go_num, by rw [HT.out]⟩
      case measure => simp [intOf]; omega
    · obtain rfl : k = l.length := by omega
      go_wp2_with fail
      go_ret
      exact ⟨rfl, rfl⟩
theorem t_reduced_any (a b : Int) (w : World) (h1 : 1 ≤ a) (h2 : a ≤ 1000000) (h3 : 1 ≤ b) (h4 : b ≤ 1000000) :
    Calls Tryz.prog 177 #[.int .i64 a, .int .i64 b] w fun e w' => e = .returned (.agg #[.int .i64 (a / Int.gcd a b), .int .i64 (b / Int.gcd a b)]) ∧ Ext w w' := by
  have hg : 1 ≤ (Int.gcd a b : Int) := by
    have := Int.gcd_pos_of_ne_zero_left (a := a) b (by omega)
    omega
  have hg2 : (Int.gcd a b : Int) ≤ a := by
    have h0 := Int.gcd_dvd_left (a := a) (b := b)
    exact Int.le_of_dvd (by omega) h0
  obtain ⟨g, hG⟩ : ∃ g : Int, (Int.gcd a b : Int) = g := ⟨_, rfl⟩
  have HG := Lib.hid hG
  rw [hG] at hg hg2
  have hq1 : a.tdiv g = a / g := Int.tdiv_eq_ediv_of_nonneg (by omega)
  have hq2 : b.tdiv g = b / g := Int.tdiv_eq_ediv_of_nonneg (by omega)
  have hg0 : ¬ g = 0 := by omega
  have q1 := ediv_bounds a g hg (by omega)
  have q2 := ediv_bounds b g hg (by omega)
  clear hG
  go_enter Tryz.func177, Tryz.ntmps177
  go_wp2_with fail
  refine (t_gcd_any a b _ (by omega) (by omega) (by omega) (by omega)).mono ?_
  rintro e w1 ⟨rfl, hE1⟩
  have hr := ((Row.new w 69 _).ext hE1)
  have hE := ((Ext.refl w).alloc _).trans hE1
  have b0 := hr.cell
  have f0 := hr.free
  clear hE1
  rw [HG.out]
  go_wp2_with fail
  go_region
  go_wp2
  rw [HG.out]
  have r2 := (hr.set_ 0 (.int .i64 (a / g))).set_ 1 (.int .i64 (b / g))
  have c2 := r2.drew.cell
  exact bodyPost_ret (v := .agg #[.int .i64 (a / g), .int .i64 (b / g)]) (by simp [results, Tryz.results177, go_sem, b0]) rfl ⟨rfl, ((hE.setCell (p := ⟨w.heap.size, 0, none⟩) (Nat.le_refl _) _).setCell (p := ⟨w.heap.size, 1, none⟩) (Nat.le_refl _) _).drew⟩
/-- Two lists of a train's teeth, each in a row of its own. -/
structure Two (B : Nat) (w : World) (v1 v2 : Value) (l : List Ec.Pair) : Prop where
  one : w.ownsRow B 3 1 v1 l.length (l.map fun p => .int .i64 p.drives)
  two : w.ownsRow B 3 1 v2 l.length (l.map fun p => .int .i64 p.driven)
  ne : ∀ g, v1.ownBlock = some g → v2.ownBlock ≠ some g
theorem own_ext {w w' : World} {base : Nat} {e : TypeId} {size : Nat} {v : Value} {n : Nat} {xs : List Value} (h : w.ownsRow base e size v n xs) (he : Ext w w') : w'.ownsRow base e size v n xs :=
  ownsRow_of_block h fun k hk => he.block k (h.lt k hk).2
theorem Two.own2 {B : Nat} {wr Wp w1 : World} {v1 v2 : Value} {l : List Ec.Pair} (hT : Two B wr v1 v2 l) (e0 : Ext wr Wp) (hg : Wp.grownBy w1 v1.ownBlock) : w1.ownsRow B 3 1 v2 l.length (l.map fun p => .int .i64 p.driven) :=
  ownsRow_of_block (own_ext hT.two e0) fun q hq => hg.block q ((own_ext hT.two e0).lt q hq).2 (fun e => hT.ne q e.symm hq)
theorem Two.step {B : Nat} {W0 wr Wp w1 Wq w2 : World} {v1 v2 : Value} {l : List Ec.Pair} {x y : Int} {g1 cap1 g2 cap2 : Nat} (hT : Two B wr v1 v2 l) (e0 : Ext wr Wp) (hg1 : Wp.grownBy w1 v1.ownBlock)
    (ho1 : w1.ownsRow B 3 1 (.slice (some ⟨g1, 0, none⟩) (l.length + 1) cap1) (l.length + 1) ((l.map fun p => .int .i64 p.drives) ++ [.int .i64 x])) (ha1 : v1.ownBlock = some g1 ∨ g1 = Wp.heap.size) (hl1 : g1 < w1.heap.size)
    (e1 : Ext w1 Wq) (hg2 : Wq.grownBy w2 v2.ownBlock) (ho2 : w2.ownsRow B 3 1 (.slice (some ⟨g2, 0, none⟩) (l.length + 1) cap2) (l.length + 1) ((l.map fun p => .int .i64 p.driven) ++ [.int .i64 y]))
    (ha2 : v2.ownBlock = some g2 ∨ g2 = Wq.heap.size) (hE : Ext W0 wr) (hB : W0.heap.size ≤ B) :
    Two B w2 (.slice (some ⟨g1, 0, none⟩) (l.length + 1) cap1) (.slice (some ⟨g2, 0, none⟩) (l.length + 1) cap2) (l ++ [⟨x, y⟩]) ∧ Ext W0 w2 := by
  have s0 := e0.size
  have s1 := e1.size
  have s2 := hg1.size
  have hne : v2.ownBlock ≠ some g1 := by
    intro e
    rcases ha1 with h | h
    · exact hT.ne g1 h e
    · have := (hT.two.lt g1 e).2
      omega
  refine ⟨⟨?_, ?_, ?_⟩, ?_⟩
  · have := (own_ext ho1 e1).kept hg2 (.inr (by simpa [Value.ownBlock] using Ne.symm hne))
    simpa using this
  · simpa using ho2
  · intro g hg
    simp only [Value.ownBlock, Option.some.injEq] at hg
    subst hg
    simp only [Value.ownBlock, ne_eq, Option.some.injEq]
    rintro rfl
    rcases ha2 with h | h
    · exact hne h
    · omega
  · have h1 := (hE.trans e0).grown hg1 (fun k e => Nat.le_trans hB (hT.one.lt k e).1)
    exact (h1.trans e1).grown hg2 (fun k e => Nat.le_trans hB (hT.two.lt k e).1)
theorem info_int : (Tryz.prog.info? 3).map (fun i => (i.zero, i.size, i.bytes)) = some (some (.int .i64 0), 1, 8) := by kernel_rfl
end Go.Proofs.YtimkmokomohgjaaGreat
namespace Go.Proofs.YtimkmokomohgjaaGreat
open Go.RowKit
open Sp (rd)
theorem t_isFraction_any (num den : Int) (w : World) : Calls Tryz.prog 90 #[.agg #[.int .i64 num, .int .i64 den]] w fun e w' => e = .returned (.bool (Sp.inR num 0 50000 && Sp.inR den 1 50000)) ∧ Ext w w' := by
  cases hd : Sp.inR num 0 50000
  all_goals
    go_enter Tryz.func90, Tryz.ntmps90
    go_wp2_with (go_at_call 146; refine (t_in_any _ _ _ _).mono ?_; rintro e w' ⟨rfl, rfl⟩)
    go_ret
    exact ⟨ret_bool (by simp), (Ext.refl _).alloc _⟩
end Go.Proofs.YtimkmokomohgjaaGreat
namespace Go.Proofs.YtimkmokomohgjaaGreat
open Go.RowKit
open Sp (rd)
set_option maxRecDepth 100000
set_option maxHeartbeats 4000000
set_option linter.unusedVariables false
theorem t_badTooth_any (n : Int) (w : World) : Calls Tryz.prog 147 #[.int .i64 n] w fun e w' => e = .returned (.bool (!Ec.isTeeth n)) ∧ w = w' := by
  go_enter Tryz.func147, Tryz.ntmps147
  go_wp2_with fail
  refine (t_isTeeth_any _ _).mono ?_
  rintro e w' ⟨rfl, rfl⟩
  go_wp2_with fail
  go_ret
  exact ⟨rfl, rfl⟩
theorem t_index_teeth (A : Option Addr) (c : Nat) (l : List Int) (w : World) (hm : Ints w A l) (hl : l.length ≤ 100000) :
    Calls Tryz.prog 163 #[.slice A l.length c, .func (.func 147) #[] #[]] w (FoundInt (l.any fun n => !Ec.isTeeth n) w) := by
  go_enter Tryz.func163, Tryz.ntmps163
  go_wp2_with fail
  go_loop [5, 8] (fun _ i => ∃ k : Nat, k ≤ l.length ∧ i = .int .i64 k ∧ (l.take k).any (fun n => !Ec.isTeeth n) = false) (fun _ i => l.length - (intOf i).toNat)
  case atStart => exact ⟨0, Nat.zero_le _, rfl, rfl⟩
  case round =>
    obtain ⟨k, hk, rfl, hq⟩ := hrel
    have HQ := Lib.hid hq
    clear hq
    by_cases hlt : k < l.length
    · obtain ⟨b, o, rfl, hc⟩ := hm (by omega)
      have ck := hc k hlt
      have HS := Lib.hid (any_take_succ l 0 (fun n => !Ec.isTeeth n) k hlt)
      have HT := Lib.hid (any_of_take l 0 (fun n => !Ec.isTeeth n) k hlt)
      clear hc
      cases hv : (!Ec.isTeeth (rd l k))
      · go_wp2_with fail
        refine (t_badTooth_any _ _).mono ?_
        rintro e w' ⟨rfl, rfl⟩
        go_wp2_with fail
        go_round
        case rel => exact ⟨k + 1, by omega, by go_num, by rw [HS.out, HQ.out]; exact hv⟩
        case measure => simp [intOf]; omega
      · go_wp2_with fail
        refine (t_badTooth_any _ _).mono ?_
        rintro e w' ⟨rfl, rfl⟩
        go_wp2_with fail
        go_ret
        exact ⟨_, rfl, by rw [HT.out hv]; simp, Ext.refl _⟩
    · go_wp2_with fail
      go_ret
      have e : l.take k = l := List.take_of_length_le (by omega)
      have := HQ.out
      rw [e] at this
      exact ⟨_, rfl, by rw [this]; rfl, Ext.refl _⟩
theorem t_contains_teeth (A : Option Addr) (c : Nat) (l : List Int) (w : World) (hm : Ints w A l) (hl : l.length ≤ 100000) :
    Calls Tryz.prog 100 #[.slice A l.length c, .func (.func 147) #[] #[]] w fun e w' => e = .returned (.bool (l.any fun n => !Ec.isTeeth n)) ∧ Ext w w' := by
  go_enter Tryz.func100, Tryz.ntmps100
  go_wp2_with fail
  refine (t_index_teeth A c l w hm hl).mono ?_
  rintro e w1 ⟨r, rfl, hr, hE⟩
  have HR := Lib.hid hr
  clear hr
  go_wp2_with fail
  go_ret
  exact ⟨ret_bool HR.out, hE⟩
theorem s_index_any (A : Option Addr) (c : Nat) (l : List Int) (x : Int) (w : World) (hm : Ints w A l) (hl : l.length ≤ 100000) :
    Calls Tryz.prog 189 #[.slice A l.length c, .int .i64 x] w (FoundInt (l.any fun n => x == n) w) := by
  go_enter Tryz.func189, Tryz.ntmps189
  go_wp2_with fail
  go_loop [8] (fun i => ∃ k : Nat, k ≤ l.length ∧ i = .int .i64 k ∧ (l.take k).any (fun n => x == n) = false) (fun i => l.length - (intOf i).toNat)
  case atStart => exact ⟨0, Nat.zero_le _, rfl, rfl⟩
  case round =>
    obtain ⟨k, hk, rfl, hq⟩ := hrel
    have HQ := Lib.hid hq
    clear hq
    by_cases hlt : k < l.length
    · obtain ⟨b, o, rfl, hc⟩ := hm (by omega)
      have ck := hc k hlt
      have HS := Lib.hid (any_take_succ l 0 (fun n => x == n) k hlt)
      have HT := Lib.hid (any_of_take l 0 (fun n => x == n) k hlt)
      have hz2 : l.getD k 0 = rd l k := rfl
      rw [hz2] at HS HT
      obtain ⟨z, hz⟩ : ∃ z, rd l k = z := ⟨_, rfl⟩
      rw [hz] at ck HS HT
      clear hc hz hz2
      cases hv : (x == z)
      · go_wp2_with fail
        go_round
        case rel => exact ⟨k + 1, by omega, by go_num, by rw [HS.out, HQ.out, hv] <;> rfl⟩
        case measure => simp [intOf]; omega
      · go_wp2_with fail
        go_ret
        exact ⟨_, rfl, by rw [HT.out hv]; simp, Ext.refl _⟩
    · go_wp2_with fail
      go_ret
      have e : l.take k = l := List.take_of_length_le (by omega)
      have := HQ.out
      rw [e] at this
      exact ⟨_, rfl, by rw [this]; rfl, Ext.refl _⟩
theorem s_contains_any (A : Option Addr) (c : Nat) (l : List Int) (x : Int) (w : World) (hm : Ints w A l) (hl : l.length ≤ 100000) :
    Calls Tryz.prog 151 #[.slice A l.length c, .int .i64 x] w fun e w' => e = .returned (.bool (l.any fun n => x == n)) ∧ Ext w w' := by
  go_enter Tryz.func151, Tryz.ntmps151
  go_wp2_with fail
  refine (s_index_any A c l x w hm hl).mono ?_
  rintro e w1 ⟨r, rfl, hr, hE⟩
  have HR := Lib.hid hr
  clear hr
  go_wp2_with fail
  go_ret
  exact ⟨ret_bool HR.out, hE⟩
theorem t_isRule_yes (a b p s : Int) (A : Option Addr) (c : Nat) (l : List Int) (w : World) (hm : Ints w A l) (h1 : Ec.isTeeth a = true) (h2 : Ec.isTeeth b = true) (h3 : a ≤ b) (h4 : Sp.inR p 1 3 = true) (h5 : Sp.inR (s - 1) 0 2 = true) (h6 : l.length ≤ 6) (h7 : (l.any fun n => !Ec.isTeeth n) = false) :
    Calls Tryz.prog 89 #[.agg #[.int .i64 a, .int .i64 b, .int .i64 p, .int .i64 s, .slice A l.length c]] w fun e w' => e = .returned (.bool true) ∧ Ext w w' := by
  have HR0 := Lib.hid (Row.new w 101 #[.int .i64 a, .int .i64 b, .int .i64 p, .int .i64 s, .slice A l.length c])
  have HE0 := Lib.hid ((Ext.refl w).alloc (.cells #[.int .i64 a, .int .i64 b, .int .i64 p, .int .i64 s, .slice A l.length c] 101))
  have HM := Lib.hid (hm.ext HE0.out)
  have hs := inR_iff.1 h5
  have h6' : (l.length : Int) ≤ 6 := by omega
  have a0 := HR0.out.cell
  clear hm
  go_enter Tryz.func89, Tryz.ntmps89
  go_wp2_with fail
  refine (t_isTeeth_any _ _).mono ?_
  rintro e w' ⟨rfl, rfl⟩
  rw [h1]
  go_wp2_with fail
  refine (t_isTeeth_any _ _).mono ?_
  rintro e w' ⟨rfl, rfl⟩
  rw [h2]
  go_wp2_with fail
  refine (t_in_any _ _ _ _).mono ?_
  rintro e w' ⟨rfl, rfl⟩
  rw [h4]
  go_wp2_with fail
  refine (t_in_any _ _ _ _).mono ?_
  rintro e w' ⟨rfl, rfl⟩
  rw [h5]
  go_wp2_with fail
  refine (t_contains_teeth A c l _ HM.out (by omega)).mono ?_
  rintro e w1 ⟨rfl, hE⟩
  rw [h7]
  have HE := Lib.hid (HE0.out.trans hE)
  clear hE a0
  go_wp2_with fail
  go_ret
  exact ⟨rfl, HE.out⟩
end Go.Proofs.YtimkmokomohgjaaGreat
namespace Go.Proofs.YtimkmokomohgjaaGreat
open Go.RowKit
open Sp (rd)
set_option maxRecDepth 100000
set_option maxHeartbeats 4000000
set_option linter.unusedVariables false
theorem sh_in_any (x lo hi : Int) (w : World) : Calls Tryz.prog 70 #[.int .i64 x, .int .i64 lo, .int .i64 hi] w fun e w' => e = .returned (.bool (Sp.inR x lo hi)) ∧ w = w' := by
  go_enter Tryz.func70, Tryz.ntmps70
  go_wp2
  · go_ret
    exact ⟨ret_bool (by simp [Sp.inR, *]), rfl⟩
  · go_ret
    exact ⟨ret_bool (by simp [Sp.inR, *]; omega), rfl⟩
theorem sh_isTeeth_any (n : Int) (w : World) : Calls Tryz.prog 174 #[.int .i64 n] w fun e w' => e = .returned (.bool (Ec.isTeeth n)) ∧ w = w' := by
  go_enter Tryz.func174, Tryz.ntmps174
  go_wp2_with (go_at_call 70; refine (sh_in_any _ _ _ _).mono ?_; rintro e w' ⟨rfl, rfl⟩)
  go_ret
  exact ⟨rfl, rfl⟩
theorem sh_isPair_any (x y : Int) (w : World) : Calls Tryz.prog 122 #[.agg #[.int .i64 x, .int .i64 y]] w fun e w' => e = .returned (.bool (Ec.isTeeth x && Ec.isTeeth y)) ∧ Ext w w' := by
  have HX := Lib.hid (fun W => sh_isTeeth_any x W)
  have HY := Lib.hid (fun W => sh_isTeeth_any y W)
  obtain ⟨p, hp⟩ : ∃ p, Ec.isTeeth x = p := ⟨_, rfl⟩
  obtain ⟨q, hq⟩ : ∃ p, Ec.isTeeth y = p := ⟨_, rfl⟩
  rw [hp] at HX ⊢
  rw [hq] at HY ⊢
  clear hp hq
  have hr := Row.new w 125 #[.int .i64 x, .int .i64 y]
  have HE : Hid (Ext w (w.alloc (.cells #[.int .i64 x, .int .i64 y] 125))) := Lib.hid ((Ext.refl w).alloc _)
  have a0 := hr.cell
  clear hr
  go_enter Tryz.func122, Tryz.ntmps122
  go_wp2_with fail
  refine (HX.out _).mono ?_
  rintro e w1 ⟨rfl, rfl⟩
  dsimp only
  cases p
  · go_wp2_with fail
    go_ret
    exact ⟨rfl, HE.out⟩
  · go_wp2_with fail
    refine (HY.out _).mono ?_
    rintro e w1 ⟨rfl, rfl⟩
    dsimp only
    go_wp2_with fail
    go_ret
    exact ⟨by simp, HE.out⟩
theorem l9_pair_any (x y : Int) (w : World) : Calls Tryz.prog 94 #[.int .i64 x, .int .i64 y] w fun e w' => e = .returned (.agg #[.int .i64 x, .int .i64 y]) ∧ Ext w w' := by
  go_enter Tryz.func94, Tryz.ntmps94
  go_wp2_with fail
  have b0 := (Row.new w 125 #[.int .i64 x, .int .i64 y]).cell
  exact bodyPost_ret (v := .agg #[.int .i64 x, .int .i64 y]) (by simp [results, Tryz.results94, go_sem, b0]) rfl ⟨rfl, (Ext.refl w).alloc _⟩
/-- A piece's links in memory: the arbor that drives, and the pair. -/
def Tp.Links (w : World) (A : Option Addr) (l : List (Int × Ec.Pair)) : Prop :=
  0 < l.length → ∃ b o, A = some ⟨b, o, none⟩ ∧ ∀ k, k < l.length → w.cell? ⟨b, o + k * 3, none⟩ = some (.int .i64 (l.getD k (0, Ec.noPair)).1) ∧ w.cell? ⟨b, o + k * 3 + 1, none⟩ = some (.int .i64 (l.getD k (0, Ec.noPair)).2.drives) ∧ w.cell? ⟨b, o + k * 3 + 2, none⟩ = some (.int .i64 (l.getD k (0, Ec.noPair)).2.driven)
theorem Tp.Links.ext {w w' : World} {A : Option Addr} {l : List (Int × Ec.Pair)} (h : Tp.Links w A l) (he : Ext w w') : Tp.Links w' A l := fun h0 =>
  let ⟨b, o, e, hc⟩ := h h0
  ⟨b, o, e, fun k hk => ⟨he.cell (hc k hk).1, he.cell (hc k hk).2.1, he.cell (hc k hk).2.2⟩⟩
theorem l9_P_any (w : World) : Calls Tryz.prog 37 #[] w fun e w' => ∃ A B, e = .returned (.agg #[.slice A 3 3, .slice B 2 2]) ∧ Tp.Links w' A [(0, ⟨10, 20⟩), (1, ⟨12, 18⟩), (1, ⟨15, 10⟩)] ∧ Ints w' B [2, 3] ∧ Ext w w' := by
  have HR0 := Lib.hid (Row.new w 50 #[.slice none 0 0, .slice none 0 0])
  go_enter Tryz.func37, Tryz.ntmps37
  go_wp2_with fail
  refine (l9_pair_any _ _ _).mono ?_
  rintro e w1 ⟨rfl, hE1⟩
  have HR1 := Lib.hid (HR0.out.ext hE1)
  have HE1 := Lib.hid (((Ext.refl w).alloc _).trans hE1)
  clear hE1
  go_wp2_with fail
  refine (l9_pair_any _ _ _).mono ?_
  rintro e w2 ⟨rfl, hE2⟩
  have HR2 := Lib.hid (HR1.out.ext hE2)
  have HE2 := Lib.hid (HE1.out.trans hE2)
  clear hE2
  go_wp2_with fail
  refine (l9_pair_any _ _ _).mono ?_
  rintro e w3 ⟨rfl, hE3⟩
  have HR3 := Lib.hid (HR2.out.ext hE3)
  have HE3 := Lib.hid (HE2.out.trans hE3)
  clear hE3
  have b0 := HR3.out.cell
  have f0 := HR3.out.free
  have j0 := lts HR3.out.lt
  go_wp2_with fail
  have r0 := (((HR3.out.set_ 0 (.slice (some ⟨w3.heap.size, 0, none⟩) 3 3)).set_ 1 (.slice (some ⟨w3.heap.size + 1, 0, none⟩) 2 2)).alloc (.cells #[.int .i64 0, .int .i64 10, .int .i64 20, .int .i64 1, .int .i64 12, .int .i64 18, .int .i64 1, .int .i64 15, .int .i64 10] 127)).alloc (.cells #[.int .i64 2, .int .i64 3] 3)
  have r1 := (Row.new ((w3.setCell ⟨w.heap.size, 0, none⟩ (.slice (some ⟨w3.heap.size, 0, none⟩) 3 3)).setCell ⟨w.heap.size, 1, none⟩ (.slice (some ⟨w3.heap.size + 1, 0, none⟩) 2 2)) 127 #[.int .i64 0, .int .i64 10, .int .i64 20, .int .i64 1, .int .i64 12, .int .i64 18, .int .i64 1, .int .i64 15, .int .i64 10]).alloc (.cells #[.int .i64 2, .int .i64 3] 3)
  have r2 := Row.new (((w3.setCell ⟨w.heap.size, 0, none⟩ (.slice (some ⟨w3.heap.size, 0, none⟩) 3 3)).setCell ⟨w.heap.size, 1, none⟩ (.slice (some ⟨w3.heap.size + 1, 0, none⟩) 2 2)).alloc (.cells #[.int .i64 0, .int .i64 10, .int .i64 20, .int .i64 1, .int .i64 12, .int .i64 18, .int .i64 1, .int .i64 15, .int .i64 10] 127)) 3 #[.int .i64 2, .int .i64 3]
  have hE := ((((HE3.out.setCell (p := ⟨w.heap.size, 0, none⟩) (Nat.le_refl _) (.slice (some ⟨w3.heap.size, 0, none⟩) 3 3)).setCell (p := ⟨w.heap.size, 1, none⟩) (Nat.le_refl _) (.slice (some ⟨w3.heap.size + 1, 0, none⟩) 2 2)).alloc (.cells #[.int .i64 0, .int .i64 10, .int .i64 20, .int .i64 1, .int .i64 12, .int .i64 18, .int .i64 1, .int .i64 15, .int .i64 10] 127)).alloc (.cells #[.int .i64 2, .int .i64 3] 3))
  simp only [World.size_alloc, World.size_setCell] at r1 r2
  have c0 := r0.cell
  refine bodyPost_ret (v := .agg #[.slice (some ⟨w3.heap.size, 0, none⟩) 3 3, .slice (some ⟨w3.heap.size + 1, 0, none⟩) 2 2]) (by simp [results, Tryz.results37, go_sem, c0]) rfl ⟨_, _, rfl, ?_, ?_, hE⟩
  · exact fun _ => ⟨_, 0, rfl, fun k hk => by
      have hk3 : k < 3 := hk
      rcases (show k = 0 ∨ k = 1 ∨ k = 2 by omega) with rfl | rfl | rfl
      · exact ⟨(r1.cell 0).trans rfl, (r1.cell 1).trans rfl, (r1.cell 2).trans rfl⟩
      · exact ⟨(r1.cell 3).trans rfl, (r1.cell 4).trans rfl, (r1.cell 5).trans rfl⟩
      · exact ⟨(r1.cell 6).trans rfl, (r1.cell 7).trans rfl, (r1.cell 8).trans rfl⟩⟩
  · exact fun _ => ⟨_, 0, rfl, fun k hk => by
      have hk2 : k < 2 := hk
      rcases (show k = 0 ∨ k = 1 by omega) with rfl | rfl
      · exact (r2.cell 0).trans rfl
      · exact (r2.cell 1).trans rfl⟩
end Go.Proofs.YtimkmokomohgjaaGreat
namespace Go.Proofs.YtimkmokomohgjaaGreat
open Go.ChangeShapes Go.WideShapes Go.ChangeAt Go.RowKit
open Sp (rd)
set_option maxRecDepth 100000
set_option linter.constructorNameAsVariable false
set_option linter.unusedVariables false
section
variable {H : Type} {enc : TypeId × Value → H} {W : World} {spare : Nat → Bool} {held : Bool} {fuel : Nat} {cs : List Value} {x : DataW H × List MemPlace}
theorem open_road (h : DataW.trod enc Tryz.prog W 0 spare held fuel 48 cs = some x) : ∃ A l c, cs = [.slice A l.length c] ∧ Ints W A l ∧ l.length ≤ maxLen := by
  rcases open_ints Tryz.underlying48 Tryz.underlying3 (by kernel_rfl) h with ⟨rfl, _⟩ | ⟨a, len, cap, zs, rfl, _, hlc, hcm, hzl, _, hc, _⟩
  · exact ⟨none, [], 0, rfl, fun h0 => by simp at h0, Nat.zero_le _⟩
  · have hle : len ≤ zs.length := by rw [hzl]; split <;> omega
    have hlen : (zs.take len).length = len := by rw [List.length_take]; omega
    refine ⟨some a, zs.take len, cap, by rw [hlen], fun h0 => ?_, by omega⟩
    rw [hlen] at h0
    obtain ⟨b, off, rfl, hc2⟩ := ints_at hc (by omega)
    refine ⟨b, off, rfl, fun k hk => ?_⟩
    rw [hlen] at hk
    rw [hc2 k (by omega)]
    unfold Sp.rd
    rw [List.getD_eq_getElem?_getD, List.getD_eq_getElem?_getD, List.getElem?_take_of_lt hk]
theorem c64 : Tryz.prog.cellsOf 48 = 1 := by kernel_rfl
theorem cTP : Tryz.prog.cellsOf 125 = 2 := by kernel_rfl
theorem cLink : Tryz.prog.cellsOf 127 = 3 := by kernel_rfl
theorem cLinks : Tryz.prog.cellsOf 47 = 1 := by kernel_rfl
theorem cPiece : Tryz.prog.cellsOf 50 = 2 := by kernel_rfl
theorem open_tpair (h : DataW.trod enc Tryz.prog W 0 spare held fuel 125 cs = some x) : ∃ q : Ec.Pair, cs = [.int .i64 q.drives, .int .i64 q.driven] := by
  obtain ⟨xs, m, rfl, rfl, hcs, hxs, each⟩ := DataW.trod_struct Tryz.underlying125 h
  obtain ⟨a, b, rfl⟩ := list_two (hcs.trans cTP)
  have hx2 : xs.length = 2 := hxs
  obtain ⟨y, hy⟩ := get_some (each 0 _ rfl) (by omega)
  obtain ⟨z, hz⟩ := get_some (each 1 _ rfl) (by omega)
  simp [c3] at hy hz
  obtain ⟨n, hn, _, _⟩ := DataW.trod_int Tryz.underlying3 hy
  obtain ⟨d, hd, _, _⟩ := DataW.trod_int Tryz.underlying3 hz
  simp at hn hd
  exact ⟨⟨n, d⟩, by rw [hn, hd]⟩
theorem open_link (h : DataW.trod enc Tryz.prog W 0 spare held fuel 127 cs = some x) : ∃ q : Int × Ec.Pair, cs = [.int .i64 q.1, .int .i64 q.2.drives, .int .i64 q.2.driven] := by
  obtain ⟨xs, m, rfl, rfl, hcs, hxs, each⟩ := DataW.trod_struct Tryz.underlying127 h
  obtain ⟨a, b, c, rfl⟩ := list_three (hcs.trans cLink)
  have hx2 : xs.length = 2 := hxs
  obtain ⟨y, hy⟩ := get_some (each 0 _ rfl) (by omega)
  obtain ⟨z, hz⟩ := get_some (each 1 _ rfl) (by omega)
  simp [c3, cTP] at hy hz
  obtain ⟨n, hn, _, _⟩ := DataW.trod_int Tryz.underlying3 hy
  obtain ⟨q, hq⟩ := open_tpair hz
  simp at hn hq
  exact ⟨(n, q), by rw [hn, hq.1, hq.2]⟩
theorem open_links (h : DataW.trod enc Tryz.prog W 0 spare held fuel 47 cs = some x) : ∃ A l c, cs = [.slice A l.length c] ∧ Tp.Links W A l ∧ l.length ≤ c := by
  rcases DataW.trod_slice Tryz.underlying47 h with ⟨rfl, _⟩ | ⟨a, len, cap, elems, rest, n, rfl, rfl, rfl, _, hlc, hcm, hel, each, _, _⟩
  · exact ⟨none, [], 0, rfl, fun h0 => by simp at h0, Nat.zero_le _⟩
  · have one : ∀ i, i < len → ∃ B : Int × Ec.Pair, W.cells? 0 (a.add (i * 3)) 3 = some [.int .i64 B.1, .int .i64 B.2.drives, .int .i64 B.2.driven] := by
      intro i hi
      have e := each i hi
      rw [cLink] at e
      obtain ⟨y, hy⟩ := get_some e (by omega)
      rw [Option.bind_eq_some_iff] at hy
      obtain ⟨cs', h1, h2⟩ := hy
      obtain ⟨B, rfl⟩ := open_link h2
      exact ⟨B, h1⟩
    haveI : Inhabited (Int × Ec.Pair) := ⟨(0, Ec.noPair)⟩
    obtain ⟨f, hf⟩ := Go.Deep.choose_lt one
    have hll : ((List.range len).map f).length = len := by simp
    have hbd : ∀ k, k < len → ((List.range len).map f).getD k (0, Ec.noPair) = f k := fun k hk => by
      rw [List.getD_eq_getElem?_getD, List.getElem?_map, List.getElem?_range hk]
      rfl
    refine ⟨some a, (List.range len).map f, cap, by rw [hll], fun h0 => ?_, by rw [hll]; exact hlc⟩
    rw [hll] at h0
    have hc0 := hf 0 h0
    have hsp := (World.cells?_some hc0).2.2 0 (by omega)
    obtain ⟨b, off, spot⟩ := a
    have hspot : spot = none := by
      have : W.cell? ⟨b, off, spot⟩ = some (.int .i64 (f 0).1) := by simpa [Addr.add] using hsp
      simpa using World.cell?_spot this
    subst hspot
    refine ⟨b, off, rfl, fun k hk => ?_⟩
    rw [hll] at hk
    rw [hbd k hk]
    have g := (World.cells?_some (hf k hk)).2.2
    have g0 := g 0 (by omega)
    have g1 := g 1 (by omega)
    have g2 := g 2 (by omega)
    simp only [add_plain, Nat.add_zero] at g0 g1 g2
    exact ⟨g0, g1, g2⟩
theorem open_pieceV {v : Value} {d : DataW H} {ps : List MemPlace} {r : Reach} {base : Nat} (hval : Value.okWide Tryz.prog W r base 50 v) (h : DataW.Trod enc Tryz.prog W 0 spare held 50 v d ps) :
    ∃ (A : Option Addr) (c : Nat) (Bb : Option Addr) (cb : Nat) (links : List (Int × Ec.Pair)) (hands : List Int), v = .agg #[.slice A links.length c, .slice Bb hands.length cb] ∧ Tp.Links W A links ∧ links.length ≤ c ∧ Ints W Bb hands := by
  obtain ⟨cells, rfl, hsz⟩ := okWide_struct Tryz.underlying50 hval
  obtain ⟨fuel, hd⟩ := h
  obtain ⟨xs, m, rfl, _, hcs, hxs, each⟩ := DataW.trod_struct Tryz.underlying50 hd
  obtain ⟨a, b, hab⟩ := list_two (hcs.trans cPiece)
  have hx2 : xs.length = 2 := hxs
  rw [hab] at each
  obtain ⟨y, hy⟩ := get_some (each 0 _ rfl) (by omega)
  obtain ⟨z, hz⟩ := get_some (each 1 _ rfl) (by omega)
  simp [cLinks, c64] at hy hz
  obtain ⟨A, l, c, h1, h2, h3⟩ := open_links hy
  obtain ⟨B, k, cb, h4, h5, h6⟩ := open_road hz
  simp at h1 h4
  refine ⟨A, c, B, cb, l, k, ?_, h2, h3, h5⟩
  have : cells = #[a, b] := by rw [← Array.toList_inj]; exact hab
  rw [this, h1, h4]
end
end Go.Proofs.YtimkmokomohgjaaGreat
namespace Go.Proofs.YtimkmokomohgjaaGreat
open Go.RowKit Go.Shelf
open Go.WideElems (Fit)
open Go.ChangeMaps Go.MapKept
attribute [local go_sem] Oper.semAt_some
/-- A list without doubles, whose elements lie below N, has at most N of them. -/
theorem nodup_le : ∀ (N : Nat) (l : List Nat), l.Nodup → (∀ x ∈ l, x < N) → l.length ≤ N := by
  intro N
  induction N with
  | zero =>
    intro l _ h
    cases l with
    | nil => simp
    | cons x l => have := h x (by simp); omega
  | succ N ih =>
    intro l hd h
    by_cases hN : N ∈ l
    · have h1 := ih (l.erase N) (hd.erase N) (fun x hx => by
        have h2 := (hd.mem_erase_iff).1 hx
        have h3 := h x h2.2
        have := h2.1
        omega)
      rw [List.length_erase_of_mem hN] at h1
      omega
    · have := ih l hd (fun x hx => by
        have h3 := h x hx
        have : x ≠ N := fun e => hN (e ▸ hx)
        omega)
      omega
/-- Every element reads as the same: of the elements the entries themselves tell. -/
def oneR : Value → Option (DataW Unit × List MemPlace) := fun _ => some (.lit (.bool true), [])
/-- Block M is a map from days to what f says. -/
def Cache (P : Program) (kt : TypeId) (f : Int → Value) (M : Nat) (w : World) : Prop :=
  ∃ es clock, w.heap[M]? = some (.map es clock) ∧ Fit P kt oneR es clock ∧ ∀ x ∈ es.toList, ∃ d : Int, 0 ≤ d ∧ d < 10000 ∧ x.key = .int .i64 d ∧ x.val = f d
section
variable {P : Program} {kt : TypeId} {f : Int → Value} {M : Nat} {w w' : World}
theorem Cache.of_block (h : Cache P kt f M w) (hb : w'.heap[M]? = w.heap[M]?) : Cache P kt f M w' := by
  obtain ⟨es, c, h1, h2, h3⟩ := h
  exact ⟨es, c, hb.trans h1, h2, h3⟩
theorem Cache.lt (h : Cache P kt f M w) : M < w.heap.size := by
  obtain ⟨es, c, h1, _⟩ := h
  exact (Array.getElem?_eq_some_iff.1 h1).1
theorem Cache.ext (h : Cache P kt f M w) (he : Ext w w') : Cache P kt f M w' := h.of_block (he.block M h.lt)
theorem Cache.kept (h : Cache P kt f M w) {row : Option Nat} (hg : w.grownBy w' row) (hne : some M ≠ row) : Cache P kt f M w' := h.of_block (hg.block M h.lt hne)
theorem Cache.far (h : Cache P kt f M w) (p : Addr) (v : Value) (hp : p.block ≠ M) : Cache P kt f M (w.setCell p v) := h.of_block (Below.heap_setCell w p v M (Ne.symm hp))
theorem Cache.new (P : Program) (kt : TypeId) (f : Int → Value) (w : World) : Cache P kt f w.heap.size (w.alloc (.map #[] 0)) :=
  ⟨#[], 0, heap_alloc_new w _, ⟨by simp, ⟨by simp, by simp, by simp⟩, by simp⟩, by simp⟩
theorem Cache.not_row (h : Cache P kt f M w) {g : Nat} {t : TypeId} {cs : Array Value} (hr : Row w g t cs) : g ≠ M := by
  rintro rfl
  obtain ⟨es, c, h1, _⟩ := h
  unfold Row at hr
  rw [hr] at h1; cases h1
theorem Cache.not_cell (h : Cache P kt f M w) {p : Addr} {v : Value} (hc : w.cell? p = some v) : p.block ≠ M := by
  intro e
  obtain ⟨es, c, h1, _⟩ := h
  obtain ⟨o, ho, hcc⟩ := cells_of_cell hc
  rw [e, h1] at ho; cases ho; cases hcc
theorem Cache.not_own (h : Cache P kt f M w) {base : Nat} {e : TypeId} {size : Nat} {v : Value} {n : Nat} {xs : List Value} (ho : w.ownsRow base e size v n xs) : v.ownBlock ≠ some M := by
  intro hv
  obtain ⟨es, c, h1, _⟩ := h
  rcases ho.2 with ⟨rfl, _⟩ | ⟨g, cap, cur, rfl, _, hh, _⟩
  · cases hv
  · simp only [Value.ownBlock, Option.some.injEq] at hv
    subst hv
    rw [hh] at h1; cases h1
theorem Cache.size {es : Array MapEntry} {clock : Nat} (F : Fit P kt oneR es clock) (h : ∀ x ∈ es.toList, ∃ d : Int, 0 ≤ d ∧ d < 10000 ∧ x.key = .int .i64 d ∧ x.val = f d) : es.size ≤ 10000 := by
  have hd : (es.toList.map (·.key)).Nodup := F.stamped.2.2
  have h1 := nodup_le 10000 ((es.toList.map (·.key)).map fun v => (intOf v).toNat) (by
    rw [List.Nodup, List.pairwise_map]
    refine (List.pairwise_map.1 hd |> fun h0 => List.pairwise_map.2 (h0.imp_of_mem ?_))
    intro a b ha hb hne e
    obtain ⟨da, h0, h2, h3, _⟩ := h a ha
    obtain ⟨db, k0, k2, k3, _⟩ := h b hb
    rw [h3, k3] at hne e
    simp only [intOf] at e
    exact hne (by congr 1; omega)) (by
    intro x hx
    simp only [List.map_map, List.mem_map, Function.comp] at hx
    obtain ⟨y, hy, rfl⟩ := hx
    obtain ⟨d, h0, h2, h3, _⟩ := h y hy
    rw [h3]
    simp only [intOf]
    omega)
  simpa using h1
theorem Cache.lookup {t e : TypeId} (h : Cache P kt f M w) (hk : P.underlying kt = some (.int .i64)) (ht : P.underlying t = some (.map kt e)) {z : Value} (hz : (zeroValue e).run P w = .ok z w) {d : Int} (hd : (Lit.int .i64 d).wf = true) :
    (Instr.lookup t (.map (some M)) (.int .i64 d) true).run P w = .ok (.tuple #[z, .bool false]) w ∨ (Instr.lookup t (.map (some M)) (.int .i64 d) true).run P w = .ok (.tuple #[f d, .bool true]) w := by
  obtain ⟨es, c, h1, F, h3⟩ := h
  rcases Maps.fit_look true (Maps.int_keyed hk) ht hz h1 F (Maps.keyOf_int_mk hk hd) with ⟨hr, _, _⟩ | ⟨e0, y, hm, hkey, hr, _⟩
  · left; simpa using hr
  · right
    obtain ⟨d', _, _, hk', hv⟩ := h3 e0 hm
    rw [hk'] at hkey
    cases hkey
    rw [hv] at hr
    simpa using hr
theorem Cache.store {t e : TypeId} (h : Cache P kt f M w) (hk : P.underlying kt = some (.int .i64)) (ht : P.underlying t = some (.map kt e)) {d : Int} (hd : (Lit.int .i64 d).wf = true) (h0 : 0 ≤ d) (h9 : d < 10000) :
    ∃ w', (Instr.mapUpdate t (.map (some M)) (.int .i64 d) (f d)).run P w = .ok () w' ∧ Cache P kt f M w' ∧ w.grownBy w' (some M) := by
  obtain ⟨es, c, h1, F, h3⟩ := h
  have hs := Cache.size F h3
  obtain ⟨es', c', hr, F', _, _, _, h6⟩ := Maps.fit_store (R' := oneR) (Maps.int_keyed hk) ht h1 F (by simp only [maxLen]; omega) (fun _ _ _ _ hz => hz) (Maps.keyOf_int_mk hk hd) (yv := (.lit (.bool true), [])) (val := f d) rfl
  refine ⟨_, hr, ⟨es', c', heap_setBlock_same h1 _, F', fun x hx => ?_⟩, ⟨rfl, rfl, rfl, by simp [ChangeMaps.setBlock], fun i _ hi => heap_setBlock_other h1 _ (fun e => hi (by rw [e]))⟩⟩
  rcases h6 x hx with ⟨hx', _⟩ | ⟨e1, e2⟩
  · exact h3 x hx'
  · exact ⟨d, h0, h9, e1, e2⟩
end
/-- What a call on an engine does to the world: only block M has turned, and it still holds what f says. -/
def Step (P : Program) (kt : TypeId) (f : Int → Value) (M : Nat) (w w' : World) : Prop := w.grownBy w' (some M) ∧ Cache P kt f M w'
section
variable {P : Program} {kt : TypeId} {f : Int → Value} {M : Nat} {w w1 w2 : World}
theorem Step.size (h : Step P kt f M w w1) : w.heap.size ≤ w1.heap.size := h.1.size
theorem Step.of_ext (h : Cache P kt f M w) (he : Ext w w1) : Step P kt f M w w1 := ⟨⟨he.os, he.tape, he.output, he.size, fun k hk _ => he.block k hk⟩, h.ext he⟩
theorem Step.refl (h : Cache P kt f M w) : Step P kt f M w w := Step.of_ext h (Ext.refl w)
theorem Step.trans (h : Step P kt f M w w1) (k : Step P kt f M w1 w2) : Step P kt f M w w2 :=
  ⟨⟨k.1.os.trans h.1.os, k.1.tape.trans h.1.tape, k.1.output.trans h.1.output, Nat.le_trans h.1.size k.1.size, fun i hi hne => (k.1.block i (Nat.lt_of_lt_of_le hi h.1.size) hne).trans (h.1.block i hi hne)⟩, k.2⟩
theorem Step.ext (h : Step P kt f M w w1) (he : Ext w1 w2) : Step P kt f M w w2 := h.trans (Step.of_ext h.2 he)
theorem Step.row (h : Step P kt f M w w1) (hc : Cache P kt f M w) {g : Nat} {t : TypeId} {cs : Array Value} (hr : Row w g t cs) : Row w1 g t cs :=
  (h.1.block g hr.lt (fun e => hc.not_row hr (Option.some.inj e))).trans hr
theorem Step.cell (h : Step P kt f M w w1) (hc : Cache P kt f M w) {p : Addr} {v : Value} (hp : w.cell? p = some v) : w1.cell? p = some v :=
  h.1.cell hp (fun e => hc.not_cell hp (Option.some.inj e))
theorem Step.own (h : Step P kt f M w w1) (hc : Cache P kt f M w) {base : Nat} {e : TypeId} {size : Nat} {v : Value} {n : Nat} {xs : List Value} (ho : w.ownsRow base e size v n xs) : w1.ownsRow base e size v n xs :=
  ownsRow_of_block ho fun k hk => h.1.block k (ho.lt k hk).2 (fun e' => hc.not_own ho (by rw [hk, e']))
theorem Step.out (h : Step P kt f M w w1) (hc : Cache P kt f M w) {base bO : Nat} {ty e : TypeId} {size : Nat} {v : Value} {n : Nat} {xs : List Value} (ho : Out w base bO ty e size v n xs) : Out w1 base bO ty e size v n xs :=
  ⟨h.row hc ho.box, h.own hc ho.own, ho.ne⟩
theorem Step.below (h : Step P kt f M w w1) {N : Nat} (hN : N ≤ M) (hw : N ≤ w.heap.size) : Below N w w1 :=
  ⟨h.1.os, h.1.tape, h.1.output, h.1.size, fun k hk => h.1.block k (by omega) (fun e => by have := Option.some.inj e; omega)⟩
theorem Step.keeps (h : Step P kt f M w w1) {B : Nat} (hB : M < B) : KeepsFrom B w w1 := KeepsFrom.of_grownBy h.1 (fun j e => by have := Option.some.inj e; omega)
theorem Step.setCell (h : Step P kt f M w w1) (hc : Cache P kt f M w) {p : Addr} (hp : w.heap.size ≤ p.block) (v : Value) : Step P kt f M w (w1.setCell p v) :=
  ⟨⟨h.1.os, h.1.tape, h.1.output, by have := h.1.size; simpa using this, fun k hk hne => (Below.heap_setCell w1 p v k (by omega)).trans (h.1.block k hk hne)⟩, h.2.far p v (by have := hc.lt; omega)⟩
/-- Blocks that are not M's lie as they lay. -/
theorem Step.block (h : Step P kt f M w w1) {k : Nat} (hk : k < w.heap.size) (hne : k ≠ M) : w1.heap[k]? = w.heap[k]? := h.1.block k hk (fun e => hne (Option.some.inj e))
end
/-- What an iterator promises that itself turns the world between two rounds, by St. -/
def SeqStep {α : Type} (F : Fence) (n : Nat) (P : Program) (g : Nat) (lb : Array Value) (encs : α → Array Value) (Kp St : World → World → Prop) (S Sp : List α → Prop) (N : Nat) (W : World) : Prop :=
  ∀ (l : Nat) (J Jx : List α → World → Prop), (∀ s A B, J s A → St A B → J s B) →
    (∀ pre x A, J pre A → pre.length < N → YieldAt F (n - 1) P l (encs x) A fun e B =>
      (e = .returned (.bool true) ∧ J (pre ++ [x]) B ∧ Kp A B) ∨ (e = .returned (.bool false) ∧ Jx (pre ++ [x]) B)) →
    J [] W →
    CallsIn F n P g (#[.func (.yield l) #[] #[]] ++ lb) W fun e B => (∃ v, e = .returned v) ∧ ((∃ xs, S xs ∧ J xs B) ∨ (∃ pre, Sp pre ∧ Jx pre B))
/-- What the caller holds while the loop goes on: its own, the loop's record, the block for deferred calls. -/
structure RangeOn (I : World → Prop) (B : Nat) (r : Loop) (W : World) : Prop where
  own : I W
  loop : W.heap[B + 1]? = some (.loop r)
  late : W.heap[B]? = some (.deferred (some []))
theorem RangeOn.put {α : Type} {I : List α → World → Prop} {s : List α} {B : Nat} {r : Loop} {W : World} (hI : OwnFrom B I) (h : RangeOn (I s) B r W) (r' : Loop) : RangeOn (I s) B r' (W.putObj (B + 1) (.loop r')) :=
  ⟨hI.putObj _ h.own (by omega) h.loop rfl, World.putObj_heap_same (Array.getElem?_eq_some_iff.1 h.loop).1, (World.putObj_heap_other (by omega)).trans h.late⟩
variable {F : Fence} {n : Nat} {P : Program}
/-- A range over a function, outside of another one, whose iterator turns the world by St between two rounds. -/
theorem wpIn_range_step {α : Type} {g : Operand} {ps : Array Tmp} {assign body : Code} {Q : Exit → Act → World → Prop} {a : Act} {w : World}
    (hro : F.round = none) (h1 : 1 ≤ n) {gf : Nat} {lb : Array Value} (hg : a.eval g = .func (.func gf) #[] lb) (hFg : F.fn gf) (eg : ∀ args w, (callFunc gf args).run P w = .ok (.enter gf args) w)
    {encs : α → Array Value} {Kp St : World → World → Prop} {S Sp : List α → Prop} {N : Nat} (hseq : ∀ W, Ext w W → SeqStep F (n - 1) P gf lb encs Kp St S Sp N W)
    (hKt : ∀ {A B C : World}, Kp A B → Kp B C → Kp A C) (hKb : ∀ (W : World) (l : Nat) (o o' : Obj), w.heap.size ≤ l → W.heap[l]? = some o → o.isCells = false → o.isWalk = false → Kp W (W.putObj l o'))
    (hSt : ∀ A B, St A B → KeepsFrom w.heap.size A B) (hps : ∀ x, (encs x).size = ps.size)
    (I : List α → World → Prop) (Ix : Code → List α → World → Prop) (hI : OwnFrom w.heap.size I) (hIx : ∀ c, OwnFrom w.heap.size (Ix c)) (hIS : ∀ s A B, I s A → St A B → I s B) (h0 : I [] w)
    (Ax : α → Act → World → Prop) (hAx : ∀ x a', OwnFrom w.heap.size (fun (_ : Unit) W => Ax x a' W))
    (hassign : ∀ (l : Nat) (pre : List α) (x : α) (W : World) (K : Act → World → Prop), I pre W → (∀ a' W', KeepsFrom w.heap.size W W' → Kp W W' → I pre W' → Ax x a' W' → K a' W') →
      assign.wpIn (F.inRound l) (n - 1 - 1) P (Exit.then K (fun _ _ _ => False)) { tmps := (ps.zip (encs x)).foldl (fun t (p, v) => t.setIfInBounds p v) a.tmps, defers := [] } W)
    (hbody : ∀ (l : Nat) (pre : List α) (x : α) (a' : Act) (W : World), w.heap.size ≤ l → I pre W → Ax x a' W → pre.length < N → body.wpIn (F.inRound l) (n - 1 - 1) P (ownPostG w.heap.size Kp I Ix (pre ++ [x]) W) a' W)
    (hdone : ∀ (D : Nat) (xs : List α) (W : World), w.heap.size ≤ D → S xs → I xs W → W.heap[D]? = some (.deferred (some [])) → Q .normal { a with defers := { target := .collected D, args := #[] } :: a.defers } W)
    (hstop : ∀ (D : Nat) (c : Code) (pre : List α) (W : World), w.heap.size ≤ D → Sp pre → Ix c pre W → W.heap[D]? = some (.deferred (some [])) → c.wpIn F n P Q { a with defers := { target := .collected D, args := #[] } :: a.defers } W) :
    (Code.rangeFunc g ps assign body).wpIn F n P Q a w := by
  refine wpIn_rangeFunc fun fn hfn => ?_
  rw [hro]
  obtain ⟨B, hB⟩ : ∃ B, w.heap.size = B := ⟨_, rfl⟩
  obtain ⟨mk, hmk⟩ : ∃ mk : LoopState → Option Code → Loop, mk = fun st pe => { state := st, pending := pe, fn, tmps := a.tmps, params := ps, assign, body, defers := B } := ⟨_, rfl⟩
  have hnew := World.alloc_heap_new (w.alloc (.deferred (some []))) (.loop (mk .ready none))
  rw [World.size_alloc, hB] at hnew
  have on0 : RangeOn (I []) B (mk .ready none) ((w.alloc (.deferred (some []))).alloc (.loop (mk .ready none))) :=
    ⟨hI.alloc _ (hI.alloc _ h0), hnew, by rw [← hB]; exact (Below.heap_alloc _ _ _ (by simp)).trans (World.alloc_heap_new w _)⟩
  have he0 : Ext w ((w.alloc (.deferred (some []))).alloc (.loop (mk .ready none))) := ((Ext.refl w).alloc _).alloc _
  rw [hB] at hI hIx hAx hKb hSt hassign hbody hdone hstop
  refine ⟨B + 1, [{ target := .collected B, args := #[] }], (w.alloc (.deferred (some []))).alloc (.loop (mk .ready none)), { target := .fn (.func gf) lb, args := #[.func (.yield (B + 1)) #[] #[]] }, (w.alloc (.deferred (some []))).alloc (.loop (mk .ready none)), gf, #[.func (.yield (B + 1)) #[] #[]] ++ lb, (w.alloc (.deferred (some []))).alloc (.loop (mk .ready none)), ?_, ?_, ?_, ?_, fun _ => h1, ?_⟩
  · have := run_enterLoop_outer (P := P) (w := w) fn a.tmps ps assign body
    rw [hB] at this
    rw [hmk]
    exact this
  · simp only [resolve, hg]
    simp [go_sem]
  · intro f' hf'
    simp [Target.leads] at hf'
    subst hf'
    exact hFg
  · simp [invoke, go_sem, eg]
  · refine (hseq _ he0 (B + 1) (fun pre => RangeOn (I pre) B (mk .ready none)) (fun pre W => ∃ c, RangeOn (Ix c pre) B (mk .done (some c)) W) ?_ ?_ on0).mono ?_
    · intro s X Y h hs
      have hk := hSt X Y hs
      exact ⟨hIS s X Y h.own hs, hk.same _ _ (by omega) h.loop rfl, hk.same _ _ (Nat.le_refl _) h.late rfl⟩
    · intro pre x W h hlen
      have hy := run_yield (P := P) (args := encs x) h.loop (by rw [hmk]; exact hps x)
      rw [hmk] at hy
      refine ⟨fn, _, assign, body, hy, roundIn_of_wpIn hfn (hassign _ pre x W _ h.own fun a' W1 hk1 hp1 hi1 hx1 => ?_)⟩
      have h1' : RangeOn (I pre) B (mk .ready none) W1 := ⟨hi1, hk1.same _ _ (by omega) h.loop rfl, hk1.same _ _ (Nat.le_refl _) h.late rfl⟩
      refine ⟨_, run_beginRound h1'.loop (by rw [hmk]), ?_⟩
      obtain ⟨W2, hW2⟩ : ∃ W2, W1.putObj (B + 1) (.loop (mk .busy none)) = W2 := ⟨_, rfl⟩
      have h2' : RangeOn (I pre) B (mk .busy none) W2 := by rw [← hW2]; exact h1'.put hI _
      have hx2 : Ax x a' W2 := by rw [← hW2]; exact (hAx x a').putObj (s := ()) _ hx1 (by omega) h1'.loop rfl
      have hp2 : Kp W W2 := by rw [← hW2]; exact hKt hp1 (hKb _ _ _ _ (by omega) h1'.loop rfl rfl)
      have hsame : W1.putObj (B + 1) (.loop { mk .ready none with state := .busy }) = W2 := by rw [← hW2, hmk]
      rw [hsame]
      refine wpIn_mono (hbody (B + 1) pre x a' W2 (by omega) h2'.own hx2 hlen) ?_
      have stop : ∀ (c : Code) (W3 : World), KeepsFrom B W2 W3 → Ix c (pre ++ [x]) W3 → ∃ v W4, (Instr.endRound (B + 1) (some c)).run P W3 = .ok v W4 ∧
          ((Ending.returned v = .returned (.bool true) ∧ RangeOn (I (pre ++ [x])) B (mk .ready none) W4 ∧ Kp W W4) ∨ (Ending.returned v = .returned (.bool false) ∧ ∃ c, RangeOn (Ix c (pre ++ [x])) B (mk .done (some c)) W4)) := by
        intro c W3 hk3 hi3
        have h3 : RangeOn (Ix c (pre ++ [x])) B (mk .busy none) W3 := ⟨hi3, hk3.same _ _ (by omega) h2'.loop rfl, hk3.same _ _ (Nat.le_refl _) h2'.late rfl⟩
        have hr := run_endRound (P := P) (some c) h3.loop
        rw [hmk] at hr
        refine ⟨_, _, hr, .inr ⟨rfl, c, ?_⟩⟩
        have := h3.put (hIx c) (mk .done (some c))
        rw [hmk] at this ⊢
        exact this
      intro e a3 W3 hp
      cases e with
      | normal =>
        obtain ⟨hk3, hp3, hi3⟩ := hp
        have h3 : RangeOn (I (pre ++ [x])) B (mk .busy none) W3 := ⟨hi3, hk3.same _ _ (by omega) h2'.loop rfl, hk3.same _ _ (Nat.le_refl _) h2'.late rfl⟩
        have hr := run_endRound (P := P) none h3.loop
        rw [hmk] at hr
        refine ⟨_, _, hr, .inl ⟨rfl, ?_, hKt (hKt hp2 hp3) (hKb _ _ _ _ (by omega) h3.loop rfl rfl)⟩⟩
        have := h3.put hI (mk .ready none)
        rw [hmk] at this ⊢
        exact this
      | ret => exact stop _ _ hp.1 hp.2
      | exit id => exact stop _ _ hp.1 hp.2
      | goto t => exact stop _ _ hp.1 hp.2
      | panic ch => exact hp.elim
      | outgrown => exact hp.elim
    · rintro e W2 ⟨⟨v, rfl⟩, (⟨xs, hS, h⟩ | ⟨pre, hSp, c, h⟩)⟩
      · have hr := run_endLoop (P := P) h.loop (by rw [hmk]; simp)
        rw [hmk] at hr
        exact ⟨none, _, hr, hdone B xs _ (Nat.le_refl _) hS (hI.putObj _ h.own (by omega) h.loop rfl) ((World.putObj_heap_other (by omega)).trans h.late)⟩
      · have hr := run_endLoop (P := P) h.loop (by rw [hmk]; simp)
        rw [hmk] at hr
        exact ⟨some c, _, hr, hstop B c pre _ (Nat.le_refl _) hSp ((hIx c).putObj _ h.own (by omega) h.loop rfl) ((World.putObj_heap_other (by omega)).trans h.late)⟩
section
variable {P : Program} {ops : Array Oper} {md : Region.Mode} {C : World → Prop} {Q : Exit → Act → World → Prop}
theorem opWide_of_op {K : Act → World → Prop} {n : Nat} {o : Oper} {a : Act} {w : World} (hL : ¬ LetsOut Q) (h : o.wp P a w K Q ∨ (o.asks P a w ∧ LetsOut Q)) : o.wpIn Fence.wide n P a w K Q := by
  replace h := h.resolve_right fun h => hL h.2
  refine ⟨fun _ _ => trivial, ?_⟩
  rw [show Fence.wide.round = none from rfl, Oper.semAt_none]
  unfold Oper.wp at h
  generalize (execOp a.eval o).run P w = r at *
  cases r with
  | ok x w' =>
    cases x <;> simp only [Oper.upon, Oper.uponIn] at h ⊢
    all_goals first
      | exact h
      | exact ⟨fun hh => by simp [Fence.wide] at hh, callsIn_wide.2 h⟩
      | exact ⟨fun hh => by simp [Fence.wide] at hh, fun c cs _ => let ⟨v, w', r, s⟩ := h c cs; ⟨v, w', r, stepsIn_wide.2 s⟩⟩
  | halt x w' => cases x <;> simp only [Oper.upon, Oper.uponIn] at h ⊢ <;> exact h
theorem anyIn_of_seq {F : Fence} {n : Nat} : ∀ (l : List Oper) (k : Nat) (listed : Array Bool) (a : Act) (w : World), (∀ j, l[j]? = ops[k + j]?) →
    Region.seqB md ops l.length k listed = true → wpListIn F n P ops Q l a w → wpAnyIn F n P md ops Q l.length listed a w
  | [], _, _, _, _, _, hB, h => ⟨by simpa [Region.seqB] using hB, h⟩
  | o :: l, k, listed, a, w, hl, hB, h => by
    have h0 : ops[k]? = some o := by simpa using (hl 0).symm
    simp only [List.length_cons, Region.seqB, Bool.and_eq_true, decide_eq_true_eq] at hB
    refine ⟨fun h1 => (by rw [hB.1] at h1; cases h1), fun i hi => ?_⟩
    rw [hB.1] at hi
    obtain rfl : i = k := by simpa using hi
    have hw : wpOpIn F n P ops Q i (wpListIn F n P ops Q l) a w := by unfold wpOpIn; simp only [h0]; exact h
    exact wpOpIn_mono (fun a' w' h' => anyIn_of_seq l (i + 1) _ a' w' (fun j => by have := hl (j + 1); simpa [Nat.add_assoc, Nat.add_comm 1 j] using this) hB.2 h') hw
theorem anyIn_of_headQ {n m g : Nat} {L : Array Bool → Act → Prop} (hQ : ¬ LetsOut Q) (hL : ∀ listed a w, C w → L listed a → wpAnyIn Fence.wide m P md ops Q g listed a w) (f : Nat) :
    ∀ (listed : Array Bool) (a : Act) (w : World), C w → headQ P md ops C n L f listed a → wpAnyIn Fence.wide m P md ops Q (f + g) listed a w := by
  induction f with
  | zero => intro listed a w hw h; rw [Nat.zero_add]; exact hL _ _ _ hw h
  | succ f ih =>
    intro listed a w hw h
    rw [Nat.add_right_comm]
    refine ⟨fun h0 => absurd h0 h.1, fun i hi => ?_⟩
    have h1 : wpOp P ops Q i (wpAnyIn Fence.wide m P md ops Q (f + g) (listed.setIfInBounds i true)) a w := wpOp_of_qOp hw (fun a' w' hw' h' => ih _ a' w' hw' h') (h.2 i hi).2
    unfold wpOp at h1
    unfold wpOpIn
    split
    · rename_i ho; simp only [ho] at h1; exact h1
    · rename_i o ho
      simp only [ho] at h1
      split
      · rename_i hwd; rw [if_pos hwd] at h1; exact opWide_of_op hQ h1
      · rename_i hwd; rw [if_neg hwd] at h1; exact ⟨fun _ _ => trivial, h1⟩
theorem wpIn_region_tail_wide {id m : Nat} {a : Act} {w : World} {l : List Oper} (n : Nat) (hm : P.follows .mixedOrders = true) (hB : Region.lexTailB .any l.toArray n = true)
    (hC : C { w with drawn := w.drawn + 1 }) (h : wpQuiet P l.toArray C (fun a' => ∀ w', C w' → wpListIn Fence.wide m P l.toArray (OnlyEnd Q) (l.drop n) a' w') (l.take n) a) : (Code.region id l.toArray true).wpIn Fence.wide m P Q a w := by
  simp only [Region.lexTailB, Bool.and_eq_true, decide_eq_true_eq] at hB
  obtain ⟨⟨⟨⟨hsel, hn⟩, hs⟩, hc⟩, hlex⟩ := hB
  have hn' : n < l.length := by simpa using hn
  have htl : (l.take n).length = n := by simp; omega
  have hdl : (l.drop n).length = l.toArray.size - n := by simp
  have inv0 : HeadInv .any l.toArray n (Array.replicate l.toArray.size false) :=
    ⟨by simp, fun j oj _ hl => (by rw [getD_replicate_false] at hl; cases hl), fun t _ ht => getD_in (by simpa using ht) (getD_replicate_false _ _)⟩
  have H := headQ_lex (md := .any) (g := l.toArray.size - n) hsel hs hc hn (l.take n) 0 _ a (fun j hj => by
    rw [htl] at hj
    simp [hj]) (by simpa using htl) inv0 (by rw [htl]; exact hlex) h
  refine wpIn_mono (wpIn_region_any (Q := OnlyEnd Q) hm ?_) fun e _ _ hq => by cases e <;> first | exact hq | exact hq.elim
  have := anyIn_of_headQ (Q := OnlyEnd Q) (m := m) (g := l.toArray.size - n) (fun ⟨_, _, hh⟩ => hh) (fun listed a' w' hw' hL => by
    have := anyIn_of_seq (F := Fence.wide) (n := m) (md := .any) (Q := OnlyEnd Q) (l.drop n) n listed a' w' (fun j => by simp [List.getElem?_drop]) (by rw [hdl]; exact hL.1) (hL.2 w' hw')
    rwa [hdl] at this) _ _ _ _ hC H
  rw [htl, show n + (l.toArray.size - n) = l.toArray.size by omega] at this
  exact this
/-- The first n operations over all later worlds, the rest one by one, inside the wide fence. The world gets a name. -/
theorem wpIn_region_later_tail {id m : Nat} {a : Act} {w : World} {l : List Oper} (n : Nat) (hm : P.follows .mixedOrders = true) (hB : Region.lexTailB .any l.toArray n = true)
    (h : ∀ W, W = w → wpQuiet P l.toArray (fun w' => ∃ x : Later W, w' = x.world) (fun a' => ∀ x : Later W, wpListIn Fence.wide m P l.toArray (OnlyEnd Q) (l.drop n) a' x.world) (l.take n) a) : (Code.region id l.toArray true).wpIn Fence.wide m P Q a w :=
  wpIn_region_tail_wide (C := fun w' => ∃ x : Later w, w' = x.world) n hm hB ⟨⟨w.drew, (Ext.refl w).drew⟩, rfl⟩ (by
    have := h w rfl
    simpa using this)
end
end Go.Proofs.YtimkmokomohgjaaGreat
namespace Go.Proofs.YtimkmokomohgjaaGreat
open Go.RowKit
open Sp (rd)
set_option linter.unusedVariables false
theorem Tp.room_of_none {F : Fence} (hd : F.depth = none) (k : Nat) : F.room k := fun d h => by rw [hd] at h; cases h
/-- Where no depth is asked the figures are all one. -/
theorem Tp.roundAny {F : Fence} (hd : F.depth = none) {m m' : Nat} {P : Program} {l : Nat} {f : FuncId} {tmps : Array Value} {assign body : Code} {w : World} {R : Ending → World → Prop}
    (h : RoundIn F m P l f tmps assign body w R) : RoundIn F m' P l f tmps assign body w R := ⟨h.1, fun c cs _ => h.2 c cs (Tp.room_of_none hd _)⟩
theorem Tp.yieldAny {F : Fence} (hd : F.depth = none) {m : Nat} (m' : Nat) {P : Program} {l : Nat} {args : Array Value} {W : World} {R : Ending → World → Prop} (h : YieldAt F m P l args W R) : YieldAt F m' P l args W R := by
  obtain ⟨fn, tmps, assign, body, hy, hR⟩ := h
  exact ⟨fn, tmps, assign, body, hy, Tp.roundAny hd hR⟩
/-- What a round keeps: what lay below n, and all rows but those of the types x, y. -/
def Tp.KP (n : Nat) (x y : TypeId) (A B : World) : Prop := Below n A B ∧ ∀ g t cs, t ≠ x → t ≠ y → Row A g t cs → Row B g t cs
theorem Tp.KP.refl (n : Nat) (x y : TypeId) (A : World) : Tp.KP n x y A A := ⟨Below.refl _ _, fun _ _ _ _ _ h => h⟩
theorem Tp.KP.trans {n : Nat} {x y : TypeId} {A B C : World} (h : Tp.KP n x y A B) (k : Tp.KP n x y B C) : Tp.KP n x y A C := ⟨h.1.trans k.1, fun g t cs h1 h2 hr => k.2 g t cs h1 h2 (h.2 g t cs h1 h2 hr)⟩
theorem Tp.KP.of_ext {n : Nat} {x y : TypeId} {A B : World} (h : Ext A B) (hn : n ≤ A.heap.size) : Tp.KP n x y A B := ⟨Below.mono h hn, fun _ _ _ _ _ hr => hr.ext h⟩
theorem Tp.KP.book {n : Nat} {x y : TypeId} {B : Nat} (hn : n ≤ B) (W : World) (l : Nat) (o o' : Obj) (hl : B ≤ l) (h : W.heap[l]? = some o) (h1 : o.isCells = false) (_ : o.isWalk = false) : Tp.KP n x y W (W.putObj l o') :=
  ⟨(Below.refl n W).grown (grownBy_putObj' W l o') (by have := (Array.getElem?_eq_some_iff.1 h).1; omega) (fun k e => by cases e; omega), fun g t cs _ _ hr => by
    have hne : g ≠ l := by
      rintro rfl
      unfold Row at hr
      rw [hr] at h; cases h; cases h1
    unfold Row at hr ⊢
    rw [World.putObj_heap_other hne]; exact hr⟩
/-- A store into a row of type x. -/
theorem Tp.KP.store {n : Nat} {x y : TypeId} {A B : World} {g : Nat} {cs : Array Value} (h : Tp.KP n x y A B) (hr : Row B g x cs) (hn : n ≤ g) (i : Nat) (v : Value) : Tp.KP n x y A (B.setCell ⟨g, i, none⟩ v) :=
  ⟨h.1.setCell (p := ⟨g, i, none⟩) hn v, fun g' t cs' h1 h2 hr' => by
    have hr2 := h.2 g' t cs' h1 h2 hr'
    have hne : g' ≠ g := by
      rintro rfl
      unfold Row at hr hr2
      rw [hr] at hr2; cases hr2; exact h1 rfl
    exact hr2.far (p := ⟨g, i, none⟩) (by simpa using hne) v⟩
theorem Tp.KP.ext {n : Nat} {x y : TypeId} {A B w : World} (h : Tp.KP n x y A B) (hw : w.heap.size ≤ n) (hA : Ext w A) : Ext w B := Below.trans hA (Below.mono h.1 hw)
end Go.Proofs.YtimkmokomohgjaaGreat
namespace Go.Proofs.YtimkmokomohgjaaGreat
open Go.RowKit Go.Shelf
attribute [local go_sem] Oper.semAt_some
set_option linter.unusedVariables false
/-- What an iterator promises to a body that never leaves. -/
def Tp.SeqAll {α : Type} (F : Fence) (n : Nat) (P : Program) (g : Nat) (lb : Array Value) (encs : α → Array Value) (Kp St : World → World → Prop) (S : List α → Prop) (N : Nat) (W : World) : Prop :=
  ∀ (l : Nat) (J : List α → World → Prop), (∀ s A B, J s A → St A B → J s B) →
    (∀ pre x A, J pre A → pre.length < N → YieldAt F (n - 1) P l (encs x) A fun e B => e = .returned (.bool true) ∧ J (pre ++ [x]) B ∧ Kp A B) →
    J [] W →
    CallsIn F n P g (#[.func (.yield l) #[] #[]] ++ lb) W fun e B => (∃ v, e = .returned v) ∧ ∃ xs, S xs ∧ J xs B
variable {F : Fence} {n : Nat} {P : Program}
theorem Tp.range_all {α : Type} {g : Operand} {ps : Array Tmp} {assign body : Code} {Q : Exit → Act → World → Prop} {a : Act} {w : World}
    (hro : F.round = none) (h1 : 1 ≤ n) {gf : Nat} {lb : Array Value} (hg : a.eval g = .func (.func gf) #[] lb) (hFg : F.fn gf) (eg : ∀ args w, (callFunc gf args).run P w = .ok (.enter gf args) w)
    {encs : α → Array Value} {Kp St : World → World → Prop} {S : List α → Prop} {N : Nat} (hseq : ∀ W, Ext w W → Tp.SeqAll F (n - 1) P gf lb encs Kp St S N W)
    (hKt : ∀ {A B C : World}, Kp A B → Kp B C → Kp A C) (hKb : ∀ (W : World) (l : Nat) (o o' : Obj), w.heap.size ≤ l → W.heap[l]? = some o → o.isCells = false → o.isWalk = false → Kp W (W.putObj l o'))
    (hSt : ∀ A B, St A B → KeepsFrom w.heap.size A B) (hps : ∀ x, (encs x).size = ps.size)
    (I : List α → World → Prop) (hI : OwnFrom w.heap.size I) (hIS : ∀ s A B, I s A → St A B → I s B) (h0 : I [] w)
    (Ax : α → Act → World → Prop) (hAx : ∀ x a', OwnFrom w.heap.size (fun (_ : Unit) W => Ax x a' W))
    (hassign : ∀ (l : Nat) (pre : List α) (x : α) (W : World) (K : Act → World → Prop), I pre W → (∀ a' W', KeepsFrom w.heap.size W W' → Kp W W' → I pre W' → Ax x a' W' → K a' W') →
      assign.wpIn (F.inRound l) (n - 1 - 1) P (Exit.then K (fun _ _ _ => False)) { tmps := (ps.zip (encs x)).foldl (fun t (p, v) => t.setIfInBounds p v) a.tmps, defers := [] } W)
    (hbody : ∀ (l : Nat) (pre : List α) (x : α) (a' : Act) (W : World), w.heap.size ≤ l → I pre W → Ax x a' W → pre.length < N → body.wpIn (F.inRound l) (n - 1 - 1) P (ownPostG w.heap.size Kp I (fun _ _ _ => False) (pre ++ [x]) W) a' W)
    (hdone : ∀ (D : Nat) (xs : List α) (W : World), w.heap.size ≤ D → S xs → I xs W → W.heap[D]? = some (.deferred (some [])) → Q .normal { a with defers := { target := .collected D, args := #[] } :: a.defers } W) :
    (Code.rangeFunc g ps assign body).wpIn F n P Q a w := by
  refine wpIn_rangeFunc fun fn hfn => ?_
  rw [hro]
  obtain ⟨B, hB⟩ : ∃ B, w.heap.size = B := ⟨_, rfl⟩
  obtain ⟨mk, hmk⟩ : ∃ mk : LoopState → Option Code → Loop, mk = fun st pe => { state := st, pending := pe, fn, tmps := a.tmps, params := ps, assign, body, defers := B } := ⟨_, rfl⟩
  have hnew := World.alloc_heap_new (w.alloc (.deferred (some []))) (.loop (mk .ready none))
  rw [World.size_alloc, hB] at hnew
  have on0 : RangeOn (I []) B (mk .ready none) ((w.alloc (.deferred (some []))).alloc (.loop (mk .ready none))) :=
    ⟨hI.alloc _ (hI.alloc _ h0), hnew, by rw [← hB]; exact (Below.heap_alloc _ _ _ (by simp)).trans (World.alloc_heap_new w _)⟩
  have he0 : Ext w ((w.alloc (.deferred (some []))).alloc (.loop (mk .ready none))) := ((Ext.refl w).alloc _).alloc _
  rw [hB] at hI hAx hKb hSt hassign hbody hdone
  refine ⟨B + 1, [{ target := .collected B, args := #[] }], (w.alloc (.deferred (some []))).alloc (.loop (mk .ready none)), { target := .fn (.func gf) lb, args := #[.func (.yield (B + 1)) #[] #[]] }, (w.alloc (.deferred (some []))).alloc (.loop (mk .ready none)), gf, #[.func (.yield (B + 1)) #[] #[]] ++ lb, (w.alloc (.deferred (some []))).alloc (.loop (mk .ready none)), ?_, ?_, ?_, ?_, fun _ => h1, ?_⟩
  · have := run_enterLoop_outer (P := P) (w := w) fn a.tmps ps assign body
    rw [hB] at this
    rw [hmk]
    exact this
  · simp only [resolve, hg]
    simp [go_sem]
  · intro f' hf'
    simp [Target.leads] at hf'
    subst hf'
    exact hFg
  · simp [invoke, go_sem, eg]
  · refine (hseq _ he0 (B + 1) (fun pre => RangeOn (I pre) B (mk .ready none)) ?_ ?_ on0).mono ?_
    · intro s X Y h hs
      have hk := hSt X Y hs
      exact ⟨hIS s X Y h.own hs, hk.same _ _ (by omega) h.loop rfl, hk.same _ _ (Nat.le_refl _) h.late rfl⟩
    · intro pre x W h hlen
      have hy := run_yield (P := P) (args := encs x) h.loop (by rw [hmk]; exact hps x)
      rw [hmk] at hy
      refine ⟨fn, _, assign, body, hy, roundIn_of_wpIn hfn (hassign _ pre x W _ h.own fun a' W1 hk1 hp1 hi1 hx1 => ?_)⟩
      have h1' : RangeOn (I pre) B (mk .ready none) W1 := ⟨hi1, hk1.same _ _ (by omega) h.loop rfl, hk1.same _ _ (Nat.le_refl _) h.late rfl⟩
      refine ⟨_, run_beginRound h1'.loop (by rw [hmk]), ?_⟩
      obtain ⟨W2, hW2⟩ : ∃ W2, W1.putObj (B + 1) (.loop (mk .busy none)) = W2 := ⟨_, rfl⟩
      have h2' : RangeOn (I pre) B (mk .busy none) W2 := by rw [← hW2]; exact h1'.put hI _
      have hx2 : Ax x a' W2 := by rw [← hW2]; exact (hAx x a').putObj (s := ()) _ hx1 (by omega) h1'.loop rfl
      have hp2 : Kp W W2 := by rw [← hW2]; exact hKt hp1 (hKb _ _ _ _ (by omega) h1'.loop rfl rfl)
      have hsame : W1.putObj (B + 1) (.loop { mk .ready none with state := .busy }) = W2 := by rw [← hW2, hmk]
      rw [hsame]
      refine wpIn_mono (hbody (B + 1) pre x a' W2 (by omega) h2'.own hx2 hlen) ?_
      intro e a3 W3 hp
      cases e with
      | normal =>
        obtain ⟨hk3, hp3, hi3⟩ := hp
        have h3 : RangeOn (I (pre ++ [x])) B (mk .busy none) W3 := ⟨hi3, hk3.same _ _ (by omega) h2'.loop rfl, hk3.same _ _ (Nat.le_refl _) h2'.late rfl⟩
        have hr := run_endRound (P := P) none h3.loop
        rw [hmk] at hr
        refine ⟨_, _, hr, rfl, ?_, hKt (hKt hp2 hp3) (hKb _ _ _ _ (by omega) h3.loop rfl rfl)⟩
        have := h3.put hI (mk .ready none)
        rw [hmk] at this ⊢
        exact this
      | ret => exact hp.2.elim
      | exit id => exact hp.2.elim
      | goto t => exact hp.2.elim
      | panic ch => exact hp.elim
      | outgrown => exact hp.elim
    · rintro e W2 ⟨⟨v, rfl⟩, xs, hS, h⟩
      have hr := run_endLoop (P := P) h.loop (by rw [hmk]; simp)
      rw [hmk] at hr
      exact ⟨none, _, hr, hdone B xs _ (Nat.le_refl _) hS (hI.putObj _ h.own (by omega) h.loop rfl) ((World.putObj_heap_other (by omega)).trans h.late)⟩
end Go.Proofs.YtimkmokomohgjaaGreat
namespace Go.Proofs.YtimkmokomohgjaaGreat
open Go.RowKit
theorem nodup_sub_le : ∀ (A S : List Nat), A.Nodup → (∀ x ∈ A, x ∈ S) → A.length ≤ S.length
  | [], _, _, _ => Nat.zero_le _
  | x :: A, S, hd, h => by
    obtain ⟨hx, hd'⟩ := List.nodup_cons.1 hd
    have hm := h x (by simp)
    have h1 := nodup_sub_le A (S.erase x) hd' (fun y hy => (List.mem_erase_of_ne (fun e => by subst e; exact hx hy)).2 (h y (by simp [hy])))
    rw [List.length_erase_of_mem hm] at h1
    have := List.length_pos_of_mem hm
    simp only [List.length_cons]
    omega
theorem nodup_le' {S : List Nat} {N : Nat} (hd : S.Nodup) (h : ∀ x ∈ S, x < N) : S.length ≤ N := by
  simpa using nodup_sub_le S (List.range N) hd fun x hx => List.mem_range.2 (h x hx)
/-- The slot that an operation of a list writes. -/
def dstOf (l : List Oper) (i : Nat) : Option Tmp := (l[i]?).bind (·.dst)
/-- The values vs of the operations S, laid into a frame. -/
def putS (l : List Oper) (vs : Nat → Value) (S : List Nat) (a : Act) : Act := S.foldl (fun a i => a.put (dstOf l i) (vs i)) a
def putAll (l : List Oper) (vs : Nat → Value) (a : Act) : Act := putS l vs (List.range l.length) a
theorem putS_off {l : List Oper} {vs : Nat → Value} {d : Tmp} : ∀ (S : List Nat) (a : Act), (∀ i ∈ S, dstOf l i ≠ some d) → (putS l vs S a).eval (.tmp d) = a.eval (.tmp d)
  | [], _, _ => rfl
  | x :: S, a, h => by
    have h1 := putS_off (vs := vs) S (a.put (dstOf l x) (vs x)) (fun i hi => h i (by simp [hi]))
    refine h1.trans (Act.eval_put fun d' hd e => ?_)
    have := h x (by simp)
    rw [hd] at this
    exact this (by cases e; rfl)
theorem put_size (a : Act) (d : Option Tmp) (v : Value) : (a.put d v).tmps.size = a.tmps.size := by cases d <;> simp [Act.put]
theorem putS_on {l : List Oper} {vs : Nat → Value} {d : Tmp} {j : Nat} (hj : dstOf l j = some d) : ∀ (S : List Nat) (a : Act), d < a.tmps.size → (∀ i ∈ S, dstOf l i = some d → i = j) → j ∈ S → (putS l vs S a).eval (.tmp d) = vs j
  | [], _, _, _, h => by cases h
  | x :: S, a, hd, hu, h => by
    by_cases hS : j ∈ S
    · exact putS_on hj S (a.put (dstOf l x) (vs x)) (by rw [put_size]; exact hd) (fun i hi => hu i (by simp [hi])) hS
    · obtain rfl : j = x := by
        rcases List.mem_cons.1 h with e | e
        · exact e
        · exact absurd e hS
      have h1 := putS_off (l := l) (vs := vs) (d := d) S (a.put (dstOf l j) (vs j)) (fun i hi e => hS (hu i (by simp [hi]) e ▸ hi))
      refine h1.trans ?_
      rw [hj]
      exact Act.eval_put_same a d (vs j) hd
theorem putS_congr {l : List Oper} {vs us : Nat → Value} : ∀ (S : List Nat) (a : Act), (∀ i ∈ S, vs i = us i) → putS l vs S a = putS l us S a
  | [], _, _ => rfl
  | x :: S, a, h => by
    show putS l vs S (a.put (dstOf l x) (vs x)) = putS l us S (a.put (dstOf l x) (us x))
    rw [h x (by simp)]
    exact putS_congr S _ fun i hi => h i (by simp [hi])
def noSel (o : Oper) : Bool := match o.op with | .select _ _ => false | _ => true
theorem noSel_spec {o : Oper} (h : noSel o = true) : ∀ cs b, o.op ≠ .select cs b := by
  intro cs b e
  unfold noSel at h
  rw [e] at h
  cases h
/-- No select; edges and guards point backwards; slots are written once, and read behind that alone. -/
def freeB (l : List Oper) (N : Nat) : Bool :=
  (List.range l.length).all fun i => match l[i]? with
    | none => true
    | some o => (match o.guard with | none => true | some (g, _) => decide (g < i)) && (noSel o && ((o.after.all fun e => !Region.binds .any e || decide (e.on < i)) && ((match o.dst with | none => true | some d => decide (d < N) && !(o.looksAt l.toArray).contains d) &&
      ((List.range l.length).all fun j => decide (j = i) || (match dstOf l j with | none => true | some d => o.dst != some d && (!(o.looksAt l.toArray).contains d || Region.waitsFor .any l.toArray i j))))))
structure FreeOp (l : List Oper) (N : Nat) (i : Nat) (o : Oper) : Prop where
  guard : ∀ g b, o.guard = some (g, b) → g < i
  sel : ∀ cs b, o.op ≠ .select cs b
  back : ∀ e ∈ o.after, Region.binds .any e = true → e.on < i
  own : ∀ d, o.dst = some d → d < N ∧ d ∉ o.looksAt l.toArray
  apart : ∀ j d, j < l.length → j ≠ i → dstOf l j = some d → o.dst ≠ some d ∧ (d ∈ o.looksAt l.toArray → ∃ e ∈ o.after, Region.binds .any e = true ∧ e.on = j)
theorem freeB_spec {l : List Oper} {N : Nat} (h : freeB l N = true) {i : Nat} {o : Oper} (ho : l[i]? = some o) : FreeOp l N i o := by
  have hi : i < l.length := (List.getElem?_eq_some_iff.1 ho).1
  have h1 := List.all_eq_true.1 h i (List.mem_range.2 hi)
  simp only [ho, Bool.and_eq_true] at h1
  obtain ⟨hg, hs, hb, hw, ha⟩ := h1
  refine ⟨fun g b hgb => by rw [hgb] at hg; simpa using hg, noSel_spec hs, fun e he hbi => by simpa [hbi] using (Array.all_eq_true_iff_forall_mem.1 hb) e he, fun d hd => ?_, fun j d hj hji hd => ?_⟩
  · rw [hd] at hw
    simp only [Bool.and_eq_true, decide_eq_true_eq, Bool.not_eq_true', List.contains_eq_mem, decide_eq_false_iff_not] at hw
    exact hw
  · have h2 := List.all_eq_true.1 ha j (List.mem_range.2 hj)
    simp only [hd, Bool.or_eq_true, decide_eq_true_eq, Bool.and_eq_true, bne_iff_ne, Bool.not_eq_true', List.contains_eq_mem, decide_eq_false_iff_not] at h2
    rcases h2 with h2 | ⟨h2, h3⟩
    · exact absurd h2 hji
    · refine ⟨h2, fun hl => ?_⟩
      rcases h3 with h3 | h3
      · exact absurd hl h3
      · obtain ⟨oj, hoj, hh⟩ := Region.waitsFor_spec h3
        have : oj = o := by
          simp only [List.getElem?_toArray] at hoj
          rw [ho] at hoj
          exact (Option.some.inj hoj).symm
        rw [this] at hh
        exact hh
/-- What an operation finds in the slots that it reads. -/
structure Finds (l : List Oper) (Φ : Nat → Value → World → Prop) (a0 : Act) (o : Oper) (a : Act) (w : World) : Prop where
  from_ : ∀ j d, dstOf l j = some d → d ∈ o.looksAt l.toArray → Φ j (a.eval (.tmp d)) w
  old : ∀ d, (∀ j, j < l.length → dstOf l j ≠ some d) → a.eval (.tmp d) = a0.eval (.tmp d)
/-- An operation runs, or is passed over, and what it yields is as G says. -/
def Ran (P : Program) (ops : Array Oper) (o : Oper) (a : Act) (w : World) (G : Value → World → Prop) : Prop :=
  if Region.wanted o (yielded ops a.tmps) = true then Oper.wp P o a w (fun a' w' => ∃ v, a' = a.put o.dst v ∧ G v w') (fun _ _ _ => False) else G undef w
theorem Ran.plain {P : Program} {ops : Array Oper} {o : Oper} {a : Act} {w : World} {G : Value → World → Prop} (hg : o.guard = none) (h : Oper.wp P o a w (fun a' w' => ∃ v, a' = a.put o.dst v ∧ G v w') (fun _ _ _ => False)) : Ran P ops o a w G := by
  unfold Ran
  rw [if_pos (by simp [Region.wanted, hg])]
  exact h
end Go.Proofs.YtimkmokomohgjaaGreat
namespace Go.Proofs.YtimkmokomohgjaaGreat
open Go.RowKit
def headTail (n m : Nat) : Array Bool := (List.replicate n true ++ List.replicate (m - n) false).toArray
/-- The tail waits for the whole head, and each of it for the one before. -/
def tailB (m : List Oper) (n z : Nat) : Bool :=
  ((List.range n).all fun j => decide (n = m.length) || decide (j = z) || Region.waitsFor .any m.toArray n j) && ((List.range m.length).all fun t => decide (t ≤ n) || Region.waitsFor .any m.toArray t (t - 1))
theorem tailB_spec {m : List Oper} {n z : Nat} (h : tailB m n z = true) {t : Nat} (ht : n ≤ t) (htm : t < m.length) :
    (n = t ∧ ∀ q, q < n → q ≠ z → ∀ o, m[t]? = some o → ∃ e ∈ o.after, Region.binds .any e = true ∧ e.on = q) ∨ (n < t ∧ ∀ o, m[t]? = some o → ∃ e ∈ o.after, Region.binds .any e = true ∧ e.on = t - 1) := by
  simp only [tailB, Bool.and_eq_true, List.all_eq_true, List.mem_range, Bool.or_eq_true, decide_eq_true_eq] at h
  have conv : ∀ q o, m[t]? = some o → Region.waitsFor .any m.toArray t q = true → ∃ e ∈ o.after, Region.binds .any e = true ∧ e.on = q := by
    intro q o ho hw
    obtain ⟨oj, hoj, hh⟩ := Region.waitsFor_spec hw
    have : oj = o := by
      simp only [List.getElem?_toArray] at hoj
      rw [ho] at hoj
      exact (Option.some.inj hoj).symm
    rw [this] at hh
    exact hh
  rcases Nat.eq_or_lt_of_le ht with rfl | hlt
  · refine .inl ⟨rfl, fun q hq hqz o ho => ?_⟩
    rcases h.1 q hq with (h1 | h1) | h1
    · omega
    · exact absurd h1 hqz
    · exact conv q o ho h1
  · refine .inr ⟨hlt, fun o ho => ?_⟩
    rcases h.2 t htm with h1 | h1
    · omega
    · exact conv _ o ho h1
/-- The head but for z, and the first of the tail. -/
def lazyTail (n z m : Nat) : Array Bool := ((List.range m).map fun i => decide (i ≤ n) && decide (i ≠ z)).toArray
/-- Where the tail's first is taken ahead of z: z comes next, and then the tail's rest. -/
def lazyB (m : List Oper) (n z : Nat) : Bool :=
  decide (n ≤ z) || (decide (n < m.length) && decide (Region.ready .any m.toArray (lazyTail n z m.length) = [z]) && Region.seqB .any m.toArray (m.length - (n + 1)) (n + 1) (headTail (n + 1) m.length))
theorem putS_perm {l : List Oper} {vs : Nat → Value} {S S' : List Nat} {a : Act} (hB : freeB l a.tmps.size = true) (hp : S.Perm S') (hS : ∀ x ∈ S, x < l.length) : putS l vs S a = putS l vs S' a := by
  refine hp.foldl_eq' (fun x hx y hy z => ?_) a
  by_cases hxy : x = y
  · rw [hxy]
  · refine Act.put_comm z (vs x) (vs y) fun d hdx hdy => ?_
    have hx' := hS x hx
    have hy' := hS y hy
    have hox : l[x]? = some l[x] := List.getElem?_eq_getElem hx'
    have := (freeB_spec hB hox).apart y d hy' (Ne.symm hxy) hdy
    exact this.1 (by simpa [dstOf, hox] using hdx)
/-- The same over any relation of worlds that is handed on, in the place of Ext. -/
theorem wp_region_free_tailR {P : Program} {id : Nat} {Q : Exit → Act → World → Prop} {a0 : Act} {w0 : World} {m : List Oper} (R : World → World → Prop) (hR0 : R w0 w0.drew) (hRt : ∀ {x y z : World}, R x y → R y z → R x z) (n z : Nat) (Φ : Nat → Value → World → Prop) (hm : P.follows .mixedOrders = true) (hn : n ≤ m.length) (hB : freeB (m.take n) a0.tmps.size = true)
    (hT : tailB m n z = true) (hL : lazyB m n z = true) (hS : Region.seqB .any m.toArray (m.length - n) n (headTail n m.length) = true)
    (hmono : ∀ i v w w', Φ i v w → R w w' → Φ i v w')
    (hob : ∀ i o, i < n → m[i]? = some o → ∀ a w, R w0 w → Finds (m.take n) Φ a0 o a w → Ran P m.toArray o a w (fun v w' => Φ i v w' ∧ R w w'))
    (hQ : ∀ vs : Nat → Value, ∀ w, R w0 w → (∀ i, i < n → Φ i (vs i) w) → wpList P m.toArray Q (m.drop n) (putAll (m.take n) vs a0) w)
    (hZ : z < n → ∀ vs : Nat → Value, ∀ w, R w0 w → (∀ i, i < n → i ≠ z → Φ i (vs i) w) → ∀ on oz, m[n]? = some on → m[z]? = some oz → wpList P m.toArray Q (on :: oz :: m.drop (n + 1)) (putS (m.take n) vs ((List.range n).filter (· ≠ z)) a0) w) : (Code.region id m.toArray true).wp P Q a0 w0 := by
  refine wp_region_any hm ?_
  obtain ⟨l, hl⟩ : ∃ l, m.take n = l := ⟨_, rfl⟩
  have hln : l.length = n := by rw [← hl, List.length_take]; omega
  have hget : ∀ i, i < n → m[i]? = l[i]? := fun i hi => by rw [← hl, List.getElem?_take]; simp [hi]
  rw [hl] at hB hob hQ hZ
  have key : ∀ (f : Nat) (S : List Nat) (vs : Nat → Value) (listed : Array Bool) (w : World), R w0 w → S.Nodup → (∀ i, i ∈ S ↔ i < l.length ∧ listed.getD i false = true) → listed.size = m.length ∧ (∀ i, l.length ≤ i → listed.getD i false = false) → S.length + f = l.length →
      (∀ i ∈ S, Φ i (vs i) w) → wpAny P .any m.toArray Q (f + (m.length - n)) listed (putS l vs S a0) w := by
    intro f
    induction f with
    | zero =>
      intro S vs listed w hE hd hmem hsz hlen hΦ
      have hall : ∀ i, i < l.length → i ∈ S := by
        intro i hi
        rcases Classical.em (i ∈ S) with h | h
        · exact h
        · have h1 := nodup_le' (S := i :: S) (N := l.length) (by simp [h, hd]) (by
            intro x hx
            rcases List.mem_cons.1 hx with rfl | hx
            · exact hi
            · exact ((hmem x).1 hx).1)
          simp at h1
          omega
      have hp : S.Perm (List.range l.length) := (List.perm_ext_iff_of_nodup hd List.nodup_range).2 fun i => ⟨fun h => List.mem_range.2 ((hmem i).1 h).1, fun h => hall i (List.mem_range.1 h)⟩
      have he : putS l vs S a0 = putAll l vs a0 := putS_perm hB hp fun x hx => ((hmem x).1 hx).1
      rw [he, Nat.zero_add]
      have hs1 := hsz.1
      have hlist : listed = headTail n m.length := by
        refine Array.ext_getElem? fun i => ?_
        rcases Nat.lt_or_ge i m.length with hi | hi
        · have h1 : listed[i]? = some (listed.getD i false) := by
            have : i < listed.size := by omega
            simp [Array.getD, this]
          rw [h1]
          rcases Nat.lt_or_ge i n with h2 | h2
          · rw [((hmem i).1 (hall i (by omega))).2]
            simp [headTail, List.getElem?_append, h2]
          · rw [hsz.2 i (by omega)]
            simp only [headTail, List.getElem?_toArray, List.getElem?_append, List.length_replicate, Nat.not_lt.2 h2, if_false, List.getElem?_replicate]
            rw [if_pos (by omega)]
        · rw [Array.getElem?_eq_none (by omega)]
          simp [headTail]
          omega
      rw [hlist]
      have hdl : (m.drop n).length = m.length - n := by simp
      have := wpAny_of_seq (md := .any) (Q' := Q) (m.drop n) n (headTail n m.length) _ w (fun j => by simp [List.getElem?_drop]) (by rw [hdl]; exact hS) (hQ vs w hE fun i hi => hΦ i (hall i (by omega)))
      rwa [hdl] at this
    | succ f ih =>
      intro S vs listed w hE hd hmem hsz hlen hΦ
      rw [Nat.add_right_comm]
      have hex : ∃ i, i < l.length ∧ i ∉ S := by
        rcases Classical.em (∃ i, i < l.length ∧ i ∉ S) with h | h
        · exact h
        · have hsub : (List.range l.length).length ≤ S.length := nodup_sub_le _ _ List.nodup_range fun i hi => by
            rcases Classical.em (i ∈ S) with h2 | h2
            · exact h2
            · exact absurd ⟨i, List.mem_range.1 hi, h2⟩ h
          simp at hsub
          omega
      refine ⟨fun hr => ?_, fun i hi => ?_⟩
      · -- some operation is still to come: the first of them is ready
        exfalso
        have hmin : ∀ (k i : Nat), i ≤ k → i < l.length → i ∉ S → False := by
          intro k
          induction k with
          | zero =>
            intro i hik hi hiS
            obtain rfl : i = 0 := by omega
            have ho : l[0]? = some l[0] := List.getElem?_eq_getElem hi
            have hfr := freeB_spec hB ho
            have : 0 ∈ Region.ready .any m.toArray listed := mem_ready.2 ⟨getD_in (by have := hsz.1; omega) (by
              cases hh : listed.getD 0 false
              · rfl
              · exact absurd ((hmem 0).2 ⟨hi, hh⟩) hiS), l[0], by rw [List.getElem?_toArray, hget 0 (by omega)]; simp, fun e he hbi => absurd (hfr.back e he hbi) (by omega)⟩
            rw [hr] at this
            cases this
          | succ k ihk =>
            intro i hik hi hiS
            have ho : l[i]? = some l[i] := List.getElem?_eq_getElem hi
            have hfr := freeB_spec hB ho
            have : i ∈ Region.ready .any m.toArray listed := mem_ready.2 ⟨getD_in (by have := hsz.1; omega) (by
              cases hh : listed.getD i false
              · rfl
              · exact absurd ((hmem i).2 ⟨hi, hh⟩) hiS), l[i], by rw [List.getElem?_toArray, hget i (by omega)]; simp, fun e he hbi => by
                have hlt := hfr.back e he hbi
                rcases Classical.em (e.on ∈ S) with h | h
                · exact ((hmem _).1 h).2
                · exact (ihk e.on (by omega) (by omega) h).elim⟩
            rw [hr] at this
            cases this
        obtain ⟨i, hi, hiS⟩ := hex
        exact hmin i i (Nat.le_refl _) hi hiS
      · obtain ⟨hun, o, ho, hall⟩ := mem_ready.1 hi
        have hcase : i < n ∨ (i = n ∧ z < n ∧ z ∉ S ∧ ∀ q, q < n → q ≠ z → q ∈ S) := by
          rcases Nat.lt_or_ge i n with h | h
          · exact .inl h
          · refine .inr ?_
            obtain ⟨q, hq, hqS⟩ := hex
            rcases tailB_spec hT h (by simpa using (Array.getElem?_eq_some_iff.1 ho).1) with ⟨rfl, hw⟩ | ⟨hlt, hw⟩
            · have hall2 : ∀ q, q < n → q ≠ z → q ∈ S := by
                intro q hq hqz
                obtain ⟨e, he, hb, hon⟩ := hw q hq hqz o (by simpa using ho)
                have h1 := hall e he hb
                rw [hon] at h1
                exact (hmem q).2 ⟨by omega, h1⟩
              have hqz : q = z := by
                rcases Classical.em (q = z) with h3 | h3
                · exact h3
                · exact absurd (hall2 q (by omega) h3) hqS
              exact ⟨rfl, by omega, hqz ▸ hqS, hall2⟩
            · obtain ⟨e, he, hb, hon⟩ := hw o (by simpa using ho)
              have h1 := hall e he hb
              rw [hon, hsz.2 (i - 1) (by omega)] at h1
              cases h1
        rcases hcase with hin | ⟨rfl, hzn, hzS, hall2⟩
        case inr =>
          have hperm : S.Perm ((List.range i).filter (· ≠ z)) := (List.perm_ext_iff_of_nodup hd ((List.Pairwise.filter _ List.nodup_range))).2 fun q => by
            simp only [List.mem_filter, List.mem_range, decide_eq_true_eq]
            exact ⟨fun h => ⟨by have := ((hmem q).1 h).1; omega, fun e => hzS (e ▸ h)⟩, fun h => hall2 q h.1 h.2⟩
          have hf0 : f = 0 := by
            have h1 := hperm.length_eq
            have h2 : ((List.range i).filter (· ≠ z)).length + 1 = i := by
              have h3 := nodup_sub_le (List.range i) (z :: (List.range i).filter (· ≠ z)) List.nodup_range fun q hq => by
                rcases Classical.em (q = z) with h4 | h4
                · simp [h4]
                · simp [h4, List.mem_range.1 hq]
              have h5 := nodup_sub_le (z :: (List.range i).filter (· ≠ z)) (List.range i) (by
                rw [List.nodup_cons]
                exact ⟨by simp, (List.Pairwise.filter _ List.nodup_range)⟩) fun q hq => by
                rcases List.mem_cons.1 hq with rfl | h4
                · exact List.mem_range.2 hzn
                · exact (List.mem_filter.1 h4).1
              simp only [List.length_cons, List.length_range] at h3 h5
              omega
            omega
          subst hf0
          have him : i < m.length := by simpa using (Array.getElem?_eq_some_iff.1 ho).1
          simp only [lazyB, Bool.or_eq_true, decide_eq_true_eq, Bool.and_eq_true] at hL
          obtain ⟨⟨_, hrz⟩, hsq⟩ := hL.resolve_left (by omega)
          have hs1 := hsz.1
          have hset : listed.setIfInBounds i true = lazyTail i z m.length := by
            refine Array.ext_getElem? fun k => ?_
            rcases Nat.lt_or_ge k m.length with hk | hk
            · have h1 : (listed.setIfInBounds i true)[k]? = some ((listed.setIfInBounds i true).getD k false) := by
                have hk2 : k < listed.size := by omega
                simp [Array.getD, hk2]
              rw [h1]
              have h2 : (lazyTail i z m.length)[k]? = some (decide (k ≤ i) && decide (k ≠ z)) := by simp [lazyTail, hk]
              rw [h2]
              congr 1
              by_cases hki : k = i
              · subst hki
                have : (listed.setIfInBounds k true).getD k false = true := by simp [show k < listed.size by omega]
                rw [this]
                simp
                omega
              · have : (listed.setIfInBounds i true).getD k false = listed.getD k false := getD_set_ne false (Ne.symm hki)
                rw [this]
                rcases Nat.lt_or_ge k i with h3 | h3
                · by_cases hkz : k = z
                  · subst hkz
                    have : listed.getD k false = false := by
                      cases hh : listed.getD k false
                      · rfl
                      · exact absurd ((hmem k).2 ⟨by omega, hh⟩) hzS
                    rw [this]
                    simp
                  · rw [((hmem k).1 (hall2 k h3 hkz)).2]
                    simp [hkz]
                    omega
                · rw [hsz.2 k (by omega)]
                  simp
                  omega
            · exact (Array.getElem?_eq_none (by simp; omega)).trans (Array.getElem?_eq_none (by simp [lazyTail]; omega)).symm
          have hzm : z < m.length := by omega
          have hoz : m[z]? = some m[z] := List.getElem?_eq_getElem hzm
          have hon : m[i]? = some o := by simpa using ho
          have hall3 := hZ hzn vs w hE (fun q hq hqz => hΦ q (hall2 q hq hqz)) o m[z] hon hoz
          rw [← putS_perm hB hperm fun x hx => ((hmem x).1 hx).1] at hall3
          have hw : wpOp P m.toArray Q i (wpList P m.toArray Q (m[z] :: m.drop (i + 1))) (putS l vs S a0) w := by
            unfold wpOp
            simp only [ho]
            exact hall3
          refine wpOp_mono (fun a' w' h' => ?_) hw
          rw [hset]
          have hlen2 : 0 + (m.length - i) = (m.length - (i + 1)) + 1 := by omega
          rw [hlen2]
          refine ⟨fun h1 => (by rw [hrz] at h1; cases h1), fun k hk => ?_⟩
          rw [hrz] at hk
          obtain rfl : k = z := by simpa using hk
          have hw2 : wpOp P m.toArray Q k (wpList P m.toArray Q (m.drop (i + 1))) a' w' := by
            unfold wpOp
            simp only [List.getElem?_toArray, hoz]
            exact h'
          refine wpOp_mono (fun a2 w2 h2 => ?_) hw2
          have hset2 : (lazyTail i k m.length).setIfInBounds k true = headTail (i + 1) m.length := by
            refine Array.ext_getElem? fun j => ?_
            rcases Nat.lt_or_ge j m.length with hj | hj
            · by_cases hjk : j = k
              · subst hjk
                rw [Array.getElem?_setIfInBounds_self_of_lt (by simp [lazyTail]; omega)]
                simp [headTail, List.getElem?_append, show j < i + 1 by omega]
              · rw [Array.getElem?_setIfInBounds_ne (Ne.symm hjk)]
                simp only [lazyTail, headTail, List.getElem?_toArray, List.getElem?_map, List.getElem?_range hj, Option.map_some]
                rcases Nat.lt_or_ge j (i + 1) with h3 | h3
                · simp [List.getElem?_append, h3, hjk]
                  omega
                · simp [List.getElem?_append, Nat.not_lt.2 h3, List.getElem?_replicate]
                  omega
            · exact (Array.getElem?_eq_none (by simp [lazyTail]; omega)).trans (Array.getElem?_eq_none (by simp [headTail]; omega)).symm
          rw [hset2]
          have hdl : (m.drop (i + 1)).length = m.length - (i + 1) := by simp
          have := wpAny_of_seq (md := .any) (Q' := Q) (m.drop (i + 1)) (i + 1) (headTail (i + 1) m.length) a2 w2 (fun j => by simp [List.getElem?_drop]) (by rw [hdl]; exact hsq) h2
          rwa [hdl] at this
        have ho' : l[i]? = some o := by rw [← hget i hin]; simpa using ho
        have hil : i < l.length := (List.getElem?_eq_some_iff.1 ho').1
        have hiS : i ∉ S := fun h => by
          have := ((hmem i).1 h).2
          rw [getD_both hun] at this
          cases this
        have hfr := freeB_spec hB ho'
        have hF : Finds l Φ a0 o (putS l vs S a0) w := by
          constructor
          · intro j d hjd hlook
            have hj : j < l.length := by
              rcases Nat.lt_or_ge j l.length with h | h
              · exact h
              · simp [dstOf, List.getElem?_eq_none h] at hjd
            by_cases hji : j = i
            · subst hji
              have hod : o.dst = some d := by simpa [dstOf, ho'] using hjd
              exact absurd hlook (hfr.own d hod).2
            · obtain ⟨e, he, hb, hon⟩ := (hfr.apart j d hj hji hjd).2 hlook
              have hjS : j ∈ S := (hmem j).2 ⟨hj, by rw [← hon]; exact hall e he hb⟩
              have hoj : l[j]? = some l[j] := List.getElem?_eq_getElem hj
              have hsize : d < a0.tmps.size := ((freeB_spec hB hoj).own d (by simpa [dstOf, hoj] using hjd)).1
              rw [putS_on hjd S a0 hsize (fun k hk hkd => by
                rcases Classical.em (k = j) with h | h
                · exact h
                · exact absurd (by simpa [dstOf, hoj] using hjd) ((freeB_spec hB hoj).apart k d ((hmem k).1 hk).1 h hkd).1) hjS]
              exact hΦ j hjS
          · intro d hno
            exact putS_off S a0 fun k hk => hno k ((hmem k).1 hk).1
        have hw := hob i o hin (by rw [hget i hin]; exact ho') (putS l vs S a0) w hE hF
        have next : ∀ v w', (Φ i v w' ∧ R w w') → wpAny P .any m.toArray Q (f + (m.length - n)) (listed.setIfInBounds i true) ((putS l vs S a0).put o.dst v) w' := by
          rintro v w' ⟨hv, hE'⟩
          have hdo : dstOf l i = o.dst := by simp [dstOf, ho']
          have hvs : (putS l vs S a0).put o.dst v = putS l (fun k => if k = i then v else vs k) (S ++ [i]) a0 := by
            unfold putS
            rw [List.foldl_append]
            simp only [List.foldl_cons, List.foldl_nil, if_true, hdo]
            congr 1
            exact putS_congr S a0 fun k hk => by
              have : k ≠ i := fun e => hiS (e ▸ hk)
              simp [this]
          rw [hvs]
          refine ih (S ++ [i]) _ _ w' (hRt hE hE') ?_ ?_ ⟨by simpa using hsz.1, fun k hk => ?_⟩ (by simp; omega) ?_
          · rw [List.nodup_append]
            exact ⟨hd, by simp, fun x hx y hy e => by simp at hy; subst hy; exact hiS (e ▸ hx)⟩
          · intro k
            simp only [List.mem_append, List.mem_singleton, hmem k]
            by_cases hki : k = i
            · subst hki
              have := hsz.1
              simp [hil, show k < listed.size by omega]
            · have : (listed.setIfInBounds i true).getD k false = listed.getD k false := getD_set_ne false (Ne.symm hki)
              rw [this]
              simp [hki]
          · have : (listed.setIfInBounds i true).getD k false = listed.getD k false := getD_set_ne false (by omega)
            rw [this]
            exact hsz.2 k hk
          · intro k hk
            by_cases hki : k = i
            · subst hki; simpa using hv
            · rw [if_neg hki]
              rcases List.mem_append.1 hk with h | h
              · exact hmono _ _ _ _ (hΦ k h) hE'
              · exact absurd (by simpa using h) hki
        unfold wpOp
        rw [ho]
        simp only []
        unfold Ran at hw
        split
        · rename_i hwd
          rw [if_pos hwd] at hw
          refine .inl ?_
          have hw2 : Oper.wp P o (putS l vs S a0) w (fun a' w' => ∃ v, a' = (putS l vs S a0).put o.dst v ∧ Φ i v w' ∧ R w w') Q := by
            unfold Oper.wp at hw ⊢
            generalize (execOp (putS l vs S a0).eval o).run P w = r at *
            cases r with
            | ok x w' =>
              cases x <;> simp only [Oper.upon] at hw ⊢
              all_goals first
                | exact hw
                | exact Calls.mono hw (fun e w'' he => by cases e <;> first | exact he | exact (he : False).elim | (obtain ⟨_, _, hh⟩ := he; exact hh.elim))
                | exact Rows.mono hw (fun _ _ he => he)
            | halt x w' => cases x <;> simp only [Oper.upon] at hw
          refine Oper.wp_mono ?_ hw2
          rintro a' w' ⟨v, rfl, hv⟩
          exact next v w' hv
        · rename_i hwd
          rw [if_neg hwd] at hw
          exact next undef w hw
  have := key n [] (fun _ => undef) (Array.replicate m.toArray.size false) _ hR0 (by simp) (by
    intro i
    have h0 := getD_replicate_false m.toArray.size i
    simp only [h0]
    simp) ⟨by simp, by
    intro i hi
    exact getD_replicate_false _ _⟩ (by simp; omega) (by simp)
  rw [show n + (m.length - n) = m.toArray.size by simp; omega] at this
  exact this
theorem wp_region_free_tail {P : Program} {id : Nat} {Q : Exit → Act → World → Prop} {a0 : Act} {w0 : World} {m : List Oper} (n z : Nat) (Φ : Nat → Value → World → Prop) (hm : P.follows .mixedOrders = true) (hn : n ≤ m.length) (hB : freeB (m.take n) a0.tmps.size = true)
    (hT : tailB m n z = true) (hL : lazyB m n z = true) (hS : Region.seqB .any m.toArray (m.length - n) n (headTail n m.length) = true)
    (hmono : ∀ i v w w', Φ i v w → Ext w w' → Φ i v w')
    (hob : ∀ i o, i < n → m[i]? = some o → ∀ a w, Ext w0 w → Finds (m.take n) Φ a0 o a w → Ran P m.toArray o a w (fun v w' => Φ i v w' ∧ Ext w w'))
    (hQ : ∀ vs : Nat → Value, ∀ w, Ext w0 w → (∀ i, i < n → Φ i (vs i) w) → wpList P m.toArray Q (m.drop n) (putAll (m.take n) vs a0) w)
    (hZ : z < n → ∀ vs : Nat → Value, ∀ w, Ext w0 w → (∀ i, i < n → i ≠ z → Φ i (vs i) w) → ∀ on oz, m[n]? = some on → m[z]? = some oz → wpList P m.toArray Q (on :: oz :: m.drop (n + 1)) (putS (m.take n) vs ((List.range n).filter (· ≠ z)) a0) w) : (Code.region id m.toArray true).wp P Q a0 w0 :=
  wp_region_free_tailR Ext ((Ext.refl w0).drew) (fun h k => h.trans k) n z Φ hm hn hB hT hL hS hmono hob hQ hZ
end Go.Proofs.YtimkmokomohgjaaGreat
