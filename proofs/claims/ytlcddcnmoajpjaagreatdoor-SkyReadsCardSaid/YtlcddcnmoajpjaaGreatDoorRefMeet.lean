/- The walks of the reference's Meets, Near, Next. -/
import Derived.Test.YtlcddcnmoajpjaaGreatDoorV18
namespace Go.Proofs.YtlcddcnmoajpjaaGreatDoor
open Go.RowKit
open Sp (rd)

/-- Behind k days. -/
def RMeetsRel (w : World) (s : Sp.Sky) (i j lo : Int) (N : Nat) (v d : Value) (wr : World) : Prop :=
  ∃ k : Nat, k ≤ N ∧ d = .int .i64 (lo + (k : Int)) ∧ wr.ownsRow w.heap.size 3 1 v (Sp.meetsN s i j lo k).length (intCells (Sp.meetsN s i j lo k)) ∧ Ext w wr
theorem meetsN_short (s : Sp.Sky) (i j lo : Int) (k : Nat) : (Sp.meetsN s i j lo k).length ≤ k := by
  induction k with
  | zero => simp [Sp.meetsN]
  | succ k ih =>
    rw [Sp.meetsN, List.length_append]
    split
    · simp; exact ih
    · simp; omega
theorem intCells_snoc (l : List Int) (d : Int) : intCells (l ++ [d]) = intCells l ++ [Value.int .i64 d] := by simp [intCells]

set_option maxRecDepth 100000 in
set_option maxHeartbeats 2000000 in
theorem r_Meets_any (s : Sp.Sky) (A : Option Addr) (c : Nat) (x y z i j lo hi : Int) (w : World) (hs : SkyOk s) (hm : Bodies w A s.bodies) (i1 : 0 ≤ i) (i2 : i < s.bodies.length) (j1 : 0 ≤ j) (j2 : j < s.bodies.length) (h1 : 1 ≤ lo) (h2 : lo ≤ hi) (h3 : hi ≤ 20000) :
    Calls Tryz.prog 66 #[.agg #[.slice A s.bodies.length c, .int .i64 x, .int .i64 y, .int .i64 z], .int .i64 i, .int .i64 j, .int .i64 lo, .int .i64 hi] w fun e w' => ∃ v, e = .returned v ∧ IntsVal w' v (Sp.meetsL s i j lo hi) ∧ Ext w w' := by
  have HM := Lib.hid hm
  have HS := Lib.hid hs
  clear hm hs
  obtain ⟨i0, hi0, hi1, hi2, hi3⟩ := info_parts info_int
  obtain ⟨N, hN⟩ : ∃ N : Nat, hi + 1 - lo = (N : Int) := ⟨(hi + 1 - lo).toNat, by omega⟩
  have hML : Sp.meetsL s i j lo hi = Sp.meetsN s i j lo N := by unfold Sp.meetsL; rw [hN]; rfl
  rw [hML]
  clear hML
  go_enter Tryz.func66, Tryz.ntmps66
  go_wp2_with fail
  have hr0 := Row.new w 28 #[.slice A s.bodies.length c, .int .i64 x, .int .i64 y, .int .i64 z]
  have hE0 : Ext w (w.alloc (.cells #[.slice A s.bodies.length c, .int .i64 x, .int .i64 y, .int .i64 z] 28)) := (Ext.refl w).alloc _
  generalize w.alloc (.cells #[.slice A s.bodies.length c, .int .i64 x, .int .i64 y, .int .i64 z] 28) = w1 at *
  go_loopw [11, 12] (fun v d wr => RMeetsRel w1 s i j lo N v d wr) (fun _ d _ => (hi + 1 - intOf d).toNat)
  case atStart => exact ⟨0, Nat.zero_le _, by go_num, World.ownsRow_nil _ _ _ _, Ext.refl _⟩
  case round =>
    obtain ⟨k, hk, rfl, hown, hE⟩ := hrel
    have HRW := Lib.hid (hr0.ext hE)
    have hle := meetsN_short s i j lo k
    have hz := hE.size
    by_cases hlt : k < N
    · have l1 := ahead_lim HS.out i1 i2 j1 j2 (day := lo + (k : Int)) (by omega) (by omega)
      have l2 := ahead_lim HS.out i1 i2 j1 j2 (day := lo + (k : Int) - 1) (by omega) (by omega)
      have HE := Lib.hid hE
      have HO := Lib.hid hown
      have HN : Hid (Sp.meetsN s i j lo (k + 1) = Sp.meetsN s i j lo k ++ (if Sp.meetB s i j (lo + k) then [lo + (k : Int)] else [])) := Lib.hid rfl
      obtain ⟨L, hL⟩ : ∃ L, Sp.meetsN s i j lo k = L := ⟨_, rfl⟩
      rw [hL] at HO hle HN
      clear hown hE hL
      go_wp2_with fail
      refine wp_region_later (by kernel_rfl) (by kernel_rfl) (fun W hW => ?_)
      subst hW
      have q1 := Later.block (w := W) HRW.out
      have HB := Lib.hid (fun X : Later W => HM.out.ext (hE0.trans (HE.out.trans X.ext)))
      repeat (go_big_quiet_step (fail))
      go_big_quiet_step ((go_at_call 129; exact Later.call (r_ahead_any s A c _ _ _ _ i j _ HS.out (by exact HB.out _) i1 i2 j1 j2 (by omega) (by omega))))
      repeat (go_big_quiet_step (fail))
      go_big_quiet_step ((go_at_call 129; exact Later.call (r_ahead_any s A c _ _ _ _ i j _ HS.out (by exact HB.out _) i1 i2 j1 j2 (by omega) (by omega))))
      repeat (go_big_quiet_step (fail))
      refine wpQuiet_nil ?_
      rintro ⟨w3, hE3⟩
      dsimp only
      have HE3 := Lib.hid (HE.out.trans hE3)
      have hown3 := ownsRow_of_block HO.out (fun g hg => hE3.block g (HO.out.lt g hg).2)
      have hz3 := hE3.size
      clear q1 hE3
      by_cases hmb : Sp.meetB s i j (lo + (k : Int)) = true
      · have HN2 := Lib.hid (HN.out.trans (by rw [if_pos hmb]))
        have HO3 := Lib.hid hown3
        clear hown3
        obtain ⟨P, hP⟩ : ∃ P, Sp.ahead s i j (lo + (k : Int) - 1) = P := ⟨_, rfl⟩
        obtain ⟨Q, hQ⟩ : ∃ Q, Sp.ahead s i j (lo + (k : Int)) = Q := ⟨_, rfl⟩
        unfold Sp.meetB at hmb
        rw [hP, hQ] at hmb
        rw [hP] at l2 ⊢
        rw [hQ] at l1 ⊢
        clear hP hQ
        cases p1 : Sp.passes P Q
        · have p2 : Sp.passes (-P) (-Q) = true := by rw [p1] at hmb; simpa using hmb
          go_wp2_with (first | (go_at_call 130; refine (r_passed_any _ _ _ (by omega) (by omega) (by omega) (by omega)).mono ?_; rintro e w' ⟨rfl, rfl⟩; first | rw [p1] | rw [p2]) | (at_builtin; refine wpList_append_own_at _ rfl _ _ 64 rfl w1.heap.size 3 i0 _ 1 8 Tryz.underlying64 hi0 hi1 hi2 hi3 rfl (by decide) _ L.length (intCells L) rfl (HO3.out.alloc (.cells #[.int .i64 (lo + (k : Int))] 3)) ⟨w3.heap.size, 0, none⟩ 1 1 [.int .i64 (lo + (k : Int))] rfl rfl (World.news_of_block (cs := #[.int .i64 (lo + (k : Int))]) (t := 3) (fr := (0, 0)) (heap_alloc_new _ _)) (by simp [Value.oneCell']) (by simp only [maxLen]; omega) (by omega) (by simp; omega) ?_; intro v' w5 hown5 hgrow _ _; have HO5 := Lib.hid hown5; have HG5 := Lib.hid hgrow; clear hown5 hgrow))
          refine ⟨⟨k + 1, by omega, by go_num, ?_, (HE3.out.alloc _).grown HG5.out (fun q hq => (HO3.out.lt q hq).1)⟩, by simp [intOf]; omega⟩
          rw [HN2.out, List.length_append, intCells_snoc]
          exact HO5.out
        · go_wp2_with (first | (go_at_call 130; refine (r_passed_any _ _ _ (by omega) (by omega) (by omega) (by omega)).mono ?_; rintro e w' ⟨rfl, rfl⟩; rw [p1]) | (at_builtin; refine wpList_append_own_at _ rfl _ _ 64 rfl w1.heap.size 3 i0 _ 1 8 Tryz.underlying64 hi0 hi1 hi2 hi3 rfl (by decide) _ L.length (intCells L) rfl (HO3.out.alloc (.cells #[.int .i64 (lo + (k : Int))] 3)) ⟨w3.heap.size, 0, none⟩ 1 1 [.int .i64 (lo + (k : Int))] rfl rfl (World.news_of_block (cs := #[.int .i64 (lo + (k : Int))]) (t := 3) (fr := (0, 0)) (heap_alloc_new _ _)) (by simp [Value.oneCell']) (by simp only [maxLen]; omega) (by omega) (by simp; omega) ?_; intro v' w5 hown5 hgrow _ _; have HO5 := Lib.hid hown5; have HG5 := Lib.hid hgrow; clear hown5 hgrow))
          refine ⟨⟨k + 1, by omega, by go_num, ?_, (HE3.out.alloc _).grown HG5.out (fun q hq => (HO3.out.lt q hq).1)⟩, by simp [intOf]; omega⟩
          rw [HN2.out, List.length_append, intCells_snoc]
          exact HO5.out
      · have HN2 := Lib.hid (HN.out.trans (by rw [if_neg hmb, List.append_nil]))
        have HO3 := Lib.hid hown3
        clear hown3
        obtain ⟨P, hP⟩ : ∃ P, Sp.ahead s i j (lo + (k : Int) - 1) = P := ⟨_, rfl⟩
        obtain ⟨Q, hQ⟩ : ∃ Q, Sp.ahead s i j (lo + (k : Int)) = Q := ⟨_, rfl⟩
        unfold Sp.meetB at hmb
        rw [hP, hQ] at hmb
        rw [hP] at l2 ⊢
        rw [hQ] at l1 ⊢
        clear hP hQ
        simp only [Bool.or_eq_true, not_or, Bool.not_eq_true] at hmb
        obtain ⟨p1, p2⟩ := hmb
        go_wp2_with (go_at_call 130; refine (r_passed_any _ _ _ (by omega) (by omega) (by omega) (by omega)).mono ?_; rintro e w' ⟨rfl, rfl⟩; first | rw [p1] | rw [p2])
        refine ⟨⟨k + 1, by omega, by go_num, ?_, HE3.out⟩, by simp [intOf]; omega⟩
        rw [HN2.out]
        exact HO3.out
    · obtain rfl : k = N := by omega
      have HO := Lib.hid hown
      have HE := Lib.hid hE
      clear hown hE
      go_wp2_with fail
      go_ret
      exact ⟨_, rfl, IntsVal.of_own HO.out, hE0.trans HE.out⟩

theorem near_apart (s : Sp.Sky) (i j d : Int) : Sp.apart (Sp.place (Sp.body s i) d) (Sp.place (Sp.body s j) d) = Sp.nearD s i j d := by
  unfold Sp.apart Sp.nearD Sp.round Sp.place Sp.ahead
  omega
theorem nearD_lim (s : Sp.Sky) (i j d : Int) : 0 ≤ Sp.nearD s i j d ∧ Sp.nearD s i j d ≤ 10800 := by
  unfold Sp.nearD Sp.round
  omega
/-- What is best of the first k days. -/
def nearAt (s : Sp.Sky) (i j lo : Int) : Nat → Int × Int
  | 0 => (0, 21600)
  | k + 1 => (Sp.nearN s i j lo k, Sp.nearD s i j (Sp.nearN s i j lo k))
theorem nearAt_succ (s : Sp.Sky) (i j lo : Int) (k : Nat) : nearAt s i j lo (k + 1) = if Sp.nearD s i j (lo + k) < (nearAt s i j lo k).2 then (lo + (k : Int), Sp.nearD s i j (lo + k)) else nearAt s i j lo k := by
  cases k with
  | zero =>
    have := nearD_lim s i j (lo + ((0 : Nat) : Int))
    rw [if_pos (by simp only [nearAt]; omega)]
    simp [nearAt, Sp.nearN]
  | succ k =>
    show (Sp.nearN s i j lo (k + 1), Sp.nearD s i j (Sp.nearN s i j lo (k + 1))) = if Sp.nearD s i j (lo + ((k + 1 : Nat) : Int)) < Sp.nearD s i j (Sp.nearN s i j lo k) then (lo + ((k + 1 : Nat) : Int), Sp.nearD s i j (lo + ((k + 1 : Nat) : Int))) else (Sp.nearN s i j lo k, Sp.nearD s i j (Sp.nearN s i j lo k))
    by_cases h : Sp.nearD s i j (lo + ((k + 1 : Nat) : Int)) < Sp.nearD s i j (Sp.nearN s i j lo k)
    · rw [if_pos h]
      simp only [Sp.nearN, if_pos h]
    · rw [if_neg h]
      simp only [Sp.nearN, if_neg h]

set_option maxRecDepth 100000 in
set_option maxHeartbeats 2000000 in
theorem r_Near_nat (s : Sp.Sky) (A : Option Addr) (c i j : Nat) (x y z lo hi : Int) (w : World) (hs : SkyOk s) (hm : Bodies w A s.bodies) (hi' : i < s.bodies.length) (hj' : j < s.bodies.length) (h1 : 1 ≤ lo) (h2 : lo ≤ hi) (h3 : hi ≤ 20000) :
    Calls Tryz.prog 65 #[.agg #[.slice A s.bodies.length c, .int .i64 x, .int .i64 y, .int .i64 z], .int .i64 (i : Int), .int .i64 (j : Int), .int .i64 lo, .int .i64 hi] w fun e w' => e = .returned (.tuple #[.int .i64 (Sp.nearL s i j lo hi), .int .i64 (Sp.nearD s i j (Sp.nearL s i j lo hi))]) ∧ Ext w w' := by
  have hn := hs.n4
  obtain ⟨N, hN⟩ : ∃ N : Nat, hi + 1 - lo = (N : Int) := ⟨(hi + 1 - lo).toNat, by omega⟩
  have hFIN : Hid (nearAt s i j lo N = (Sp.nearL s i j lo hi, Sp.nearD s i j (Sp.nearL s i j lo hi))) := Lib.hid (by
    obtain ⟨M, rfl⟩ : ∃ M, N = M + 1 := ⟨N - 1, by omega⟩
    have : (hi - lo).toNat = M := by omega
    simp only [nearAt, Sp.nearL, this])
  obtain ⟨b, o, rfl, hB⟩ := hm (by omega)
  have B1 := hB i hi'
  have B2 := hB j hj'
  have K1 := Lib.hid (hs.all i hi')
  have K2 := Lib.hid (hs.all j hj')
  obtain ⟨A1, r1, hr1, I1⟩ := B1.road
  obtain ⟨A2, r2, hr2, I2⟩ := B2.road
  have HI1 := Lib.hid I1
  have HI2 := Lib.hid I2
  have n1 := B1.num
  have d1 := B1.den
  have s1 := B1.start
  have n2 := B2.num
  have d2 := B2.den
  have s2 := B2.start
  have hap := Lib.hid (fun d => near_apart s (i : Int) (j : Int) d)
  have hnl := Lib.hid (fun d => nearD_lim s (i : Int) (j : Int) d)
  have hpl := fun (P : Sp.Body) d => emod_bounds (Sp.way P d) 21600 (by omega)
  have HPL := Lib.hid hpl
  have HST := Lib.hid (fun k => nearAt_succ s (i : Int) (j : Int) lo k)
  clear I1 I2 B1 B2 hB hm hs hpl
  have e1 : Sp.body s (i : Int) = bd s.bodies i := rfl
  have e2 : Sp.body s (j : Int) = bd s.bodies j := rfl
  rw [e1, e2] at hap
  clear e1 e2
  generalize bd s.bodies i = P at *
  generalize bd s.bodies j = Q at *
  have hi' : (0 : Int) ≤ (i : Int) ∧ (i : Int) < (s.bodies.length : Int) := by omega
  have hj' : (0 : Int) ≤ (j : Int) ∧ (j : Int) < (s.bodies.length : Int) := by omega
  go_enter Tryz.func65, Tryz.ntmps65
  go_wp2_with fail
  have hr0 := Row.new w 28 #[.slice (some ⟨b, o, none⟩) s.bodies.length c, .int .i64 x, .int .i64 y, .int .i64 z]
  have hE0 : Ext w (w.alloc (.cells #[.slice (some ⟨b, o, none⟩) s.bodies.length c, .int .i64 x, .int .i64 y, .int .i64 z] 28)) := (Ext.refl w).alloc _
  generalize w.alloc (.cells #[.slice (some ⟨b, o, none⟩) s.bodies.length c, .int .i64 x, .int .i64 y, .int .i64 z] 28) = w1 at *
  go_loopw [12, 13, 14] (fun u v d wr => ∃ k : Nat, k ≤ N ∧ u = .int .i64 (nearAt s i j lo k).1 ∧ v = .int .i64 (nearAt s i j lo k).2 ∧ d = .int .i64 (lo + (k : Int)) ∧ Ext w1 wr) (fun _ _ d _ => (hi + 1 - intOf d).toNat)
  case atStart => exact ⟨0, Nat.zero_le _, rfl, rfl, by go_num, Ext.refl _⟩
  case round =>
    obtain ⟨k, hk, rfl, rfl, rfl, hE⟩ := hrel
    by_cases hlt : k < N
    · have HRW := Lib.hid (hr0.ext hE)
      have HE := Lib.hid hE
      have hE1 := hE0.trans hE
      have HS := Lib.hid (HST.out k)
      clear hE
      obtain ⟨bu, bv⟩ : ∃ q : Int × Int, nearAt s i j lo k = q := ⟨_, rfl⟩
      rw [bv] at HS ⊢
      clear bv
      go_wp2_with fail
      refine wp_region_later (by kernel_rfl) (by kernel_rfl) (fun W hW => ?_)
      subst hW
      have q1 := Later.block (w := W) HRW.out
      have a1 := fun X : Later W => (hE1.trans X.ext).cell n1
      have a2 := fun X : Later W => (hE1.trans X.ext).cell d1
      have a3 := fun X : Later W => (hE1.trans X.ext).cell s1
      have a4 := fun X : Later W => (hE1.trans X.ext).cell hr1
      have b1 := fun X : Later W => (hE1.trans X.ext).cell n2
      have b2 := fun X : Later W => (hE1.trans X.ext).cell d2
      have b3 := fun X : Later W => (hE1.trans X.ext).cell s2
      have b4 := fun X : Later W => (hE1.trans X.ext).cell hr2
      have J1 := Lib.hid (fun X : Later W => HI1.out.ext (hE1.trans X.ext))
      have J2 := Lib.hid (fun X : Later W => HI2.out.ext (hE1.trans X.ext))
      have p1 : 0 ≤ Sp.place P (lo + (k : Int)) ∧ Sp.place P (lo + (k : Int)) < 21600 := HPL.out P _
      have p2 : 0 ≤ Sp.place Q (lo + (k : Int)) ∧ Sp.place Q (lo + (k : Int)) < 21600 := HPL.out Q _
      repeat (go_big_quiet_step (fail))
      go_big_quiet_step ((go_at_call 78; exact Later.call (r_Place_any P _ _ _ _ (by omega) (by omega) K1.out (by exact J1.out _))))
      repeat (go_big_quiet_step (fail))
      go_big_quiet_step ((go_at_call 78; exact Later.call (r_Place_any Q _ _ _ _ (by omega) (by omega) K2.out (by exact J2.out _))))
      repeat (go_big_quiet_step (fail))
      go_big_quiet_step ((go_at_call 40; exact Later.call ((r_Apart_any _ _ _ (by omega) (by omega) (by omega) (by omega)).mono fun _ _ h => ⟨h.1, Ext.rfl_of h.2⟩)))
      repeat (go_big_quiet_step (fail))
      refine wpQuiet_nil ?_
      rintro ⟨w3, hE3⟩
      dsimp only
      have HE3 := Lib.hid (HE.out.trans hE3)
      rw [hap.out]
      have hnn := hnl.out (lo + (k : Int))
      clear q1 a1 a2 a3 a4 b1 b2 b3 b4 hE3 p1 p2
      by_cases hc : Sp.nearD s i j (lo + (k : Int)) < bu.2
      · have HS2 := Lib.hid (HS.out.trans (if_pos hc))
        go_wp2_with fail
        refine ⟨⟨k + 1, by omega, by rw [HS2.out], by rw [HS2.out], by go_num, HE3.out⟩, by simp [intOf]; omega⟩
      · have HS2 := Lib.hid (HS.out.trans (if_neg hc))
        go_wp2_with fail
        refine ⟨⟨k + 1, by omega, by rw [HS2.out], by rw [HS2.out], by go_num, HE3.out⟩, by simp [intOf]; omega⟩
    · obtain rfl : k = N := by omega
      have HE := Lib.hid hE
      clear hE
      rw [hFIN.out]
      go_wp2_with fail
      go_ret2
      exact ⟨rfl, hE0.trans HE.out⟩
theorem r_Near_any (s : Sp.Sky) (A : Option Addr) (c : Nat) (x y z i j lo hi : Int) (w : World) (hs : SkyOk s) (hm : Bodies w A s.bodies) (i1 : 0 ≤ i) (i2 : i < s.bodies.length) (j1 : 0 ≤ j) (j2 : j < s.bodies.length) (h1 : 1 ≤ lo) (h2 : lo ≤ hi) (h3 : hi ≤ 20000) :
    Calls Tryz.prog 65 #[.agg #[.slice A s.bodies.length c, .int .i64 x, .int .i64 y, .int .i64 z], .int .i64 i, .int .i64 j, .int .i64 lo, .int .i64 hi] w fun e w' => e = .returned (.tuple #[.int .i64 (Sp.nearL s i j lo hi), .int .i64 (Sp.nearD s i j (Sp.nearL s i j lo hi))]) ∧ Ext w w' := by
  obtain ⟨a, rfl⟩ := Int.eq_ofNat_of_zero_le i1
  obtain ⟨b, rfl⟩ := Int.eq_ofNat_of_zero_le j1
  exact r_Near_nat s A c a b x y z lo hi w hs hm (by omega) (by omega) h1 h2 h3

theorem nextN_step (s : Sp.Sky) (full : Bool) (d : Int) (k : Nat) : Sp.nextN s full d (k + 1) = if Sp.moonB s d full then some d else Sp.nextN s full (d + 1) k := rfl
set_option maxRecDepth 100000 in
set_option maxHeartbeats 1000000 in
theorem r_Next_any (s : Sp.Sky) (A : Option Addr) (c : Nat) (x y z day : Int) (full : Bool) (w : World) (hs : SkyOk s) (hm : Bodies w A s.bodies) (h1 : 0 ≤ day) (h2 : day ≤ 20000) :
    Calls Tryz.prog 81 #[.agg #[.slice A s.bodies.length c, .int .i64 x, .int .i64 y, .int .i64 z], .int .i64 day, .bool full] w fun e w' => e = .returned (.int .i64 ((Sp.nextO s day full).getD (-1))) ∧ Ext w w' := by
  have HM := Lib.hid hm
  have HS := Lib.hid hs
  clear hm hs
  obtain ⟨d0, hd0⟩ : ∃ d0, max 1 day = d0 := ⟨_, rfl⟩
  have g1 : 1 ≤ d0 ∧ d0 ≤ 20000 := by omega
  obtain ⟨N, hN⟩ : ∃ N : Nat, 20001 - d0 = (N : Int) := ⟨(20001 - d0).toNat, by omega⟩
  have HNX : Hid (Sp.nextO s day full = Sp.nextN s full d0 N) := Lib.hid (by unfold Sp.nextO; rw [hd0, hN]; rfl)
  rcases Int.lt_or_le 1 day with hq | hq
  · skip
    go_enter Tryz.func81, Tryz.ntmps81
    go_wp2_with fail
    have hr0 := Row.new w 28 #[.slice A s.bodies.length c, .int .i64 x, .int .i64 y, .int .i64 z]
    have hE0 : Ext w (w.alloc (.cells #[.slice A s.bodies.length c, .int .i64 x, .int .i64 y, .int .i64 z] 28)) := (Ext.refl w).alloc _
    generalize w.alloc (.cells #[.slice A s.bodies.length c, .int .i64 x, .int .i64 y, .int .i64 z] 28) = w1 at *
    go_loopw [7] (fun d wr => ∃ k : Nat, k ≤ N ∧ d = .int .i64 (d0 + (k : Int)) ∧ Sp.nextO s day full = Sp.nextN s full (d0 + (k : Int)) (N - k) ∧ Ext w1 wr) (fun d _ => (20001 - intOf d).toNat)
    case atStart => exact ⟨0, Nat.zero_le _, by congr 1; omega, by simp [HNX.out], Ext.refl _⟩
    case round =>
      obtain ⟨k, hk, rfl, hnx, hE⟩ := hrel
      have b0 := (hr0.ext hE).cell
      have HE := Lib.hid hE
      by_cases hlt : k < N
      · obtain ⟨m, hm⟩ : ∃ m, N - k = m + 1 := ⟨N - k - 1, by omega⟩
        rw [hm, nextN_step] at hnx
        have HX := Lib.hid hnx
        clear hnx hE
        go_wp2_with fail
        refine (r_Moon_any s A c x y z (d0 + (k : Int)) full _ HS.out (HM.out.ext (hE0.trans HE.out)) (by omega) (by omega)).mono ?_
        rintro e w2 ⟨rfl, hE2⟩
        have HE2 := Lib.hid (HE.out.trans hE2)
        clear hE2 b0
        cases hb : Sp.moonB s (d0 + (k : Int)) full
        · have HY : Hid (Sp.nextO s day full = Sp.nextN s full (d0 + (k : Int) + 1) m) := Lib.hid (HX.out.trans (by rw [hb] <;> rfl))
          go_wp2_with fail
          refine ⟨⟨k + 1, by omega, by go_num, ?_, HE2.out⟩, by simp [intOf]; omega⟩
          rw [HY.out, show N - (k + 1) = m by omega]
          congr 1
          omega
        · have HY : Hid (Sp.nextO s day full = some (d0 + (k : Int))) := Lib.hid (HX.out.trans (by rw [hb] <;> rfl))
          go_wp2_with fail
          go_ret
          exact ⟨by rw [HY.out]; rfl, hE0.trans HE2.out⟩
      · obtain rfl : k = N := by omega
        rw [Nat.sub_self] at hnx
        have HX := Lib.hid hnx
        clear hnx hE
        go_wp2_with fail
        go_ret
        exact ⟨by rw [HX.out]; rfl, hE0.trans HE.out⟩
  · skip
    go_enter Tryz.func81, Tryz.ntmps81
    go_wp2_with fail
    have hr0 := Row.new w 28 #[.slice A s.bodies.length c, .int .i64 x, .int .i64 y, .int .i64 z]
    have hE0 : Ext w (w.alloc (.cells #[.slice A s.bodies.length c, .int .i64 x, .int .i64 y, .int .i64 z] 28)) := (Ext.refl w).alloc _
    generalize w.alloc (.cells #[.slice A s.bodies.length c, .int .i64 x, .int .i64 y, .int .i64 z] 28) = w1 at *
    go_loopw [7] (fun d wr => ∃ k : Nat, k ≤ N ∧ d = .int .i64 (d0 + (k : Int)) ∧ Sp.nextO s day full = Sp.nextN s full (d0 + (k : Int)) (N - k) ∧ Ext w1 wr) (fun d _ => (20001 - intOf d).toNat)
    case atStart => exact ⟨0, Nat.zero_le _, by congr 1; omega, by simp [HNX.out], Ext.refl _⟩
    case round =>
      obtain ⟨k, hk, rfl, hnx, hE⟩ := hrel
      have b0 := (hr0.ext hE).cell
      have HE := Lib.hid hE
      by_cases hlt : k < N
      · obtain ⟨m, hm⟩ : ∃ m, N - k = m + 1 := ⟨N - k - 1, by omega⟩
        rw [hm, nextN_step] at hnx
        have HX := Lib.hid hnx
        clear hnx hE
        go_wp2_with fail
        refine (r_Moon_any s A c x y z (d0 + (k : Int)) full _ HS.out (HM.out.ext (hE0.trans HE.out)) (by omega) (by omega)).mono ?_
        rintro e w2 ⟨rfl, hE2⟩
        have HE2 := Lib.hid (HE.out.trans hE2)
        clear hE2 b0
        cases hb : Sp.moonB s (d0 + (k : Int)) full
        · have HY : Hid (Sp.nextO s day full = Sp.nextN s full (d0 + (k : Int) + 1) m) := Lib.hid (HX.out.trans (by rw [hb] <;> rfl))
          go_wp2_with fail
          refine ⟨⟨k + 1, by omega, by go_num, ?_, HE2.out⟩, by simp [intOf]; omega⟩
          rw [HY.out, show N - (k + 1) = m by omega]
          congr 1
          omega
        · have HY : Hid (Sp.nextO s day full = some (d0 + (k : Int))) := Lib.hid (HX.out.trans (by rw [hb] <;> rfl))
          go_wp2_with fail
          go_ret
          exact ⟨by rw [HY.out]; rfl, hE0.trans HE2.out⟩
      · obtain rfl : k = N := by omega
        rw [Nat.sub_self] at hnx
        have HX := Lib.hid hnx
        clear hnx hE
        go_wp2_with fail
        go_ret
        exact ⟨by rw [HX.out]; rfl, hE0.trans HE.out⟩
end Go.Proofs.YtlcddcnmoajpjaaGreatDoor
