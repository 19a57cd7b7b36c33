/- The walks of the reference's split, number, numbers. (Printed by wip/mkrtext.py.) -/
import Derived.Test.YtlcddcnmoajpjaaGreatDoorV16
import Derived.Test.YtlcddcnmoajpjaaGreatDoorV19
namespace Go.Proofs.YtlcddcnmoajpjaaGreatDoor
open Go.RowKit
open Sp (rd)
set_option linter.unusedSimpArgs false
set_option linter.unusedVariables false

theorem bs_extract (x : Bs) (a b : Nat) (hb : b ≤ x.length) : (bs x).extract a b = bs ((x.take b).drop a) := by
  have h : ((bs x).extract a b).data.toList = (bs ((x.take b).drop a)).data.toList := by
    rw [bs_data]
    simp [bs, ByteArray.extract, ByteArray.copySlice, List.extract_eq_take_drop, List.drop_take]
  have e := bs_of ((bs x).extract a b)
  rw [h] at e
  exact e.symm
theorem sp1_snoc_eq (c : UInt8) (l : Bs) : sp1 c (l ++ [c]) = sp1 c l ++ [[]] := by
  induction l with
  | nil => simp [sp1]
  | cons b l ih =>
    rw [List.cons_append, sp1, sp1, ih]
    have hne := sp1_ne c l
    split
    · rfl
    · cases hs : sp1 c l with
      | nil => exact absurd hs hne
      | cons a t => rfl
theorem sp1_snoc_ne (c b : UInt8) (l : Bs) (h : b ≠ c) (i : List Bs) (z : Bs) (hs : sp1 c l = i ++ [z]) : sp1 c (l ++ [b]) = i ++ [z ++ [b]] := by
  induction l generalizing i z with
  | nil =>
    have : i = [] ∧ z = [] := by
      cases i with
      | nil => simpa [sp1, eq_comm] using hs
      | cons a t => simp [sp1] at hs
    obtain ⟨rfl, rfl⟩ := this
    simp [sp1, h]
  | cons d l ih =>
    rw [List.cons_append, sp1]
    rw [sp1] at hs
    have hne := sp1_ne c l
    have hl : ∃ i' z', sp1 c l = i' ++ [z'] := ⟨(sp1 c l).dropLast, (sp1 c l).getLast hne, (List.dropLast_concat_getLast hne).symm⟩
    obtain ⟨i', z', hl⟩ := hl
    rw [ih i' z' hl]
    rw [hl] at hs
    split
    · rename_i hd
      rw [if_pos hd] at hs
      have : i = [] :: i' ∧ z = z' := by
        have e : [] :: (i' ++ [z']) = ([] :: i') ++ [z'] := rfl
        rw [e] at hs
        have := List.append_inj' hs rfl
        exact ⟨this.1.symm, by simpa using this.2.symm⟩
      obtain ⟨rfl, rfl⟩ := this
      rfl
    · rename_i hd
      rw [if_neg hd] at hs
      cases i' with
      | nil =>
        simp only [List.nil_append, List.headD_cons, List.tail_cons] at hs ⊢
        have : i = [] ∧ z = d :: z' := by
          cases i with
          | nil => simpa [eq_comm] using hs
          | cons a t => simp at hs
        obtain ⟨rfl, rfl⟩ := this
        rfl
      | cons a t =>
        simp only [List.cons_append, List.headD_cons, List.tail_cons] at hs ⊢
        have e : (d :: a) :: (t ++ [z']) = ((d :: a) :: t) ++ [z'] := rfl
        rw [e] at hs
        have := List.append_inj' hs rfl
        obtain ⟨h1, h2⟩ := this
        have hz : z' = z := by simpa using h2
        subst hz
        rw [← h1]
        rfl
def RSplitRel (w : World) (c : UInt8) (x : Bs) (v f i : Value) (wr : World) : Prop :=
  ∃ (k n : Nat) (r : List Bs), k ≤ x.length ∧ n ≤ k ∧ i = .int .i64 k ∧ f = .int .i64 n ∧ sp1 c (x.take k) = r ++ [(x.take k).drop n] ∧ r.length ≤ k ∧ wr.ownsRow w.heap.size 9 1 v r.length (strCells1 r) ∧ Ext w wr
theorem take_snoc_b (x : Bs) (k : Nat) (h : k < x.length) : x.take (k + 1) = x.take k ++ [x.getD k 0] := by
  rw [List.take_succ_eq_append_getElem h, List.getD_eq_getElem?_getD, List.getElem?_eq_getElem h]
  rfl
set_option maxRecDepth 100000 in
set_option maxHeartbeats 1000000 in
theorem r_split_any (c : UInt8) (cn : Int) (hcn : cn = (c.toNat : Int)) (x : Bs) (w : World) (hx : x.length ≤ 100000) :
    Calls Tryz.prog 124 #[.string (bs x), .int .u8 cn] w fun e w' => ∃ A cap, e = .returned (.slice A (sp1 c x).length cap) ∧ (sp1 c x).length ≤ cap ∧ Strs w' A (sp1 c x) ∧ (∀ b o, A = some ⟨b, o, none⟩ → w.heap.size ≤ b) ∧ Ext w w' := by
  have hsx := bs_size x
  have HCN := Lib.hid hcn
  have hc0 : 0 ≤ cn ∧ cn < 256 := by have := c.toNat_lt; omega
  clear hcn
  obtain ⟨i0, hi0, hi1, hi2, hi3⟩ := info_parts info_string
  go_enter Tryz.func124, Tryz.ntmps124
  go_wp2_with fail
  go_loopw [5, 6, 7] (fun v f i wr => RSplitRel w c x v f i wr) (fun _ _ i _ => x.length - (intOf i).toNat)
  case atStart => exact ⟨0, 0, [], Nat.zero_le _, Nat.le_refl _, rfl, rfl, by simp [sp1], Nat.le_refl _, World.ownsRow_nil _ _ _ _, Ext.refl _⟩
  case round =>
    obtain ⟨k, n, r, hk, hn, rfl, rfl, hs, hr, hown, hE⟩ := hrel
    have hz := hE.size
    have hex0 := bs_extract x n k hk
    by_cases hlt : k < x.length
    · have hix := index_bs x k hlt
      have HSN := take_snoc_b x k hlt
      obtain ⟨b, hb⟩ : ∃ b, x.getD k 0 = b := ⟨_, rfl⟩
      rw [hb] at hix HSN
      have HO := Lib.hid hown
      have HE := Lib.hid hE
      have HS := Lib.hid hs
      have HTS := Lib.hid HSN
      have hlt' : (k : Int) < (x.length : Int) := by omega
      have HLT := Lib.hid hlt
      have hr9 : r.length ≤ 100000 := by omega
      clear hown hE hs HSN hb hlt
      by_cases hbc : b = c
      · have HNEW : Hid (sp1 c (x.take (k + 1)) = (r ++ [(x.take k).drop n]) ++ [(x.take (k + 1)).drop (k + 1)]) := Lib.hid (by
          have e : (x.take (k + 1)).drop (k + 1) = [] := List.drop_of_length_le (List.length_take_le _ _)
          rw [e, HTS.out, hbc, sp1_snoc_eq, HS.out])
        have hq : ((b.toNat : Int) == cn) = true := by rw [HCN.out, hbc]; simp
        have hq2 : (b.toNat : Int) = cn := by rw [HCN.out, hbc]
        have HQ2 := Lib.hid hq2
        obtain ⟨y, hy⟩ : ∃ y, (x.take k).drop n = y := ⟨_, rfl⟩
        rw [hy] at hex0 HNEW
        have n1 : (n : Int) ≤ (k : Int) := by omega
        have n2 : (k : Int) ≤ (x.length : Int) := by omega
        clear hbc hq2 hy HS HTS
        go_wp2_with (at_builtin; refine wpList_append_own_at _ rfl _ _ 140 rfl w.heap.size 9 i0 _ 1 16 Tryz.underlying140 hi0 hi1 hi2 hi3 rfl (by decide) _ r.length (strCells1 r) rfl (HO.out.alloc (.cells #[.string (bs y)] 9)) ⟨wr.heap.size, 0, none⟩ 1 1 [.string (bs y)] rfl rfl (World.news_of_block (cs := #[.string (bs y)]) (t := 9) (fr := (0, 0)) (heap_alloc_new _ _)) (by simp [Value.oneCell']) (by simp only [maxLen]; omega) (by omega) (by simp; omega) ?_; intro v' w5 hown5 hgrow _ _; have HO5 := Lib.hid hown5; have HG5 := Lib.hid hgrow; clear hown5 hgrow)
        go_roundw
        case measure => have := HLT.out; simp [intOf]; omega
        case rel =>
          refine ⟨k + 1, k + 1, r ++ [y], HLT.out, Nat.le_refl _, by go_num, by go_num, HNEW.out, by simp; omega, ?_, (HE.out.alloc _).grown HG5.out (fun q hq => (HO.out.lt q hq).1)⟩
          simpa [strCells1] using HO5.out
      · have HNEW : Hid (sp1 c (x.take (k + 1)) = r ++ [(x.take (k + 1)).drop n]) := Lib.hid (by
          rw [HTS.out, sp1_snoc_ne c b _ hbc r _ HS.out, List.drop_append_of_le_length (by rw [List.length_take]; have := HLT.out; omega)])
        have hq0 : ¬ (b.toNat : Int) = cn := by
          rw [HCN.out]
          intro e
          exact hbc (UInt8.toNat_inj.1 (by omega))
        have hq : ((b.toNat : Int) == cn) = false := by simpa using hq0
        clear hbc HS HTS hex0
        go_wp2_with fail
        go_roundw
        case measure => have := HLT.out; simp [intOf]; omega
        case rel => exact ⟨k + 1, n, r, HLT.out, by omega, by go_num, rfl, HNEW.out, by omega, HO.out, HE.out⟩
    · obtain rfl : k = x.length := by omega
      rw [List.take_length] at hs hex0
      have HS := Lib.hid hs
      have HO := Lib.hid hown
      have HE := Lib.hid hE
      obtain ⟨y, hy⟩ : ∃ y, x.drop n = y := ⟨_, rfl⟩
      rw [hy] at hex0 HS
      have n1 : (n : Int) ≤ (x.length : Int) := by omega
      have hr9 : r.length ≤ 100000 := by omega
      clear hs hown hE hy hlt
      go_wp2_with (at_builtin; refine wpList_append_own_at _ rfl _ _ 140 rfl w.heap.size 9 i0 _ 1 16 Tryz.underlying140 hi0 hi1 hi2 hi3 rfl (by decide) _ r.length (strCells1 r) rfl (HO.out.alloc (.cells #[.string (bs y)] 9)) ⟨wr.heap.size, 0, none⟩ 1 1 [.string (bs y)] rfl rfl (World.news_of_block (cs := #[.string (bs y)]) (t := 9) (fr := (0, 0)) (heap_alloc_new _ _)) (by simp [Value.oneCell']) (by simp only [maxLen]; omega) (by omega) (by simp; omega) ?_; intro v' w5 hown5 hgrow _ _; have HO5 := Lib.hid hown5; have HG5 := Lib.hid hgrow; clear hown5 hgrow)
      go_ret
      have hO : w5.ownsRow w.heap.size 9 1 v' (sp1 c x).length (strCells1 (sp1 c x)) := by rw [HS.out]; simpa [strCells1] using HO5.out
      obtain ⟨A, cap, hv, hcap, hS⟩ := Strs.of_own hO
      exact ⟨A, cap, by rw [hv]; rfl, hcap, hS, fun b o e => (hO.lt b (by rw [hv, e]; rfl)).1, (HE.out.alloc _).grown HG5.out (fun q hq => (HO.out.lt q hq).1)⟩

/-- What reading a number comes to. -/
def RNumPost (w : World) (x : Bs) (e : Ending) (w' : World) : Prop := Ext w w' ∧
  ((∃ n, numP x = some n ∧ e = .returned (.tuple #[.int .i64 n, .bool true])) ∨ (numP x = none ∧ ∃ n, e = .returned (.tuple #[.int .i64 n, .bool false])))
theorem numDig_nil : numDig [] = [] := rfl
theorem numDig_minus (t : Bs) : numDig (45 :: t) = t := by simp [numDig, Lib.trimPrefix, Lib.hasPrefix, List.isPrefixOf]
theorem numDig_plain (b : UInt8) (t : Bs) (h : b ≠ 45) : numDig (b :: t) = b :: t := by
  have : ((45 : UInt8) == b) = false := by simpa using Ne.symm h
  simp [numDig, Lib.trimPrefix, Lib.hasPrefix, List.isPrefixOf, this]
set_option maxRecDepth 100000 in
set_option maxHeartbeats 2000000 in
theorem r_number_any (x : Bs) (w : World) (hx : x.length ≤ 100000) : Calls Tryz.prog 166 #[.string (bs x)] w (RNumPost w x) := by
  have hsx := bs_size x
  by_cases hx0 : x = []
  · have HNO : Hid (numP x = none) := Lib.hid (numP_no (.inr (.inr (.inl (by rw [hx0]; rfl)))))
    have hx1 : x.length = 0 := by rw [hx0]; rfl
    rw [hx1] at hsx
    clear hx0 hx1
    go_enter Tryz.func166, Tryz.ntmps166
    go_wp2_with fail
    go_ret2
    exact ⟨Ext.refl _, .inr ⟨HNO.out, _, rfl⟩⟩
  have hlx : 0 < x.length := List.length_pos_iff.2 hx0
  have hb0 : ∀ h : 0 < (bs x).size, ((bs x)[0]'h).toNat = (x.getD 0 0).toNat := fun h => by rw [bs_get x 0 h]
  have hix0 : ∀ w : World, (Instr.index 9 (.string (bs x)) (.int .i64 0)).run Tryz.prog w = .ok (.int .u8 ((x.getD 0 0).toNat : Int)) w := index_bs x 0 hlx
  have hlx' : (0 : Int) < (x.length : Int) := by omega
  by_cases hm : x.getD 0 0 = 45
  · obtain ⟨D, hD⟩ : ∃ D, x.drop 1 = D := ⟨_, rfl⟩
    have hxD : x = 45 :: D := by
      cases x with
      | nil => exact absurd rfl hx0
      | cons b t => simp only [List.getD_cons_zero] at hm; subst hm; rw [← hD]; rfl
    have HD : Hid (numDig x = D) := Lib.hid (by rw [hxD]; exact numDig_minus D)
    have hDl : D.length + 1 = x.length := by rw [hxD]; rfl
    have HVAL : Hid (numVal x = -(digV D : Int)) := Lib.hid (by unfold numVal; rw [HD.out, if_pos (by omega)])
    have hsD := bs_size D
    have hex := bs_extract x 1 x.length (Nat.le_refl _)
    rw [List.take_length, hD] at hex
    have hlt0 : (D.length : Int) < (x.length : Int) := by omega
    rw [hm] at hix0 hb0
    have h45 : (45 : UInt8).toNat = 45 := rfl
    rw [h45] at hix0 hb0
    have h1x : (1 : Int) ≤ (x.length : Int) := by omega
    clear hm hD hxD hx0 h45 hDl
    go_enter Tryz.func166, Tryz.ntmps166
    by_cases hD0 : D.length = 0
    · have HNO : Hid (numP x = none) := Lib.hid (numP_no (.inr (.inr (.inl (by rw [HD.out]; exact List.eq_nil_of_length_eq_zero hD0)))))
      have hD1 : ((D.length : Int) == 0) = true := by rw [hD0]; rfl
      go_wp2_with fail
      go_ret2
      exact ⟨Ext.refl _, .inr ⟨HNO.out, _, rfl⟩⟩
    have hD1 : ((D.length : Int) == 0) = false := beq_eq_false_iff_ne.2 (by omega)
    have hD2 : ¬ ((D.length : Int) = 0) := by omega
    by_cases hD5 : 5 < D.length
    · have HNO : Hid (numP x = none) := Lib.hid (numP_no (.inr (.inl (by rw [HD.out]; omega))))
      have hD6 : (5 : Int) < (D.length : Int) := by omega
      go_wp2_with fail
      go_ret2
      exact ⟨Ext.refl _, .inr ⟨HNO.out, _, rfl⟩⟩
    have hD6 : ¬ ((5 : Int) < (D.length : Int)) := by omega
    have hD7 : (D.length : Int) ≤ 5 := by omega
    have HNE : Hid (D ≠ []) := Lib.hid (by rintro rfl; exact hD0 rfl)
    have HD5 : Hid (D.length ≤ 5) := Lib.hid (by omega)
    clear hD0 hD5
    go_wp2_with fail
    go_loop [5, 6] (fun v i => ∃ pos : Nat, pos ≤ D.length ∧ i = .int .i64 pos ∧ v = .int .i64 ((digN D pos : Nat) : Int) ∧ (D.take pos).all isDig = true) (fun _ i => D.length - (intOf i).toNat)
    case atStart => exact ⟨0, Nat.zero_le _, rfl, rfl, by simp⟩
    case round =>
      obtain ⟨pos, hp, rfl, rfl, hall⟩ := hrel
      have HALL := Lib.hid hall
      clear hall
      by_cases hlt : pos < D.length
      · have hix := index_bs D pos hlt
        have hlt' : (pos : Int) < (D.length : Int) := by omega
        cases hd : isDig (D.getD pos 0)
        · have HNO : Hid (numP x = none) := Lib.hid (numP_no (.inl (by rw [HD.out]; exact all_no_at hlt hd)))
          have hr : ((D.getD pos 0).toNat : Int) < 48 ∨ 57 < ((D.getD pos 0).toNat : Int) := by
            unfold isDig at hd
            simp only [Bool.and_eq_false_iff, decide_eq_false_iff_not] at hd
            omega
          generalize (D.getD pos 0).toNat = r at *
          clear hd
          rcases hr with hr | hr
          · go_wp2_with fail
            go_ret2
            exact ⟨Ext.refl _, .inr ⟨HNO.out, _, rfl⟩⟩
          · have hr2 : ¬ ((r : Int) < 48) := by omega
            go_wp2_with fail
            go_ret2
            exact ⟨Ext.refl _, .inr ⟨HNO.out, _, rfl⟩⟩
        · have hdd : 48 ≤ (D.getD pos 0).toNat ∧ (D.getD pos 0).toNat ≤ 57 := by
            unfold isDig at hd
            simpa using hd
          have HDIG := Lib.hid hd
          have HSTEP : Hid (digN D (pos + 1) = 10 * digN D pos + ((D.getD pos 0).toNat - 48)) := Lib.hid rfl
          have hlt10 := digN_lt (D.take pos) HALL.out pos (by rw [List.length_take]; omega)
          have hpos5 : 10 ^ pos ≤ 10 ^ 5 := Nat.pow_le_pow_right (by omega) (by omega)
          rw [digN_take D pos pos (Nat.le_refl _)] at hlt10
          have hn9 : ((digN D pos : Nat) : Int) ≤ 100000 := by omega
          obtain ⟨r, hr⟩ : ∃ r, (D.getD pos 0).toNat = r := ⟨_, rfl⟩
          rw [hr] at hix hdd HSTEP
          have hr1 : (48 : Int) ≤ (r : Int) := by omega
          have hr2 : (r : Int) ≤ 57 := by omega
          have hr3 : ¬ ((r : Int) < 48) := by omega
          have hr4 : ¬ (57 < (r : Int)) := by omega
          obtain ⟨n, hn⟩ : ∃ n, digN D pos = n := ⟨_, rfl⟩
          rw [hn] at hn9 HSTEP ⊢
          have HLT := Lib.hid hlt
          have HDD := Lib.hid hdd
          clear hr hn hlt10 hpos5 hlt hd hdd hp
          go_wp2_with fail
          go_round
          case rel =>
            refine ⟨pos + 1, HLT.out, by go_num, ?_, all_take_succ HLT.out HALL.out HDIG.out⟩
            rw [HSTEP.out]
            refine congrArg (Value.int .i64) ?_
            have := HDD.out
            omega
          case measure => have := HLT.out; simp [intOf]; omega
      · obtain rfl : pos = D.length := by omega
        have hall := HALL.out
        rw [List.take_length] at hall
        have hlt10 := digN_lt D hall D.length (Nat.le_refl _)
        have hpos5 : 10 ^ D.length ≤ 10 ^ 5 := Nat.pow_le_pow_right (by omega) HD5.out
        have hn9 : ((digN D D.length : Nat) : Int) ≤ 100000 := by omega
        have hV2 := HVAL.out
        unfold digV at hV2
        have HA := Lib.hid hall
        obtain ⟨n, hn⟩ : ∃ n, digN D D.length = n := ⟨_, rfl⟩
        rw [hn] at hn9 hV2 ⊢
        have HV2 := Lib.hid hV2
        clear hlt10 hpos5 hall hlt hn hV2 HALL hp
        obtain ⟨I, hI⟩ : ∃ I, Lib.itoa (-(n : Int)) = I := ⟨_, rfl⟩
        have HI := Lib.hid hI
        clear hI
        go_wp2_with fail
        have hdec := r_Decimal_any (-(n : Int)) w (by omega) (by omega)
        rw [HI.out] at hdec
        refine hdec.mono ?_
        clear hdec
        rintro e w1 ⟨rfl, hE1⟩
        have HE1 := Lib.hid hE1
        clear hE1
        by_cases hIx : I = x
        · have hq : ((bs I).toList == (bs x).toList) = true := by rw [hIx]; simp
          have HYES : Hid (numP x = some (-(n : Int))) := Lib.hid (by
            rw [numP_yes (by rw [HD.out]; exact HA.out) (by rw [HD.out]; exact HD5.out) (by rw [HD.out]; exact HNE.out) (by rw [HV2.out, HI.out]; exact hIx), HV2.out])
          clear hIx
          go_wp2_with fail
          go_ret2
          exact ⟨HE1.out, .inl ⟨_, HYES.out, rfl⟩⟩
        · have hq : ((bs I).toList == (bs x).toList) = false := by rw [toList_bs, toList_bs]; simpa using hIx
          have HNO : Hid (numP x = none) := Lib.hid (numP_no (.inr (.inr (.inr (by rw [HV2.out, HI.out]; exact hIx)))))
          clear hIx
          go_wp2_with fail
          go_ret2
          exact ⟨HE1.out, .inr ⟨HNO.out, _, rfl⟩⟩
  · have HD : Hid (numDig x = x) := Lib.hid (by
      cases x with
      | nil => exact absurd rfl hx0
      | cons b t => exact numDig_plain b t (by simpa using hm))
    have HVAL : Hid (numVal x = (digV x : Int)) := Lib.hid (by unfold numVal; rw [HD.out, if_neg (by omega)])
    have hlt0 : ¬ ((x.length : Int) < (x.length : Int)) := by omega
    have hm2 : ¬ ((x.getD 0 0).toNat : Int) = 45 := fun e => hm (UInt8.toNat_inj.1 (by have : (45 : UInt8).toNat = 45 := rfl; omega))
    have hm3 : (((x.getD 0 0).toNat : Int) == 45) = false := beq_eq_false_iff_ne.2 hm2
    obtain ⟨m0, hm0⟩ : ∃ m, (x.getD 0 0).toNat = m := ⟨_, rfl⟩
    rw [hm0] at hix0 hb0 hm2 hm3
    clear hm hm0 hx0
    go_enter Tryz.func166, Tryz.ntmps166
    by_cases hD0 : x.length = 0
    · have HNO : Hid (numP x = none) := Lib.hid (numP_no (.inr (.inr (.inl (by rw [HD.out]; exact List.eq_nil_of_length_eq_zero hD0)))))
      have hD1 : ((x.length : Int) == 0) = true := by rw [hD0]; rfl
      go_wp2_with fail
      go_ret2
      exact ⟨Ext.refl _, .inr ⟨HNO.out, _, rfl⟩⟩
    have hD1 : ((x.length : Int) == 0) = false := beq_eq_false_iff_ne.2 (by omega)
    have hD2 : ¬ ((x.length : Int) = 0) := by omega
    by_cases hD5 : 5 < x.length
    · have HNO : Hid (numP x = none) := Lib.hid (numP_no (.inr (.inl (by rw [HD.out]; omega))))
      have hD6 : (5 : Int) < (x.length : Int) := by omega
      go_wp2_with fail
      go_ret2
      exact ⟨Ext.refl _, .inr ⟨HNO.out, _, rfl⟩⟩
    have hD6 : ¬ ((5 : Int) < (x.length : Int)) := by omega
    have hD7 : (x.length : Int) ≤ 5 := by omega
    have HNE : Hid (x ≠ []) := Lib.hid (by rintro rfl; exact hD0 rfl)
    have HD5 : Hid (x.length ≤ 5) := Lib.hid (by omega)
    clear hD0 hD5
    go_wp2_with fail
    go_loop [5, 6] (fun v i => ∃ pos : Nat, pos ≤ x.length ∧ i = .int .i64 pos ∧ v = .int .i64 ((digN x pos : Nat) : Int) ∧ (x.take pos).all isDig = true) (fun _ i => x.length - (intOf i).toNat)
    case atStart => exact ⟨0, Nat.zero_le _, rfl, rfl, by simp⟩
    case round =>
      obtain ⟨pos, hp, rfl, rfl, hall⟩ := hrel
      have HALL := Lib.hid hall
      clear hall
      by_cases hlt : pos < x.length
      · have hix := index_bs x pos hlt
        have hlt' : (pos : Int) < (x.length : Int) := by omega
        cases hd : isDig (x.getD pos 0)
        · have HNO : Hid (numP x = none) := Lib.hid (numP_no (.inl (by rw [HD.out]; exact all_no_at hlt hd)))
          have hr : ((x.getD pos 0).toNat : Int) < 48 ∨ 57 < ((x.getD pos 0).toNat : Int) := by
            unfold isDig at hd
            simp only [Bool.and_eq_false_iff, decide_eq_false_iff_not] at hd
            omega
          generalize (x.getD pos 0).toNat = r at *
          clear hd
          rcases hr with hr | hr
          · go_wp2_with fail
            go_ret2
            exact ⟨Ext.refl _, .inr ⟨HNO.out, _, rfl⟩⟩
          · have hr2 : ¬ ((r : Int) < 48) := by omega
            go_wp2_with fail
            go_ret2
            exact ⟨Ext.refl _, .inr ⟨HNO.out, _, rfl⟩⟩
        · have hdd : 48 ≤ (x.getD pos 0).toNat ∧ (x.getD pos 0).toNat ≤ 57 := by
            unfold isDig at hd
            simpa using hd
          have HDIG := Lib.hid hd
          have HSTEP : Hid (digN x (pos + 1) = 10 * digN x pos + ((x.getD pos 0).toNat - 48)) := Lib.hid rfl
          have hlt10 := digN_lt (x.take pos) HALL.out pos (by rw [List.length_take]; omega)
          have hpos5 : 10 ^ pos ≤ 10 ^ 5 := Nat.pow_le_pow_right (by omega) (by omega)
          rw [digN_take x pos pos (Nat.le_refl _)] at hlt10
          have hn9 : ((digN x pos : Nat) : Int) ≤ 100000 := by omega
          obtain ⟨r, hr⟩ : ∃ r, (x.getD pos 0).toNat = r := ⟨_, rfl⟩
          rw [hr] at hix hdd HSTEP
          have hr1 : (48 : Int) ≤ (r : Int) := by omega
          have hr2 : (r : Int) ≤ 57 := by omega
          have hr3 : ¬ ((r : Int) < 48) := by omega
          have hr4 : ¬ (57 < (r : Int)) := by omega
          obtain ⟨n, hn⟩ : ∃ n, digN x pos = n := ⟨_, rfl⟩
          rw [hn] at hn9 HSTEP ⊢
          have HLT := Lib.hid hlt
          have HDD := Lib.hid hdd
          clear hr hn hlt10 hpos5 hlt hd hdd hp
          go_wp2_with fail
          go_round
          case rel =>
            refine ⟨pos + 1, HLT.out, by go_num, ?_, all_take_succ HLT.out HALL.out HDIG.out⟩
            rw [HSTEP.out]
            refine congrArg (Value.int .i64) ?_
            have := HDD.out
            omega
          case measure => have := HLT.out; simp [intOf]; omega
      · obtain rfl : pos = x.length := by omega
        have hall := HALL.out
        rw [List.take_length] at hall
        have hlt10 := digN_lt x hall x.length (Nat.le_refl _)
        have hpos5 : 10 ^ x.length ≤ 10 ^ 5 := Nat.pow_le_pow_right (by omega) HD5.out
        have hn9 : ((digN x x.length : Nat) : Int) ≤ 100000 := by omega
        have hV2 := HVAL.out
        unfold digV at hV2
        have HA := Lib.hid hall
        obtain ⟨n, hn⟩ : ∃ n, digN x x.length = n := ⟨_, rfl⟩
        rw [hn] at hn9 hV2 ⊢
        have HV2 := Lib.hid hV2
        clear hlt10 hpos5 hall hlt hn hV2 HALL hp
        obtain ⟨I, hI⟩ : ∃ I, Lib.itoa (n : Int) = I := ⟨_, rfl⟩
        have HI := Lib.hid hI
        clear hI
        go_wp2_with fail
        have hdec := r_Decimal_any (n : Int) w (by omega) (by omega)
        rw [HI.out] at hdec
        refine hdec.mono ?_
        clear hdec
        rintro e w1 ⟨rfl, hE1⟩
        have HE1 := Lib.hid hE1
        clear hE1
        by_cases hIx : I = x
        · have hq : ((bs I).toList == (bs x).toList) = true := by rw [hIx]; simp
          have HYES : Hid (numP x = some (n : Int)) := Lib.hid (by
            rw [numP_yes (by rw [HD.out]; exact HA.out) (by rw [HD.out]; exact HD5.out) (by rw [HD.out]; exact HNE.out) (by rw [HV2.out, HI.out]; exact hIx), HV2.out])
          clear hIx
          go_wp2_with fail
          go_ret2
          exact ⟨HE1.out, .inl ⟨_, HYES.out, rfl⟩⟩
        · have hq : ((bs I).toList == (bs x).toList) = false := by rw [toList_bs, toList_bs]; simpa using hIx
          have HNO : Hid (numP x = none) := Lib.hid (numP_no (.inr (.inr (.inr (by rw [HV2.out, HI.out]; exact hIx)))))
          clear hIx
          go_wp2_with fail
          go_ret2
          exact ⟨HE1.out, .inr ⟨HNO.out, _, rfl⟩⟩

/-- What reading numbers comes to. -/
def RNumsPost (w : World) (T : List Bs) (e : Ending) (w' : World) : Prop := Ext w w' ∧
  ((∃ r v, T.mapM numP = some r ∧ e = .returned (.tuple #[v, .bool true]) ∧ w'.ownsRow w.heap.size 3 1 v r.length (intCells r)) ∨
   (T.mapM numP = none ∧ e = .returned (.tuple #[.slice none 0 0, .bool false])))
def RNumsRel (w : World) (T : List Bs) (v i : Value) (wr : World) : Prop :=
  ∃ (k : Nat) (r : List Int), k ≤ T.length ∧ i = .int .i64 k ∧ (T.take k).mapM numP = some r ∧ r.length = k ∧ wr.ownsRow w.heap.size 3 1 v r.length (intCells r) ∧ Ext w wr
set_option maxRecDepth 100000 in
set_option maxHeartbeats 1000000 in
theorem r_numbers_any (T : List Bs) (A : Option Addr) (c : Nat) (w : World) (hm : Strs w A T) (hl : T.length ≤ 100000) (hs : ∀ y ∈ T, y.length ≤ 100000) :
    Calls Tryz.prog 125 #[.slice A T.length c] w (RNumsPost w T) := by
  have HM := Lib.hid hm
  have HSUB := Lib.hid hs
  clear hm hs
  obtain ⟨i0, hi0, hi1, hi2, hi3⟩ := info_parts info_int
  go_enter Tryz.func125, Tryz.ntmps125
  go_wp2_with fail
  go_loopw [4, 5] (fun v i wr => RNumsRel w T v i wr) (fun _ i _ => T.length - (intOf i).toNat)
  case atStart => exact ⟨0, [], Nat.zero_le _, rfl, rfl, rfl, World.ownsRow_nil _ _ _ _, Ext.refl _⟩
  case round =>
    obtain ⟨k, r, hk, rfl, hmap, hrl, hown, hE⟩ := hrel
    have hz := hE.size
    by_cases hlt : k < T.length
    · obtain ⟨b, o, rfl, hc⟩ := (HM.out.ext hE) (by omega)
      have c0 := hc k hlt
      have hyl := HSUB.out (T.getD k []) (by rw [List.getD_eq_getElem?_getD, List.getElem?_eq_getElem hlt]; exact List.getElem_mem hlt)
      have HMAP := Lib.hid hmap
      have HRL := Lib.hid hrl
      have hrl9 : r.length ≤ 100001 := by omega
      have HE := Lib.hid hE
      have HO := Lib.hid hown
      have HLT := Lib.hid hlt
      obtain ⟨y, hy⟩ : ∃ y, T.getD k [] = y := ⟨_, rfl⟩
      have HY := Lib.hid hy
      rw [hy] at c0 hyl
      have hlt' : (k : Int) < (T.length : Int) := by omega
      clear hmap hrl hE hown hy hc hlt
      go_wp2_with fail
      refine (r_number_any y wr hyl).mono ?_
      rintro e w3 ⟨hE3, ⟨n, hn, rfl⟩ | ⟨hn, z, rfl⟩⟩
      · have HNN : Hid ((T.take (k + 1)).mapM numP = some (r ++ [n])) := Lib.hid (mapM_take_succ (d := []) k HLT.out HMAP.out (by rw [HY.out]; exact hn))
        have HO3 := Lib.hid (ownsRow_of_block HO.out (fun q hq' => hE3.block q (HO.out.lt q hq').2))
        have hsz3 := hE3.size
        have HE3 := Lib.hid (HE.out.trans hE3)
        clear hn hE3 c0
        go_wp2_with (at_builtin; refine wpList_append_own_at _ rfl _ _ 64 rfl w.heap.size 3 i0 _ 1 8 Tryz.underlying64 hi0 hi1 hi2 hi3 rfl (by decide) _ r.length (intCells r) rfl (HO3.out.alloc (.cells #[.int .i64 n] 3)) ⟨w3.heap.size, 0, none⟩ 1 1 [.int .i64 n] rfl rfl (World.news_of_block (cs := #[.int .i64 n]) (t := 3) (fr := (0, 0)) (heap_alloc_new _ _)) (by simp [Value.oneCell']) (by simp only [maxLen]; omega) (by omega) (by simp; omega) ?_; intro v' w4 hown5 hgrow _ _; have HO5 := Lib.hid hown5; have HG5 := Lib.hid hgrow; clear hown5 hgrow)
        go_roundw
        case measure => have := HLT.out; simp [intOf]; omega
        case rel =>
          refine ⟨k + 1, r ++ [n], HLT.out, by go_num, HNN.out, by rw [List.length_append, HRL.out]; rfl, ?_, (HE3.out.alloc _).grown HG5.out (fun q hq' => (HO3.out.lt q hq').1)⟩
          simpa [intCells] using HO5.out
      · have HNO : Hid (T.mapM numP = none) := Lib.hid (mapM_none_at (d := []) k HLT.out (by rw [HY.out]; exact hn))
        have HE3 := Lib.hid (HE.out.trans hE3)
        clear hn hE3 c0
        go_wp2_with fail
        go_ret2
        exact ⟨HE3.out, .inr ⟨HNO.out, rfl⟩⟩
    · obtain rfl : k = T.length := by omega
      rw [List.take_length] at hmap
      have HMAP := Lib.hid hmap
      have HO := Lib.hid hown
      have HE := Lib.hid hE
      clear hmap hown hE
      go_wp2_with fail
      go_ret2
      exact ⟨HE.out, .inl ⟨r, _, HMAP.out, rfl, HO.out⟩⟩
end Go.Proofs.YtlcddcnmoajpjaaGreatDoor
