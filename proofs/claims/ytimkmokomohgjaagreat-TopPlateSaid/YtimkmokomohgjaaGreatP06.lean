/- Volume 6 of the texts that the laws of this seat use: TpRates TpIsPiece TpR9 TpPiece9 TpPlateP TpPl0 TpP20 TpP20A: walks of the program's functions, and plain laws. -/
import Derived.Carry
import Derived.BigQuiet
import Derived.Laws.OwnMore
import Derived.Maps.AppendAt
import Derived.StillTailTactics
import Derived.Test.YtimkmokomohgjaaGreatP02
import Derived.Test.YtimkmokomohgjaaGreatP03
import Derived.Test.YtimkmokomohgjaaGreatP04
import Derived.Test.YtimkmokomohgjaaGreatP05
namespace Go.Proofs.YtimkmokomohgjaaGreat
open Go.RowKit Go.Shelf
open Sp (rd)
attribute [local go_sem] Oper.semAt_some
set_option maxRecDepth 100000
set_option maxHeartbeats 4000000
set_option linter.unusedVariables false
set_option linter.unusedSimpArgs false
theorem Tp.info_bool2 : (Tryz.prog.info? 4).map (fun i => (i.zero, i.size, i.bytes)) = some (some (.bool false), 1, 1) := by kernel_rfl
/-- A list that was written out is an own one. -/
theorem Tp.own_lit {W : World} {g base : Nat} {e : TypeId} {cs : Array Value} {size : Nat} (h : Row W g e cs) (n : Nat) (hs : cs.size = n * size) (hn : n ≤ maxLen) (hb : base ≤ g) : W.ownsRow base e size (.slice (some ⟨g, 0, none⟩) n n) n cs.toList :=
  ⟨by simpa using hs, .inr ⟨g, n, cs, rfl, hb, h, Nat.le_refl _, hn, hs, by rw [← hs, ← Array.length_toList, List.take_length]⟩⟩
/-- The rates of the first k arbors. -/
def Tp.rateL (links : List (Int × Ec.Pair)) (k : Nat) : List Ec.Pair := ⟨1, 1⟩ :: (List.range k).map fun i => ⟨Ec.turnsN (Tp.trainL links (i + 1)), Ec.turnsD (Tp.trainL links (i + 1))⟩
/-- Their senses. -/
def Tp.sameL (links : List (Int × Ec.Pair)) (k : Nat) : List Bool := true :: (List.range k).map fun i => (((Tp.trainL links (i + 1)).length : Int) % 2 == 0)
theorem Tp.rateL_succ (links : List (Int × Ec.Pair)) (k : Nat) : Tp.rateL links (k + 1) = Tp.rateL links k ++ [⟨Ec.turnsN (Tp.trainL links (k + 1)), Ec.turnsD (Tp.trainL links (k + 1))⟩] := by simp [Tp.rateL, List.range_succ]
theorem Tp.sameL_succ (links : List (Int × Ec.Pair)) (k : Nat) : Tp.sameL links (k + 1) = Tp.sameL links k ++ [((Tp.trainL links (k + 1)).length : Int) % 2 == 0] := by simp [Tp.sameL, List.range_succ]
theorem Tp.rateL_len (links : List (Int × Ec.Pair)) (k : Nat) : (Tp.rateL links k).length = k + 1 := by simp [Tp.rateL]
theorem sh_Rates_over (A : Option Addr) (c : Nat) (Bb : Option Addr) (mb cb : Nat) (links : List (Int × Ec.Pair)) (w : World) (hm : Tp.Links w A links) (hok : Tp.LinksOk links) (hl : links.length ≤ 1000) (ht : ∀ i, i < links.length → Ec.trainOk (Tp.trainL links (i + 1)) = true)
    (hP : ∀ W, Ext w W → Calls Tryz.prog 65 #[.agg #[.slice A links.length c, .slice Bb mb cb]] W fun e W' => e = .returned (.bool true) ∧ Ext W W') :
    Calls Tryz.prog 18 #[.agg #[.slice A links.length c, .slice Bb mb cb]] w fun e w' => ∃ v u, e = .returned (.tuple #[v, u, .int .i64 0]) ∧ w'.ownsRow w.heap.size 69 2 v (links.length + 1) (Tp.pc (Tp.rateL links links.length)) ∧ w'.ownsRow w.heap.size 4 1 u (links.length + 1) ((Tp.sameL links links.length).map .bool) ∧ Ext w w' := by
  have HM := Lib.hid hm
  have HP := Lib.hid hP
  have HT := Lib.hid ht
  obtain ⟨n, hn⟩ : ∃ n, links.length = n := ⟨_, rfl⟩
  have HN := Lib.hid hn
  have r0 := Row.new w 50 #[.slice A links.length c, .slice Bb mb cb]
  have HR0 := Lib.hid r0
  have HX0 := Lib.hid ((Ext.refl w).alloc (.cells #[.slice A links.length c, .slice Bb mb cb] 50))
  have c0 := r0.cell
  clear hm hP ht r0
  rw [hn] at hl HR0 HX0 c0 ⊢
  clear hn
  obtain ⟨i0, hi0, hi1, hi2, hi3⟩ := info_parts Tp.info_fr
  obtain ⟨j0, hj0, hj1, hj2, hj3⟩ := info_parts Tp.info_bool2
  go_enter Tryz.func18, Tryz.ntmps18
  go_wp2_with fail
  refine (by have h9 := HP.out _ HX0.out; rw [HN.out] at h9; exact h9 : Calls Tryz.prog 65 _ _ _).mono ?_
  rintro e W2 ⟨rfl, hE2⟩
  have HR2 := Lib.hid (HR0.out.ext hE2)
  have HX2 := Lib.hid (HX0.out.trans hE2)
  have HF := Lib.hid (Row.new W2 69 #[.int .i64 1, .int .i64 1])
  have HB := Lib.hid (Row.new (W2.alloc (.cells #[.int .i64 1, .int .i64 1] 69)) 4 #[.bool true])
  have HXW := Lib.hid (((Ext.refl W2).alloc (.cells #[.int .i64 1, .int .i64 1] 69)).alloc (.cells #[.bool true] 4))
  have c2 := (HR2.out.ext HXW.out).cell
  clear hE2 c0
  go_wp2_with fail
  have hO1 := Tp.own_lit (base := W2.heap.size) (size := 2) (HF.out.alloc (.cells #[.bool true] 4)) 1 rfl (by decide) (Nat.le_refl _)
  have hO2 := Tp.own_lit (base := W2.heap.size) (size := 1) HB.out 1 rfl (by decide) (by simp)
  have HXW := HXW.out
  have hz2 := HX2.out.size
  obtain ⟨gH, hgH⟩ : ∃ gH, W2.heap.size + 1 = gH := ⟨_, rfl⟩
  have e2 : (W2.alloc (.cells #[.int .i64 1, .int .i64 1] 69)).heap.size = gH := by rw [← hgH]; simp
  rw [e2] at hO2
  rw [hgH]
  obtain ⟨W3, hW3⟩ : ∃ W3, (W2.alloc (.cells #[.int .i64 1, .int .i64 1] 69)).alloc (.cells #[.bool true] 4) = W3 := ⟨_, rfl⟩
  rw [hW3] at hO1 hO2 HXW ⊢
  have HO1 := Lib.hid hO1
  have HO2 := Lib.hid hO2
  have HXW := Lib.hid HXW
  have HZ2 := Lib.hid hz2
  clear hO1 hO2 hW3 e2 hgH HF HB c2 hz2 HX0 HR0
  go_loopw [5, 6, 20] (fun r s i wr => ∃ k : Nat, k ≤ n ∧ i = .int .i64 (k : Int) ∧ Ext W2 wr ∧ wr.ownsRow W2.heap.size 69 2 r (k + 1) (Tp.pc (Tp.rateL links k)) ∧ wr.ownsRow W2.heap.size 4 1 s (k + 1) ((Tp.sameL links k).map .bool)) (fun _ _ i _ => n - (intOf i).toNat)
  case atStart => exact ⟨0, Nat.zero_le _, rfl, HXW.out, HO1.out, HO2.out⟩
  case round =>
    obtain ⟨k, hk, rfl, hX3, hO1, hO2⟩ := hrel
    have HXR := Lib.hid hX3
    have HO1 := Lib.hid hO1
    have HO2 := Lib.hid hO2
    have HR3 := Lib.hid (HR2.out.ext hX3)
    have cp := HR3.out.cell
    rcases Nat.lt_or_eq_of_le hk with h9 | h9
    · have HTR : Hid (∀ W, Ext w W → Calls Tryz.prog 67 #[.agg #[.slice A n c, .slice Bb mb cb], .int .i64 ((k : Int) + 1)] W fun e w' => ∃ v, e = .returned v ∧ w'.ownsRow W.heap.size 125 2 v (Tp.trainL links (k + 1)).length (Tp.pc (Tp.trainL links (k + 1))) ∧ Ext W w') := Lib.hid (fun W h => by
        have h8 := sh_trainOf_any A c Bb mb cb links (k + 1) W (HM.out.ext h) hok (by rw [HN.out]; exact hl) (by rw [HN.out]; omega)
        rw [HN.out] at h8
        exact h8)
      have HTK := Lib.hid (HT.out k (by rw [HN.out]; exact h9))
      clear hX3 hO1 hO2
      go_wp2_with fail
      refine (HTR.out _ (HX2.out.trans HXR.out)).mono ?_
      rintro e w4 ⟨v, rfl, hv, hE4⟩
      obtain ⟨At, ct, rfl, hpt⟩ := Tp.pairs_own hv
      clear hv
      go_wp2_with fail
      refine (t_Turns_sense At ct _ _ hpt (by have := Tp.path_len (fun i => (hok.frm i).1) (k + 1); simp only [Tp.trainL, List.length_map]; omega) HTK.out).mono ?_
      rintro e w5 ⟨rfl, hE5⟩
      obtain ⟨tn, htn⟩ : ∃ t, Ec.turnsN (Tp.trainL links (k + 1)) = t := ⟨_, rfl⟩
      obtain ⟨td, htd⟩ : ∃ t, Ec.turnsD (Tp.trainL links (k + 1)) = t := ⟨_, rfl⟩
      obtain ⟨tb, htb⟩ : ∃ t, (((Tp.trainL links (k + 1)).length : Int) % 2 == 0) = t := ⟨_, rfl⟩
      rw [htn, htd, htb]
      have HTN := Lib.hid htn
      have HTD := Lib.hid htd
      have HTB := Lib.hid htb
      have HE := Lib.hid (((hE4.trans hE5).alloc (.cells #[.int .i64 tn, .int .i64 td] 69)).alloc (.cells #[.int .i64 tn, .int .i64 td] 69))
      have HOA := Lib.hid (own_ext HO1.out HE.out)
      have HNW : Hid (((w5.alloc (.cells #[.int .i64 tn, .int .i64 td] 69)).alloc (.cells #[.int .i64 tn, .int .i64 td] 69)).heap[w5.heap.size + 1]? = some (.cells #[.int .i64 tn, .int .i64 td] 69)) := Lib.hid (by
        have h8 := heap_alloc_new (w5.alloc (.cells #[.int .i64 tn, .int .i64 td] 69)) (.cells #[.int .i64 tn, .int .i64 td] 69)
        rw [World.size_alloc] at h8
        exact h8)
      have HOB := Lib.hid (own_ext HO2.out HE.out)
      have HXA := Lib.hid (HXR.out.trans HE.out)
      have hz5 : W2.heap.size ≤ w5.heap.size := ((HXR.out.trans hE4).trans hE5).size
      clear hE4 hE5 hpt htn htd htb
      go_wp2_with (at_builtin; first | (refine wpList_append_lies _ rfl (Operand.tmp 32) (Operand.tmp 34) 62 rfl W2.heap.size 69 i0 _ 2 16 Tryz.underlying62 hi0 hi1 hi2 hi3 rfl (by decide) _ (k + 1) (Tp.pc (Tp.rateL links k)) rfl HOA.out ⟨_, 0, none⟩ 1 1 [.int .i64 tn, .int .i64 td] rfl rfl (World.news_of_block (cs := #[.int .i64 tn, .int .i64 td]) (t := 69) (fr := (0, 0)) HNW.out) (by simp [Value.oneCell']) (by omega) (by simp only [maxLen]; omega) (by omega) (by simp; omega) _ rfl ?_; intro gg cap w6 hown6 hgrow6 hat6 hlt6; have HO61 := Lib.hid hown6; have HO62 := Lib.hid (Tp.own_grown HOB.out hgrow6 (Tp.rowOf HOA.out) (by decide)); have HX6 := Lib.hid (HXA.out.grown hgrow6 (fun g hg => (HOA.out.lt g hg).1)); have hz6 : W2.heap.size ≤ w6.heap.size := HX6.out.size; clear hown6 hgrow6 hat6) | (refine wpList_append_lies _ rfl (Operand.tmp 36) (Operand.tmp 38) 63 rfl W2.heap.size 4 j0 _ 1 1 Tryz.underlying63 hj0 hj1 hj2 hj3 rfl (by decide) _ (k + 1) ((Tp.sameL links k).map .bool) rfl (own_ext HO62.out ((Ext.refl w6).alloc _)) ⟨_, 0, none⟩ 1 1 [.bool tb] rfl rfl (World.news_of_block (cs := #[.bool tb]) (t := 4) (fr := (0, 0)) (heap_alloc_new _ _)) (by simp [Value.oneCell']) (by omega) (by simp only [maxLen]; omega) (by omega) (by simp; omega) _ rfl ?_; intro gg2 cap2 w7 hown7 hgrow7 hat7 hlt7; have HO72 := Lib.hid hown7; have HO71 := Lib.hid (Tp.own_grown (own_ext HO61.out ((Ext.refl w6).alloc (.cells #[.bool tb] 4))) hgrow7 (Tp.rowOf (own_ext HO62.out ((Ext.refl w6).alloc (.cells #[.bool tb] 4)))) (by decide)); have HX7 := Lib.hid ((HX6.out.alloc (.cells #[.bool tb] 4)).grown hgrow7 (fun g hg => ((own_ext HO62.out ((Ext.refl w6).alloc (.cells #[.bool tb] 4))).lt g hg).1)); clear hown7 hgrow7 hat7))
      go_roundw
      case rel =>
        refine ⟨k + 1, by omega, by simp, HX7.out, ?_, ?_⟩
        · have h8 := HO71.out
          rw [Tp.rateL_succ, Tp.pc_append, HTN.out, HTD.out]
          exact h8
        · have h8 := HO72.out
          rw [Tp.sameL_succ, List.map_append, HTB.out]
          exact h8
      case measure => simp [intOf]; omega
    · subst h9
      clear hX3 hO1 hO2
      go_wp2_with fail
      go_ret3
      exact ⟨_, _, rfl, Tp.own_mono HO1.out (Nat.le_of_lt (by have := HZ2.out; have := HX2.out.size; simpa using HR2.out.lt)), Tp.own_mono HO2.out (Nat.le_of_lt HR2.out.lt), HX2.out.trans HXR.out⟩
end Go.Proofs.YtimkmokomohgjaaGreat
namespace Go.Proofs.YtimkmokomohgjaaGreat
open Go.RowKit Go.Shelf
open Sp (rd)
set_option maxRecDepth 100000
set_option maxHeartbeats 4000000
set_option linter.unusedVariables false
set_option linter.unusedSimpArgs false
theorem sh_index_hand (A : Option Addr) (c : Nat) (l : List Int) (g : Nat) (B : Option Addr) (n0 c0 : Nat) (V : Value) (w : World) (hr : Row w g 50 #[.slice B n0 c0, V]) (hm : Ints w A l) (hl : l.length ≤ 100000) :
    Calls Tryz.prog 163 #[.slice A l.length c, .func (.func 124) #[] #[.pointer (some ⟨g, 0, none⟩)]] w (FoundInt (l.any fun n => !Sp.inR n 1 (n0 : Int)) w) := by
  have HRW := Lib.hid hr
  clear hr
  go_enter Tryz.func163, Tryz.ntmps163
  go_wp2_with fail
  go_loop [5, 8] (fun _ i => ∃ k : Nat, k ≤ l.length ∧ i = .int .i64 k ∧ (l.take k).any (fun n => !Sp.inR n 1 (n0 : Int)) = false) (fun _ i => l.length - (intOf i).toNat)
  case atStart => exact ⟨0, Nat.zero_le _, rfl, rfl⟩
  case round =>
    obtain ⟨k, hk, rfl, hq⟩ := hrel
    have HQ := Lib.hid hq
    clear hq
    by_cases hlt : k < l.length
    · obtain ⟨b, o, rfl, hc⟩ := hm (by omega)
      have ck := hc k hlt
      have HS := Lib.hid (any_take_succ l 0 (fun n => !Sp.inR n 1 (n0 : Int)) k hlt)
      have HT := Lib.hid (any_of_take l 0 (fun n => !Sp.inR n 1 (n0 : Int)) k hlt)
      clear hc
      cases hv : (!Sp.inR (rd l k) 1 (n0 : Int))
      · go_wp2_with fail
        refine (sh_badHand_any _ g B n0 c0 V _ HRW.out).mono ?_
        rintro e w' ⟨rfl, rfl⟩
        go_wp2_with fail
        go_round
        case rel => exact ⟨k + 1, by omega, by go_num, by rw [HS.out, HQ.out]; exact hv⟩
        case measure => simp [intOf]; omega
      · go_wp2_with fail
        refine (sh_badHand_any _ g B n0 c0 V _ HRW.out).mono ?_
        rintro e w' ⟨rfl, rfl⟩
        go_wp2_with fail
        go_ret
        exact ⟨_, rfl, by rw [HT.out hv]; simp, Ext.refl _⟩
    · go_wp2_with fail
      go_ret
      have e : l.take k = l := List.take_of_length_le (by omega)
      have := HQ.out
      rw [e] at this
      exact ⟨_, rfl, by rw [this]; rfl, Ext.refl _⟩
theorem sh_contains_hand (A : Option Addr) (c : Nat) (l : List Int) (g : Nat) (B : Option Addr) (n0 c0 : Nat) (V : Value) (w : World) (hr : Row w g 50 #[.slice B n0 c0, V]) (hm : Ints w A l) (hl : l.length ≤ 100000) :
    Calls Tryz.prog 100 #[.slice A l.length c, .func (.func 124) #[] #[.pointer (some ⟨g, 0, none⟩)]] w fun e w' => e = .returned (.bool (l.any fun n => !Sp.inR n 1 (n0 : Int))) ∧ Ext w w' := by
  have HRW := Lib.hid hr
  clear hr
  go_enter Tryz.func100, Tryz.ntmps100
  go_wp2_with fail
  refine (sh_index_hand A c l g B n0 c0 V w HRW.out hm hl).mono ?_
  rintro e w1 ⟨r, rfl, hr, hE⟩
  have HR := Lib.hid hr
  clear hr
  go_wp2_with fail
  go_ret
  exact ⟨ret_bool HR.out, hE⟩
/-- A piece that is in order. -/
structure Tp.PieceOk (links : List (Int × Ec.Pair)) (hands : List Int) : Prop where
  n1 : 1 ≤ links.length
  n5 : links.length ≤ 5
  m1 : 1 ≤ hands.length
  m4 : hands.length ≤ 4
  from_ : Tp.LinksOk links
  pair : ∀ i, i < links.length → (Ec.isTeeth (Tp.pr links i).drives && Ec.isTeeth (Tp.pr links i).driven) = true
  far : ∀ i, i < links.length → (Tp.path (Tp.frm (links.take i)) (Tp.frm links i)).length < 3
  hand : (hands.any fun n => !Sp.inR n 1 (links.length : Int)) = false
theorem Tp.Links.take {w : World} {A : Option Addr} {l : List (Int × Ec.Pair)} (h : Tp.Links w A l) (k : Nat) : Tp.Links w A (l.take k) := fun h0 =>
  have h1 : 0 < l.length := by rw [List.length_take] at h0; omega
  let ⟨b, o, e, hc⟩ := h h1
  ⟨b, o, e, fun j hj => by
    rw [List.length_take] at hj
    have e9 : (l.take k).getD j (0, Ec.noPair) = l.getD j (0, Ec.noPair) := by
      simp only [List.getD_eq_getElem?_getD, List.getElem?_take]
      rw [if_pos (by omega)]
    rw [e9]
    exact hc j (by omega)⟩
theorem Tp.LinksOk.take {l : List (Int × Ec.Pair)} (h : Tp.LinksOk l) (k : Nat) : Tp.LinksOk (l.take k) := fun i => by
  simp only [List.getD_eq_getElem?_getD, List.getElem?_take]
  by_cases hi : i < k
  · rw [if_pos hi]
    have := h i
    simpa only [List.getD_eq_getElem?_getD] using this
  · rw [if_neg hi]
    exact ⟨Int.le_refl _, Int.natCast_nonneg _⟩
theorem sh_isPiece_yes (A : Option Addr) (c : Nat) (Bb : Option Addr) (cb : Nat) (links : List (Int × Ec.Pair)) (hands : List Int) (w : World) (hm : Tp.Links w A links) (hh : Ints w Bb hands) (ok : Tp.PieceOk links hands) (hcap : links.length ≤ c) :
    Calls Tryz.prog 65 #[.agg #[.slice A links.length c, .slice Bb hands.length cb]] w fun e w' => e = .returned (.bool true) ∧ Ext w w' := by
  have HM := Lib.hid hm
  have HH := Lib.hid hh
  have HOK := Lib.hid ok
  have n1 := ok.n1
  have n5 := ok.n5
  have m1 := ok.m1
  have m4 := ok.m4
  obtain ⟨n, hn⟩ : ∃ n, links.length = n := ⟨_, rfl⟩
  obtain ⟨m, hmm⟩ : ∃ m, hands.length = m := ⟨_, rfl⟩
  have HN := Lib.hid hn
  have HMM := Lib.hid hmm
  have HI1 := Lib.hid (fun W => by have h9 := sh_in_any (n : Int) 1 5 W; rw [show Sp.inR (n : Int) 1 5 = true by simp [Sp.inR]; omega] at h9; exact h9)
  have HI2 := Lib.hid (fun W => by have h9 := sh_in_any (m : Int) 1 4 W; rw [show Sp.inR (m : Int) 1 4 = true by simp [Sp.inR]; omega] at h9; exact h9)
  have r0 := Row.new w 50 #[.slice A links.length c, .slice Bb hands.length cb]
  have HR0 := Lib.hid r0
  have HX0 := Lib.hid ((Ext.refl w).alloc (.cells #[.slice A links.length c, .slice Bb hands.length cb] 50))
  have c0 := r0.cell
  clear hm hh ok r0
  rw [hn] at HR0 HX0 c0 hcap ⊢ n1 n5
  rw [hmm] at HR0 HX0 c0 ⊢ m1 m4
  clear hn hmm
  go_enter Tryz.func65, Tryz.ntmps65
  go_wp2_with fail
  refine (HI1.out _).mono ?_
  rintro e w1 ⟨rfl, rfl⟩
  go_wp2_with fail
  refine (HI2.out _).mono ?_
  rintro e w1 ⟨rfl, rfl⟩
  dsimp only
  go_wp2_with fail
  obtain ⟨w0, hw0⟩ : ∃ w0, w.alloc (.cells #[.slice A n c, .slice Bb m cb] 50) = w0 := ⟨_, rfl⟩
  rw [hw0] at HR0 HX0 ⊢
  clear c0 hw0
  go_loopw [20] (fun i wr => ∃ k : Nat, k ≤ n ∧ i = .int .i64 (k : Int) ∧ Ext w0 wr) (fun i _ => n - (intOf i).toNat)
  case atStart => exact ⟨0, Nat.zero_le _, rfl, Ext.refl _⟩
  case round =>
    obtain ⟨k, hk, rfl, hX3⟩ := hrel
    have HXR := Lib.hid hX3
    have HR3 := Lib.hid (HR0.out.ext hX3)
    have cp := HR3.out.cell
    rcases Nat.lt_or_eq_of_le hk with h9 | h9
    · have hkl : k < links.length := by rw [HN.out]; exact h9
      obtain ⟨b, o, rfl, hc⟩ := HM.out (by omega)
      obtain ⟨d1, hd1⟩ : ∃ d, (Tp.pr links k).drives = d := ⟨_, rfl⟩
      obtain ⟨d2, hd2⟩ : ∃ d, (Tp.pr links k).driven = d := ⟨_, rfl⟩
      obtain ⟨fm, hfm⟩ : ∃ f, Tp.frm links k = f := ⟨_, rfl⟩
      have hkc : k ≤ c := by omega
      have hfk : fm ≤ k := by rw [← hfm]; exact (HOK.out.from_.frm k).1
      have y0 : wr.cell? ⟨b, o + k * 3, none⟩ = some (.int .i64 (fm : Int)) := by
        have h8 := (HX0.out.trans hX3).cell (hc k hkl).1
        rw [(HOK.out.from_.frm k).2, hfm] at h8
        exact h8
      have y1 : wr.cell? ⟨b, o + k * 3 + 1, none⟩ = some (.int .i64 d1) := by
        have h8 := (HX0.out.trans hX3).cell (hc k hkl).2.1
        rw [show (links.getD k (0, Ec.noPair)).2.drives = d1 from hd1] at h8
        exact h8
      have y2 : wr.cell? ⟨b, o + k * 3 + 2, none⟩ = some (.int .i64 d2) := by
        have h8 := (HX0.out.trans hX3).cell (hc k hkl).2.2
        rw [show (links.getD k (0, Ec.noPair)).2.driven = d2 from hd2] at h8
        exact h8
      have HIN : Hid (∀ W, Calls Tryz.prog 70 #[.int .i64 (fm : Int), .int .i64 0, .int .i64 (k : Int)] W fun e w' => e = .returned (.bool true) ∧ Ext W w') := Lib.hid (fun W => by have h8 := sh_in_any (fm : Int) 0 (k : Int) W; rw [show Sp.inR (fm : Int) 0 (k : Int) = true by simp [Sp.inR]; omega] at h8; exact h8.mono (fun e w' h => ⟨h.1, by rw [h.2]; exact Ext.refl _⟩))
      have HPR := Lib.hid (fun W => by have h8 := sh_isPair_any d1 d2 W; have h7 := HOK.out.pair k hkl; rw [hd1, hd2] at h7; rw [h7] at h8; exact h8)
      obtain ⟨z, hz⟩ : ∃ z, (Tp.path (Tp.frm (links.take k)) fm).length = z := ⟨_, rfl⟩
      have hz3 : z < 3 := by have h7 := HOK.out.far k hkl; rw [hfm, hz] at h7; exact h7
      have HFA : Hid (∀ W, Ext w W → Calls Tryz.prog 123 #[.slice (some ⟨b, o, none⟩) k c, .int .i64 (fm : Int)] W fun e w' => e = .returned (.int .i64 (z : Int)) ∧ Ext W w') := Lib.hid (fun W h => by
        have hlk : (links.take k).length = k := by rw [List.length_take]; omega
        have h8 := sh_far_any (some ⟨b, o, none⟩) c (links.take k) fm W ((HM.out.ext h).take k) (HOK.out.from_.take k) (by omega) (by omega)
        rw [hlk, hz] at h8
        exact h8)
      clear hX3 hc hd1 hd2 hfm hz
      go_wp2_with fail
      refine wp_region_later (by kernel_rfl) (by kernel_rfl) (fun W hW => ?_)
      have q1 := Later.block (w := W) (by rw [hW]; exact Row.new wr 127 #[.int .i64 (fm : Int), .int .i64 d1, .int .i64 d2])
      have q2 := Later.block (w := W) (by rw [hW]; exact HR3.out.alloc _)
      have HXW : Hid (Ext w0 W) := Lib.hid (by rw [hW]; exact HXR.out.alloc _)
      clear hW
      have HFL := Lib.hid (fun X : Later W => HFA.out _ (HX0.out.trans (HXW.out.trans X.ext)))
      have HIL := Lib.hid (fun X : Later W => HIN.out X.world)
      have HPL := Lib.hid (fun X : Later W => HPR.out X.world)
      repeat (go_big_quiet_step (first | (go_at_call 70; exact Later.call (HIL.out _)) | (go_at_call 122; exact Later.call (HPL.out _)) | (go_at_call 123; exact Later.call (HFL.out _))))
      refine wpQuiet_nil ?_
      rintro ⟨W4, hE4⟩
      have HX4 := Lib.hid (HXW.out.trans hE4)
      dsimp only
      go_wp2_with fail
      go_roundw
      case rel => exact ⟨k + 1, by omega, by simp, HX4.out⟩
      case measure => simp [intOf]; omega
    · subst h9
      clear hX3
      have HCH := Lib.hid (fun (W : World) (h : Ext wr W) => by have h8 := sh_contains_hand Bb cb hands w.heap.size A k c (.slice Bb m cb) W (HR3.out.ext h) (HH.out.ext (HX0.out.trans (HXR.out.trans h))) (by rw [HMM.out]; omega); have h7 := HOK.out.hand; rw [HN.out] at h7; rw [h7, HMM.out] at h8; exact h8)
      go_wp2_with fail
      refine (HCH.out _ (Ext.refl _)).mono ?_
      rintro e w5 ⟨rfl, hE5⟩
      go_wp2_with fail
      go_ret
      exact ⟨by first | rfl | simp, HX0.out.trans (HXR.out.trans hE5)⟩
end Go.Proofs.YtimkmokomohgjaaGreat
namespace Go.Proofs.YtimkmokomohgjaaGreat
open Go.RowKit
open Sp (rd)
set_option maxRecDepth 100000
set_option maxHeartbeats 4000000
set_option linter.unusedVariables false
set_option linter.unusedSimpArgs false
theorem r9_in_any (x lo hi : Int) (w : World) : Calls Tryz.prog 68 #[.int .i64 x, .int .i64 lo, .int .i64 hi] w fun e w' => e = .returned (.bool (Sp.inR x lo hi)) ∧ w = w' := by
  by_cases h1 : lo ≤ x <;> by_cases h2 : x ≤ hi <;>
  · go_enter Tryz.func68, Tryz.ntmps68
    go_wp2_with fail
    all_goals
      go_ret
      exact ⟨ret_bool (by simp [Sp.inR, h1, h2]), rfl⟩
theorem r9_Pair_any (x y : Int) (w : World) : Calls Tryz.prog 110 #[.agg #[.int .i64 x, .int .i64 y]] w fun e w' => e = .returned (.bool (Ec.isTeeth x && Ec.isTeeth y)) ∧ Ext w w' := by
  have HX := Lib.hid (fun W => r1_Teeth_any x W)
  have HY := Lib.hid (fun W => r1_Teeth_any y W)
  obtain ⟨p, hp⟩ : ∃ p, Ec.isTeeth x = p := ⟨_, rfl⟩
  obtain ⟨q, hq⟩ : ∃ p, Ec.isTeeth y = p := ⟨_, rfl⟩
  rw [hp] at HX ⊢
  rw [hq] at HY ⊢
  clear hp hq
  have hr := Row.new w 125 #[.int .i64 x, .int .i64 y]
  have HE : Hid (Ext w (w.alloc (.cells #[.int .i64 x, .int .i64 y] 125))) := Lib.hid ((Ext.refl w).alloc _)
  have a0 := hr.cell
  clear hr
  go_enter Tryz.func110, Tryz.ntmps110
  go_wp2_with fail
  refine (HX.out _).mono ?_
  rintro e w1 ⟨rfl, rfl⟩
  dsimp only
  cases p
  · go_wp2_with fail
    go_ret
    exact ⟨rfl, HE.out⟩
  · go_wp2_with fail
    refine (HY.out _).mono ?_
    rintro e w1 ⟨rfl, rfl⟩
    dsimp only
    go_wp2_with fail
    go_ret
    exact ⟨by simp, HE.out⟩
theorem r9_Arbor_any (A : Option Addr) (n c : Nat) (V : Value) (x : Int) (w : World) :
    Calls Tryz.prog 19 #[.agg #[.slice A n c, V], .int .i64 x] w fun e w' => e = .returned (.bool (Sp.inR x 1 (n : Int))) ∧ Ext w w' := by
  have hr := Row.new w 50 #[.slice A n c, V]
  have HE : Hid (Ext w (w.alloc (.cells #[.slice A n c, V] 50))) := Lib.hid ((Ext.refl w).alloc _)
  have a0 := hr.cell
  clear hr
  go_enter Tryz.func19, Tryz.ntmps19
  go_wp2_with fail
  refine (r9_in_any _ _ _ _).mono ?_
  rintro e w1 ⟨rfl, rfl⟩
  go_wp2_with fail
  go_ret
  exact ⟨rfl, HE.out⟩
theorem Tp.run_append_pairs (ty : TypeId) (w : World) (base b2 : Nat) (v x : Value) (L l : List Ec.Pair) (hv : w.ownsRow base 125 2 v L.length (Tp.pc L)) (hx : w.ownsRow b2 125 2 x l.length (Tp.pc l)) (hn : L.length + l.length ≤ 1000) (hb : base ≤ w.heap.size) :
    ∃ v' w', (Builtin.append_ #[78, 78] ty #[v, x]).run Tryz.prog w = .ok v' w' ∧ w'.ownsRow base 125 2 v' (L ++ l).length (Tp.pc (L ++ l)) ∧ w.grownBy w' v.ownBlock := by
  obtain ⟨i0, hi, hz0, hz1, hz2⟩ := info_parts Tp.info_pair
  rw [Tp.pc_append, List.length_append]
  rcases hx.2 with ⟨rfl, h0⟩ | ⟨g, cap, cur, rfl, _⟩
  · obtain rfl : l = [] := List.eq_nil_of_length_eq_zero h0
    exact ⟨v, w, run_append_owned_none w base _ ty _ i0 2 Tryz.underlying78 hi v L.length (Tp.pc L) hv, by simpa [Tp.pc] using hv, ⟨rfl, rfl, rfl, Nat.le_refl _, fun _ _ _ => rfl⟩⟩
  · obtain ⟨v', w', h1, h2, h3, _, h5⟩ := run_append_own_at (P := Tryz.prog) w base _ ty _ i0 (.agg #[.int .i64 0, .int .i64 0]) 2 16 Tryz.underlying78 hi hz0 hz1 hz2 rfl (by decide) v L.length (Tp.pc L) hv ⟨g, 0, none⟩ l.length cap (Tp.pc l) (Tp.pc_len l) (hx.cells (g := g) rfl) (Tp.pc_one l) (by simp only [maxLen]; omega) (by omega) hb
    exact ⟨v', w', h1, h2, h3⟩
theorem Tp.wpList_append_pairs {w : World} {ops : Array Oper} {rest : List Oper} {o : Oper} {a : Act} {Q : Exit → Act → World → Prop} (hgd : o.guard = none) (s x : Operand)
    (ho : o.op = .call { callee := .builtin .append, args := #[s, x], argTypes := #[78, 78] })
    (base b2 : Nat) (v y : Value) (L l : List Ec.Pair) (hs : a.eval s = v) (hy : a.eval x = y) (hv : w.ownsRow base 125 2 v L.length (Tp.pc L)) (hx : w.ownsRow b2 125 2 y l.length (Tp.pc l)) (hn : L.length + l.length ≤ 1000) (hb : base ≤ w.heap.size)
    (h : ∀ v' w', w'.ownsRow base 125 2 v' (L ++ l).length (Tp.pc (L ++ l)) → w.grownBy w' v.ownBlock → wpList Tryz.prog ops Q rest (a.put o.dst v') w') :
    wpList Tryz.prog ops Q (o :: rest) a w := by
  refine wpList_plain hgd fun K hK => ?_
  obtain ⟨v', w', hr, h2, h3⟩ := Tp.run_append_pairs o.type w base b2 v y L l hv hx hn hb
  unfold Oper.wp execOp
  simp only [ho, resolve, invoke, builtin, Sem.run_bind, Sem.run_pure, Result.andThen_ok, List.map_toArray, List.map_cons, List.map_nil, hs, hy, hr]
  exact hK _ _ (h v' w' h2 h3)
theorem Tp.trainL_zero (L : List (Int × Ec.Pair)) : Tp.trainL L 0 = [] := rfl
theorem Tp.trainL_succ {L : List (Int × Ec.Pair)} (hok : Tp.LinksOk L) (a : Nat) : Tp.trainL L (a + 1) = Tp.trainL L (Tp.frm L a) ++ [Tp.pr L a] := by
  unfold Tp.trainL
  rw [Tp.path_succ (fun i => (hok.frm i).1), List.map_append]
  rfl
theorem Tp.trainL_len {L : List (Int × Ec.Pair)} (hok : Tp.LinksOk L) (a : Nat) : (Tp.trainL L a).length ≤ a := by
  have := Tp.path_len (fun i => (hok.frm i).1) a
  simpa [Tp.trainL] using this
def Tp.trΦ (V : Value) (g : Nat) (fr x y : Int) (l : List Ec.Pair) (n0 : Nat) (i : Nat) (v : Value) (w : World) : Prop :=
  match i with
  | 0 => v = V
  | 1 => v = .pointer (some ⟨g, 0, none⟩)
  | 2 => v = .int .i64 fr
  | 3 => w.ownsRow n0 125 2 v l.length (Tp.pc l)
  | 4 => w.ownsRow n0 125 2 v l.length (Tp.pc l)
  | 5 => v = .pointer (some ⟨g, 1, none⟩)
  | 6 => v = .agg #[.int .i64 x, .int .i64 y]
  | 7 => ∃ b, v = .slice (some ⟨b, 0, none⟩) 1 1 ∧ n0 ≤ b ∧ Row w b 125 #[.int .i64 x, .int .i64 y]
  | _ => True
theorem Tp.trΦ_mono {V : Value} {g : Nat} {fr x y : Int} {l : List Ec.Pair} {n0 : Nat} (i : Nat) (v : Value) (w w' : World) (h : Tp.trΦ V g fr x y l n0 i v w) (he : Ext w w') : Tp.trΦ V g fr x y l n0 i v w' := by
  unfold Tp.trΦ at h ⊢
  split at h <;> first
    | exact h
    | exact own_ext h he
    | exact (let ⟨b, h1, h2, h3⟩ := h; ⟨b, h1, h2, h3.ext he⟩)
theorem r9_Train_any (A : Option Addr) (n c : Nat) (V : Value) (L : List (Int × Ec.Pair)) (hok : Tp.LinksOk L) (hn : L.length ≤ n) (hl : L.length ≤ 900) :
    ∀ (a : Nat) (w : World), Tp.Links w A L → a ≤ L.length → Calls Tryz.prog 111 #[.agg #[.slice A n c, V], .int .i64 (a : Int)] w fun e w' => ∃ v, e = .returned v ∧ w'.ownsRow w.heap.size 125 2 v (Tp.trainL L a).length (Tp.pc (Tp.trainL L a)) ∧ Ext w w' := by
  intro a
  induction a using Nat.strongRecOn with
  | _ a ih =>
  intro w hm ha
  have hr := Row.new w 50 #[.slice A n c, V]
  have HE0 : Hid (Ext w (w.alloc (.cells #[.slice A n c, V] 50))) := Lib.hid ((Ext.refl w).alloc _)
  have HIH := Lib.hid ih
  have a0 := hr.cell
  have HM := Lib.hid hm
  cases a with
  | zero =>
    clear ih hm
    have hz : ((0 : Nat) : Int) = 0 := rfl
    rw [hz]
    go_enter Tryz.func111, Tryz.ntmps111
    go_wp2_with fail
    go_ret
    exact ⟨_, rfl, by rw [Tp.trainL_zero]; exact World.ownsRow_nil _ _ _ _, HE0.out⟩
  | succ a =>
    obtain ⟨b, o, rfl, hc⟩ := hm (by omega)
    obtain ⟨c0, c1, c2⟩ := hc a (by omega)
    have hfr := hok.frm a
    obtain ⟨x, hx⟩ : ∃ x, (L.getD a (0, Ec.noPair)).2.drives = x := ⟨_, rfl⟩
    obtain ⟨y, hy⟩ : ∃ y, (L.getD a (0, Ec.noPair)).2.driven = y := ⟨_, rfl⟩
    rw [hx] at c1
    rw [hy] at c2
    rw [hfr.2] at c0
    have HT : Hid (Tp.trainL L (a + 1) = Tp.trainL L (Tp.frm L a) ++ [⟨x, y⟩]) := Lib.hid (by rw [Tp.trainL_succ hok, ← hx, ← hy]; rfl)
    have htl := Tp.trainL_len hok (Tp.frm L a)
    have hfl := hfr.1
    obtain ⟨f, hf⟩ : ∃ f, Tp.frm L a = f := ⟨_, rfl⟩
    rw [hf] at c0 HT htl hfl
    obtain ⟨l, hll⟩ : ∃ l, Tp.trainL L f = l := ⟨_, rfl⟩
    have HLL := Lib.hid hll
    rw [hll] at HT htl
    have e0 := HE0.out.cell c0
    have e1 := HE0.out.cell c1
    have e2 := HE0.out.cell c2
    have hlt : (a : Int) < (n : Int) := by omega
    have hlt2 : a < n := by omega
    have hsub : ((a + 1 : Nat) : Int) - 1 = (a : Int) := by omega
    have hne : ((((a + 1 : Nat) : Int)) == 0) = false := by rw [beq_eq_false_iff_ne]; omega
    have hne2 : ¬ (((a + 1 : Nat) : Int)) = 0 := by omega
    have h3 : (a : Int).toNat = a := by omega
    clear hx hy hf hll hfr hc hm c0 c1 c2 ih
    go_enter Tryz.func111, Tryz.ntmps111
    go_wp2_with fail
    obtain ⟨W, hW⟩ : ∃ W, (w.alloc (.cells #[.slice (some ⟨b, o, none⟩) n c, V] 50)).alloc (.cells #[.int .i64 (f : Int), .int .i64 x, .int .i64 y] 127) = W := ⟨_, rfl⟩
    have hR1 : Row W w.heap.size 50 #[.slice (some ⟨b, o, none⟩) n c, V] := by rw [← hW]; exact hr.alloc _
    have hR2 : Row W (w.heap.size + 1) 127 #[.int .i64 (f : Int), .int .i64 x, .int .i64 y] := by
      have := Row.new (w.alloc (.cells #[.slice (some ⟨b, o, none⟩) n c, V] 50)) 127 #[.int .i64 (f : Int), .int .i64 x, .int .i64 y]
      rw [World.size_alloc] at this
      rw [← hW]
      exact this
    have hX : Ext w W := by rw [← hW]; exact HE0.out.alloc _
    have HX := Lib.hid hX
    have HR1 := Lib.hid hR1
    have HR2 := Lib.hid hR2
    rw [hW]
    clear hW hR1 hR2 hX hr a0 e0 e1 e2
    refine wp_region_free_closed 8 (Tp.trΦ (.agg #[.slice (some ⟨b, o, none⟩) n c, V]) (w.heap.size + 1) (f : Int) x y l w.heap.size) (by kernel_rfl) (by simp) (by kernel_rfl) (by kernel_rfl) (by kernel_rfl) Tp.trΦ_mono ?hob ?hQ
    case hob =>
      intro i o' hin ho a' wa hE hF
      match i, hin with
      | 0, _ =>
        obtain rfl := Option.some.inj ho
        have h0 : a'.tmps[2]?.getD undef = .pointer (some ⟨w.heap.size, 0, none⟩) := evalD (hF.old 2 (by decide))
        have q := (Row.ext HR1.out hE).cell
        refine Ran.value rfl (v := .agg #[.slice (some ⟨b, o, none⟩) n c, V]) (w1 := wa) ?_ ⟨rfl, Ext.refl _⟩
        go_simp
      | 1, _ =>
        obtain rfl := Option.some.inj ho
        have h0 : a'.tmps[5]?.getD undef = .pointer (some ⟨w.heap.size + 1, 0, none⟩) := evalD (hF.old 5 (by decide))
        refine Ran.value rfl (v := .pointer (some ⟨w.heap.size + 1, 0, none⟩)) (w1 := wa) ?_ ⟨rfl, Ext.refl _⟩
        go_simp
      | 2, _ =>
        obtain rfl := Option.some.inj ho
        have h0 : a'.tmps[15]?.getD undef = .pointer (some ⟨w.heap.size + 1, 0, none⟩) := evalD (hF.from_ 1 15 rfl (by decide))
        have q := (Row.ext HR2.out hE).cell
        refine Ran.value rfl (v := .int .i64 (f : Int)) (w1 := wa) ?_ ⟨rfl, Ext.refl _⟩
        go_simp
      | 3, _ =>
        obtain rfl := Option.some.inj ho
        have h0 : a'.tmps[14]?.getD undef = .agg #[.slice (some ⟨b, o, none⟩) n c, V] := evalD (hF.from_ 0 14 rfl (by decide))
        have h1 : a'.tmps[16]?.getD undef = .int .i64 (f : Int) := evalD (hF.from_ 2 16 rfl (by decide))
        refine Ran.enter rfl (f := 111) (args := #[.agg #[.slice (some ⟨b, o, none⟩) n c, V], .int .i64 (f : Int)]) (w1 := wa) ?_ ?_
        · go_simp
        · refine (HIH.out f (by omega) wa ((HM.out.ext HX.out).ext hE) (by omega)).mono ?_
          rintro r w1 ⟨v, rfl, hv, hX1⟩
          rw [HLL.out] at hv
          exact ⟨_, rfl, Tp.own_mono hv (Nat.le_trans HX.out.size hE.size), hX1⟩
      | 4, _ =>
        obtain rfl := Option.some.inj ho
        have h0 : wa.ownsRow w.heap.size 125 2 (a'.eval (.tmp 17)) l.length (Tp.pc l) := hF.from_ 3 17 rfl (by decide)
        obtain ⟨v', w', hr, h2, h3⟩ := Tp.run_append_pairs 78 wa w.heap.size w.heap.size (.slice none 0 0) (a'.eval (.tmp 17)) [] l (World.ownsRow_nil _ _ _ _) h0 (by simp; omega) (Nat.le_trans HX.out.size hE.size)
        refine Ran.value rfl (v := v') (w1 := w') ?_ ⟨h2, (Ext.refl wa).grown h3 (fun q hq => by cases hq)⟩
        unfold execOp
        have hc : a'.eval (.const (.slice none 0 0)) = .slice none 0 0 := rfl
        simp only [resolve, invoke, builtin, Sem.run_bind, Sem.run_pure, Result.andThen_ok, List.map_toArray, List.map_cons, List.map_nil, hc, hr]
      | 5, _ =>
        obtain rfl := Option.some.inj ho
        have h0 : a'.tmps[5]?.getD undef = .pointer (some ⟨w.heap.size + 1, 0, none⟩) := evalD (hF.old 5 (by decide))
        refine Ran.value rfl (v := .pointer (some ⟨w.heap.size + 1, 1, none⟩)) (w1 := wa) ?_ ⟨rfl, Ext.refl _⟩
        go_simp
      | 6, _ =>
        obtain rfl := Option.some.inj ho
        have h0 : a'.tmps[19]?.getD undef = .pointer (some ⟨w.heap.size + 1, 1, none⟩) := evalD (hF.from_ 5 19 rfl (by decide))
        have q := (Row.ext HR2.out hE).cell
        refine Ran.value rfl (v := .agg #[.int .i64 x, .int .i64 y]) (w1 := wa) ?_ ⟨rfl, Ext.refl _⟩
        go_simp
      | 7, _ =>
        obtain rfl := Option.some.inj ho
        have h0 : a'.tmps[20]?.getD undef = .agg #[.int .i64 x, .int .i64 y] := evalD (hF.from_ 6 20 rfl (by decide))
        refine Ran.value rfl (v := .slice (some ⟨wa.heap.size, 0, none⟩) 1 1) (w1 := wa.alloc (.cells #[.int .i64 x, .int .i64 y] 125)) ?_ ⟨⟨wa.heap.size, rfl, Nat.le_trans HX.out.size hE.size, Row.new _ _ _⟩, (Ext.refl _).alloc _⟩
        go_simp
      | k + 8, hin => omega
    case hQ =>
      intro vs w2 hE hΦ
      have f0 : vs 0 = .agg #[.slice (some ⟨b, o, none⟩) n c, V] := hΦ 0 (by omega)
      have f1 : vs 1 = .pointer (some ⟨w.heap.size + 1, 0, none⟩) := hΦ 1 (by omega)
      have f2 : vs 2 = .int .i64 (f : Int) := hΦ 2 (by omega)
      have f4 : w2.ownsRow w.heap.size 125 2 (vs 4) l.length (Tp.pc l) := hΦ 4 (by omega)
      obtain ⟨b7, f7, hb7, hr7⟩ : ∃ b, vs 7 = .slice (some ⟨b, 0, none⟩) 1 1 ∧ w.heap.size ≤ b ∧ Row w2 b 125 #[.int .i64 x, .int .i64 y] := hΦ 7 (by omega)
      have hrg : List.range 8 = [0, 1, 2, 3, 4, 5, 6, 7] := rfl
      unfold putAll putS
      simp only [List.length_cons, List.length_nil, List.take_succ_cons, List.take_zero, List.drop_succ_cons, List.drop_zero, Nat.reduceAdd, hrg, List.foldl_cons, List.foldl_nil, dstOf, List.getElem?_cons_succ, List.getElem?_cons_zero, Option.bind_some]
      clear hrg
      simp only [Act.put, List.setIfInBounds_toArray, List.set_cons_succ, List.set_cons_zero]
      have HE2 := Lib.hid (HX.out.trans hE)
      refine Tp.wpList_append_pairs rfl (.tmp 18) (.tmp 21) rfl w.heap.size w.heap.size (vs 4) (vs 7) l [⟨x, y⟩] rfl rfl f4 ?_ (by simp; omega) HE2.out.size ?_
      · rw [f7]
        have := Tp.own_lit (base := w.heap.size) (size := 2) hr7 1 rfl (by decide) hb7
        simpa [Tp.pc] using this
      · intro v' w3 ho3 hg3
        have hE3 : Ext w w3 := HE2.out.grown hg3 (fun q hq => (f4.lt q hq).1)
        have HO3 := Lib.hid ho3
        have HE3 := Lib.hid hE3
        clear ho3 hg3 hE3 f4 f7 hr7 hE hΦ
        go_wp2_with fail
        go_ret
        exact ⟨_, rfl, by rw [HT.out]; exact HO3.out, HE3.out⟩
end Go.Proofs.YtimkmokomohgjaaGreat
namespace Go.Proofs.YtimkmokomohgjaaGreat
open Go.RowKit
open Sp (rd)
set_option maxRecDepth 100000
set_option maxHeartbeats 4000000
set_option linter.unusedVariables false
set_option linter.unusedSimpArgs false
/-- The first links are in order. -/
structure Tp.FirstOk (links : List (Int × Ec.Pair)) (k : Nat) : Prop where
  from_ : Tp.LinksOk (links.take k)
  pair : ∀ i, i < k → (Ec.isTeeth (Tp.pr links i).drives && Ec.isTeeth (Tp.pr links i).driven) = true
  len : ∀ i, i < k → (Tp.trainL (links.take (i + 1)) (i + 1)).length ≤ 3
theorem Tp.linksOk_succ {links : List (Int × Ec.Pair)} {k : Nat} (h : Tp.LinksOk (links.take k)) (hk : k < links.length) (h0 : 0 ≤ (links.getD k (0, Ec.noPair)).1) (h1 : (links.getD k (0, Ec.noPair)).1 ≤ (k : Int)) : Tp.LinksOk (links.take (k + 1)) := fun i => by
  simp only [List.getD_eq_getElem?_getD, List.getElem?_take]
  by_cases hi : i < k + 1
  · rw [if_pos hi]
    rcases Nat.lt_or_eq_of_le (Nat.le_of_lt_succ hi) with h9 | rfl
    · have := h i
      simp only [List.getD_eq_getElem?_getD, List.getElem?_take, if_pos h9] at this
      exact this
    · simp only [List.getD_eq_getElem?_getD] at h0 h1
      exact ⟨h0, h1⟩
  · rw [if_neg hi]
    exact ⟨Int.le_refl _, Int.natCast_nonneg _⟩
theorem Tp.frm_take {links : List (Int × Ec.Pair)} {k i : Nat} (h : i < k) : Tp.frm (links.take k) i = Tp.frm links i := by
  unfold Tp.frm
  simp only [List.getD_eq_getElem?_getD, List.getElem?_take, if_pos h]
theorem Tp.pr_take {links : List (Int × Ec.Pair)} {k i : Nat} (h : i < k) : Tp.pr (links.take k) i = Tp.pr links i := by
  unfold Tp.pr
  simp only [List.getD_eq_getElem?_getD, List.getElem?_take, if_pos h]
theorem Tp.pathF_congr {f g : Nat → Nat} {n : Nat} (hf : ∀ i, f i ≤ i) (h : ∀ i, i < n → f i = g i) : ∀ k a, a ≤ n → Tp.pathF f k a = Tp.pathF g k a := by
  intro k
  induction k with
  | zero => intro a _; rfl
  | succ k ih =>
    intro a ha
    unfold Tp.pathF
    by_cases h0 : a = 0
    · rw [if_pos h0, if_pos h0]
    · rw [if_neg h0, if_neg h0, ← h (a - 1) (by omega), ih (f (a - 1)) (by have := hf (a - 1); omega)]
theorem Tp.path_lt {f : Nat → Nat} (hf : ∀ i, f i ≤ i) : ∀ k a i, i ∈ Tp.pathF f k a → i < a := by
  intro k
  induction k with
  | zero => intro a i h; cases h
  | succ k ih =>
    intro a i h
    unfold Tp.pathF at h
    by_cases h0 : a = 0
    · rw [if_pos h0] at h; cases h
    · rw [if_neg h0] at h
      rcases List.mem_append.1 h with h | h
      · have := ih _ _ h
        have := hf (a - 1)
        omega
      · have : i = a - 1 := by simpa using h
        omega
/-- The train of an arbor looks at the links up to it alone. -/
theorem Tp.trainL_take {links : List (Int × Ec.Pair)} {k a : Nat} (hok : Tp.LinksOk (links.take k)) (ha : a ≤ k) : Tp.trainL (links.take k) a = Tp.trainL links a := by
  unfold Tp.trainL Tp.path
  rw [Tp.pathF_congr (n := k) (fun i => (hok.frm i).1) (fun i hi => Tp.frm_take hi) a a ha]
  refine List.map_congr_left fun i hi => Tp.pr_take ?_
  rw [← Tp.pathF_congr (n := k) (fun i => (hok.frm i).1) (fun i hi => Tp.frm_take hi) a a ha] at hi
  have := Tp.path_lt (fun i => (hok.frm i).1) _ _ _ hi
  omega
structure Tp.PieceAll (links : List (Int × Ec.Pair)) (hands : List Int) : Prop where
  ok : Tp.PieceOk links hands
  train : ∀ i, i < links.length → Ec.trainOk (Tp.trainL links (i + 1)) = true
theorem Tp.piece_all {links : List (Int × Ec.Pair)} {hands : List Int} (h : Tp.FirstOk links links.length) (n1 : 1 ≤ links.length) (n5 : links.length ≤ 5) (m1 : 1 ≤ hands.length) (m4 : hands.length ≤ 4) (hh : ∀ k, k < hands.length → Sp.inR (rd hands k) 1 (links.length : Int) = true) : Tp.PieceAll links hands := by
  have hok : Tp.LinksOk links := by have := h.from_; rwa [List.take_length] at this
  refine ⟨⟨n1, n5, m1, m4, hok, h.pair, fun i hi => ?_, ?_⟩, fun i hi => ?_⟩
  · have h1 := h.len i hi
    have h2 := Tp.LinksOk.take hok (i + 1)
    rw [Tp.trainL_succ h2, List.length_append, List.length_singleton, Tp.frm_take (Nat.lt_succ_self i)] at h1
    have h3 := (hok.frm i).1
    unfold Tp.trainL at h1
    rw [List.length_map] at h1
    have h4 : Tp.path (Tp.frm (links.take (i + 1))) (Tp.frm links i) = Tp.path (Tp.frm (links.take i)) (Tp.frm links i) := by
      unfold Tp.path
      exact Tp.pathF_congr (n := i) (fun j => (h2.frm j).1) (fun j hj => by rw [Tp.frm_take (by omega), Tp.frm_take hj]) _ _ h3
    rw [h4] at h1
    omega
  · rw [List.any_eq_false]
    intro x hx
    obtain ⟨k, hk, rfl⟩ := List.mem_iff_getElem.1 hx
    have := hh k hk
    have e : rd hands k = hands[k] := by unfold Sp.rd; rw [List.getD_eq_getElem?_getD, List.getElem?_eq_getElem hk]; rfl
    rw [e] at this
    simp [this]
  · have h1 := h.len i hi
    rw [Tp.trainL_take (Tp.LinksOk.take hok (i + 1)) (Nat.le_refl _)] at h1
    unfold Ec.trainOk
    rw [Bool.and_eq_true, List.all_eq_true]
    constructor
    · have h2 : 1 ≤ (Tp.trainL links (i + 1)).length := by rw [Tp.trainL_succ hok, List.length_append, List.length_singleton]; omega
      simp [Sp.inR]
      omega
    · intro p hp
      unfold Tp.trainL at hp
      obtain ⟨j, hj, rfl⟩ := List.mem_map.1 hp
      have := Tp.path_lt (fun i => (hok.frm i).1) _ _ _ hj
      exact h.pair j (by omega)
theorem Tp.firstOk_zero (links : List (Int × Ec.Pair)) : Tp.FirstOk links 0 := ⟨fun i => by simp, fun i h => absurd h (by omega), fun i h => absurd h (by omega)⟩
theorem Tp.firstOk_succ {links : List (Int × Ec.Pair)} {k : Nat} (h : Tp.FirstOk links k) (hf : Tp.LinksOk (links.take (k + 1))) (hp : (Ec.isTeeth (Tp.pr links k).drives && Ec.isTeeth (Tp.pr links k).driven) = true) (hl : (Tp.trainL (links.take (k + 1)) (k + 1)).length ≤ 3) : Tp.FirstOk links (k + 1) :=
  ⟨hf, fun i hi => by rcases Nat.lt_or_eq_of_le (Nat.le_of_lt_succ hi) with h9 | rfl; exact h.pair i h9; exact hp, fun i hi => by rcases Nat.lt_or_eq_of_le (Nat.le_of_lt_succ hi) with h9 | rfl; exact h.len i h9; exact hl⟩
def Tp.PiecePost (links : List (Int × Ec.Pair)) (hands : List Int) (w : World) (e : Ending) (w' : World) : Prop := ∃ b, e = .returned (.bool b) ∧ (b = true → Tp.PieceAll links hands) ∧ Ext w w'
theorem Tp.piecePost {links : List (Int × Ec.Pair)} {hands : List Int} {w w' : World} {e : Ending} (b : Bool) (he : e = .returned (.bool b)) (h : b = true → Tp.PieceAll links hands) (hx : Ext w w') : Tp.PiecePost links hands w e w' := ⟨b, he, h, hx⟩
set_option maxHeartbeats 16000000 in
theorem r9_Piece_any (A : Option Addr) (c : Nat) (Bb : Option Addr) (cb : Nat) (links : List (Int × Ec.Pair)) (hands : List Int) (w : World) (hm : Tp.Links w A links) (hh : Ints w Bb hands) (n5 : links.length ≤ 5) (m4 : hands.length ≤ 4) :
    Calls Tryz.prog 56 #[.agg #[.slice A links.length c, .slice Bb hands.length cb]] w (Tp.PiecePost links hands w) := by
  have HM := Lib.hid hm
  have HH := Lib.hid hh
  have HTR := Lib.hid (fun (L : List (Int × Ec.Pair)) hok hn (a : Nat) W h ha => r9_Train_any A links.length c (.slice Bb hands.length cb) L hok hn (by omega) a W h ha)
  have HAR := Lib.hid (fun x W => r9_Arbor_any A links.length c (.slice Bb hands.length cb) x W)
  have HAL := Lib.hid (fun h n1 m1 hh => Tp.piece_all (links := links) (hands := hands) h n1 n5 m1 m4 hh)
  obtain ⟨n, hn⟩ : ∃ n, links.length = n := ⟨_, rfl⟩
  obtain ⟨m, hmm⟩ : ∃ m, hands.length = m := ⟨_, rfl⟩
  have HN := Lib.hid hn
  have HMM := Lib.hid hmm
  have r0 := Row.new w 50 #[.slice A links.length c, .slice Bb hands.length cb]
  have HR0 := Lib.hid r0
  have HX0 := Lib.hid ((Ext.refl w).alloc (.cells #[.slice A links.length c, .slice Bb hands.length cb] 50))
  rw [hn, hmm] at HR0 HX0 HTR HAR HAL ⊢
  rw [hn] at n5
  rw [hmm] at m4
  clear hm hh hn hmm r0
  have c0 := HR0.out.cell
  by_cases n1 : 1 ≤ n
  case neg =>
    have h9 : Sp.inR (n : Int) 1 5 = false := by simp [Sp.inR]; omega
    go_enter Tryz.func56, Tryz.ntmps56
    go_wp2_with fail
    refine (r9_in_any _ _ _ _).mono ?_
    rintro e w' ⟨rfl, rfl⟩
    rw [h9]
    go_wp2_with fail
    go_ret
    exact Tp.piecePost false rfl (fun h => absurd h (by decide)) (HX0.out)
  case pos =>
    have h9 : Sp.inR (n : Int) 1 5 = true := by simp [Sp.inR]; omega
    by_cases m1 : 1 ≤ m
    case neg =>
      have h8 : Sp.inR (m : Int) 1 4 = false := by simp [Sp.inR]; omega
      go_enter Tryz.func56, Tryz.ntmps56
      go_wp2_with fail
      refine (r9_in_any _ _ _ _).mono ?_
      rintro e w' ⟨rfl, rfl⟩
      rw [h9]
      go_wp2_with fail
      refine (r9_in_any _ _ _ _).mono ?_
      rintro e w' ⟨rfl, rfl⟩
      rw [h8]
      go_wp2_with fail
      go_ret
      exact Tp.piecePost false rfl (fun h => absurd h (by decide)) (HX0.out)
    case pos =>
      have h8 : Sp.inR (m : Int) 1 4 = true := by simp [Sp.inR]; omega
      have HN1 := Lib.hid n1
      have HM1 := Lib.hid m1
      go_enter Tryz.func56, Tryz.ntmps56
      go_wp2_with fail
      refine (r9_in_any _ _ _ _).mono ?_
      rintro e w' ⟨rfl, rfl⟩
      rw [h9]
      go_wp2_with fail
      refine (r9_in_any _ _ _ _).mono ?_
      rintro e w' ⟨rfl, rfl⟩
      rw [h8]
      clear h8 h9 n1 m1
      go_wp2_with fail
      generalize w.alloc (.cells #[.slice A n c, .slice Bb m cb] 50) = W0 at *
      clear c0
      go_loopw [3] (fun i wr => ∃ k : Nat, k ≤ n ∧ i = .int .i64 (k : Int) ∧ Tp.FirstOk links k ∧ Ext W0 wr) (fun i _ => n - (intOf i).toNat)
      case atStart => exact ⟨0, Nat.zero_le _, rfl, Tp.firstOk_zero _, Ext.refl _⟩
      case round =>
        obtain ⟨k, hk, rfl, hF, hE⟩ := hrel
        have HF := Lib.hid hF
        have HE := Lib.hid hE
        have HR1 := Lib.hid (HR0.out.ext hE)
        have HX1 := Lib.hid (HX0.out.trans hE)
        clear hF hE
        have c1 := HR1.out.cell
        rcases Nat.lt_or_eq_of_le hk with h9 | h9
        · have h9' : (k : Int) < (n : Int) := by omega
          have hk9 : k < links.length := by rw [HN.out]; exact h9
          obtain ⟨b, o, rfl, hc⟩ := HM.out (by omega)
          obtain ⟨d0, d1, d2⟩ := hc k hk9
          replace d0 := HX1.out.cell d0
          replace d1 := HX1.out.cell d1
          replace d2 := HX1.out.cell d2
          have HP : Hid (∀ x y, (links.getD k (0, Ec.noPair)).2.drives = x → (links.getD k (0, Ec.noPair)).2.driven = y → (Ec.isTeeth x && Ec.isTeeth y) = true → (Ec.isTeeth (Tp.pr links k).drives && Ec.isTeeth (Tp.pr links k).driven) = true) := Lib.hid (fun x y hx hy h => by unfold Tp.pr; rw [hx, hy]; exact h)
          have HL9 : Hid (∀ f, (links.getD k (0, Ec.noPair)).1 = f → 0 ≤ f → f ≤ (k : Int) → Tp.LinksOk (links.take (k + 1))) := Lib.hid (fun f hf a b => Tp.linksOk_succ HF.out.from_ hk9 (by rw [hf]; exact a) (by rw [hf]; exact b))
          have HLN : Hid ((links.take (k + 1)).length = k + 1) := Lib.hid (by rw [List.length_take]; omega)
          obtain ⟨f, hf⟩ : ∃ f, (links.getD k (0, Ec.noPair)).1 = f := ⟨_, rfl⟩
          obtain ⟨x, hx⟩ : ∃ x, (links.getD k (0, Ec.noPair)).2.drives = x := ⟨_, rfl⟩
          obtain ⟨y, hy⟩ : ∃ y, (links.getD k (0, Ec.noPair)).2.driven = y := ⟨_, rfl⟩
          rw [hf] at d0
          rw [hx] at d1
          rw [hy] at d2
          have HL8 := Lib.hid (HL9.out f hf)
          have HP8 := Lib.hid (HP.out x y hx hy)
          clear hf hx hy hc HP HL9 hk9
          go_wp2_with fail
          refine (r9_in_any _ _ _ _).mono ?_
          rintro e w' ⟨rfl, rfl⟩
          cases q0 : Sp.inR f 0 (k : Int) with
          | false =>
            go_wp2_with fail
            go_ret
            exact Tp.piecePost false rfl (fun h => absurd h (by decide)) (HX1.out)
          | true =>
            have hf2 := inR_iff.1 q0
            have HLO := Lib.hid (HL8.out hf2.1 hf2.2)
            clear q0 hf2
            go_wp2_with fail
            refine (r9_Pair_any _ _ _).mono ?_
            rintro e w2 ⟨rfl, hE2⟩
            cases q1 : Ec.isTeeth x && Ec.isTeeth y with
            | false =>
              go_wp2_with fail
              go_ret
              exact Tp.piecePost false rfl (fun h => absurd h (by decide)) (HX1.out.trans hE2)
            | true =>
              have HPQ := Lib.hid (HP8.out q1)
              have HX2 := Lib.hid (HX1.out.trans hE2)
              have HE2 := Lib.hid (HE.out.trans hE2)
              have HR2 := Lib.hid (HR1.out.ext hE2)
              clear q1 hE2 c1 d0 d1 d2
              have c2 := HR2.out.cell
              go_wp2_with fail
              refine (HTR.out (links.take (k + 1)) HLO.out (by rw [HLN.out]; omega) (k + 1) _ ((HM.out.take (k + 1)).ext HX2.out) (by rw [HLN.out]; exact Nat.le_refl _)).mono ?_
              rintro e w3 ⟨v, rfl, hv, hE3⟩
              have HTL := Lib.hid (fun h => Tp.firstOk_succ HF.out HLO.out HPQ.out h)
              obtain ⟨At, ct, rfl, _⟩ := Tp.pairs_own hv
              obtain ⟨q, hq⟩ : ∃ q, (Tp.trainL (links.take (k + 1)) (k + 1)).length = q := ⟨_, rfl⟩
              rw [hq] at HTL ⊢
              have HX3 := Lib.hid (HX2.out.trans hE3)
              have HE3 := Lib.hid (HE2.out.trans hE3)
              clear hv hq hE3 c2
              by_cases q3 : q ≤ 3
              · have q3' : ¬ (3 : Int) < (q : Int) := by omega
                have HFN := Lib.hid (HTL.out q3)
                clear HTL q3
                go_wp2_with fail
                go_roundw
                case rel => exact ⟨k + 1, by omega, by simp, HFN.out, HE3.out⟩
                case measure => simp [intOf]; omega
              · have q3' : (3 : Int) < (q : Int) := by omega
                go_wp2_with fail
                go_ret
                exact Tp.piecePost false rfl (fun h => absurd h (by decide)) (HX3.out)
        · subst h9
          go_wp2_with fail
          clear c1
          generalize wr = W1 at *
          go_loopw [4] (fun i wr => ∃ j : Nat, j ≤ m ∧ i = .int .i64 (j : Int) ∧ (∀ q, q < j → Sp.inR (rd hands q) 1 (k : Int) = true) ∧ Ext W1 wr) (fun i _ => m - (intOf i).toNat)
          case atStart => exact ⟨0, Nat.zero_le _, rfl, fun q hq => absurd hq (by omega), Ext.refl _⟩
          case round =>
            obtain ⟨j, hj, rfl, hH, hE4⟩ := hrel
            have HHJ := Lib.hid hH
            have HX4 := Lib.hid (HX1.out.trans hE4)
            have HE4 := Lib.hid hE4
            have HR4 := Lib.hid (HR1.out.ext hE4)
            clear hH hE4
            have c4 := HR4.out.cell
            rcases Nat.lt_or_eq_of_le hj with g9 | g9
            · have g9' : (j : Int) < (m : Int) := by omega
              obtain ⟨b, o, rfl, hc⟩ := HH.out (by rw [HMM.out]; omega)
              have d0 := HX4.out.cell (hc j (by rw [HMM.out]; exact g9))
              obtain ⟨f, hf⟩ : ∃ f, rd hands j = f := ⟨_, rfl⟩
              rw [hf] at d0
              have HHF := Lib.hid hf
              clear hc hf
              go_wp2_with fail
              refine wp_region_later (by kernel_rfl) (by kernel_rfl) (fun W hW => ?_)
              have hX0 : Ext wr W := by rw [hW]; first | exact Ext.refl _ | exact (Ext.refl _).drewN _
              clear hW
              have HXW := Lib.hid hX0
              have HLX := Lib.hid (fun X : Later W => HX4.out.trans (HXW.out.trans X.ext))
              have u0 := fun X : Later W => (HXW.out.trans X.ext).cell d0
              have u1 := fun X : Later W => (HXW.out.trans X.ext).cell (c4 0)
              have u2 := fun X : Later W => (HXW.out.trans X.ext).cell (c4 1)
              clear hX0
              repeat (go_big_quiet_step (fail))
              go_big_quiet_step ((go_at_call 19; exact Later.call (HAR.out _ _)))
              repeat (go_big_quiet_step (fail))
              refine wpQuiet_nil ?_
              rintro ⟨w5, hEz⟩
              dsimp only
              have HE5 := Lib.hid (HE4.out.trans (HXW.out.trans hEz))
              have HX5 := Lib.hid (HX4.out.trans (HXW.out.trans hEz))
              clear hEz HLX u0 u1 u2
              cases q1 : Sp.inR f 1 (k : Int) with
              | false =>
                go_wp2_with fail
                go_ret
                exact Tp.piecePost false rfl (fun h => absurd h (by decide)) (HX5.out)
              | true =>
                go_wp2_with fail
                go_roundw
                case rel => exact ⟨j + 1, by omega, by simp, fun q hq => by rcases Nat.lt_or_eq_of_le (Nat.le_of_lt_succ hq) with h | rfl; exact HHJ.out q h; rw [HHF.out]; exact q1, HE5.out⟩
                case measure => simp [intOf]; omega
            · subst g9
              go_wp2_with fail
              go_ret
              exact Tp.piecePost true rfl (fun _ => HAL.out HF.out HN1.out HM1.out HHJ.out) HX4.out
theorem top_piece20_any (A : Option Addr) (c : Nat) (Bb : Option Addr) (cb : Nat) (links : List (Int × Ec.Pair)) (hands : List Int) (w : World) (hm : Tp.Links w A links) (hh : Ints w Bb hands) :
    Calls Tryz.prog 14 #[.agg #[.slice A links.length c, .slice Bb hands.length cb]] w (Tp.PiecePost links hands w) := by
  have HM := Lib.hid hm
  have HH := Lib.hid hh
  have HPC := Lib.hid (fun W h1 h2 a b => r9_Piece_any A c Bb cb links hands W h1 h2 a b)
  obtain ⟨n, hn⟩ : ∃ n, links.length = n := ⟨_, rfl⟩
  obtain ⟨m, hmm⟩ : ∃ m, hands.length = m := ⟨_, rfl⟩
  have r0 := Row.new w 50 #[.slice A links.length c, .slice Bb hands.length cb]
  have HR0 := Lib.hid r0
  have HX0 := Lib.hid ((Ext.refl w).alloc (.cells #[.slice A links.length c, .slice Bb hands.length cb] 50))
  rw [hn, hmm] at HR0 HX0 HPC ⊢
  clear hm hh hn hmm r0
  have c0 := HR0.out.cell
  by_cases n5 : n ≤ 5
  case neg =>
    have n5' : ¬ (n : Int) ≤ 5 := by omega
    go_enter Tryz.func14, Tryz.ntmps14
    go_wp2_with fail
    go_ret
    exact Tp.piecePost false rfl (fun h => absurd h (by decide)) (HX0.out)
  case pos =>
    have n5' : (n : Int) ≤ 5 := by omega
    by_cases m4 : m ≤ 4
    case neg =>
      have m4' : ¬ (m : Int) ≤ 4 := by omega
      go_enter Tryz.func14, Tryz.ntmps14
      go_wp2_with fail
      go_ret
      exact Tp.piecePost false rfl (fun h => absurd h (by decide)) (HX0.out)
    case pos =>
      have m4' : (m : Int) ≤ 4 := by omega
      go_enter Tryz.func14, Tryz.ntmps14
      go_wp2_with fail
      refine (HPC.out _ (HM.out.ext HX0.out) (HH.out.ext HX0.out) n5 m4).mono ?_
      rintro e w1 ⟨b, rfl, hb, hE⟩
      cases b
      · clear hb
        go_wp2_with fail
        go_ret
        exact Tp.piecePost false rfl (fun h => absurd h (by decide)) (HX0.out.trans hE)
      · have HB := Lib.hid (hb rfl)
        clear hb
        go_wp2_with fail
        go_ret
        exact Tp.piecePost true rfl (fun _ => HB.out) (HX0.out.trans hE)
end Go.Proofs.YtimkmokomohgjaaGreat
namespace Go.Proofs.YtimkmokomohgjaaGreat
open Sp (rd)
set_option linter.unusedSimpArgs false
set_option linter.unusedVariables false
namespace Tp
def redP (x y : Int) : Ec.Pair := ⟨x / Int.gcd x y, y / Int.gcd x y⟩
theorem redP_mul {g : Int} (hg : 0 < g) (x y : Int) : redP (g * x) (g * y) = redP x y := by
  unfold redP
  have h : ((Int.gcd (g * x) (g * y) : Nat) : Int) = g * (Int.gcd x y : Nat) := by
    rw [Int.gcd_mul_left, Int.natCast_mul]
    congr 1
    omega
  rw [h, Int.mul_ediv_mul_of_pos _ _ hg, Int.mul_ediv_mul_of_pos _ _ hg]
theorem redP_neg (x y : Int) : redP (-x) y = ⟨-(redP x y).drives, (redP x y).driven⟩ := by
  unfold redP
  rw [Int.neg_gcd, Int.neg_ediv_of_dvd (Int.gcd_dvd_left ..)]
theorem redP_back (x y : Int) : (Int.gcd x y : Int) * (redP x y).drives = x ∧ (Int.gcd x y : Int) * (redP x y).driven = y :=
  ⟨Int.mul_ediv_cancel' (Int.gcd_dvd_left ..), Int.mul_ediv_cancel' (Int.gcd_dvd_right ..)⟩
theorem gcd_pos {x y : Int} (hy : 0 < y) : (0 : Int) < (Int.gcd x y : Nat) := by
  have : 0 < Int.gcd x y := Int.gcd_pos_of_ne_zero_right x (by omega)
  omega
/-- A reduced fraction that is multiplied, and reduced again. -/
theorem redP_again {x y : Int} (hy : 0 < y) (t u : Int) : redP (-(redP x y).drives * t) ((redP x y).driven * u) = redP (-x * t) (y * u) := by
  have hg := gcd_pos (x := x) hy
  have hb := redP_back x y
  rw [← redP_mul hg]
  congr 1
  · rw [← Int.mul_assoc, Int.mul_neg, hb.1]
  · rw [← Int.mul_assoc, hb.2]
section
variable (m : Nat) (tv : Nat → Ec.Pair) (adj : Nat → Nat → Prop)
def at_ (out : List Ec.Pair) (w : Nat) : Ec.Pair := out.getD w ⟨0, 1⟩
structure WI (out : List Ec.Pair) (left : List Nat) (x k : Nat) : Prop where
  len : out.length = m
  val : ∀ w, w < m → at_ out w = ⟨0, 1⟩ ∨ at_ out w = tv w
  lefts : ∀ a ∈ left, a < m ∧ at_ out a = tv a
  clo : ∀ a, a < m → at_ out a = tv a → a ∈ left ∨ ∀ b, b < m → adj a b → (a = x → b < k) → at_ out b = tv b
  first : at_ out 0 = tv 0
def unset (out : List Ec.Pair) : Nat := out.countP fun p => p.drives == 0
variable {m tv adj}
theorem at_set {out : List Ec.Pair} {k : Nat} {p : Ec.Pair} (hk : k < out.length) (w : Nat) : at_ (out.set k p) w = if w = k then p else at_ out w := by
  unfold at_
  rw [List.getD_eq_getElem?_getD, List.getElem?_set]
  by_cases h : w = k
  · subst h
    rw [if_pos rfl, if_pos hk, if_pos rfl]
    rfl
  · rw [if_neg (Ne.symm h), if_neg h, List.getD_eq_getElem?_getD]
theorem WI.none {out : List Ec.Pair} {left : List Nat} {x k : Nat} (h : WI m tv adj out left x k) (hn : ¬ adj x k) : WI m tv adj out left x (k + 1) :=
  ⟨h.len, h.val, h.lefts, fun a ha hv => (h.clo a ha hv).imp id fun hc b hb hab hax => hc b hb hab fun e => by
    have := hax e
    rcases Nat.lt_or_eq_of_le (Nat.le_of_lt_succ this) with h9 | rfl
    · exact h9
    · exact absurd (e ▸ hab) hn, h.first⟩
theorem WI.old {out : List Ec.Pair} {left : List Nat} {x k : Nat} (h : WI m tv adj out left x k) (hk : k < m) (h0 : (at_ out k).drives ≠ 0) : at_ out k = tv k ∧ WI m tv adj out left x (k + 1) := by
  have hv : at_ out k = tv k := by
    rcases h.val k hk with e | e
    · rw [e] at h0; exact absurd rfl h0
    · exact e
  refine ⟨hv, h.len, h.val, h.lefts, fun a ha hv' => (h.clo a ha hv').imp id fun hc b hb hab hax => ?_, h.first⟩
  by_cases e : b = k
  · rw [e]; exact hv
  · exact hc b hb hab fun e' => by have := hax e'; omega
theorem WI.put {out : List Ec.Pair} {left : List Nat} {x k : Nat} (h : WI m tv adj out left x k) (hk : k < m) (h0 : (at_ out k).drives = 0) (hz : ∀ w, (tv w).drives ≠ 0) : WI m tv adj (out.set k (tv k)) (left ++ [k]) x (k + 1) := by
  have hl := h.len
  have hs := fun w => at_set (out := out) (k := k) (p := tv k) (by omega) w
  refine ⟨by simpa using hl, fun w hw => ?_, fun a ha => ?_, fun a ha hv => ?_, ?_⟩
  · rw [hs]; split
    · rename_i e; rw [e]; exact .inr rfl
    · exact h.val w hw
  · rw [hs]
    rcases List.mem_append.1 ha with h1 | h1
    · have := h.lefts a h1
      split
      · rename_i e; rw [e]; exact ⟨hk, rfl⟩
      · exact this
    · have e : a = k := by simpa using h1
      rw [if_pos e, e]; exact ⟨hk, rfl⟩
  · by_cases e : a = k
    · exact .inl (List.mem_append.2 (.inr (by simp [e])))
    · rw [hs, if_neg e] at hv
      refine (h.clo a ha hv).imp (fun h1 => List.mem_append.2 (.inl h1)) fun hc b hb hab hax => ?_
      rw [hs]
      split
      · rename_i e2; rw [e2]
      · rename_i e2
        exact hc b hb hab fun e' => by have := hax e'; omega
  · rw [hs]; split
    · rename_i e; rw [← e]
    · exact h.first
theorem unset_put {out : List Ec.Pair} {k : Nat} {p : Ec.Pair} (hk : k < out.length) (h0 : (at_ out k).drives = 0) (hp : p.drives ≠ 0) : unset (out.set k p) + 1 = unset out := by
  unfold unset
  rw [List.countP_set hk]
  have e : out[k] = at_ out k := by unfold at_; rw [List.getD_eq_getElem?_getD, List.getElem?_eq_getElem hk]; rfl
  have h1 : (out[k].drives == 0) = true := by rw [e]; simpa using h0
  have h2 : (p.drives == 0) = false := by simpa using hp
  rw [h1, h2]
  have : 0 < out.countP fun p => p.drives == 0 := List.countP_pos_iff.2 ⟨out[k], List.getElem_mem hk, h1⟩
  simp
  omega
theorem WI.pop {out : List Ec.Pair} {left : List Nat} {a : Nat} (h : WI m tv adj out (a :: left) m 0) : WI m tv adj out left a 0 :=
  ⟨h.len, h.val, fun b hb => h.lefts b (List.mem_cons_of_mem _ hb), fun b hb hv => by
    by_cases e : b = a
    · exact .inr fun c _ _ hx => absurd (hx e) (by omega)
    · rcases h.clo b hb hv with h1 | h1
      · rcases List.mem_cons.1 h1 with h2 | h2
        · exact absurd h2 e
        · exact .inl h2
      · exact .inr fun c hc hbc _ => h1 c hc hbc fun e' => by omega, h.first⟩
theorem WI.over {out : List Ec.Pair} {left : List Nat} {a : Nat} (h : WI m tv adj out left a m) (ha : a < m) : WI m tv adj out left m 0 :=
  ⟨h.len, h.val, h.lefts, fun b hb hv => (h.clo b hb hv).imp id fun hc c hc' hbc _ => hc c hc' hbc fun _ => hc', h.first⟩
theorem WI.last {out : List Ec.Pair} (h : WI m tv adj out [] m 0) {a b : Nat} (ha : a < m) (hb : b < m) (hv : at_ out a = tv a) (hab : adj a b) : at_ out b = tv b := by
  rcases h.clo a ha hv with h1 | h1
  · cases h1
  · exact h1 b hb hab fun e => by omega
end
/-- A wheel's centre, and its teeth. -/
def wc (L : List (Int × Ec.Pair)) (w : Nat) : Nat := if w % 2 = 0 then frm L (w / 2) else w / 2 + 1
def wt (L : List (Int × Ec.Pair)) (w : Nat) : Int := if w % 2 = 0 then (pr L (w / 2)).drives else (pr L (w / 2)).driven
def wmesh (a b : Nat) : Prop := a ≠ b ∧ a / 2 = b / 2
def wadj (L : List (Int × Ec.Pair)) (a b : Nat) : Prop := a ≠ b ∧ (a / 2 = b / 2 ∨ wc L a = wc L b)
theorem mesh_apart {L : List (Int × Ec.Pair)} (hok : LinksOk L) {a b : Nat} (h : wmesh a b) : wc L a ≠ wc L b := by
  obtain ⟨h1, h2⟩ := h
  have h3 := (hok.frm (a / 2)).1
  have h4 := (hok.frm (b / 2)).1
  unfold wc
  split <;> split <;> omega
/-- By how many turns an arbor turns, with the sense as the sign. -/
def sg (l : List Ec.Pair) : Int := if (l.length : Int) % 2 = 0 then 1 else -1
def tvA (l : List Ec.Pair) : Ec.Pair := ⟨sg l * Ec.turnsN l, Ec.turnsD l⟩
def tvW (L : List (Int × Ec.Pair)) (w : Nat) : Ec.Pair := tvA (trainL L (wc L w))
theorem sg_one (l : List Ec.Pair) : sg l = 1 ∨ sg l = -1 := by unfold sg; split <;> simp
theorem tvA_red (l : List Ec.Pair) : tvA l = redP (sg l * Ec.drivesP l) (Ec.drivenP l) := by
  unfold tvA Ec.turnsN Ec.turnsD Ec.turnsG
  rcases sg_one l with h | h
  · rw [h, Int.one_mul, Int.one_mul]; rfl
  · rw [h, Int.neg_mul, Int.neg_mul, Int.one_mul, Int.one_mul, redP_neg]; rfl
theorem drivesP_snoc (l : List Ec.Pair) (p : Ec.Pair) : Ec.drivesP (l ++ [p]) = Ec.drivesP l * p.drives ∧ Ec.drivenP (l ++ [p]) = Ec.drivenP l * p.driven := by
  simp [Ec.drivesP, Ec.drivenP]
theorem sg_snoc (l : List Ec.Pair) (p : Ec.Pair) : sg (l ++ [p]) = -sg l := by
  unfold sg
  rw [List.length_append, List.length_singleton]
  split <;> split <;> omega
/-- One pair more, and one pair less. -/
theorem tvA_on {l : List Ec.Pair} {p : Ec.Pair} (hd : 0 < Ec.drivenP l) : redP (-(tvA l).drives * p.drives) ((tvA l).driven * p.driven) = tvA (l ++ [p]) := by
  rw [tvA_red, tvA_red, redP_again hd, (drivesP_snoc l p).1, (drivesP_snoc l p).2, sg_snoc, Int.neg_mul, Int.neg_mul, Int.mul_assoc]
theorem tvA_back {l : List Ec.Pair} {p : Ec.Pair} (hd : 0 < Ec.drivenP l) (h1 : 0 < p.drives) (h2 : 0 < p.driven) : redP (-(tvA (l ++ [p])).drives * p.driven) ((tvA (l ++ [p])).driven * p.drives) = tvA l := by
  have hd2 : 0 < Ec.drivenP (l ++ [p]) := by rw [(drivesP_snoc l p).2]; exact Int.mul_pos hd h2
  rw [tvA_red (l ++ [p]), redP_again hd2, (drivesP_snoc l p).1, (drivesP_snoc l p).2, sg_snoc, tvA_red, ← redP_mul (Int.mul_pos h1 h2) (sg l * Ec.drivesP l)]
  congr 1
  · simp only [Int.neg_mul, Int.neg_neg]
    simp only [Int.mul_assoc, Int.mul_comm, Int.mul_left_comm]
  · simp only [Int.mul_assoc, Int.mul_comm, Int.mul_left_comm]
theorem pairs_pos {l : List Ec.Pair} (h : ∀ p ∈ l, 1 ≤ p.drives ∧ p.drives ≤ 60 ∧ 1 ≤ p.driven ∧ p.driven ≤ 60) (hl : l.length ≤ 3) : (1 ≤ Ec.drivesP l ∧ Ec.drivesP l ≤ 216000) ∧ 1 ≤ Ec.drivenP l ∧ Ec.drivenP l ≤ 216000 := by
  have hb : ∀ {x y A B : Int}, 1 ≤ x → x ≤ A → 1 ≤ y → y ≤ B → 1 ≤ x * y ∧ x * y ≤ A * B := fun {x y A B} a b c d => by
    constructor
    · have := Int.mul_le_mul a c (by omega) (by omega); omega
    · exact Int.mul_le_mul b d (by omega) (by omega)
  rcases l with _ | ⟨p, _ | ⟨q, _ | ⟨r, _ | ⟨s, l⟩⟩⟩⟩
  · simp [Ec.drivesP, Ec.drivenP]
  · have hp := h p (by simp)
    simp [Ec.drivesP, Ec.drivenP]
    omega
  · have hp := h p (by simp)
    have hq := h q (by simp)
    simp [Ec.drivesP, Ec.drivenP]
    have a := hb hp.1 hp.2.1 hq.1 hq.2.1
    have b := hb hp.2.2.1 hp.2.2.2 hq.2.2.1 hq.2.2.2
    omega
  · have hp := h p (by simp)
    have hq := h q (by simp)
    have hr := h r (by simp)
    simp [Ec.drivesP, Ec.drivenP]
    have a := hb hp.1 hp.2.1 hq.1 hq.2.1
    have b := hb hp.2.2.1 hp.2.2.2 hq.2.2.1 hq.2.2.2
    have a2 := hb a.1 a.2 hr.1 hr.2.1
    have b2 := hb b.1 b.2 hr.2.2.1 hr.2.2.2
    omega
  · simp at hl
theorem train_pairs {links : List (Int × Ec.Pair)} {hands : List Int} (h : PieceAll links hands) (a : Nat) (ha : a ≤ links.length) : (∀ p ∈ trainL links a, 1 ≤ p.drives ∧ p.drives ≤ 60 ∧ 1 ≤ p.driven ∧ p.driven ≤ 60) ∧ (trainL links a).length ≤ 3 := by
  cases a with
  | zero => exact ⟨fun p hp => (by cases hp), by simp [trainL_zero]⟩
  | succ a =>
    have := h.train a (by omega)
    unfold Ec.trainOk at this
    rw [Bool.and_eq_true, List.all_eq_true] at this
    refine ⟨fun p hp => ?_, ?_⟩
    · have h1 := this.2 p hp
      simp [Ec.pairOk, Ec.isTeeth, Sp.inR] at h1
      omega
    · have h1 := this.1
      simp [Sp.inR] at h1
      omega
theorem gcd_le {x y : Int} (hx : 1 ≤ x) (hy : 1 ≤ y) : (1 ≤ x / (Int.gcd x y : Nat) ∧ x / (Int.gcd x y : Nat) ≤ x) ∧ 1 ≤ y / (Int.gcd x y : Nat) ∧ y / (Int.gcd x y : Nat) ≤ y := by
  have hg := gcd_pos (x := x) (y := y) (by omega)
  have q : ∀ z : Int, 1 ≤ z → ((Int.gcd x y : Nat) : Int) ∣ z → 1 ≤ z / (Int.gcd x y : Nat) ∧ z / (Int.gcd x y : Nat) ≤ z := fun z hz hd => by
    obtain ⟨k, hk⟩ := hd
    rw [hk, Int.mul_ediv_cancel_left _ (by omega)]
    have hk1 : 1 ≤ k := by
      rcases Int.lt_or_le k 1 with h | h
      · have := Int.mul_le_mul_of_nonneg_left (show k ≤ 0 by omega) (show (0 : Int) ≤ (Int.gcd x y : Nat) by omega)
        omega
      · exact h
    have := Int.mul_le_mul_of_nonneg_right (show (1 : Int) ≤ (Int.gcd x y : Nat) by omega) (show 0 ≤ k by omega)
    omega
  exact ⟨q x hx (Int.gcd_dvd_left ..), q y hy (Int.gcd_dvd_right ..)⟩
theorem tvA_lim {l : List Ec.Pair} (h : (∀ p ∈ l, 1 ≤ p.drives ∧ p.drives ≤ 60 ∧ 1 ≤ p.driven ∧ p.driven ≤ 60) ∧ l.length ≤ 3) : ((tvA l).drives ≠ 0 ∧ -216000 ≤ (tvA l).drives ∧ (tvA l).drives ≤ 216000) ∧ 1 ≤ (tvA l).driven ∧ (tvA l).driven ≤ 216000 := by
  have hp := pairs_pos h.1 h.2
  have hg := gcd_le hp.1.1 hp.2.1
  have e : Ec.turnsN l = Ec.drivesP l / (Int.gcd (Ec.drivesP l) (Ec.drivenP l) : Nat) := rfl
  have e2 : Ec.turnsD l = Ec.drivenP l / (Int.gcd (Ec.drivesP l) (Ec.drivenP l) : Nat) := rfl
  unfold tvA
  rw [← e, ← e2] at hg
  rcases sg_one l with h1 | h1 <;> simp only [h1] <;> omega
/-- The wheels that a wheel is joined to turn as they should, whichever way they are joined. -/
theorem joined_right {links : List (Int × Ec.Pair)} {hands : List Int} (h : PieceAll links hands) {a b : Nat} (ha : a < 2 * links.length) (hab : wmesh a b) : redP (-(tvW links a).drives * wt links a) ((tvW links a).driven * wt links b) = tvW links b := by
  obtain ⟨h1, h2⟩ := hab
  have hok := h.ok.from_
  have hi : a / 2 < links.length := by omega
  have hf := (hok.frm (a / 2)).1
  have ht := train_pairs h (frm links (a / 2)) (by omega)
  have hd : 0 < Ec.drivenP (trainL links (frm links (a / 2))) := (pairs_pos ht.1 ht.2).2.1
  have hs := trainL_succ hok (a / 2)
  have hp := h.ok.pair (a / 2) hi
  simp [Ec.isTeeth, Sp.inR] at hp
  unfold tvW wt wc
  rw [← h2]
  rcases (show (a % 2 = 0 ∧ b % 2 ≠ 0) ∨ (a % 2 ≠ 0 ∧ b % 2 = 0) by omega) with ⟨e1, e2⟩ | ⟨e1, e2⟩
  · rw [if_pos e1, if_pos e1, if_neg e2, if_neg e2, hs]
    exact tvA_on hd
  · rw [if_neg e1, if_neg e1, if_pos e2, if_pos e2, hs]
    exact tvA_back hd (by omega) (by omega)
/-- When nothing is left, each wheel turns as it should. -/
theorem all_turn {links : List (Int × Ec.Pair)} (hok : LinksOk links) {out : List Ec.Pair} (h : WI (2 * links.length) (tvW links) (wadj links) out [] (2 * links.length) 0) : ∀ i, i < links.length → at_ out (2 * i) = tvW links (2 * i) ∧ at_ out (2 * i + 1) = tvW links (2 * i + 1) := by
  intro i
  induction i using Nat.strongRecOn with
  | _ i ih =>
  intro hi
  have hf := (hok.frm i).1
  have h2 : at_ out (2 * i) = tvW links (2 * i) := by
    by_cases h0 : i = 0
    · subst h0; exact h.first
    · have hc : wc links (2 * i) = frm links i := by unfold wc; rw [if_pos (by omega), show 2 * i / 2 = i by omega]
      by_cases hz : frm links i = 0
      · have h00 : wc links 0 = 0 := by have := (hok.frm 0).1; unfold wc; rw [if_pos (by omega)]; simpa using this
        exact h.last (a := 0) (by omega) (by omega) h.first ⟨by omega, .inr (by rw [hc, hz, h00])⟩
      · have h3 := (ih (frm links i - 1) (by omega) (by omega)).2
        refine h.last (by omega) (by omega) h3 ⟨by omega, .inr ?_⟩
        rw [hc]
        unfold wc
        rw [if_neg (by omega)]
        omega
  exact ⟨h2, h.last (by omega) (by omega) h2 ⟨by omega, .inl (by omega)⟩⟩
end Tp
end Go.Proofs.YtimkmokomohgjaaGreat
namespace Go.Proofs.YtimkmokomohgjaaGreat
open Go.RowKit
open Sp (rd)
set_option maxRecDepth 100000
set_option maxHeartbeats 4000000
set_option linter.unusedVariables false
set_option linter.unusedSimpArgs false
theorem r2_in_any (x lo hi : Int) (w : World) : Calls Tryz.prog 57 #[.int .i64 x, .int .i64 lo, .int .i64 hi] w fun e w' => e = .returned (.bool (Sp.inR x lo hi)) ∧ w = w' := by
  by_cases h1 : lo ≤ x <;> by_cases h2 : x ≤ hi <;>
  · go_enter Tryz.func57, Tryz.ntmps57
    go_wp2_with fail
    all_goals
      go_ret
      exact ⟨ret_bool (by simp [Sp.inR, h1, h2]), rfl⟩
theorem pl_in_any (x lo hi : Int) (w : World) : Calls Tryz.prog 112 #[.int .i64 x, .int .i64 lo, .int .i64 hi] w fun e w' => e = .returned (.bool (Sp.inR x lo hi)) ∧ w = w' := by
  by_cases h1 : lo ≤ x <;> by_cases h2 : x ≤ hi <;>
  · go_enter Tryz.func112, Tryz.ntmps112
    go_wp2_with fail
    all_goals
      go_ret
      exact ⟨ret_bool (by simp [Sp.inR, h1, h2]), rfl⟩
/-- The cells of a drawing. -/
def Tp.pcells (C Wh M : Value) : Array Value := #[.int .i64 120, .int .i64 120, .int .i64 0, .int .i64 0, .int .i64 0, C, Wh, M]
theorem r2_Wheel_any (C M : Value) (A : Option Addr) (m c : Nat) (x : Int) (w : World) (hm : m ≤ 1000) : Calls Tryz.prog 58 #[.agg #[.int .i64 120, .int .i64 120, .int .i64 0, .int .i64 0, .int .i64 0, C, .slice A m c, M], .int .i64 x] w fun e w' => e = .returned (.bool (Sp.inR x 0 ((m : Int) - 1))) ∧ Ext w w' := by
  have hr := Row.new w 56 #[.int .i64 120, .int .i64 120, .int .i64 0, .int .i64 0, .int .i64 0, C, .slice A m c, M]
  have HE : Hid (Ext w (w.alloc (.cells #[.int .i64 120, .int .i64 120, .int .i64 0, .int .i64 0, .int .i64 0, C, .slice A m c, M] 56))) := Lib.hid ((Ext.refl w).alloc _)
  have a0 := hr.cell 6
  simp only [List.getElem?_toArray, List.getElem?_cons_zero, List.getElem?_cons_succ] at a0
  clear hr
  go_enter Tryz.func58, Tryz.ntmps58
  go_wp2_with fail
  refine (r2_in_any _ _ _ _).mono ?_
  rintro e w1 ⟨rfl, rfl⟩
  go_wp2_with fail
  go_ret
  exact ⟨rfl, HE.out⟩
theorem pl_isWheel_any (C M : Value) (A : Option Addr) (m c : Nat) (x : Int) (w : World) (hm : m ≤ 1000) : Calls Tryz.prog 60 #[.agg #[.int .i64 120, .int .i64 120, .int .i64 0, .int .i64 0, .int .i64 0, C, .slice A m c, M], .int .i64 x] w fun e w' => e = .returned (.bool (Sp.inR x 0 ((m : Int) - 1))) ∧ Ext w w' := by
  have hr := Row.new w 56 #[.int .i64 120, .int .i64 120, .int .i64 0, .int .i64 0, .int .i64 0, C, .slice A m c, M]
  have HE : Hid (Ext w (w.alloc (.cells #[.int .i64 120, .int .i64 120, .int .i64 0, .int .i64 0, .int .i64 0, C, .slice A m c, M] 56))) := Lib.hid ((Ext.refl w).alloc _)
  have a0 := hr.cell 6
  simp only [List.getElem?_toArray, List.getElem?_cons_zero, List.getElem?_cons_succ] at a0
  clear hr
  go_enter Tryz.func60, Tryz.ntmps60
  go_wp2_with fail
  refine (pl_in_any _ _ _ _).mono ?_
  rintro e w1 ⟨rfl, rfl⟩
  go_wp2_with fail
  go_ret
  exact ⟨rfl, HE.out⟩
theorem pl_divisor_two (b o c : Nat) (x y : Int) (w : World) (h0 : w.cell? ⟨b, o, none⟩ = some (.int .i64 x)) (h1 : w.cell? ⟨b, o + 1, none⟩ = some (.int .i64 y)) (hx : -1000000000 ≤ x ∧ x ≤ 1000000000) (hy : -1000000000 ≤ y ∧ y ≤ 1000000000) :
    Calls Tryz.prog 201 #[.slice (some ⟨b, o, none⟩) 2 c] w fun e w' => e = .returned (.int .i64 (Int.gcd x y : Nat)) ∧ Ext w w' := by
  have H0 := Lib.hid h0
  have H1 := Lib.hid h1
  clear h0 h1
  go_enter Tryz.func201, Tryz.ntmps201
  go_wp2_with fail
  go_loopw [3, 5, 6, 7, 10] (fun out n a b' i wr => ∃ k : Nat, k ≤ 2 ∧ i = .int .i64 (k : Int) ∧ (∃ g : Nat, out = .int .i64 (g : Int) ∧ g ≤ 1000000000 ∧ ((k = 0 ∧ g = 0) ∨ (k = 1 ∧ g = x.natAbs) ∨ (k = 2 ∧ g = Int.gcd x y))) ∧ Ext w wr) (fun _ _ _ _ i _ => 2 - (intOf i).toNat)
  case atStart => exact ⟨0, by omega, rfl, ⟨0, rfl, by omega, .inl ⟨rfl, rfl⟩⟩, Ext.refl _⟩
  case round =>
    obtain ⟨k, hk, rfl, ⟨g, rfl, hg9, hg⟩, hE⟩ := hrel
    have HE := Lib.hid hE
    rcases Nat.lt_or_eq_of_le hk with h9 | h9
    · have h9' : (k : Int) < 2 := by omega
      obtain ⟨n, hc, hn1, hn2, hnx⟩ : ∃ n : Int, wr.cell? ⟨b, o + k, none⟩ = some (.int .i64 n) ∧ -1000000000 ≤ n ∧ n ≤ 1000000000 ∧ ((k = 0 ∧ Nat.gcd g n.natAbs = x.natAbs) ∨ (k = 1 ∧ Nat.gcd g n.natAbs = Int.gcd x y)) := by
        rcases hg with ⟨rfl, rfl⟩ | ⟨rfl, rfl⟩ | ⟨rfl, rfl⟩
        · exact ⟨x, hE.cell H0.out, hx.1, hx.2, .inl ⟨rfl, Nat.gcd_zero_left _⟩⟩
        · exact ⟨y, hE.cell H1.out, hy.1, hy.2, .inr ⟨rfl, rfl⟩⟩
        · omega
      have HNX := Lib.hid hnx
      clear hg hnx hE
      obtain ⟨q0, hq0⟩ : ∃ q0 : Nat, n.natAbs = q0 := ⟨_, rfl⟩
      have hq9 : q0 ≤ 1000000000 := by omega
      have HQ0 := Lib.hid hq0
      have hmx : max n (-n) = (q0 : Int) := by omega
      clear hq0
      generalize wr = W1 at *
      go_wp2_with fail
      try rw [hmx]
      go_loopw [6, 7] (fun a' b' wr => ∃ p q : Nat, a' = .int .i64 (p : Int) ∧ b' = .int .i64 (q : Int) ∧ Nat.gcd g q0 = Nat.gcd p q ∧ p ≤ 1000000000 ∧ q ≤ 1000000000 ∧ Ext W1 wr) (fun _ b' _ => (intOf b').toNat)
      case atStart => exact ⟨g, q0, rfl, by first | rfl | rw [hmx], rfl, hg9, hq9, Ext.refl _⟩
      case round =>
        obtain ⟨p, q, rfl, rfl, hgg, hp, hq, hE2⟩ := hrel
        have HG := Lib.hid hgg
        have HE2 := Lib.hid hE2
        clear hgg hE2
        by_cases h0 : 0 < q
        · have hm : (p : Int).tmod (q : Int) = ((p % q : Nat) : Int) := by rw [Int.tmod_eq_emod_of_nonneg (by omega)]; rfl
          have hlt := Nat.mod_lt p h0
          have hq1 : (0 : Int) < (q : Int) := by omega
          go_wp2_with fail
          go_quiet (fail)
          go_wp2_with fail
          refine ⟨⟨q, p % q, rfl, by go_num, by rw [HG.out, ngcd_step], hq, by omega, HE2.out.drewN _⟩, by simp [intOf]; omega⟩
        · obtain rfl : q = 0 := by omega
          have HFN : Hid (p = Nat.gcd g q0) := Lib.hid (by rw [HG.out, Nat.gcd_zero_right])
          go_wp2_with fail
          go_roundw
          case rel =>
            refine ⟨k + 1, by omega, by go_num, ⟨p, rfl, hp, ?_⟩, HE.out.trans HE2.out⟩
            rcases HNX.out with ⟨rfl, h⟩ | ⟨rfl, h⟩
            · exact .inr (.inl ⟨rfl, by rw [HFN.out, ← HQ0.out]; exact h⟩)
            · exact .inr (.inr ⟨rfl, by rw [HFN.out, ← HQ0.out]; exact h⟩)
          case measure => simp [intOf]; omega
    · subst h9
      obtain rfl : g = Int.gcd x y := by omega
      go_wp2_with fail
      go_ret
      exact ⟨rfl, HE.out⟩
theorem pl_turn_any (x y : Int) (w : World) (hx : -1000000000 ≤ x ∧ x ≤ 1000000000) (hy : 1 ≤ y ∧ y ≤ 1000000000) :
    Calls Tryz.prog 173 #[.int .i64 x, .int .i64 y] w fun e w' => e = .returned (.agg #[.int .i64 (Tp.redP x y).drives, .int .i64 (Tp.redP x y).driven]) ∧ Ext w w' := by
  have hg := Tp.gcd_pos (x := x) (y := y) (by omega)
  have hd1 : ((Int.gcd x y : Nat) : Int) ∣ x := Int.gcd_dvd_left ..
  have hd2 : ((Int.gcd x y : Nat) : Int) ∣ y := Int.gcd_dvd_right ..
  have HQ1 : Hid (x.tdiv (Int.gcd x y : Nat) = (Tp.redP x y).drives) := Lib.hid (by rw [Int.tdiv_eq_ediv_of_dvd hd1]; rfl)
  have HQ2 : Hid (y.tdiv (Int.gcd x y : Nat) = (Tp.redP x y).driven) := Lib.hid (by rw [Int.tdiv_eq_ediv_of_dvd hd2]; rfl)
  have hb1 : -1000000000 ≤ (Tp.redP x y).drives ∧ (Tp.redP x y).drives ≤ 1000000000 := by
    have := (Tp.redP_back x y).1
    obtain ⟨g, hgg⟩ : ∃ g : Int, ((Int.gcd x y : Nat) : Int) = g := ⟨_, rfl⟩
    rw [hgg] at this hg
    generalize (Tp.redP x y).drives = r at *
    constructor
    · rcases Int.lt_or_le r (-1000000000) with h | h
      · have h2 := Int.mul_le_mul_of_nonneg_left (show r ≤ -1000000001 by omega) (show 0 ≤ g by omega)
        have h3 := Int.mul_le_mul_of_nonneg_right (show 1 ≤ g by omega) (show (0 : Int) ≤ 1000000001 by decide)
        omega
      · exact h
    · rcases Int.lt_or_le 1000000000 r with h | h
      · have h2 := Int.mul_le_mul_of_nonneg_left (show 1000000001 ≤ r by omega) (show 0 ≤ g by omega)
        have h3 := Int.mul_le_mul_of_nonneg_right (show 1 ≤ g by omega) (show (0 : Int) ≤ 1000000001 by decide)
        omega
      · exact h
  have hb2 : 0 ≤ (Tp.redP x y).driven ∧ (Tp.redP x y).driven ≤ 1000000000 := by
    have := Int.ediv_nonneg (show 0 ≤ y by omega) (show (0 : Int) ≤ (Int.gcd x y : Nat) by omega)
    have h2 := Int.ediv_le_self (a := y) (Int.gcd x y : Nat) (by omega)
    have h3 : (Tp.redP x y).driven = y / (Int.gcd x y : Nat) := rfl
    omega
  have r0 := (Row.new w 68 #[.int .i64 0, .int .i64 0]).alloc (.cells #[.int .i64 x, .int .i64 y] 3)
  have r1 := Row.new (w.alloc (.cells #[.int .i64 0, .int .i64 0] 68)) 3 #[.int .i64 x, .int .i64 y]
  rw [World.size_alloc] at r1
  have HE0 := Lib.hid (((Ext.refl w).alloc (.cells #[.int .i64 0, .int .i64 0] 68)).alloc (.cells #[.int .i64 x, .int .i64 y] 3))
  have HR0 := Lib.hid r0
  have HDV := Lib.hid (fun W (h0 : W.cell? ⟨w.heap.size + 1, 0, none⟩ = some (.int .i64 x)) (h1 : W.cell? ⟨w.heap.size + 1, 0 + 1, none⟩ = some (.int .i64 y)) => pl_divisor_two (w.heap.size + 1) 0 2 x y W h0 h1 hx ⟨by omega, hy.2⟩)
  have HC0 := Lib.hid (r1.cell 0)
  have HC1 := Lib.hid (r1.cell 1)
  obtain ⟨g, hgn⟩ : ∃ g, Int.gcd x y = g := ⟨_, rfl⟩
  rw [hgn] at HDV HQ1 HQ2 hg
  obtain ⟨a, ha⟩ : ∃ a, (Tp.redP x y).drives = a := ⟨_, rfl⟩
  obtain ⟨b, hb⟩ : ∃ b, (Tp.redP x y).driven = b := ⟨_, rfl⟩
  rw [ha] at HQ1 hb1 ⊢
  rw [hb] at HQ2 hb2 ⊢
  clear hgn ha hb hd1 hd2 r0 r1
  go_enter Tryz.func173, Tryz.ntmps173
  go_wp2_with fail
  refine (HDV.out _ HC0.out HC1.out).mono ?_
  rintro e w1 ⟨rfl, hE1⟩
  have HR1 := Lib.hid (HR0.out.ext hE1)
  have HE1 := Lib.hid (HE0.out.trans hE1)
  clear hE1
  go_wp2_with fail
  have hq1 := HQ1.out
  have hq2 := HQ2.out
  have hg0 : ¬ g = 0 := by omega
  have hw1 : IntKind.i64.wrap a = a := IntWalk.i64_in _ ⟨by omega, by omega⟩
  have hw2 : IntKind.i64.wrap b = b := IntWalk.i64_in _ ⟨by omega, by omega⟩
  go_still_tail 7, (by kernel_rfl)
  change wpList _ _ _ _ _ w1.drew
  have HX2 : Hid (Ext w1 w1.drew) := Lib.hid ((Ext.refl _).drew)
  generalize w1.drew = w2 at *
  have HR2 := Lib.hid (HR1.out.ext HX2.out)
  have HE2 := Lib.hid (HE1.out.trans HX2.out)
  have hp : w.heap.size ≠ 0 ∨ True := .inr trivial
  have c := HR2.out.cell
  have fz := HR2.out.free
  go_wp2_with fail
  refine bodyPost_ret (results_cell_row rfl _ _ w.heap.size 68 _ (0, 0) _ rfl ((HR2.out.set_ 0 (.int .i64 a)).set_ 1 (.int .i64 b)) Tryz.underlying68 rfl (by kernel_rfl)) rfl ?_
  exact ⟨rfl, (HE2.out.setCell (p := ⟨w.heap.size, 0, none⟩) (Nat.le_refl _) _).setCell (p := ⟨w.heap.size, 1, none⟩) (Nat.le_refl _) _⟩
end Go.Proofs.YtimkmokomohgjaaGreat
namespace Go.Proofs.YtimkmokomohgjaaGreat
open Go.RowKit
open Sp (rd)
set_option maxRecDepth 100000
set_option maxHeartbeats 8000000
set_option linter.unusedVariables false
set_option linter.unusedSimpArgs false
theorem Tp.info_point : (Tryz.prog.info? 123).map (fun i => (i.zero, i.size, i.bytes)) = some (some (.agg #[.int .i64 0, .int .i64 0]), 2, 16) := by kernel_rfl
theorem Tp.info_mesh : (Tryz.prog.info? 129).map (fun i => (i.zero, i.size, i.bytes)) = some (some (.agg #[.int .i64 0, .int .i64 0]), 2, 16) := by kernel_rfl
theorem Tp.info_wheel : (Tryz.prog.info? 67).map (fun i => (i.zero, i.size, i.bytes)) = some (some (.agg #[.int .i64 0, .int .i64 0, .int .i64 0, .int .i64 0]), 4, 32) := by kernel_rfl
/-- Rounds of the drawing's loops: what lies where. -/
structure Tp.P20 (w0 wr : World) (g : Nat) (P : Array Value) (vC vW vM : Value) (nC nW nM : Nat) (cC cW cM : List Value) : Prop where
  r1 : Row wr g 50 P
  r2 : Row wr (g + 1) 56 #[.int .i64 0, .int .i64 0, .int .i64 0, .int .i64 0, .int .i64 0, .slice none 0 0, .slice none 0 0, .slice none 0 0]
  r3 : Row wr (g + 1 + 1) 56 (Tp.pcells vC vW vM)
  oC : wr.ownsRow (g + 1 + 1 + 1) 123 2 vC nC cC
  oW : wr.ownsRow (g + 1 + 1 + 1) 67 4 vW nW cW
  oM : wr.ownsRow (g + 1 + 1 + 1) 129 2 vM nM cM
  ext : Ext w0 wr
  g0 : w0.heap.size = g
section
variable {w0 wr W1 : World} {g : Nat} {P : Array Value} {vC vW vM : Value} {nC nW nM : Nat} {cC cW cM : List Value}
theorem Tp.P20.on (h : Tp.P20 w0 wr g P vC vW vM nC nW nM cC cW cM) (he : Ext wr W1) : Tp.P20 w0 W1 g P vC vW vM nC nW nM cC cW cM :=
  ⟨h.r1.ext he, h.r2.ext he, h.r3.ext he, own_ext h.oC he, own_ext h.oW he, own_ext h.oM he, h.ext.trans he, h.g0⟩
theorem Tp.row_gr {w w1 : World} {k : Nat} {t : TypeId} {cs : Array Value} (h : Row w k t cs) {row : Option Nat} (hg : w.grownBy w1 row) (hr : ∀ q, row = some q → k < q) : Row w1 k t cs :=
  (hg.block k h.lt (fun e => by have := hr k e.symm; omega)).trans h
theorem Tp.P20.pushC (h : Tp.P20 w0 wr g P vC vW vM nC nW nM cC cW cM) {v' : Value} {n' : Nat} {c' : List Value} (hg : wr.grownBy W1 vC.ownBlock) (ho : W1.ownsRow (g + 1 + 1 + 1) 123 2 v' n' c') :
    Tp.P20 w0 (W1.setCell ⟨g + 1 + 1, 5, none⟩ v') g P v' vW vM n' nW nM c' cW cM := by
  have hb : ∀ q, vC.ownBlock = some q → g + 1 + 1 + 1 ≤ q := fun q hq => (h.oC.lt q hq).1
  have hg0 := h.g0
  refine ⟨(Tp.row_gr h.r1 hg (fun q hq => by have := hb q hq; omega)).far (by simp <;> omega) _, (Tp.row_gr h.r2 hg (fun q hq => by have := hb q hq; omega)).far (by simp <;> omega) _, (Tp.row_gr h.r3 hg (fun q hq => by have := hb q hq; omega)).set_ 5 v', Tp.own_set ho (by simp) _, ?_, ?_, (h.ext.grown hg (fun q hq => by have := hb q hq; omega)).setCell (by simp; omega) _, h.g0⟩
  · exact Tp.own_set (Tp.own_grown h.oW hg (fun q hq => Tp.own_type h.oC hq) (by decide)) (by simp) _
  · exact Tp.own_set (Tp.own_grown h.oM hg (fun q hq => Tp.own_type h.oC hq) (by decide)) (by simp) _
theorem Tp.P20.pushW (h : Tp.P20 w0 wr g P vC vW vM nC nW nM cC cW cM) {v' : Value} {n' : Nat} {c' : List Value} (hg : wr.grownBy W1 vW.ownBlock) (ho : W1.ownsRow (g + 1 + 1 + 1) 67 4 v' n' c') :
    Tp.P20 w0 (W1.setCell ⟨g + 1 + 1, 6, none⟩ v') g P vC v' vM nC n' nM cC c' cM := by
  have hb : ∀ q, vW.ownBlock = some q → g + 1 + 1 + 1 ≤ q := fun q hq => (h.oW.lt q hq).1
  have hg0 := h.g0
  refine ⟨(Tp.row_gr h.r1 hg (fun q hq => by have := hb q hq; omega)).far (by simp <;> omega) _, (Tp.row_gr h.r2 hg (fun q hq => by have := hb q hq; omega)).far (by simp <;> omega) _, (Tp.row_gr h.r3 hg (fun q hq => by have := hb q hq; omega)).set_ 6 v', ?_, Tp.own_set ho (by simp) _, ?_, (h.ext.grown hg (fun q hq => by have := hb q hq; omega)).setCell (by simp; omega) _, h.g0⟩
  · exact Tp.own_set (Tp.own_grown h.oC hg (fun q hq => Tp.own_type h.oW hq) (by decide)) (by simp) _
  · exact Tp.own_set (Tp.own_grown h.oM hg (fun q hq => Tp.own_type h.oW hq) (by decide)) (by simp) _
theorem Tp.P20.pushM (h : Tp.P20 w0 wr g P vC vW vM nC nW nM cC cW cM) {v' : Value} {n' : Nat} {c' : List Value} (hg : wr.grownBy W1 vM.ownBlock) (ho : W1.ownsRow (g + 1 + 1 + 1) 129 2 v' n' c') :
    Tp.P20 w0 (W1.setCell ⟨g + 1 + 1, 7, none⟩ v') g P vC vW v' nC nW n' cC cW c' := by
  have hb : ∀ q, vM.ownBlock = some q → g + 1 + 1 + 1 ≤ q := fun q hq => (h.oM.lt q hq).1
  have hg0 := h.g0
  refine ⟨(Tp.row_gr h.r1 hg (fun q hq => by have := hb q hq; omega)).far (by simp <;> omega) _, (Tp.row_gr h.r2 hg (fun q hq => by have := hb q hq; omega)).far (by simp <;> omega) _, (Tp.row_gr h.r3 hg (fun q hq => by have := hb q hq; omega)).set_ 7 v', ?_, ?_, Tp.own_set ho (by simp) _, (h.ext.grown hg (fun q hq => by have := hb q hq; omega)).setCell (by simp; omega) _, h.g0⟩
  · exact Tp.own_set (Tp.own_grown h.oC hg (fun q hq => Tp.own_type h.oM hq) (by decide)) (by simp) _
  · exact Tp.own_set (Tp.own_grown h.oW hg (fun q hq => Tp.own_type h.oM hq) (by decide)) (by simp) _
end
theorem Tp.own_sets {base size n b : Nat} {e : TypeId} {v : Value} {xs : List Value} (hb : b < base) : ∀ (vs : List Value) (i : Nat) (W : World), W.ownsRow base e size v n xs → (setsAt W b i vs).ownsRow base e size v n xs
  | [], _, _, h => h
  | u :: vs, i, W, h => Tp.own_sets hb vs (i + 1) _ (Tp.own_set h hb u)
/-- The lists' cells: the first k points, the wheels of the first k links, their meshes. -/
def Tp.cC (k : Nat) : List Value := (List.range k).flatMap fun (j : Nat) => [.int .i64 (20 * (j : Int)), .int .i64 (j : Int)]
def Tp.cW (links : List (Int × Ec.Pair)) (k : Nat) : List Value := (List.range k).flatMap fun (j : Nat) => [.int .i64 (links.getD j (0, Ec.noPair)).1, .int .i64 0, .int .i64 (j : Int), .int .i64 (links.getD j (0, Ec.noPair)).2.drives, .int .i64 ((j : Int) + 1), .int .i64 0, .int .i64 (j : Int), .int .i64 (links.getD j (0, Ec.noPair)).2.driven]
def Tp.cM (k : Nat) : List Value := (List.range k).flatMap fun (j : Nat) => [.int .i64 (2 * (j : Int)), .int .i64 (2 * (j : Int) + 1)]
theorem Tp.cC_succ (k : Nat) : Tp.cC (k + 1) = Tp.cC k ++ [.int .i64 (20 * (k : Int)), .int .i64 (k : Int)] := by simp [Tp.cC, List.range_succ]
theorem Tp.cW_succ (links : List (Int × Ec.Pair)) (k : Nat) : Tp.cW links (k + 1) = Tp.cW links k ++ [.int .i64 (links.getD k (0, Ec.noPair)).1, .int .i64 0, .int .i64 (k : Int), .int .i64 (links.getD k (0, Ec.noPair)).2.drives, .int .i64 ((k : Int) + 1), .int .i64 0, .int .i64 (k : Int), .int .i64 (links.getD k (0, Ec.noPair)).2.driven] := by simp [Tp.cW, List.range_succ]
theorem Tp.cM_succ (k : Nat) : Tp.cM (k + 1) = Tp.cM k ++ [.int .i64 (2 * (k : Int)), .int .i64 (2 * (k : Int) + 1)] := by simp [Tp.cM, List.range_succ]
set_option maxHeartbeats 16000000 in
theorem top_plate20_own (A : Option Addr) (c : Nat) (V : Value) (links : List (Int × Ec.Pair)) (w : World) (hm : Tp.Links w A links) (hn : links.length ≤ 5) :
    Calls Tryz.prog 15 #[.agg #[.slice A links.length c, V]] w fun e w' => ∃ vC vW vM, e = .returned (.agg (Tp.pcells vC vW vM)) ∧ w'.ownsRow (w.heap.size + 1 + 1 + 1) 123 2 vC (links.length + 1) (Tp.cC (links.length + 1)) ∧ w'.ownsRow (w.heap.size + 1 + 1 + 1) 67 4 vW (2 * links.length) (Tp.cW links links.length) ∧ w'.ownsRow (w.heap.size + 1 + 1 + 1) 129 2 vM links.length (Tp.cM links.length) ∧ Ext w w' := by
  have HM := Lib.hid hm
  obtain ⟨n, hnn⟩ : ∃ n, links.length = n := ⟨_, rfl⟩
  have HN := Lib.hid hnn
  rw [hnn] at hn ⊢
  obtain ⟨g, hg⟩ : ∃ g, w.heap.size = g := ⟨_, rfl⟩
  have hP : Tp.P20 w (((w.alloc (.cells #[.slice A n c, V] 50)).alloc (.cells #[.int .i64 0, .int .i64 0, .int .i64 0, .int .i64 0, .int .i64 0, .slice none 0 0, .slice none 0 0, .slice none 0 0] 56)).alloc (.cells #[.int .i64 120, .int .i64 120, .int .i64 0, .int .i64 0, .int .i64 0, .slice none 0 0, .slice none 0 0, .slice none 0 0] 56)) g #[.slice A n c, V] (.slice none 0 0) (.slice none 0 0) (.slice none 0 0) 0 0 0 [] [] [] := by
    rw [← hg]
    exact ⟨(blocks3 w _ _ _).1, (blocks3 w _ _ _).2.1, (blocks3 w _ _ _).2.2, World.ownsRow_nil _ _ _ _, World.ownsRow_nil _ _ _ _, World.ownsRow_nil _ _ _ _, (((Ext.refl w).alloc _).alloc _).alloc _, rfl⟩
  have HP := Lib.hid hP
  have HGG := Lib.hid hg
  clear hP hnn hm hg
  go_enter Tryz.func15, Tryz.ntmps15
  go_wp2_with fail
  rw [HGG.out]
  generalize ((w.alloc (.cells #[.slice A n c, V] 50)).alloc (.cells #[.int .i64 0, .int .i64 0, .int .i64 0, .int .i64 0, .int .i64 0, .slice none 0 0, .slice none 0 0, .slice none 0 0] 56)).alloc (.cells #[.int .i64 120, .int .i64 120, .int .i64 0, .int .i64 0, .int .i64 0, .slice none 0 0, .slice none 0 0, .slice none 0 0] 56) = w0 at *
  obtain ⟨i0, hi0, hi1, hi2, hi3⟩ := info_parts Tp.info_point
  go_loopw [4] (fun i wr => ∃ k : Nat, k ≤ n + 1 ∧ i = .int .i64 (k : Int) ∧ ∃ vC, Tp.P20 w wr g #[.slice A n c, V] vC (.slice none 0 0) (.slice none 0 0) k 0 0 (Tp.cC k) [] []) (fun i _ => n + 1 - (intOf i).toNat)
  case atStart => exact ⟨0, Nat.zero_le _, rfl, _, HP.out⟩
  case round =>
    obtain ⟨k, hk, rfl, vC, hQ⟩ := hrel
    have HQ := Lib.hid hQ
    clear hQ
    have c1 := HQ.out.r1.cell
    have c3 := HQ.out.r3.cell
    have f3 := HQ.out.r3.free
    simp only [Tp.pcells] at c3
    generalize wr = W1 at *
    rcases Nat.lt_or_eq_of_le hk with h9 | h9
    · have h9' : (k : Int) ≤ (n : Int) := by omega
      obtain ⟨AC, cc, hvC⟩ : ∃ a c, vC = .slice a k c := by
        rcases HQ.out.oC.2 with ⟨h, h0⟩ | ⟨g', cap, _, h, _⟩
        · exact ⟨none, 0, by rw [h, h0]⟩
        · exact ⟨_, _, h⟩
      subst hvC
      go_wp2_with (at_builtin; refine wpList_append_lies _ rfl (Operand.tmp 16) (Operand.tmp 21) 52 rfl (g + 1 + 1 + 1) 123 i0 _ 2 16 Tryz.underlying52 hi0 hi1 hi2 hi3 rfl (by decide) _ k (Tp.cC k) rfl (own_ext HQ.out.oC ((Ext.refl _).alloc (.cells #[.int .i64 (20 * (k : Int)), .int .i64 (k : Int)] 123))) ⟨W1.heap.size, 0, none⟩ 1 1 [.int .i64 (20 * (k : Int)), .int .i64 (k : Int)] rfl rfl (World.news_of_block (cs := #[.int .i64 (20 * (k : Int)), .int .i64 (k : Int)]) (t := 123) (fr := (0, 0)) (heap_alloc_new _ _)) (by simp [Value.oneCell']) (by omega) (by simp only [maxLen]; omega) (by omega) (by have h := HQ.out.r3.lt; simp; omega) _ rfl ?_; intro gg cap w9 ho5 hg5 hat5 hlt5; have HO5 := Lib.hid ho5; have HG5 := Lib.hid hg5; have HR5 := Lib.hid (Tp.row_gr (HQ.out.r3.alloc (.cells #[.int .i64 (20 * (k : Int)), .int .i64 (k : Int)] 123)) hg5 (fun q hq => by have := (HQ.out.oC.lt q hq).1; omega)); have c5 := HR5.out.cell; have f5 := HR5.out.free; clear ho5 hg5 hat5)
      go_roundw
      case rel => exact ⟨k + 1, by omega, by go_num, _, by
        have h9 := (HQ.out.on ((Ext.refl _).alloc (.cells #[.int .i64 (20 * (k : Int)), .int .i64 (k : Int)] 123))).pushC HG5.out HO5.out
        rw [← Tp.cC_succ] at h9
        exact h9⟩
      case measure => simp [intOf]; omega
    · subst h9
      have hnk : ¬ (((n + 1 : Nat) : Int)) ≤ (n : Int) := by omega
      obtain ⟨AC, cc, hvC⟩ : ∃ a c, vC = .slice a (n + 1) c := by
        rcases HQ.out.oC.2 with ⟨h, h0⟩ | ⟨g', cap, _, h, _⟩
        · exact absurd h0 (by omega)
        · exact ⟨_, _, h⟩
      subst hvC
      go_wp2_with fail
      clear c1 c3 f3
      obtain ⟨j0, hj0, hj1, hj2, hj3⟩ := info_parts Tp.info_wheel
      obtain ⟨m0, hm0, hm1, hm2, hm3⟩ := info_parts Tp.info_mesh
      go_loopw [5, 6] (fun i l wr => ∃ k : Nat, k ≤ n ∧ i = .int .i64 (k : Int) ∧ ∃ vW vM, Tp.P20 w wr g #[.slice A n c, V] (.slice AC (n + 1) cc) vW vM (n + 1) (2 * k) k (Tp.cC (n + 1)) (Tp.cW links k) (Tp.cM k)) (fun i _ _ => n - (intOf i).toNat)
      case atStart => exact ⟨0, Nat.zero_le _, rfl, _, _, HQ.out⟩
      case round =>
        obtain ⟨k, hk, rfl, vW, vM, hQ⟩ := hrel
        clear HQ
        have HQ := Lib.hid hQ
        clear hQ
        have c1 := HQ.out.r1.cell
        have c2 := HQ.out.r2.cell
        have c3 := HQ.out.r3.cell
        have f3 := HQ.out.r3.free
        have z1 := lts HQ.out.r1.lt
        have z3 := lts HQ.out.r3.lt
        simp only [Tp.pcells] at c3
        generalize wr = W2 at *
        rcases Nat.lt_or_eq_of_le hk with h9 | h9
        · have h9' : (k : Int) < (n : Int) := by omega
          obtain ⟨AW, cw, hvW⟩ : ∃ a c, vW = .slice a (2 * k) c := by
            rcases HQ.out.oW.2 with ⟨h, h0⟩ | ⟨g', cap, _, h, _⟩
            · exact ⟨none, 0, by rw [h, h0]⟩
            · exact ⟨_, _, h⟩
          obtain ⟨AM, cm, hvM⟩ : ∃ a c, vM = .slice a k c := by
            rcases HQ.out.oM.2 with ⟨h, h0⟩ | ⟨g', cap, _, h, _⟩
            · exact ⟨none, 0, by rw [h, h0]⟩
            · exact ⟨_, _, h⟩
          subst hvW
          subst hvM
          obtain ⟨b, o, rfl, hc⟩ := HM.out (by rw [HN.out]; omega)
          obtain ⟨d0, d1, d2⟩ := hc k (by rw [HN.out]; exact h9)
          have HWS := Lib.hid (Tp.cW_succ links k)
          obtain ⟨f, hf⟩ : ∃ f, (links.getD k (0, Ec.noPair)).1 = f := ⟨_, rfl⟩
          obtain ⟨x, hx⟩ : ∃ x, (links.getD k (0, Ec.noPair)).2.drives = x := ⟨_, rfl⟩
          obtain ⟨y, hy⟩ : ∃ y, (links.getD k (0, Ec.noPair)).2.driven = y := ⟨_, rfl⟩
          rw [hf] at d0
          rw [hx] at d1
          rw [hy] at d2
          rw [hf, hx, hy] at HWS
          replace d0 := HQ.out.ext.cell d0
          replace d1 := HQ.out.ext.cell d1
          replace d2 := HQ.out.ext.cell d2
          clear hc hf hx hy
          have HX1 := Lib.hid (((Ext.refl W2).alloc (.cells #[.int .i64 f, .int .i64 x, .int .i64 y] 127)).alloc (.cells #[.int .i64 f, .int .i64 0, .int .i64 (k : Int), .int .i64 x, .int .i64 ((k : Int) + 1), .int .i64 0, .int .i64 (k : Int), .int .i64 y] 67))
          have HNW : Hid (((W2.alloc (.cells #[.int .i64 f, .int .i64 x, .int .i64 y] 127)).alloc (.cells #[.int .i64 f, .int .i64 0, .int .i64 (k : Int), .int .i64 x, .int .i64 ((k : Int) + 1), .int .i64 0, .int .i64 (k : Int), .int .i64 y] 67)).heap[W2.heap.size + 1]? = some (.cells #[.int .i64 f, .int .i64 0, .int .i64 (k : Int), .int .i64 x, .int .i64 ((k : Int) + 1), .int .i64 0, .int .i64 (k : Int), .int .i64 y] 67)) := Lib.hid (by
            have h8 := heap_alloc_new (W2.alloc (.cells #[.int .i64 f, .int .i64 x, .int .i64 y] 127)) (.cells #[.int .i64 f, .int .i64 0, .int .i64 (k : Int), .int .i64 x, .int .i64 ((k : Int) + 1), .int .i64 0, .int .i64 (k : Int), .int .i64 y] 67)
            rw [World.size_alloc] at h8
            exact h8)
          go_wp2_with (at_builtin; first | (refine wpList_append_lies _ rfl (Operand.tmp 37) (Operand.tmp 52) 53 rfl (g + 1 + 1 + 1) 67 j0 _ 4 32 Tryz.underlying53 hj0 hj1 hj2 hj3 rfl (by decide) _ (2 * k) (Tp.cW links k) rfl (own_ext HQ.out.oW HX1.out) ⟨W2.heap.size + 1, 0, none⟩ 2 2 [.int .i64 f, .int .i64 0, .int .i64 (k : Int), .int .i64 x, .int .i64 ((k : Int) + 1), .int .i64 0, .int .i64 (k : Int), .int .i64 y] rfl rfl (World.news_of_block (cs := #[.int .i64 f, .int .i64 0, .int .i64 (k : Int), .int .i64 x, .int .i64 ((k : Int) + 1), .int .i64 0, .int .i64 (k : Int), .int .i64 y]) (t := 67) (fr := (0, 0)) HNW.out) (by simp [Value.oneCell']) (by omega) (by simp only [maxLen]; omega) (by omega) (by have h := HQ.out.r3.lt; simp; omega) _ rfl ?_; intro gg cap w9 ho5 hg5 hat5 hlt5; have HQ2 := Lib.hid ((HQ.out.on HX1.out).pushW hg5 ho5); have HR5 := Lib.hid (Tp.row_gr (HQ.out.r3.ext HX1.out) hg5 (fun q hq => by have := (HQ.out.oW.lt q hq).1; omega)); have c5 := HR5.out.cell; have f5 := HR5.out.free; simp only [Tp.pcells] at c5; clear ho5 hg5 hat5) | (refine wpList_append_lies _ rfl (Operand.tmp 56) (Operand.tmp 63) 54 rfl (g + 1 + 1 + 1) 129 m0 _ 2 16 Tryz.underlying54 hm0 hm1 hm2 hm3 rfl (by decide) _ k (Tp.cM k) rfl (own_ext HQ2.out.oM ((Ext.refl _).alloc (.cells #[.int .i64 (2 * (k : Int)), .int .i64 (2 * (k : Int) + 1)] 129))) ⟨w9.heap.size, 0, none⟩ 1 1 [.int .i64 (2 * (k : Int)), .int .i64 (2 * (k : Int) + 1)] rfl rfl (World.news_of_block (cs := #[.int .i64 (2 * (k : Int)), .int .i64 (2 * (k : Int) + 1)]) (t := 129) (fr := (0, 0)) (by have h8 := heap_alloc_new (w9.setCell ⟨g + 1 + 1, 6, none⟩ (.slice (some ⟨gg, 0, none⟩) (2 * k + 2) cap)) (.cells #[.int .i64 (2 * (k : Int)), .int .i64 (2 * (k : Int) + 1)] 129); simpa using h8)) (by simp [Value.oneCell']) (by omega) (by simp only [maxLen]; omega) (by omega) (by have h := HQ2.out.r3.lt; simp at h ⊢; omega) _ rfl ?_; intro gg2 cap2 w10 ho6 hg6 hat6 hlt6; have HQ3 := Lib.hid ((HQ2.out.on ((Ext.refl _).alloc (.cells #[.int .i64 (2 * (k : Int)), .int .i64 (2 * (k : Int) + 1)] 129))).pushM hg6 ho6); have HR6 := Lib.hid (Tp.row_gr (HQ2.out.r3.alloc (.cells #[.int .i64 (2 * (k : Int)), .int .i64 (2 * (k : Int) + 1)] 129)) hg6 (fun q hq => by have := (HQ2.out.oM.lt q hq).1; omega)); have c6 := HR6.out.cell; have f6 := HR6.out.free; simp only [Tp.pcells] at c6; clear ho6 hg6 hat6))
          have h7 := HQ3.out
          rw [← HWS.out, ← Tp.cM_succ] at h7
          exact ⟨⟨k + 1, by omega, by simp, _, _, h7⟩, by simp [intOf]; omega⟩
        · subst h9
          obtain ⟨AW, cw, hvW⟩ : ∃ a c, vW = .slice a (2 * k) c := by
            rcases HQ.out.oW.2 with ⟨h, h0⟩ | ⟨g', cap, _, h, _⟩
            · exact ⟨none, 0, by rw [h, h0]⟩
            · exact ⟨_, _, h⟩
          obtain ⟨AM, cm, hvM⟩ : ∃ a c, vM = .slice a k c := by
            rcases HQ.out.oM.2 with ⟨h, h0⟩ | ⟨g', cap, _, h, _⟩
            · exact ⟨none, 0, by rw [h, h0]⟩
            · exact ⟨_, _, h⟩
          subst hvW
          subst hvM
          have f2 := HQ.out.r2.free
          go_wp2_with fail
          have hgg := HGG.out
          obtain ⟨W3, hW3⟩ : ∃ W3, setsAt W2 (g + 1) 0 [.int .i64 120, .int .i64 120, .int .i64 0, .int .i64 0, .int .i64 0, .slice AC (k + 1) cc, .slice AW (2 * k) cw, .slice AM k cm] = W3 := ⟨_, rfl⟩
          have hR3 : Row W3 (g + 1) 56 #[.int .i64 120, .int .i64 120, .int .i64 0, .int .i64 0, .int .i64 0, .slice AC (k + 1) cc, .slice AW (2 * k) cw, .slice AM k cm] := by
            rw [← hW3]
            exact Row.sets (cs := [.int .i64 0, .int .i64 0, .int .i64 0, .int .i64 0, .int .i64 0, .slice none 0 0, .slice none 0 0, .slice none 0 0]) HQ.out.r2 _ rfl
          have hE3 : Ext w W3 := by rw [← hW3]; exact Ext.sets (by omega) _ _ _ HQ.out.ext
          have o1 : W3.ownsRow (g + 1 + 1 + 1) 123 2 (.slice AC (k + 1) cc) (k + 1) (Tp.cC (k + 1)) := by rw [← hW3]; exact Tp.own_sets (by omega) _ _ _ HQ.out.oC
          have o2 : W3.ownsRow (g + 1 + 1 + 1) 67 4 (.slice AW (2 * k) cw) (2 * k) (Tp.cW links k) := by rw [← hW3]; exact Tp.own_sets (by omega) _ _ _ HQ.out.oW
          have o3 : W3.ownsRow (g + 1 + 1 + 1) 129 2 (.slice AM k cm) k (Tp.cM k) := by rw [← hW3]; exact Tp.own_sets (by omega) _ _ _ HQ.out.oM
          simp only [setsAt, Nat.reduceAdd] at hW3
          try rw [hW3]
          refine bodyPost_ret (results_cell_row rfl _ _ (g + 1) 56 _ (0, 0) _ rfl hR3 Tryz.underlying56 rfl (by kernel_rfl)) rfl ?_
          exact ⟨_, _, _, rfl, by rw [hgg]; exact o1, by rw [hgg]; exact o2, by rw [hgg]; exact o3, hE3⟩
end Go.Proofs.YtimkmokomohgjaaGreat
namespace Go.Proofs.YtimkmokomohgjaaGreat
open Go.RowKit
open Sp (rd)
set_option maxHeartbeats 4000000
set_option linter.unusedVariables false
set_option linter.unusedSimpArgs false
theorem Tp.flat_get {f : Nat → List Value} {s : Nat} (hs : ∀ i, (f i).length = s) (hp : 0 < s) : ∀ (m k j : Nat), k < m → j < s → ((List.range m).flatMap f)[k * s + j]? = (f k)[j]? := by
  intro m
  induction m with
  | zero => intro k j h; omega
  | succ m ih =>
    intro k j hk hj
    have hlen : ((List.range m).flatMap f).length = m * s := by
      clear ih hk
      induction m with
      | zero => simp
      | succ m ih => rw [List.range_succ, List.flatMap_append, List.length_append, ih]; simp [hs, Nat.add_mul]
    rw [List.range_succ, List.flatMap_append]
    rcases Nat.lt_or_eq_of_le (Nat.le_of_lt_succ hk) with h9 | rfl
    · rw [List.getElem?_append_left (by
        rw [hlen]
        have := Nat.mul_le_mul_right s (show k + 1 ≤ m by omega)
        rw [Nat.add_mul] at this
        omega)]
      exact ih k j h9 hj
    · rw [List.getElem?_append_right (by omega), hlen, show k * s + j - k * s = j by omega]
      simp
/-- The drawing of a piece in memory. -/
structure Tp.PlAt (w : World) (links : List (Int × Ec.Pair)) (bC bW bM : Nat) : Prop where
  cen : ∀ k, k ≤ links.length → w.cell? ⟨bC, k * 2, none⟩ = some (.int .i64 (20 * (k : Int))) ∧ w.cell? ⟨bC, k * 2 + 1, none⟩ = some (.int .i64 (k : Int))
  whl : ∀ x, x < 2 * links.length → w.cell? ⟨bW, x * 4, none⟩ = some (.int .i64 (Tp.wc links x : Int)) ∧ w.cell? ⟨bW, x * 4 + 1, none⟩ = some (.int .i64 0) ∧ w.cell? ⟨bW, x * 4 + 2, none⟩ = some (.int .i64 ((x / 2 : Nat) : Int)) ∧ w.cell? ⟨bW, x * 4 + 3, none⟩ = some (.int .i64 (Tp.wt links x))
  msh : ∀ i, i < links.length → w.cell? ⟨bM, i * 2, none⟩ = some (.int .i64 (2 * (i : Int))) ∧ w.cell? ⟨bM, i * 2 + 1, none⟩ = some (.int .i64 (2 * (i : Int) + 1))
theorem Tp.PlAt.ext {w w' : World} {links : List (Int × Ec.Pair)} {bC bW bM : Nat} (h : Tp.PlAt w links bC bW bM) (he : Ext w w') : Tp.PlAt w' links bC bW bM :=
  ⟨fun k hk => ⟨he.cell (h.cen k hk).1, he.cell (h.cen k hk).2⟩, fun x hx => ⟨he.cell (h.whl x hx).1, he.cell (h.whl x hx).2.1, he.cell (h.whl x hx).2.2.1, he.cell (h.whl x hx).2.2.2⟩, fun i hi => ⟨he.cell (h.msh i hi).1, he.cell (h.msh i hi).2⟩⟩
theorem Tp.own_slc {w : World} {base size n : Nat} {t : TypeId} {v : Value} {xs : List Value} (h : w.ownsRow base t size v n xs) (hn : 0 < n) : ∃ g cap, v = .slice (some ⟨g, 0, none⟩) n cap ∧ n ≤ cap := by
  rcases h.2 with ⟨_, h0⟩ | ⟨g, cap, _, rfl, _, _, hc, _⟩
  · omega
  · exact ⟨g, cap, rfl, hc⟩
theorem Tp.plAt_of {w : World} {base : Nat} {links : List (Int × Ec.Pair)} {bC cC bW cW bM cM : Nat} (hok : Tp.LinksOk links)
    (h1 : w.ownsRow base 123 2 (.slice (some ⟨bC, 0, none⟩) (links.length + 1) cC) (links.length + 1) (Tp.cC (links.length + 1)))
    (h2 : w.ownsRow base 67 4 (.slice (some ⟨bW, 0, none⟩) (2 * links.length) cW) (2 * links.length) (Tp.cW links links.length))
    (h3 : w.ownsRow base 129 2 (.slice (some ⟨bM, 0, none⟩) links.length cM) links.length (Tp.cM links.length)) : Tp.PlAt w links bC bW bM := by
  refine ⟨fun k hk => ?_, fun x hx => ?_, fun i hi => ?_⟩
  · have a := h1.cellAt (k * 2 + 0) (by omega)
    have b := h1.cellAt (k * 2 + 1) (by omega)
    unfold Tp.cC at a b
    rw [Tp.flat_get (s := 2) (fun _ => rfl) (by decide) _ _ _ (by omega) (by omega)] at a b
    exact ⟨a, b⟩
  · obtain ⟨i, hi⟩ : ∃ i, x / 2 = i := ⟨_, rfl⟩
    have hil : i < links.length := by omega
    have hf := (hok.frm i).2
    have g : ∀ j, j < 8 → w.cell? ⟨bW, i * 8 + j, none⟩ = ([.int .i64 (links.getD i (0, Ec.noPair)).1, .int .i64 0, .int .i64 (i : Int), .int .i64 (links.getD i (0, Ec.noPair)).2.drives, .int .i64 ((i : Int) + 1), .int .i64 0, .int .i64 (i : Int), .int .i64 (links.getD i (0, Ec.noPair)).2.driven] : List Value)[j]? := fun j hj => by
      have a := h2.cellAt (i * 8 + j) (by omega)
      unfold Tp.cW at a
      rw [Tp.flat_get (s := 8) (fun _ => rfl) (by decide) _ _ _ hil hj] at a
      exact a
    rcases Nat.mod_two_eq_zero_or_one x with hm | hm
    · have e : x * 4 = i * 8 := by omega
      rw [e, hi]
      have hc : (Tp.wc links x : Int) = (links.getD i (0, Ec.noPair)).1 := by unfold Tp.wc; rw [if_pos hm, hi]; exact hf.symm
      have ht : Tp.wt links x = (links.getD i (0, Ec.noPair)).2.drives := by unfold Tp.wt; rw [if_pos hm, hi]; rfl
      rw [hc, ht]
      exact ⟨g 0 (by omega), g 1 (by omega), g 2 (by omega), g 3 (by omega)⟩
    · have e : x * 4 = i * 8 + 4 := by omega
      rw [e, hi]
      have hc : (Tp.wc links x : Int) = (i : Int) + 1 := by unfold Tp.wc; rw [if_neg (by omega), hi]; omega
      have ht : Tp.wt links x = (links.getD i (0, Ec.noPair)).2.driven := by unfold Tp.wt; rw [if_neg (by omega), hi]; rfl
      rw [hc, ht]
      exact ⟨g 4 (by omega), g 5 (by omega), g 6 (by omega), g 7 (by omega)⟩
  · have a := h3.cellAt (i * 2 + 0) (by omega)
    have b := h3.cellAt (i * 2 + 1) (by omega)
    unfold Tp.cM at a b
    rw [Tp.flat_get (s := 2) (fun _ => rfl) (by decide) _ _ _ (by omega) (by omega)] at a b
    exact ⟨a, b⟩
theorem top_plate20_any (A : Option Addr) (c : Nat) (V : Value) (links : List (Int × Ec.Pair)) (w : World) (hm : Tp.Links w A links) (h1 : 1 ≤ links.length) (hn : links.length ≤ 5) (hok : Tp.LinksOk links) :
    Calls Tryz.prog 15 #[.agg #[.slice A links.length c, V]] w fun e w' => ∃ bC cC bW cW bM cM, e = .returned (.agg #[.int .i64 120, .int .i64 120, .int .i64 0, .int .i64 0, .int .i64 0, .slice (some ⟨bC, 0, none⟩) (links.length + 1) cC, .slice (some ⟨bW, 0, none⟩) (2 * links.length) cW, .slice (some ⟨bM, 0, none⟩) links.length cM]) ∧ links.length + 1 ≤ cC ∧ links.length ≤ cM ∧ Tp.PlAt w' links bC bW bM ∧ Ext w w' := by
  refine (top_plate20_own A c V links w hm hn).mono ?_
  rintro e w' ⟨vC, vW, vM, rfl, oC, oW, oM, hE⟩
  obtain ⟨bC, cC, rfl, k1⟩ := Tp.own_slc oC (by omega)
  obtain ⟨bW, cW, rfl, k2⟩ := Tp.own_slc oW (by omega)
  obtain ⟨bM, cM, rfl, k3⟩ := Tp.own_slc oM (by omega)
  exact ⟨bC, cC, bW, cW, bM, cM, rfl, k1, k3, Tp.plAt_of hok oC oW oM, hE⟩
end Go.Proofs.YtimkmokomohgjaaGreat
