/- Volume 10 of the texts that the laws of this seat use: TpRates TpIsPiece TpR9 TpPiece9 TpNearL TpNear: walks of the program's functions, and plain laws. -/
import Derived.Carry
import Derived.BigQuiet
import Derived.Laws.OwnMore
import Derived.Maps.AppendAt
import Derived.Test.YtimkmokomohgjaaGreatR03
import Derived.Test.YtimkmokomohgjaaGreatR04
import Derived.Test.YtimkmokomohgjaaGreatR05
import Derived.Test.YtimkmokomohgjaaGreatR06
import Derived.Test.YtimkmokomohgjaaGreatR08
import Derived.Test.YtimkmokomohgjaaGreatR09
namespace Go.Proofs.YtimkmokomohgjaaGreat
open Go.RowKit Go.Shelf
open Sp (rd)
attribute [local go_sem] Oper.semAt_some
set_option maxRecDepth 100000
set_option maxHeartbeats 4000000
set_option linter.unusedVariables false
set_option linter.unusedSimpArgs false
theorem Tp.info_bool2 : (Tryz.prog.info? 4).map (fun i => (i.zero, i.size, i.bytes)) = some (some (.bool false), 1, 1) := by kernel_rfl
/-- A list that was written out is an own one. -/
theorem Tp.own_lit {W : World} {g base : Nat} {e : TypeId} {cs : Array Value} {size : Nat} (h : Row W g e cs) (n : Nat) (hs : cs.size = n * size) (hn : n ≤ maxLen) (hb : base ≤ g) : W.ownsRow base e size (.slice (some ⟨g, 0, none⟩) n n) n cs.toList :=
  ⟨by simpa using hs, .inr ⟨g, n, cs, rfl, hb, h, Nat.le_refl _, hn, hs, by rw [← hs, ← Array.length_toList, List.take_length]⟩⟩
/-- The rates of the first k arbors. -/
def Tp.rateL (links : List (Int × Ec.Pair)) (k : Nat) : List Ec.Pair := ⟨1, 1⟩ :: (List.range k).map fun i => ⟨Ec.turnsN (Tp.trainL links (i + 1)), Ec.turnsD (Tp.trainL links (i + 1))⟩
/-- Their senses. -/
def Tp.sameL (links : List (Int × Ec.Pair)) (k : Nat) : List Bool := true :: (List.range k).map fun i => (((Tp.trainL links (i + 1)).length : Int) % 2 == 0)
theorem Tp.rateL_succ (links : List (Int × Ec.Pair)) (k : Nat) : Tp.rateL links (k + 1) = Tp.rateL links k ++ [⟨Ec.turnsN (Tp.trainL links (k + 1)), Ec.turnsD (Tp.trainL links (k + 1))⟩] := by simp [Tp.rateL, List.range_succ]
theorem Tp.sameL_succ (links : List (Int × Ec.Pair)) (k : Nat) : Tp.sameL links (k + 1) = Tp.sameL links k ++ [((Tp.trainL links (k + 1)).length : Int) % 2 == 0] := by simp [Tp.sameL, List.range_succ]
theorem Tp.rateL_len (links : List (Int × Ec.Pair)) (k : Nat) : (Tp.rateL links k).length = k + 1 := by simp [Tp.rateL]
theorem sh_Rates_over (A : Option Addr) (c : Nat) (Bb : Option Addr) (mb cb : Nat) (links : List (Int × Ec.Pair)) (w : World) (hm : Tp.Links w A links) (hok : Tp.LinksOk links) (hl : links.length ≤ 1000) (ht : ∀ i, i < links.length → Ec.trainOk (Tp.trainL links (i + 1)) = true)
    (hP : ∀ W, Ext w W → Calls Tryz.prog 65 #[.agg #[.slice A links.length c, .slice Bb mb cb]] W fun e W' => e = .returned (.bool true) ∧ Ext W W') :
    Calls Tryz.prog 18 #[.agg #[.slice A links.length c, .slice Bb mb cb]] w fun e w' => ∃ v u, e = .returned (.tuple #[v, u, .int .i64 0]) ∧ w'.ownsRow w.heap.size 69 2 v (links.length + 1) (Tp.pc (Tp.rateL links links.length)) ∧ w'.ownsRow w.heap.size 4 1 u (links.length + 1) ((Tp.sameL links links.length).map .bool) ∧ Ext w w' := by
  have HM := Lib.hid hm
  have HP := Lib.hid hP
  have HT := Lib.hid ht
  obtain ⟨n, hn⟩ : ∃ n, links.length = n := ⟨_, rfl⟩
  have HN := Lib.hid hn
  have r0 := Row.new w 50 #[.slice A links.length c, .slice Bb mb cb]
  have HR0 := Lib.hid r0
  have HX0 := Lib.hid ((Ext.refl w).alloc (.cells #[.slice A links.length c, .slice Bb mb cb] 50))
  have c0 := r0.cell
  clear hm hP ht r0
  rw [hn] at hl HR0 HX0 c0 ⊢
  clear hn
  obtain ⟨i0, hi0, hi1, hi2, hi3⟩ := info_parts Tp.info_fr
  obtain ⟨j0, hj0, hj1, hj2, hj3⟩ := info_parts Tp.info_bool2
  go_enter Tryz.func18, Tryz.ntmps18
  go_wp2_with fail
  refine (by have h9 := HP.out _ HX0.out; rw [HN.out] at h9; exact h9 : Calls Tryz.prog 65 _ _ _).mono ?_
  rintro e W2 ⟨rfl, hE2⟩
  have HR2 := Lib.hid (HR0.out.ext hE2)
  have HX2 := Lib.hid (HX0.out.trans hE2)
  have HF := Lib.hid (Row.new W2 69 #[.int .i64 1, .int .i64 1])
  have HB := Lib.hid (Row.new (W2.alloc (.cells #[.int .i64 1, .int .i64 1] 69)) 4 #[.bool true])
  have HXW := Lib.hid (((Ext.refl W2).alloc (.cells #[.int .i64 1, .int .i64 1] 69)).alloc (.cells #[.bool true] 4))
  have c2 := (HR2.out.ext HXW.out).cell
  clear hE2 c0
  go_wp2_with fail
  have hO1 := Tp.own_lit (base := W2.heap.size) (size := 2) (HF.out.alloc (.cells #[.bool true] 4)) 1 rfl (by decide) (Nat.le_refl _)
  have hO2 := Tp.own_lit (base := W2.heap.size) (size := 1) HB.out 1 rfl (by decide) (by simp)
  have HXW := HXW.out
  have hz2 := HX2.out.size
  obtain ⟨gH, hgH⟩ : ∃ gH, W2.heap.size + 1 = gH := ⟨_, rfl⟩
  have e2 : (W2.alloc (.cells #[.int .i64 1, .int .i64 1] 69)).heap.size = gH := by rw [← hgH]; simp
  rw [e2] at hO2
  rw [hgH]
  obtain ⟨W3, hW3⟩ : ∃ W3, (W2.alloc (.cells #[.int .i64 1, .int .i64 1] 69)).alloc (.cells #[.bool true] 4) = W3 := ⟨_, rfl⟩
  rw [hW3] at hO1 hO2 HXW ⊢
  have HO1 := Lib.hid hO1
  have HO2 := Lib.hid hO2
  have HXW := Lib.hid HXW
  have HZ2 := Lib.hid hz2
  clear hO1 hO2 hW3 e2 hgH HF HB c2 hz2 HX0 HR0
  go_loopw [5, 6, 20] (fun r s i wr => ∃ k : Nat, k ≤ n ∧ i = .int .i64 (k : Int) ∧ Ext W2 wr ∧ wr.ownsRow W2.heap.size 69 2 r (k + 1) (Tp.pc (Tp.rateL links k)) ∧ wr.ownsRow W2.heap.size 4 1 s (k + 1) ((Tp.sameL links k).map .bool)) (fun _ _ i _ => n - (intOf i).toNat)
  case atStart => exact ⟨0, Nat.zero_le _, rfl, HXW.out, HO1.out, HO2.out⟩
  case round =>
    obtain ⟨k, hk, rfl, hX3, hO1, hO2⟩ := hrel
    have HXR := Lib.hid hX3
    have HO1 := Lib.hid hO1
    have HO2 := Lib.hid hO2
    have HR3 := Lib.hid (HR2.out.ext hX3)
    have cp := HR3.out.cell
    rcases Nat.lt_or_eq_of_le hk with h9 | h9
    · have HTR : Hid (∀ W, Ext w W → Calls Tryz.prog 67 #[.agg #[.slice A n c, .slice Bb mb cb], .int .i64 ((k : Int) + 1)] W fun e w' => ∃ v, e = .returned v ∧ w'.ownsRow W.heap.size 125 2 v (Tp.trainL links (k + 1)).length (Tp.pc (Tp.trainL links (k + 1))) ∧ Ext W w') := Lib.hid (fun W h => by
        have h8 := sh_trainOf_any A c Bb mb cb links (k + 1) W (HM.out.ext h) hok (by rw [HN.out]; exact hl) (by rw [HN.out]; omega)
        rw [HN.out] at h8
        exact h8)
      have HTK := Lib.hid (HT.out k (by rw [HN.out]; exact h9))
      clear hX3 hO1 hO2
      go_wp2_with fail
      refine (HTR.out _ (HX2.out.trans HXR.out)).mono ?_
      rintro e w4 ⟨v, rfl, hv, hE4⟩
      obtain ⟨At, ct, rfl, hpt⟩ := Tp.pairs_own hv
      clear hv
      go_wp2_with fail
      refine (t_Turns_sense At ct _ _ hpt (by have := Tp.path_len (fun i => (hok.frm i).1) (k + 1); simp only [Tp.trainL, List.length_map]; omega) HTK.out).mono ?_
      rintro e w5 ⟨rfl, hE5⟩
      obtain ⟨tn, htn⟩ : ∃ t, Ec.turnsN (Tp.trainL links (k + 1)) = t := ⟨_, rfl⟩
      obtain ⟨td, htd⟩ : ∃ t, Ec.turnsD (Tp.trainL links (k + 1)) = t := ⟨_, rfl⟩
      obtain ⟨tb, htb⟩ : ∃ t, (((Tp.trainL links (k + 1)).length : Int) % 2 == 0) = t := ⟨_, rfl⟩
      rw [htn, htd, htb]
      have HTN := Lib.hid htn
      have HTD := Lib.hid htd
      have HTB := Lib.hid htb
      have HE := Lib.hid (((hE4.trans hE5).alloc (.cells #[.int .i64 tn, .int .i64 td] 69)).alloc (.cells #[.int .i64 tn, .int .i64 td] 69))
      have HOA := Lib.hid (own_ext HO1.out HE.out)
      have HNW : Hid (((w5.alloc (.cells #[.int .i64 tn, .int .i64 td] 69)).alloc (.cells #[.int .i64 tn, .int .i64 td] 69)).heap[w5.heap.size + 1]? = some (.cells #[.int .i64 tn, .int .i64 td] 69)) := Lib.hid (by
        have h8 := heap_alloc_new (w5.alloc (.cells #[.int .i64 tn, .int .i64 td] 69)) (.cells #[.int .i64 tn, .int .i64 td] 69)
        rw [World.size_alloc] at h8
        exact h8)
      have HOB := Lib.hid (own_ext HO2.out HE.out)
      have HXA := Lib.hid (HXR.out.trans HE.out)
      have hz5 : W2.heap.size ≤ w5.heap.size := ((HXR.out.trans hE4).trans hE5).size
      clear hE4 hE5 hpt htn htd htb
      go_wp2_with (at_builtin; first | (refine wpList_append_lies _ rfl (Operand.tmp 32) (Operand.tmp 34) 62 rfl W2.heap.size 69 i0 _ 2 16 Tryz.underlying62 hi0 hi1 hi2 hi3 rfl (by decide) _ (k + 1) (Tp.pc (Tp.rateL links k)) rfl HOA.out ⟨_, 0, none⟩ 1 1 [.int .i64 tn, .int .i64 td] rfl rfl (World.news_of_block (cs := #[.int .i64 tn, .int .i64 td]) (t := 69) (fr := (0, 0)) HNW.out) (by simp [Value.oneCell']) (by omega) (by simp only [maxLen]; omega) (by omega) (by simp; omega) _ rfl ?_; intro gg cap w6 hown6 hgrow6 hat6 hlt6; have HO61 := Lib.hid hown6; have HO62 := Lib.hid (Tp.own_grown HOB.out hgrow6 (Tp.rowOf HOA.out) (by decide)); have HX6 := Lib.hid (HXA.out.grown hgrow6 (fun g hg => (HOA.out.lt g hg).1)); have hz6 : W2.heap.size ≤ w6.heap.size := HX6.out.size; clear hown6 hgrow6 hat6) | (refine wpList_append_lies _ rfl (Operand.tmp 36) (Operand.tmp 38) 63 rfl W2.heap.size 4 j0 _ 1 1 Tryz.underlying63 hj0 hj1 hj2 hj3 rfl (by decide) _ (k + 1) ((Tp.sameL links k).map .bool) rfl (own_ext HO62.out ((Ext.refl w6).alloc _)) ⟨_, 0, none⟩ 1 1 [.bool tb] rfl rfl (World.news_of_block (cs := #[.bool tb]) (t := 4) (fr := (0, 0)) (heap_alloc_new _ _)) (by simp [Value.oneCell']) (by omega) (by simp only [maxLen]; omega) (by omega) (by simp; omega) _ rfl ?_; intro gg2 cap2 w7 hown7 hgrow7 hat7 hlt7; have HO72 := Lib.hid hown7; have HO71 := Lib.hid (Tp.own_grown (own_ext HO61.out ((Ext.refl w6).alloc (.cells #[.bool tb] 4))) hgrow7 (Tp.rowOf (own_ext HO62.out ((Ext.refl w6).alloc (.cells #[.bool tb] 4)))) (by decide)); have HX7 := Lib.hid ((HX6.out.alloc (.cells #[.bool tb] 4)).grown hgrow7 (fun g hg => ((own_ext HO62.out ((Ext.refl w6).alloc (.cells #[.bool tb] 4))).lt g hg).1)); clear hown7 hgrow7 hat7))
      go_roundw
      case rel =>
        refine ⟨k + 1, by omega, by simp, HX7.out, ?_, ?_⟩
        · have h8 := HO71.out
          rw [Tp.rateL_succ, Tp.pc_append, HTN.out, HTD.out]
          exact h8
        · have h8 := HO72.out
          rw [Tp.sameL_succ, List.map_append, HTB.out]
          exact h8
      case measure => simp [intOf]; omega
    · subst h9
      clear hX3 hO1 hO2
      go_wp2_with fail
      go_ret3
      exact ⟨_, _, rfl, Tp.own_mono HO1.out (Nat.le_of_lt (by have := HZ2.out; have := HX2.out.size; simpa using HR2.out.lt)), Tp.own_mono HO2.out (Nat.le_of_lt HR2.out.lt), HX2.out.trans HXR.out⟩
end Go.Proofs.YtimkmokomohgjaaGreat
namespace Go.Proofs.YtimkmokomohgjaaGreat
open Go.RowKit Go.Shelf
open Sp (rd)
set_option maxRecDepth 100000
set_option maxHeartbeats 4000000
set_option linter.unusedVariables false
set_option linter.unusedSimpArgs false
theorem sh_index_hand (A : Option Addr) (c : Nat) (l : List Int) (g : Nat) (B : Option Addr) (n0 c0 : Nat) (V : Value) (w : World) (hr : Row w g 50 #[.slice B n0 c0, V]) (hm : Ints w A l) (hl : l.length ≤ 100000) :
    Calls Tryz.prog 163 #[.slice A l.length c, .func (.func 124) #[] #[.pointer (some ⟨g, 0, none⟩)]] w (FoundInt (l.any fun n => !Sp.inR n 1 (n0 : Int)) w) := by
  have HRW := Lib.hid hr
  clear hr
  go_enter Tryz.func163, Tryz.ntmps163
  go_wp2_with fail
  go_loop [5, 8] (fun _ i => ∃ k : Nat, k ≤ l.length ∧ i = .int .i64 k ∧ (l.take k).any (fun n => !Sp.inR n 1 (n0 : Int)) = false) (fun _ i => l.length - (intOf i).toNat)
  case atStart => exact ⟨0, Nat.zero_le _, rfl, rfl⟩
  case round =>
    obtain ⟨k, hk, rfl, hq⟩ := hrel
    have HQ := Lib.hid hq
    clear hq
    by_cases hlt : k < l.length
    · obtain ⟨b, o, rfl, hc⟩ := hm (by omega)
      have ck := hc k hlt
      have HS := Lib.hid (any_take_succ l 0 (fun n => !Sp.inR n 1 (n0 : Int)) k hlt)
      have HT := Lib.hid (any_of_take l 0 (fun n => !Sp.inR n 1 (n0 : Int)) k hlt)
      clear hc
      cases hv : (!Sp.inR (rd l k) 1 (n0 : Int))
      · go_wp2_with fail
        refine (sh_badHand_any _ g B n0 c0 V _ HRW.out).mono ?_
        rintro e w' ⟨rfl, rfl⟩
        go_wp2_with fail
        go_round
        case rel => exact ⟨k + 1, by omega, by go_num, by rw [HS.out, HQ.out]; exact hv⟩
        case measure => simp [intOf]; omega
      · go_wp2_with fail
        refine (sh_badHand_any _ g B n0 c0 V _ HRW.out).mono ?_
        rintro e w' ⟨rfl, rfl⟩
        go_wp2_with fail
        go_ret
        exact ⟨_, rfl, by rw [HT.out hv]; simp, Ext.refl _⟩
    · go_wp2_with fail
      go_ret
      have e : l.take k = l := List.take_of_length_le (by omega)
      have := HQ.out
      rw [e] at this
      exact ⟨_, rfl, by rw [this]; rfl, Ext.refl _⟩
theorem sh_contains_hand (A : Option Addr) (c : Nat) (l : List Int) (g : Nat) (B : Option Addr) (n0 c0 : Nat) (V : Value) (w : World) (hr : Row w g 50 #[.slice B n0 c0, V]) (hm : Ints w A l) (hl : l.length ≤ 100000) :
    Calls Tryz.prog 100 #[.slice A l.length c, .func (.func 124) #[] #[.pointer (some ⟨g, 0, none⟩)]] w fun e w' => e = .returned (.bool (l.any fun n => !Sp.inR n 1 (n0 : Int))) ∧ Ext w w' := by
  have HRW := Lib.hid hr
  clear hr
  go_enter Tryz.func100, Tryz.ntmps100
  go_wp2_with fail
  refine (sh_index_hand A c l g B n0 c0 V w HRW.out hm hl).mono ?_
  rintro e w1 ⟨r, rfl, hr, hE⟩
  have HR := Lib.hid hr
  clear hr
  go_wp2_with fail
  go_ret
  exact ⟨ret_bool HR.out, hE⟩
/-- A piece that is in order. -/
structure Tp.PieceOk (links : List (Int × Ec.Pair)) (hands : List Int) : Prop where
  n1 : 1 ≤ links.length
  n5 : links.length ≤ 5
  m1 : 1 ≤ hands.length
  m4 : hands.length ≤ 4
  from_ : Tp.LinksOk links
  pair : ∀ i, i < links.length → (Ec.isTeeth (Tp.pr links i).drives && Ec.isTeeth (Tp.pr links i).driven) = true
  far : ∀ i, i < links.length → (Tp.path (Tp.frm (links.take i)) (Tp.frm links i)).length < 3
  hand : (hands.any fun n => !Sp.inR n 1 (links.length : Int)) = false
theorem Tp.Links.take {w : World} {A : Option Addr} {l : List (Int × Ec.Pair)} (h : Tp.Links w A l) (k : Nat) : Tp.Links w A (l.take k) := fun h0 =>
  have h1 : 0 < l.length := by rw [List.length_take] at h0; omega
  let ⟨b, o, e, hc⟩ := h h1
  ⟨b, o, e, fun j hj => by
    rw [List.length_take] at hj
    have e9 : (l.take k).getD j (0, Ec.noPair) = l.getD j (0, Ec.noPair) := by
      simp only [List.getD_eq_getElem?_getD, List.getElem?_take]
      rw [if_pos (by omega)]
    rw [e9]
    exact hc j (by omega)⟩
theorem Tp.LinksOk.take {l : List (Int × Ec.Pair)} (h : Tp.LinksOk l) (k : Nat) : Tp.LinksOk (l.take k) := fun i => by
  simp only [List.getD_eq_getElem?_getD, List.getElem?_take]
  by_cases hi : i < k
  · rw [if_pos hi]
    have := h i
    simpa only [List.getD_eq_getElem?_getD] using this
  · rw [if_neg hi]
    exact ⟨Int.le_refl _, Int.natCast_nonneg _⟩
theorem sh_isPiece_yes (A : Option Addr) (c : Nat) (Bb : Option Addr) (cb : Nat) (links : List (Int × Ec.Pair)) (hands : List Int) (w : World) (hm : Tp.Links w A links) (hh : Ints w Bb hands) (ok : Tp.PieceOk links hands) (hcap : links.length ≤ c) :
    Calls Tryz.prog 65 #[.agg #[.slice A links.length c, .slice Bb hands.length cb]] w fun e w' => e = .returned (.bool true) ∧ Ext w w' := by
  have HM := Lib.hid hm
  have HH := Lib.hid hh
  have HOK := Lib.hid ok
  have n1 := ok.n1
  have n5 := ok.n5
  have m1 := ok.m1
  have m4 := ok.m4
  obtain ⟨n, hn⟩ : ∃ n, links.length = n := ⟨_, rfl⟩
  obtain ⟨m, hmm⟩ : ∃ m, hands.length = m := ⟨_, rfl⟩
  have HN := Lib.hid hn
  have HMM := Lib.hid hmm
  have HI1 := Lib.hid (fun W => by have h9 := sh_in_any (n : Int) 1 5 W; rw [show Sp.inR (n : Int) 1 5 = true by simp [Sp.inR]; omega] at h9; exact h9)
  have HI2 := Lib.hid (fun W => by have h9 := sh_in_any (m : Int) 1 4 W; rw [show Sp.inR (m : Int) 1 4 = true by simp [Sp.inR]; omega] at h9; exact h9)
  have r0 := Row.new w 50 #[.slice A links.length c, .slice Bb hands.length cb]
  have HR0 := Lib.hid r0
  have HX0 := Lib.hid ((Ext.refl w).alloc (.cells #[.slice A links.length c, .slice Bb hands.length cb] 50))
  have c0 := r0.cell
  clear hm hh ok r0
  rw [hn] at HR0 HX0 c0 hcap ⊢ n1 n5
  rw [hmm] at HR0 HX0 c0 ⊢ m1 m4
  clear hn hmm
  go_enter Tryz.func65, Tryz.ntmps65
  go_wp2_with fail
  refine (HI1.out _).mono ?_
  rintro e w1 ⟨rfl, rfl⟩
  go_wp2_with fail
  refine (HI2.out _).mono ?_
  rintro e w1 ⟨rfl, rfl⟩
  dsimp only
  go_wp2_with fail
  obtain ⟨w0, hw0⟩ : ∃ w0, w.alloc (.cells #[.slice A n c, .slice Bb m cb] 50) = w0 := ⟨_, rfl⟩
  rw [hw0] at HR0 HX0 ⊢
  clear c0 hw0
  go_loopw [20] (fun i wr => ∃ k : Nat, k ≤ n ∧ i = .int .i64 (k : Int) ∧ Ext w0 wr) (fun i _ => n - (intOf i).toNat)
  case atStart => exact ⟨0, Nat.zero_le _, rfl, Ext.refl _⟩
  case round =>
    obtain ⟨k, hk, rfl, hX3⟩ := hrel
    have HXR := Lib.hid hX3
    have HR3 := Lib.hid (HR0.out.ext hX3)
    have cp := HR3.out.cell
    rcases Nat.lt_or_eq_of_le hk with h9 | h9
    · have hkl : k < links.length := by rw [HN.out]; exact h9
      obtain ⟨b, o, rfl, hc⟩ := HM.out (by omega)
      obtain ⟨d1, hd1⟩ : ∃ d, (Tp.pr links k).drives = d := ⟨_, rfl⟩
      obtain ⟨d2, hd2⟩ : ∃ d, (Tp.pr links k).driven = d := ⟨_, rfl⟩
      obtain ⟨fm, hfm⟩ : ∃ f, Tp.frm links k = f := ⟨_, rfl⟩
      have hkc : k ≤ c := by omega
      have hfk : fm ≤ k := by rw [← hfm]; exact (HOK.out.from_.frm k).1
      have y0 : wr.cell? ⟨b, o + k * 3, none⟩ = some (.int .i64 (fm : Int)) := by
        have h8 := (HX0.out.trans hX3).cell (hc k hkl).1
        rw [(HOK.out.from_.frm k).2, hfm] at h8
        exact h8
      have y1 : wr.cell? ⟨b, o + k * 3 + 1, none⟩ = some (.int .i64 d1) := by
        have h8 := (HX0.out.trans hX3).cell (hc k hkl).2.1
        rw [show (links.getD k (0, Ec.noPair)).2.drives = d1 from hd1] at h8
        exact h8
      have y2 : wr.cell? ⟨b, o + k * 3 + 2, none⟩ = some (.int .i64 d2) := by
        have h8 := (HX0.out.trans hX3).cell (hc k hkl).2.2
        rw [show (links.getD k (0, Ec.noPair)).2.driven = d2 from hd2] at h8
        exact h8
      have HIN : Hid (∀ W, Calls Tryz.prog 70 #[.int .i64 (fm : Int), .int .i64 0, .int .i64 (k : Int)] W fun e w' => e = .returned (.bool true) ∧ Ext W w') := Lib.hid (fun W => by have h8 := sh_in_any (fm : Int) 0 (k : Int) W; rw [show Sp.inR (fm : Int) 0 (k : Int) = true by simp [Sp.inR]; omega] at h8; exact h8.mono (fun e w' h => ⟨h.1, by rw [h.2]; exact Ext.refl _⟩))
      have HPR := Lib.hid (fun W => by have h8 := sh_isPair_any d1 d2 W; have h7 := HOK.out.pair k hkl; rw [hd1, hd2] at h7; rw [h7] at h8; exact h8)
      obtain ⟨z, hz⟩ : ∃ z, (Tp.path (Tp.frm (links.take k)) fm).length = z := ⟨_, rfl⟩
      have hz3 : z < 3 := by have h7 := HOK.out.far k hkl; rw [hfm, hz] at h7; exact h7
      have HFA : Hid (∀ W, Ext w W → Calls Tryz.prog 123 #[.slice (some ⟨b, o, none⟩) k c, .int .i64 (fm : Int)] W fun e w' => e = .returned (.int .i64 (z : Int)) ∧ Ext W w') := Lib.hid (fun W h => by
        have hlk : (links.take k).length = k := by rw [List.length_take]; omega
        have h8 := sh_far_any (some ⟨b, o, none⟩) c (links.take k) fm W ((HM.out.ext h).take k) (HOK.out.from_.take k) (by omega) (by omega)
        rw [hlk, hz] at h8
        exact h8)
      clear hX3 hc hd1 hd2 hfm hz
      go_wp2_with fail
      refine wp_region_later (by kernel_rfl) (by kernel_rfl) (fun W hW => ?_)
      have q1 := Later.block (w := W) (by rw [hW]; exact Row.new wr 127 #[.int .i64 (fm : Int), .int .i64 d1, .int .i64 d2])
      have q2 := Later.block (w := W) (by rw [hW]; exact HR3.out.alloc _)
      have HXW : Hid (Ext w0 W) := Lib.hid (by rw [hW]; exact HXR.out.alloc _)
      clear hW
      have HFL := Lib.hid (fun X : Later W => HFA.out _ (HX0.out.trans (HXW.out.trans X.ext)))
      have HIL := Lib.hid (fun X : Later W => HIN.out X.world)
      have HPL := Lib.hid (fun X : Later W => HPR.out X.world)
      repeat (go_big_quiet_step (first | (go_at_call 70; exact Later.call (HIL.out _)) | (go_at_call 122; exact Later.call (HPL.out _)) | (go_at_call 123; exact Later.call (HFL.out _))))
      refine wpQuiet_nil ?_
      rintro ⟨W4, hE4⟩
      have HX4 := Lib.hid (HXW.out.trans hE4)
      dsimp only
      go_wp2_with fail
      go_roundw
      case rel => exact ⟨k + 1, by omega, by simp, HX4.out⟩
      case measure => simp [intOf]; omega
    · subst h9
      clear hX3
      have HCH := Lib.hid (fun (W : World) (h : Ext wr W) => by have h8 := sh_contains_hand Bb cb hands w.heap.size A k c (.slice Bb m cb) W (HR3.out.ext h) (HH.out.ext (HX0.out.trans (HXR.out.trans h))) (by rw [HMM.out]; omega); have h7 := HOK.out.hand; rw [HN.out] at h7; rw [h7, HMM.out] at h8; exact h8)
      go_wp2_with fail
      refine (HCH.out _ (Ext.refl _)).mono ?_
      rintro e w5 ⟨rfl, hE5⟩
      go_wp2_with fail
      go_ret
      exact ⟨by first | rfl | simp, HX0.out.trans (HXR.out.trans hE5)⟩
end Go.Proofs.YtimkmokomohgjaaGreat
namespace Go.Proofs.YtimkmokomohgjaaGreat
open Go.RowKit
open Sp (rd)
set_option maxRecDepth 100000
set_option maxHeartbeats 4000000
set_option linter.unusedVariables false
set_option linter.unusedSimpArgs false
theorem r9_in_any (x lo hi : Int) (w : World) : Calls Tryz.prog 68 #[.int .i64 x, .int .i64 lo, .int .i64 hi] w fun e w' => e = .returned (.bool (Sp.inR x lo hi)) ∧ w = w' := by
  by_cases h1 : lo ≤ x <;> by_cases h2 : x ≤ hi <;>
  · go_enter Tryz.func68, Tryz.ntmps68
    go_wp2_with fail
    all_goals
      go_ret
      exact ⟨ret_bool (by simp [Sp.inR, h1, h2]), rfl⟩
theorem r9_Pair_any (x y : Int) (w : World) : Calls Tryz.prog 110 #[.agg #[.int .i64 x, .int .i64 y]] w fun e w' => e = .returned (.bool (Ec.isTeeth x && Ec.isTeeth y)) ∧ Ext w w' := by
  have HX := Lib.hid (fun W => r1_Teeth_any x W)
  have HY := Lib.hid (fun W => r1_Teeth_any y W)
  obtain ⟨p, hp⟩ : ∃ p, Ec.isTeeth x = p := ⟨_, rfl⟩
  obtain ⟨q, hq⟩ : ∃ p, Ec.isTeeth y = p := ⟨_, rfl⟩
  rw [hp] at HX ⊢
  rw [hq] at HY ⊢
  clear hp hq
  have hr := Row.new w 125 #[.int .i64 x, .int .i64 y]
  have HE : Hid (Ext w (w.alloc (.cells #[.int .i64 x, .int .i64 y] 125))) := Lib.hid ((Ext.refl w).alloc _)
  have a0 := hr.cell
  clear hr
  go_enter Tryz.func110, Tryz.ntmps110
  go_wp2_with fail
  refine (HX.out _).mono ?_
  rintro e w1 ⟨rfl, rfl⟩
  dsimp only
  cases p
  · go_wp2_with fail
    go_ret
    exact ⟨rfl, HE.out⟩
  · go_wp2_with fail
    refine (HY.out _).mono ?_
    rintro e w1 ⟨rfl, rfl⟩
    dsimp only
    go_wp2_with fail
    go_ret
    exact ⟨by simp, HE.out⟩
theorem r9_Arbor_any (A : Option Addr) (n c : Nat) (V : Value) (x : Int) (w : World) :
    Calls Tryz.prog 19 #[.agg #[.slice A n c, V], .int .i64 x] w fun e w' => e = .returned (.bool (Sp.inR x 1 (n : Int))) ∧ Ext w w' := by
  have hr := Row.new w 50 #[.slice A n c, V]
  have HE : Hid (Ext w (w.alloc (.cells #[.slice A n c, V] 50))) := Lib.hid ((Ext.refl w).alloc _)
  have a0 := hr.cell
  clear hr
  go_enter Tryz.func19, Tryz.ntmps19
  go_wp2_with fail
  refine (r9_in_any _ _ _ _).mono ?_
  rintro e w1 ⟨rfl, rfl⟩
  go_wp2_with fail
  go_ret
  exact ⟨rfl, HE.out⟩
theorem Tp.run_append_pairs (ty : TypeId) (w : World) (base b2 : Nat) (v x : Value) (L l : List Ec.Pair) (hv : w.ownsRow base 125 2 v L.length (Tp.pc L)) (hx : w.ownsRow b2 125 2 x l.length (Tp.pc l)) (hn : L.length + l.length ≤ 1000) (hb : base ≤ w.heap.size) :
    ∃ v' w', (Builtin.append_ #[78, 78] ty #[v, x]).run Tryz.prog w = .ok v' w' ∧ w'.ownsRow base 125 2 v' (L ++ l).length (Tp.pc (L ++ l)) ∧ w.grownBy w' v.ownBlock := by
  obtain ⟨i0, hi, hz0, hz1, hz2⟩ := info_parts Tp.info_pair
  rw [Tp.pc_append, List.length_append]
  rcases hx.2 with ⟨rfl, h0⟩ | ⟨g, cap, cur, rfl, _⟩
  · obtain rfl : l = [] := List.eq_nil_of_length_eq_zero h0
    exact ⟨v, w, run_append_owned_none w base _ ty _ i0 2 Tryz.underlying78 hi v L.length (Tp.pc L) hv, by simpa [Tp.pc] using hv, ⟨rfl, rfl, rfl, Nat.le_refl _, fun _ _ _ => rfl⟩⟩
  · obtain ⟨v', w', h1, h2, h3, _, h5⟩ := run_append_own_at (P := Tryz.prog) w base _ ty _ i0 (.agg #[.int .i64 0, .int .i64 0]) 2 16 Tryz.underlying78 hi hz0 hz1 hz2 rfl (by decide) v L.length (Tp.pc L) hv ⟨g, 0, none⟩ l.length cap (Tp.pc l) (Tp.pc_len l) (hx.cells (g := g) rfl) (Tp.pc_one l) (by simp only [maxLen]; omega) (by omega) hb
    exact ⟨v', w', h1, h2, h3⟩
theorem Tp.wpList_append_pairs {w : World} {ops : Array Oper} {rest : List Oper} {o : Oper} {a : Act} {Q : Exit → Act → World → Prop} (hgd : o.guard = none) (s x : Operand)
    (ho : o.op = .call { callee := .builtin .append, args := #[s, x], argTypes := #[78, 78] })
    (base b2 : Nat) (v y : Value) (L l : List Ec.Pair) (hs : a.eval s = v) (hy : a.eval x = y) (hv : w.ownsRow base 125 2 v L.length (Tp.pc L)) (hx : w.ownsRow b2 125 2 y l.length (Tp.pc l)) (hn : L.length + l.length ≤ 1000) (hb : base ≤ w.heap.size)
    (h : ∀ v' w', w'.ownsRow base 125 2 v' (L ++ l).length (Tp.pc (L ++ l)) → w.grownBy w' v.ownBlock → wpList Tryz.prog ops Q rest (a.put o.dst v') w') :
    wpList Tryz.prog ops Q (o :: rest) a w := by
  refine wpList_plain hgd fun K hK => ?_
  obtain ⟨v', w', hr, h2, h3⟩ := Tp.run_append_pairs o.type w base b2 v y L l hv hx hn hb
  unfold Oper.wp execOp
  simp only [ho, resolve, invoke, builtin, Sem.run_bind, Sem.run_pure, Result.andThen_ok, List.map_toArray, List.map_cons, List.map_nil, hs, hy, hr]
  exact hK _ _ (h v' w' h2 h3)
theorem Tp.trainL_zero (L : List (Int × Ec.Pair)) : Tp.trainL L 0 = [] := rfl
theorem Tp.trainL_succ {L : List (Int × Ec.Pair)} (hok : Tp.LinksOk L) (a : Nat) : Tp.trainL L (a + 1) = Tp.trainL L (Tp.frm L a) ++ [Tp.pr L a] := by
  unfold Tp.trainL
  rw [Tp.path_succ (fun i => (hok.frm i).1), List.map_append]
  rfl
theorem Tp.trainL_len {L : List (Int × Ec.Pair)} (hok : Tp.LinksOk L) (a : Nat) : (Tp.trainL L a).length ≤ a := by
  have := Tp.path_len (fun i => (hok.frm i).1) a
  simpa [Tp.trainL] using this
def Tp.trΦ (V : Value) (g : Nat) (fr x y : Int) (l : List Ec.Pair) (n0 : Nat) (i : Nat) (v : Value) (w : World) : Prop :=
  match i with
  | 0 => v = V
  | 1 => v = .pointer (some ⟨g, 0, none⟩)
  | 2 => v = .int .i64 fr
  | 3 => w.ownsRow n0 125 2 v l.length (Tp.pc l)
  | 4 => w.ownsRow n0 125 2 v l.length (Tp.pc l)
  | 5 => v = .pointer (some ⟨g, 1, none⟩)
  | 6 => v = .agg #[.int .i64 x, .int .i64 y]
  | 7 => ∃ b, v = .slice (some ⟨b, 0, none⟩) 1 1 ∧ n0 ≤ b ∧ Row w b 125 #[.int .i64 x, .int .i64 y]
  | _ => True
theorem Tp.trΦ_mono {V : Value} {g : Nat} {fr x y : Int} {l : List Ec.Pair} {n0 : Nat} (i : Nat) (v : Value) (w w' : World) (h : Tp.trΦ V g fr x y l n0 i v w) (he : Ext w w') : Tp.trΦ V g fr x y l n0 i v w' := by
  unfold Tp.trΦ at h ⊢
  split at h <;> first
    | exact h
    | exact own_ext h he
    | exact (let ⟨b, h1, h2, h3⟩ := h; ⟨b, h1, h2, h3.ext he⟩)
theorem r9_Train_any (A : Option Addr) (n c : Nat) (V : Value) (L : List (Int × Ec.Pair)) (hok : Tp.LinksOk L) (hn : L.length ≤ n) (hl : L.length ≤ 900) :
    ∀ (a : Nat) (w : World), Tp.Links w A L → a ≤ L.length → Calls Tryz.prog 111 #[.agg #[.slice A n c, V], .int .i64 (a : Int)] w fun e w' => ∃ v, e = .returned v ∧ w'.ownsRow w.heap.size 125 2 v (Tp.trainL L a).length (Tp.pc (Tp.trainL L a)) ∧ Ext w w' := by
  intro a
  induction a using Nat.strongRecOn with
  | _ a ih =>
  intro w hm ha
  have hr := Row.new w 50 #[.slice A n c, V]
  have HE0 : Hid (Ext w (w.alloc (.cells #[.slice A n c, V] 50))) := Lib.hid ((Ext.refl w).alloc _)
  have HIH := Lib.hid ih
  have a0 := hr.cell
  have HM := Lib.hid hm
  cases a with
  | zero =>
    clear ih hm
    have hz : ((0 : Nat) : Int) = 0 := rfl
    rw [hz]
    go_enter Tryz.func111, Tryz.ntmps111
    go_wp2_with fail
    go_ret
    exact ⟨_, rfl, by rw [Tp.trainL_zero]; exact World.ownsRow_nil _ _ _ _, HE0.out⟩
  | succ a =>
    obtain ⟨b, o, rfl, hc⟩ := hm (by omega)
    obtain ⟨c0, c1, c2⟩ := hc a (by omega)
    have hfr := hok.frm a
    obtain ⟨x, hx⟩ : ∃ x, (L.getD a (0, Ec.noPair)).2.drives = x := ⟨_, rfl⟩
    obtain ⟨y, hy⟩ : ∃ y, (L.getD a (0, Ec.noPair)).2.driven = y := ⟨_, rfl⟩
    rw [hx] at c1
    rw [hy] at c2
    rw [hfr.2] at c0
    have HT : Hid (Tp.trainL L (a + 1) = Tp.trainL L (Tp.frm L a) ++ [⟨x, y⟩]) := Lib.hid (by rw [Tp.trainL_succ hok, ← hx, ← hy]; rfl)
    have htl := Tp.trainL_len hok (Tp.frm L a)
    have hfl := hfr.1
    obtain ⟨f, hf⟩ : ∃ f, Tp.frm L a = f := ⟨_, rfl⟩
    rw [hf] at c0 HT htl hfl
    obtain ⟨l, hll⟩ : ∃ l, Tp.trainL L f = l := ⟨_, rfl⟩
    have HLL := Lib.hid hll
    rw [hll] at HT htl
    have e0 := HE0.out.cell c0
    have e1 := HE0.out.cell c1
    have e2 := HE0.out.cell c2
    have hlt : (a : Int) < (n : Int) := by omega
    have hlt2 : a < n := by omega
    have hsub : ((a + 1 : Nat) : Int) - 1 = (a : Int) := by omega
    have hne : ((((a + 1 : Nat) : Int)) == 0) = false := by rw [beq_eq_false_iff_ne]; omega
    have hne2 : ¬ (((a + 1 : Nat) : Int)) = 0 := by omega
    have h3 : (a : Int).toNat = a := by omega
    clear hx hy hf hll hfr hc hm c0 c1 c2 ih
    go_enter Tryz.func111, Tryz.ntmps111
    go_wp2_with fail
    obtain ⟨W, hW⟩ : ∃ W, (w.alloc (.cells #[.slice (some ⟨b, o, none⟩) n c, V] 50)).alloc (.cells #[.int .i64 (f : Int), .int .i64 x, .int .i64 y] 127) = W := ⟨_, rfl⟩
    have hR1 : Row W w.heap.size 50 #[.slice (some ⟨b, o, none⟩) n c, V] := by rw [← hW]; exact hr.alloc _
    have hR2 : Row W (w.heap.size + 1) 127 #[.int .i64 (f : Int), .int .i64 x, .int .i64 y] := by
      have := Row.new (w.alloc (.cells #[.slice (some ⟨b, o, none⟩) n c, V] 50)) 127 #[.int .i64 (f : Int), .int .i64 x, .int .i64 y]
      rw [World.size_alloc] at this
      rw [← hW]
      exact this
    have hX : Ext w W := by rw [← hW]; exact HE0.out.alloc _
    have HX := Lib.hid hX
    have HR1 := Lib.hid hR1
    have HR2 := Lib.hid hR2
    rw [hW]
    clear hW hR1 hR2 hX hr a0 e0 e1 e2
    refine wp_region_free_closed 8 (Tp.trΦ (.agg #[.slice (some ⟨b, o, none⟩) n c, V]) (w.heap.size + 1) (f : Int) x y l w.heap.size) (by kernel_rfl) (by simp) (by kernel_rfl) (by kernel_rfl) (by kernel_rfl) Tp.trΦ_mono ?hob ?hQ
    case hob =>
      intro i o' hin ho a' wa hE hF
      match i, hin with
      | 0, _ =>
        obtain rfl := Option.some.inj ho
        have h0 : a'.tmps[2]?.getD undef = .pointer (some ⟨w.heap.size, 0, none⟩) := evalD (hF.old 2 (by decide))
        have q := (Row.ext HR1.out hE).cell
        refine Ran.value rfl (v := .agg #[.slice (some ⟨b, o, none⟩) n c, V]) (w1 := wa) ?_ ⟨rfl, Ext.refl _⟩
        go_simp
      | 1, _ =>
        obtain rfl := Option.some.inj ho
        have h0 : a'.tmps[5]?.getD undef = .pointer (some ⟨w.heap.size + 1, 0, none⟩) := evalD (hF.old 5 (by decide))
        refine Ran.value rfl (v := .pointer (some ⟨w.heap.size + 1, 0, none⟩)) (w1 := wa) ?_ ⟨rfl, Ext.refl _⟩
        go_simp
      | 2, _ =>
        obtain rfl := Option.some.inj ho
        have h0 : a'.tmps[15]?.getD undef = .pointer (some ⟨w.heap.size + 1, 0, none⟩) := evalD (hF.from_ 1 15 rfl (by decide))
        have q := (Row.ext HR2.out hE).cell
        refine Ran.value rfl (v := .int .i64 (f : Int)) (w1 := wa) ?_ ⟨rfl, Ext.refl _⟩
        go_simp
      | 3, _ =>
        obtain rfl := Option.some.inj ho
        have h0 : a'.tmps[14]?.getD undef = .agg #[.slice (some ⟨b, o, none⟩) n c, V] := evalD (hF.from_ 0 14 rfl (by decide))
        have h1 : a'.tmps[16]?.getD undef = .int .i64 (f : Int) := evalD (hF.from_ 2 16 rfl (by decide))
        refine Ran.enter rfl (f := 111) (args := #[.agg #[.slice (some ⟨b, o, none⟩) n c, V], .int .i64 (f : Int)]) (w1 := wa) ?_ ?_
        · go_simp
        · refine (HIH.out f (by omega) wa ((HM.out.ext HX.out).ext hE) (by omega)).mono ?_
          rintro r w1 ⟨v, rfl, hv, hX1⟩
          rw [HLL.out] at hv
          exact ⟨_, rfl, Tp.own_mono hv (Nat.le_trans HX.out.size hE.size), hX1⟩
      | 4, _ =>
        obtain rfl := Option.some.inj ho
        have h0 : wa.ownsRow w.heap.size 125 2 (a'.eval (.tmp 17)) l.length (Tp.pc l) := hF.from_ 3 17 rfl (by decide)
        obtain ⟨v', w', hr, h2, h3⟩ := Tp.run_append_pairs 78 wa w.heap.size w.heap.size (.slice none 0 0) (a'.eval (.tmp 17)) [] l (World.ownsRow_nil _ _ _ _) h0 (by simp; omega) (Nat.le_trans HX.out.size hE.size)
        refine Ran.value rfl (v := v') (w1 := w') ?_ ⟨h2, (Ext.refl wa).grown h3 (fun q hq => by cases hq)⟩
        unfold execOp
        have hc : a'.eval (.const (.slice none 0 0)) = .slice none 0 0 := rfl
        simp only [resolve, invoke, builtin, Sem.run_bind, Sem.run_pure, Result.andThen_ok, List.map_toArray, List.map_cons, List.map_nil, hc, hr]
      | 5, _ =>
        obtain rfl := Option.some.inj ho
        have h0 : a'.tmps[5]?.getD undef = .pointer (some ⟨w.heap.size + 1, 0, none⟩) := evalD (hF.old 5 (by decide))
        refine Ran.value rfl (v := .pointer (some ⟨w.heap.size + 1, 1, none⟩)) (w1 := wa) ?_ ⟨rfl, Ext.refl _⟩
        go_simp
      | 6, _ =>
        obtain rfl := Option.some.inj ho
        have h0 : a'.tmps[19]?.getD undef = .pointer (some ⟨w.heap.size + 1, 1, none⟩) := evalD (hF.from_ 5 19 rfl (by decide))
        have q := (Row.ext HR2.out hE).cell
        refine Ran.value rfl (v := .agg #[.int .i64 x, .int .i64 y]) (w1 := wa) ?_ ⟨rfl, Ext.refl _⟩
        go_simp
      | 7, _ =>
        obtain rfl := Option.some.inj ho
        have h0 : a'.tmps[20]?.getD undef = .agg #[.int .i64 x, .int .i64 y] := evalD (hF.from_ 6 20 rfl (by decide))
        refine Ran.value rfl (v := .slice (some ⟨wa.heap.size, 0, none⟩) 1 1) (w1 := wa.alloc (.cells #[.int .i64 x, .int .i64 y] 125)) ?_ ⟨⟨wa.heap.size, rfl, Nat.le_trans HX.out.size hE.size, Row.new _ _ _⟩, (Ext.refl _).alloc _⟩
        go_simp
      | k + 8, hin => omega
    case hQ =>
      intro vs w2 hE hΦ
      have f0 : vs 0 = .agg #[.slice (some ⟨b, o, none⟩) n c, V] := hΦ 0 (by omega)
      have f1 : vs 1 = .pointer (some ⟨w.heap.size + 1, 0, none⟩) := hΦ 1 (by omega)
      have f2 : vs 2 = .int .i64 (f : Int) := hΦ 2 (by omega)
      have f4 : w2.ownsRow w.heap.size 125 2 (vs 4) l.length (Tp.pc l) := hΦ 4 (by omega)
      obtain ⟨b7, f7, hb7, hr7⟩ : ∃ b, vs 7 = .slice (some ⟨b, 0, none⟩) 1 1 ∧ w.heap.size ≤ b ∧ Row w2 b 125 #[.int .i64 x, .int .i64 y] := hΦ 7 (by omega)
      have hrg : List.range 8 = [0, 1, 2, 3, 4, 5, 6, 7] := rfl
      unfold putAll putS
      simp only [List.length_cons, List.length_nil, List.take_succ_cons, List.take_zero, List.drop_succ_cons, List.drop_zero, Nat.reduceAdd, hrg, List.foldl_cons, List.foldl_nil, dstOf, List.getElem?_cons_succ, List.getElem?_cons_zero, Option.bind_some]
      clear hrg
      simp only [Act.put, List.setIfInBounds_toArray, List.set_cons_succ, List.set_cons_zero]
      have HE2 := Lib.hid (HX.out.trans hE)
      refine Tp.wpList_append_pairs rfl (.tmp 18) (.tmp 21) rfl w.heap.size w.heap.size (vs 4) (vs 7) l [⟨x, y⟩] rfl rfl f4 ?_ (by simp; omega) HE2.out.size ?_
      · rw [f7]
        have := Tp.own_lit (base := w.heap.size) (size := 2) hr7 1 rfl (by decide) hb7
        simpa [Tp.pc] using this
      · intro v' w3 ho3 hg3
        have hE3 : Ext w w3 := HE2.out.grown hg3 (fun q hq => (f4.lt q hq).1)
        have HO3 := Lib.hid ho3
        have HE3 := Lib.hid hE3
        clear ho3 hg3 hE3 f4 f7 hr7 hE hΦ
        go_wp2_with fail
        go_ret
        exact ⟨_, rfl, by rw [HT.out]; exact HO3.out, HE3.out⟩
end Go.Proofs.YtimkmokomohgjaaGreat
namespace Go.Proofs.YtimkmokomohgjaaGreat
open Go.RowKit
open Sp (rd)
set_option maxRecDepth 100000
set_option maxHeartbeats 4000000
set_option linter.unusedVariables false
set_option linter.unusedSimpArgs false
/-- The first links are in order. -/
structure Tp.FirstOk (links : List (Int × Ec.Pair)) (k : Nat) : Prop where
  from_ : Tp.LinksOk (links.take k)
  pair : ∀ i, i < k → (Ec.isTeeth (Tp.pr links i).drives && Ec.isTeeth (Tp.pr links i).driven) = true
  len : ∀ i, i < k → (Tp.trainL (links.take (i + 1)) (i + 1)).length ≤ 3
theorem Tp.linksOk_succ {links : List (Int × Ec.Pair)} {k : Nat} (h : Tp.LinksOk (links.take k)) (hk : k < links.length) (h0 : 0 ≤ (links.getD k (0, Ec.noPair)).1) (h1 : (links.getD k (0, Ec.noPair)).1 ≤ (k : Int)) : Tp.LinksOk (links.take (k + 1)) := fun i => by
  simp only [List.getD_eq_getElem?_getD, List.getElem?_take]
  by_cases hi : i < k + 1
  · rw [if_pos hi]
    rcases Nat.lt_or_eq_of_le (Nat.le_of_lt_succ hi) with h9 | rfl
    · have := h i
      simp only [List.getD_eq_getElem?_getD, List.getElem?_take, if_pos h9] at this
      exact this
    · simp only [List.getD_eq_getElem?_getD] at h0 h1
      exact ⟨h0, h1⟩
  · rw [if_neg hi]
    exact ⟨Int.le_refl _, Int.natCast_nonneg _⟩
theorem Tp.frm_take {links : List (Int × Ec.Pair)} {k i : Nat} (h : i < k) : Tp.frm (links.take k) i = Tp.frm links i := by
  unfold Tp.frm
  simp only [List.getD_eq_getElem?_getD, List.getElem?_take, if_pos h]
theorem Tp.pr_take {links : List (Int × Ec.Pair)} {k i : Nat} (h : i < k) : Tp.pr (links.take k) i = Tp.pr links i := by
  unfold Tp.pr
  simp only [List.getD_eq_getElem?_getD, List.getElem?_take, if_pos h]
theorem Tp.pathF_congr {f g : Nat → Nat} {n : Nat} (hf : ∀ i, f i ≤ i) (h : ∀ i, i < n → f i = g i) : ∀ k a, a ≤ n → Tp.pathF f k a = Tp.pathF g k a := by
  intro k
  induction k with
  | zero => intro a _; rfl
  | succ k ih =>
    intro a ha
    unfold Tp.pathF
    by_cases h0 : a = 0
    · rw [if_pos h0, if_pos h0]
    · rw [if_neg h0, if_neg h0, ← h (a - 1) (by omega), ih (f (a - 1)) (by have := hf (a - 1); omega)]
theorem Tp.path_lt {f : Nat → Nat} (hf : ∀ i, f i ≤ i) : ∀ k a i, i ∈ Tp.pathF f k a → i < a := by
  intro k
  induction k with
  | zero => intro a i h; cases h
  | succ k ih =>
    intro a i h
    unfold Tp.pathF at h
    by_cases h0 : a = 0
    · rw [if_pos h0] at h; cases h
    · rw [if_neg h0] at h
      rcases List.mem_append.1 h with h | h
      · have := ih _ _ h
        have := hf (a - 1)
        omega
      · have : i = a - 1 := by simpa using h
        omega
/-- The train of an arbor looks at the links up to it alone. -/
theorem Tp.trainL_take {links : List (Int × Ec.Pair)} {k a : Nat} (hok : Tp.LinksOk (links.take k)) (ha : a ≤ k) : Tp.trainL (links.take k) a = Tp.trainL links a := by
  unfold Tp.trainL Tp.path
  rw [Tp.pathF_congr (n := k) (fun i => (hok.frm i).1) (fun i hi => Tp.frm_take hi) a a ha]
  refine List.map_congr_left fun i hi => Tp.pr_take ?_
  rw [← Tp.pathF_congr (n := k) (fun i => (hok.frm i).1) (fun i hi => Tp.frm_take hi) a a ha] at hi
  have := Tp.path_lt (fun i => (hok.frm i).1) _ _ _ hi
  omega
structure Tp.PieceAll (links : List (Int × Ec.Pair)) (hands : List Int) : Prop where
  ok : Tp.PieceOk links hands
  train : ∀ i, i < links.length → Ec.trainOk (Tp.trainL links (i + 1)) = true
theorem Tp.piece_all {links : List (Int × Ec.Pair)} {hands : List Int} (h : Tp.FirstOk links links.length) (n1 : 1 ≤ links.length) (n5 : links.length ≤ 5) (m1 : 1 ≤ hands.length) (m4 : hands.length ≤ 4) (hh : ∀ k, k < hands.length → Sp.inR (rd hands k) 1 (links.length : Int) = true) : Tp.PieceAll links hands := by
  have hok : Tp.LinksOk links := by have := h.from_; rwa [List.take_length] at this
  refine ⟨⟨n1, n5, m1, m4, hok, h.pair, fun i hi => ?_, ?_⟩, fun i hi => ?_⟩
  · have h1 := h.len i hi
    have h2 := Tp.LinksOk.take hok (i + 1)
    rw [Tp.trainL_succ h2, List.length_append, List.length_singleton, Tp.frm_take (Nat.lt_succ_self i)] at h1
    have h3 := (hok.frm i).1
    unfold Tp.trainL at h1
    rw [List.length_map] at h1
    have h4 : Tp.path (Tp.frm (links.take (i + 1))) (Tp.frm links i) = Tp.path (Tp.frm (links.take i)) (Tp.frm links i) := by
      unfold Tp.path
      exact Tp.pathF_congr (n := i) (fun j => (h2.frm j).1) (fun j hj => by rw [Tp.frm_take (by omega), Tp.frm_take hj]) _ _ h3
    rw [h4] at h1
    omega
  · rw [List.any_eq_false]
    intro x hx
    obtain ⟨k, hk, rfl⟩ := List.mem_iff_getElem.1 hx
    have := hh k hk
    have e : rd hands k = hands[k] := by unfold Sp.rd; rw [List.getD_eq_getElem?_getD, List.getElem?_eq_getElem hk]; rfl
    rw [e] at this
    simp [this]
  · have h1 := h.len i hi
    rw [Tp.trainL_take (Tp.LinksOk.take hok (i + 1)) (Nat.le_refl _)] at h1
    unfold Ec.trainOk
    rw [Bool.and_eq_true, List.all_eq_true]
    constructor
    · have h2 : 1 ≤ (Tp.trainL links (i + 1)).length := by rw [Tp.trainL_succ hok, List.length_append, List.length_singleton]; omega
      simp [Sp.inR]
      omega
    · intro p hp
      unfold Tp.trainL at hp
      obtain ⟨j, hj, rfl⟩ := List.mem_map.1 hp
      have := Tp.path_lt (fun i => (hok.frm i).1) _ _ _ hj
      exact h.pair j (by omega)
theorem Tp.firstOk_zero (links : List (Int × Ec.Pair)) : Tp.FirstOk links 0 := ⟨fun i => by simp, fun i h => absurd h (by omega), fun i h => absurd h (by omega)⟩
theorem Tp.firstOk_succ {links : List (Int × Ec.Pair)} {k : Nat} (h : Tp.FirstOk links k) (hf : Tp.LinksOk (links.take (k + 1))) (hp : (Ec.isTeeth (Tp.pr links k).drives && Ec.isTeeth (Tp.pr links k).driven) = true) (hl : (Tp.trainL (links.take (k + 1)) (k + 1)).length ≤ 3) : Tp.FirstOk links (k + 1) :=
  ⟨hf, fun i hi => by rcases Nat.lt_or_eq_of_le (Nat.le_of_lt_succ hi) with h9 | rfl; exact h.pair i h9; exact hp, fun i hi => by rcases Nat.lt_or_eq_of_le (Nat.le_of_lt_succ hi) with h9 | rfl; exact h.len i h9; exact hl⟩
def Tp.PiecePost (links : List (Int × Ec.Pair)) (hands : List Int) (w : World) (e : Ending) (w' : World) : Prop := ∃ b, e = .returned (.bool b) ∧ (b = true → Tp.PieceAll links hands) ∧ Ext w w'
theorem Tp.piecePost {links : List (Int × Ec.Pair)} {hands : List Int} {w w' : World} {e : Ending} (b : Bool) (he : e = .returned (.bool b)) (h : b = true → Tp.PieceAll links hands) (hx : Ext w w') : Tp.PiecePost links hands w e w' := ⟨b, he, h, hx⟩
set_option maxHeartbeats 16000000 in
theorem r9_Piece_any (A : Option Addr) (c : Nat) (Bb : Option Addr) (cb : Nat) (links : List (Int × Ec.Pair)) (hands : List Int) (w : World) (hm : Tp.Links w A links) (hh : Ints w Bb hands) (n5 : links.length ≤ 5) (m4 : hands.length ≤ 4) :
    Calls Tryz.prog 56 #[.agg #[.slice A links.length c, .slice Bb hands.length cb]] w (Tp.PiecePost links hands w) := by
  have HM := Lib.hid hm
  have HH := Lib.hid hh
  have HTR := Lib.hid (fun (L : List (Int × Ec.Pair)) hok hn (a : Nat) W h ha => r9_Train_any A links.length c (.slice Bb hands.length cb) L hok hn (by omega) a W h ha)
  have HAR := Lib.hid (fun x W => r9_Arbor_any A links.length c (.slice Bb hands.length cb) x W)
  have HAL := Lib.hid (fun h n1 m1 hh => Tp.piece_all (links := links) (hands := hands) h n1 n5 m1 m4 hh)
  obtain ⟨n, hn⟩ : ∃ n, links.length = n := ⟨_, rfl⟩
  obtain ⟨m, hmm⟩ : ∃ m, hands.length = m := ⟨_, rfl⟩
  have HN := Lib.hid hn
  have HMM := Lib.hid hmm
  have r0 := Row.new w 50 #[.slice A links.length c, .slice Bb hands.length cb]
  have HR0 := Lib.hid r0
  have HX0 := Lib.hid ((Ext.refl w).alloc (.cells #[.slice A links.length c, .slice Bb hands.length cb] 50))
  rw [hn, hmm] at HR0 HX0 HTR HAR HAL ⊢
  rw [hn] at n5
  rw [hmm] at m4
  clear hm hh hn hmm r0
  have c0 := HR0.out.cell
  by_cases n1 : 1 ≤ n
  case neg =>
    have h9 : Sp.inR (n : Int) 1 5 = false := by simp [Sp.inR]; omega
    go_enter Tryz.func56, Tryz.ntmps56
    go_wp2_with fail
    refine (r9_in_any _ _ _ _).mono ?_
    rintro e w' ⟨rfl, rfl⟩
    rw [h9]
    go_wp2_with fail
    go_ret
    exact Tp.piecePost false rfl (fun h => absurd h (by decide)) (HX0.out)
  case pos =>
    have h9 : Sp.inR (n : Int) 1 5 = true := by simp [Sp.inR]; omega
    by_cases m1 : 1 ≤ m
    case neg =>
      have h8 : Sp.inR (m : Int) 1 4 = false := by simp [Sp.inR]; omega
      go_enter Tryz.func56, Tryz.ntmps56
      go_wp2_with fail
      refine (r9_in_any _ _ _ _).mono ?_
      rintro e w' ⟨rfl, rfl⟩
      rw [h9]
      go_wp2_with fail
      refine (r9_in_any _ _ _ _).mono ?_
      rintro e w' ⟨rfl, rfl⟩
      rw [h8]
      go_wp2_with fail
      go_ret
      exact Tp.piecePost false rfl (fun h => absurd h (by decide)) (HX0.out)
    case pos =>
      have h8 : Sp.inR (m : Int) 1 4 = true := by simp [Sp.inR]; omega
      have HN1 := Lib.hid n1
      have HM1 := Lib.hid m1
      go_enter Tryz.func56, Tryz.ntmps56
      go_wp2_with fail
      refine (r9_in_any _ _ _ _).mono ?_
      rintro e w' ⟨rfl, rfl⟩
      rw [h9]
      go_wp2_with fail
      refine (r9_in_any _ _ _ _).mono ?_
      rintro e w' ⟨rfl, rfl⟩
      rw [h8]
      clear h8 h9 n1 m1
      go_wp2_with fail
      generalize w.alloc (.cells #[.slice A n c, .slice Bb m cb] 50) = W0 at *
      clear c0
      go_loopw [3] (fun i wr => ∃ k : Nat, k ≤ n ∧ i = .int .i64 (k : Int) ∧ Tp.FirstOk links k ∧ Ext W0 wr) (fun i _ => n - (intOf i).toNat)
      case atStart => exact ⟨0, Nat.zero_le _, rfl, Tp.firstOk_zero _, Ext.refl _⟩
      case round =>
        obtain ⟨k, hk, rfl, hF, hE⟩ := hrel
        have HF := Lib.hid hF
        have HE := Lib.hid hE
        have HR1 := Lib.hid (HR0.out.ext hE)
        have HX1 := Lib.hid (HX0.out.trans hE)
        clear hF hE
        have c1 := HR1.out.cell
        rcases Nat.lt_or_eq_of_le hk with h9 | h9
        · have h9' : (k : Int) < (n : Int) := by omega
          have hk9 : k < links.length := by rw [HN.out]; exact h9
          obtain ⟨b, o, rfl, hc⟩ := HM.out (by omega)
          obtain ⟨d0, d1, d2⟩ := hc k hk9
          replace d0 := HX1.out.cell d0
          replace d1 := HX1.out.cell d1
          replace d2 := HX1.out.cell d2
          have HP : Hid (∀ x y, (links.getD k (0, Ec.noPair)).2.drives = x → (links.getD k (0, Ec.noPair)).2.driven = y → (Ec.isTeeth x && Ec.isTeeth y) = true → (Ec.isTeeth (Tp.pr links k).drives && Ec.isTeeth (Tp.pr links k).driven) = true) := Lib.hid (fun x y hx hy h => by unfold Tp.pr; rw [hx, hy]; exact h)
          have HL9 : Hid (∀ f, (links.getD k (0, Ec.noPair)).1 = f → 0 ≤ f → f ≤ (k : Int) → Tp.LinksOk (links.take (k + 1))) := Lib.hid (fun f hf a b => Tp.linksOk_succ HF.out.from_ hk9 (by rw [hf]; exact a) (by rw [hf]; exact b))
          have HLN : Hid ((links.take (k + 1)).length = k + 1) := Lib.hid (by rw [List.length_take]; omega)
          obtain ⟨f, hf⟩ : ∃ f, (links.getD k (0, Ec.noPair)).1 = f := ⟨_, rfl⟩
          obtain ⟨x, hx⟩ : ∃ x, (links.getD k (0, Ec.noPair)).2.drives = x := ⟨_, rfl⟩
          obtain ⟨y, hy⟩ : ∃ y, (links.getD k (0, Ec.noPair)).2.driven = y := ⟨_, rfl⟩
          rw [hf] at d0
          rw [hx] at d1
          rw [hy] at d2
          have HL8 := Lib.hid (HL9.out f hf)
          have HP8 := Lib.hid (HP.out x y hx hy)
          clear hf hx hy hc HP HL9 hk9
          go_wp2_with fail
          refine (r9_in_any _ _ _ _).mono ?_
          rintro e w' ⟨rfl, rfl⟩
          cases q0 : Sp.inR f 0 (k : Int) with
          | false =>
            go_wp2_with fail
            go_ret
            exact Tp.piecePost false rfl (fun h => absurd h (by decide)) (HX1.out)
          | true =>
            have hf2 := inR_iff.1 q0
            have HLO := Lib.hid (HL8.out hf2.1 hf2.2)
            clear q0 hf2
            go_wp2_with fail
            refine (r9_Pair_any _ _ _).mono ?_
            rintro e w2 ⟨rfl, hE2⟩
            cases q1 : Ec.isTeeth x && Ec.isTeeth y with
            | false =>
              go_wp2_with fail
              go_ret
              exact Tp.piecePost false rfl (fun h => absurd h (by decide)) (HX1.out.trans hE2)
            | true =>
              have HPQ := Lib.hid (HP8.out q1)
              have HX2 := Lib.hid (HX1.out.trans hE2)
              have HE2 := Lib.hid (HE.out.trans hE2)
              have HR2 := Lib.hid (HR1.out.ext hE2)
              clear q1 hE2 c1 d0 d1 d2
              have c2 := HR2.out.cell
              go_wp2_with fail
              refine (HTR.out (links.take (k + 1)) HLO.out (by rw [HLN.out]; omega) (k + 1) _ ((HM.out.take (k + 1)).ext HX2.out) (by rw [HLN.out]; exact Nat.le_refl _)).mono ?_
              rintro e w3 ⟨v, rfl, hv, hE3⟩
              have HTL := Lib.hid (fun h => Tp.firstOk_succ HF.out HLO.out HPQ.out h)
              obtain ⟨At, ct, rfl, _⟩ := Tp.pairs_own hv
              obtain ⟨q, hq⟩ : ∃ q, (Tp.trainL (links.take (k + 1)) (k + 1)).length = q := ⟨_, rfl⟩
              rw [hq] at HTL ⊢
              have HX3 := Lib.hid (HX2.out.trans hE3)
              have HE3 := Lib.hid (HE2.out.trans hE3)
              clear hv hq hE3 c2
              by_cases q3 : q ≤ 3
              · have q3' : ¬ (3 : Int) < (q : Int) := by omega
                have HFN := Lib.hid (HTL.out q3)
                clear HTL q3
                go_wp2_with fail
                go_roundw
                case rel => exact ⟨k + 1, by omega, by simp, HFN.out, HE3.out⟩
                case measure => simp [intOf]; omega
              · have q3' : (3 : Int) < (q : Int) := by omega
                go_wp2_with fail
                go_ret
                exact Tp.piecePost false rfl (fun h => absurd h (by decide)) (HX3.out)
        · subst h9
          go_wp2_with fail
          clear c1
          generalize wr = W1 at *
          go_loopw [4] (fun i wr => ∃ j : Nat, j ≤ m ∧ i = .int .i64 (j : Int) ∧ (∀ q, q < j → Sp.inR (rd hands q) 1 (k : Int) = true) ∧ Ext W1 wr) (fun i _ => m - (intOf i).toNat)
          case atStart => exact ⟨0, Nat.zero_le _, rfl, fun q hq => absurd hq (by omega), Ext.refl _⟩
          case round =>
            obtain ⟨j, hj, rfl, hH, hE4⟩ := hrel
            have HHJ := Lib.hid hH
            have HX4 := Lib.hid (HX1.out.trans hE4)
            have HE4 := Lib.hid hE4
            have HR4 := Lib.hid (HR1.out.ext hE4)
            clear hH hE4
            have c4 := HR4.out.cell
            rcases Nat.lt_or_eq_of_le hj with g9 | g9
            · have g9' : (j : Int) < (m : Int) := by omega
              obtain ⟨b, o, rfl, hc⟩ := HH.out (by rw [HMM.out]; omega)
              have d0 := HX4.out.cell (hc j (by rw [HMM.out]; exact g9))
              obtain ⟨f, hf⟩ : ∃ f, rd hands j = f := ⟨_, rfl⟩
              rw [hf] at d0
              have HHF := Lib.hid hf
              clear hc hf
              go_wp2_with fail
              refine wp_region_later (by kernel_rfl) (by kernel_rfl) (fun W hW => ?_)
              have hX0 : Ext wr W := by rw [hW]; first | exact Ext.refl _ | exact (Ext.refl _).drewN _
              clear hW
              have HXW := Lib.hid hX0
              have HLX := Lib.hid (fun X : Later W => HX4.out.trans (HXW.out.trans X.ext))
              have u0 := fun X : Later W => (HXW.out.trans X.ext).cell d0
              have u1 := fun X : Later W => (HXW.out.trans X.ext).cell (c4 0)
              have u2 := fun X : Later W => (HXW.out.trans X.ext).cell (c4 1)
              clear hX0
              repeat (go_big_quiet_step (fail))
              go_big_quiet_step ((go_at_call 19; exact Later.call (HAR.out _ _)))
              repeat (go_big_quiet_step (fail))
              refine wpQuiet_nil ?_
              rintro ⟨w5, hEz⟩
              dsimp only
              have HE5 := Lib.hid (HE4.out.trans (HXW.out.trans hEz))
              have HX5 := Lib.hid (HX4.out.trans (HXW.out.trans hEz))
              clear hEz HLX u0 u1 u2
              cases q1 : Sp.inR f 1 (k : Int) with
              | false =>
                go_wp2_with fail
                go_ret
                exact Tp.piecePost false rfl (fun h => absurd h (by decide)) (HX5.out)
              | true =>
                go_wp2_with fail
                go_roundw
                case rel => exact ⟨j + 1, by omega, by simp, fun q hq => by rcases Nat.lt_or_eq_of_le (Nat.le_of_lt_succ hq) with h | rfl; exact HHJ.out q h; rw [HHF.out]; exact q1, HE5.out⟩
                case measure => simp [intOf]; omega
            · subst g9
              go_wp2_with fail
              go_ret
              exact Tp.piecePost true rfl (fun _ => HAL.out HF.out HN1.out HM1.out HHJ.out) HX4.out
theorem top_piece20_any (A : Option Addr) (c : Nat) (Bb : Option Addr) (cb : Nat) (links : List (Int × Ec.Pair)) (hands : List Int) (w : World) (hm : Tp.Links w A links) (hh : Ints w Bb hands) :
    Calls Tryz.prog 14 #[.agg #[.slice A links.length c, .slice Bb hands.length cb]] w (Tp.PiecePost links hands w) := by
  have HM := Lib.hid hm
  have HH := Lib.hid hh
  have HPC := Lib.hid (fun W h1 h2 a b => r9_Piece_any A c Bb cb links hands W h1 h2 a b)
  obtain ⟨n, hn⟩ : ∃ n, links.length = n := ⟨_, rfl⟩
  obtain ⟨m, hmm⟩ : ∃ m, hands.length = m := ⟨_, rfl⟩
  have r0 := Row.new w 50 #[.slice A links.length c, .slice Bb hands.length cb]
  have HR0 := Lib.hid r0
  have HX0 := Lib.hid ((Ext.refl w).alloc (.cells #[.slice A links.length c, .slice Bb hands.length cb] 50))
  rw [hn, hmm] at HR0 HX0 HPC ⊢
  clear hm hh hn hmm r0
  have c0 := HR0.out.cell
  by_cases n5 : n ≤ 5
  case neg =>
    have n5' : ¬ (n : Int) ≤ 5 := by omega
    go_enter Tryz.func14, Tryz.ntmps14
    go_wp2_with fail
    go_ret
    exact Tp.piecePost false rfl (fun h => absurd h (by decide)) (HX0.out)
  case pos =>
    have n5' : (n : Int) ≤ 5 := by omega
    by_cases m4 : m ≤ 4
    case neg =>
      have m4' : ¬ (m : Int) ≤ 4 := by omega
      go_enter Tryz.func14, Tryz.ntmps14
      go_wp2_with fail
      go_ret
      exact Tp.piecePost false rfl (fun h => absurd h (by decide)) (HX0.out)
    case pos =>
      have m4' : (m : Int) ≤ 4 := by omega
      go_enter Tryz.func14, Tryz.ntmps14
      go_wp2_with fail
      refine (HPC.out _ (HM.out.ext HX0.out) (HH.out.ext HX0.out) n5 m4).mono ?_
      rintro e w1 ⟨b, rfl, hb, hE⟩
      cases b
      · clear hb
        go_wp2_with fail
        go_ret
        exact Tp.piecePost false rfl (fun h => absurd h (by decide)) (HX0.out.trans hE)
      · have HB := Lib.hid (hb rfl)
        clear hb
        go_wp2_with fail
        go_ret
        exact Tp.piecePost true rfl (fun _ => HB.out) (HX0.out.trans hE)
theorem sh_Train_ok (A : Option Addr) (c : Nat) (Bb : Option Addr) (cb : Nat) (links : List (Int × Ec.Pair)) (hands : List Int) (a : Nat) (w : World) (hm : Tp.Links w A links) (hh : Ints w Bb hands) (ok : Tp.PieceOk links hands) (hcap : links.length ≤ c) (h1 : 1 ≤ a) (h2 : a ≤ links.length) :
    Calls Tryz.prog 22 #[.agg #[.slice A links.length c, .slice Bb hands.length cb], .int .i64 (a : Int)] w fun e w' => ∃ v, e = .returned (.tuple #[v, .int .i64 0]) ∧ w'.ownsRow w.heap.size 125 2 v (Tp.trainL links a).length (Tp.pc (Tp.trainL links a)) ∧ Ext w w' := by
  have HM := Lib.hid hm
  have HIP := Lib.hid (fun W h1 h2 => sh_isPiece_yes A c Bb cb links hands W h1 h2 ok hcap)
  have HTR := Lib.hid (fun W h => sh_trainOf_any A c Bb hands.length cb links a W h ok.from_ (by have := ok.n5; omega) h2)
  have HH := Lib.hid hh
  obtain ⟨n, hn⟩ : ∃ n, links.length = n := ⟨_, rfl⟩
  obtain ⟨m, hmm⟩ : ∃ m, hands.length = m := ⟨_, rfl⟩
  have r0 := Row.new w 50 #[.slice A links.length c, .slice Bb hands.length cb]
  have HR0 := Lib.hid r0
  have HX0 := Lib.hid ((Ext.refl w).alloc (.cells #[.slice A links.length c, .slice Bb hands.length cb] 50))
  have hin : Sp.inR (a : Int) 1 (n : Int) = true := by simp [Sp.inR]; omega
  rw [hn, hmm] at HR0 HX0 HTR HIP ⊢
  clear hm hh hn hmm r0 h1 h2 hcap ok
  have c0 := HR0.out.cell
  go_enter Tryz.func22, Tryz.ntmps22
  go_wp2_with fail
  refine (HIP.out _ (HM.out.ext HX0.out) (HH.out.ext HX0.out)).mono ?_
  rintro e w1 ⟨rfl, hE1⟩
  have HX1 := Lib.hid (HX0.out.trans hE1)
  have HR1 := Lib.hid (HR0.out.ext hE1)
  clear hE1 c0
  have c1 := HR1.out.cell
  go_wp2_with fail
  refine (sh_in_any _ _ _ _).mono ?_
  rintro e w' ⟨rfl, rfl⟩
  rw [hin]
  go_wp2_with fail
  refine (HTR.out _ (HM.out.ext HX1.out)).mono ?_
  rintro e w2 ⟨v, rfl, hv, hE2⟩
  have HV := Lib.hid hv
  clear hv
  go_wp2_with fail
  go_ret2
  exact ⟨v, rfl, Tp.own_mono HV.out HX1.out.size, HX1.out.trans hE2⟩
end Go.Proofs.YtimkmokomohgjaaGreat
namespace Go.Proofs.YtimkmokomohgjaaGreat
open Sp (rd)
set_option maxRecDepth 100000
set_option linter.unusedVariables false
theorem Tp.quot_lim2 {N g B : Int} (h1 : 1 ≤ N) (h2 : N ≤ B) (hg : 1 ≤ g) (h : g ∣ N) : 1 ≤ N / g ∧ N / g ≤ B := by
  obtain ⟨n, rfl⟩ := h
  rw [Int.mul_ediv_cancel_left n (by omega)]
  have hn : 1 ≤ n := by
    rcases Int.lt_or_le 0 n with h' | h'
    · omega
    · exfalso
      have := Int.mul_nonneg (a := g) (b := -n) (by omega) (by omega)
      have e := Int.mul_neg g n
      omega
  have := Int.mul_le_mul_of_nonneg_right hg (show (0 : Int) ≤ n by omega)
  omega
theorem Tp.red_lims {a b : Int} (ha : 1 ≤ a ∧ a ≤ 1000000) (hb : 1 ≤ b ∧ b ≤ 1000000) : (1 ≤ (Tp.red a b).drives ∧ (Tp.red a b).drives ≤ 1000000) ∧ (1 ≤ (Tp.red a b).driven ∧ (Tp.red a b).driven ≤ 1000000) := by
  have hg : 0 < Int.gcd a b := Int.gcd_pos_of_ne_zero_left _ (by omega)
  exact ⟨Tp.quot_lim2 ha.1 ha.2 (by omega) (Int.gcd_dvd_left ..), Tp.quot_lim2 hb.1 hb.2 (by omega) (Int.gcd_dvd_right ..)⟩
/-- A distance's numbers. -/
def Tp.DistOk (d : Ec.Pair) : Prop := (0 ≤ d.drives ∧ d.drives ≤ 1000000000) ∧ (0 ≤ d.driven ∧ d.driven ≤ 1000000)
theorem Tp.dist_ok {x f : Ec.Pair} (hx : (1 ≤ x.drives ∧ x.drives ≤ 1000000) ∧ (1 ≤ x.driven ∧ x.driven ≤ 1000000)) (hf : (1 ≤ f.drives ∧ f.drives ≤ 1000) ∧ (1 ≤ f.driven ∧ f.driven ≤ 1000)) : Tp.DistOk (Tp.dist x f) := by
  have p1 := mul_bounds0 (a := x.drives) (b := f.driven) (A := 1000000) (B := 1000) (by omega) hx.1.2 (by omega) hf.2.2
  have p2 := mul_bounds0 (a := f.drives) (b := x.driven) (A := 1000) (B := 1000000) (by omega) hf.1.2 (by omega) hx.2.2
  unfold Tp.DistOk Tp.dist Tp.cmpF
  simp only
  omega
theorem Tp.nearOne_len {all : List Int} {f : Ec.Pair} {drives i : Int} {st : List Ec.Pair × Ec.Pair} : (Tp.nearOne all f drives i st).1.length ≤ st.1.length + 1 := by
  unfold Tp.nearOne
  split
  · dsimp only
    split <;> split <;> simp
  · omega
theorem Tp.nearN_len {all : List Int} {f : Ec.Pair} : ∀ k, (Tp.nearN all f k).1.length ≤ 2 * k
  | 0 => by unfold Tp.nearN; simp
  | k + 1 => by
    have h := Tp.nearN_len (all := all) (f := f) k
    rw [Tp.nearN]
    unfold Tp.nearAt
    dsimp only
    have h1 := Tp.nearOne_len (all := all) (f := f) (drives := rd all k) (i := ((Tp.bsL all f.drives (rd all k * f.driven) : Nat) : Int) - 1) (st := Tp.nearN all f k)
    have h2 := Tp.nearOne_len (all := all) (f := f) (drives := rd all k) (i := ((Tp.bsL all f.drives (rd all k * f.driven) : Nat) : Int)) (st := Tp.nearOne all f (rd all k) (((Tp.bsL all f.drives (rd all k * f.driven) : Nat) : Int) - 1) (Tp.nearN all f k))
    omega
end Go.Proofs.YtimkmokomohgjaaGreat
namespace Go.Proofs.YtimkmokomohgjaaGreat
open Go.RowKit
open Sp (rd)
set_option maxRecDepth 100000
set_option maxHeartbeats 4000000
set_option linter.unusedVariables false
theorem Tp.pick2_0 (x0 x1 : Value) (w : World) : (Instr.index 233 (.agg #[x0, x1]) (.int .i64 0)).run Tryz.prog w = .ok x0 w := by kernel_rfl
theorem Tp.pick2_1 (x0 x1 : Value) (w : World) : (Instr.index 233 (.agg #[x0, x1]) (.int .i64 1)).run Tryz.prog w = .ok x1 w := by kernel_rfl
/-- What near's loops hold: the list of fractions, how far they are, and what both boxes hold. -/
structure Tp.NearR (w : World) (cw : Array Value) (fn fd : Int) (v : Value) (st : List Ec.Pair × Ec.Pair) (W : World) : Prop where
  out : W.ownsRow (w.heap.size + 4) 69 2 v st.1.length (Tp.pc st.1)
  least : Row W (w.heap.size + 1 + 1 + 1) 69 #[.int .i64 st.2.drives, .int .i64 st.2.driven]
  res : Row W (w.heap.size + 1 + 1) 69 #[.int .i64 0, .int .i64 0]
  f : Row W (w.heap.size + 1) 69 #[.int .i64 fn, .int .i64 fd]
  wheels : Row W w.heap.size 165 cw
  ext : Ext w W
  ok : Tp.DistOk st.2
  val : ∃ B d, v = .slice B st.1.length d
theorem Tp.NearR.to {w : World} {cw : Array Value} {fn fd : Int} {v : Value} {st : List Ec.Pair × Ec.Pair} {W W' : World} (h : Tp.NearR w cw fn fd v st W) (he : Ext W W') : Tp.NearR w cw fn fd v st W' :=
  ⟨own_ext h.out he, h.least.ext he, h.res.ext he, h.f.ext he, h.wheels.ext he, h.ext.trans he, h.ok, h.val⟩
theorem Tp.NearR.set {w : World} {cw : Array Value} {fn fd : Int} {v : Value} {st : List Ec.Pair × Ec.Pair} {W : World} (h : Tp.NearR w cw fn fd v st W) (d : Ec.Pair) (hd : Tp.DistOk d) :
    Tp.NearR w cw fn fd (.slice none 0 0) ([], d) ((W.setCell ⟨w.heap.size + 1 + 1 + 1, 0, none⟩ (.int .i64 d.drives)).setCell ⟨w.heap.size + 1 + 1 + 1, 1, none⟩ (.int .i64 d.driven)) :=
  ⟨by simp [World.ownsRow, Tp.pc], by simpa using (h.least.set_ 0 (.int .i64 d.drives)).set_ 1 (.int .i64 d.driven), (h.res.far (p := ⟨w.heap.size + 1 + 1 + 1, 0, none⟩) (by simp) _).far (p := ⟨w.heap.size + 1 + 1 + 1, 1, none⟩) (by simp) _, (h.f.far (p := ⟨w.heap.size + 1 + 1 + 1, 0, none⟩) (by simp) _).far (p := ⟨w.heap.size + 1 + 1 + 1, 1, none⟩) (by simp) _, (h.wheels.far (p := ⟨w.heap.size + 1 + 1 + 1, 0, none⟩) (by simp; omega) _).far (p := ⟨w.heap.size + 1 + 1 + 1, 1, none⟩) (by simp; omega) _, (h.ext.setCell (p := ⟨w.heap.size + 1 + 1 + 1, 0, none⟩) (by simp; omega) _).setCell (p := ⟨w.heap.size + 1 + 1 + 1, 1, none⟩) (by simp; omega) _, hd, ⟨none, 0, rfl⟩⟩
theorem Tp.NearR.grown {w : World} {cw : Array Value} {fn fd : Int} {v : Value} {gg cap : Nat} {st : List Ec.Pair × Ec.Pair} {x : Ec.Pair} {W W' : World} (h : Tp.NearR w cw fn fd v st W) (hg : W.grownBy W' v.ownBlock) (ho : W'.ownsRow (w.heap.size + 4) 69 2 (.slice (some ⟨gg, 0, none⟩) (st.1.length + 1) cap) (st.1.length + 1) (Tp.pc st.1 ++ [.int .i64 x.drives, .int .i64 x.driven])) :
    Tp.NearR w cw fn fd (.slice (some ⟨gg, 0, none⟩) (st.1.length + 1) cap) (st.1 ++ [x], st.2) W' :=
  ⟨by rw [Tp.pc_append, List.length_append]; exact ho, Tp.grown_far h.least hg (Tp.own_ne h.out (by omega)), Tp.grown_far h.res hg (Tp.own_ne h.out (by omega)), Tp.grown_far h.f hg (Tp.own_ne h.out (by omega)), Tp.grown_far h.wheels hg (Tp.own_ne h.out (by omega)), h.ext.grown hg (fun g hg => by have := (h.out.lt g hg).1; omega), h.ok, ⟨_, _, by rw [List.length_append]; rfl⟩⟩
theorem Tp.cmp_self (d : Ec.Pair) : Tp.cmpF d d = 0 := by unfold Tp.cmpF; omega
/-- What one fraction makes of what is nearest so far. -/
theorem Tp.nearOne_out {all : List Int} {f : Ec.Pair} {dr i : Int} {st : List Ec.Pair × Ec.Pair} (h : Sp.inR i 0 (all.length - 1) = false) : Tp.nearOne all f dr i st = st := by
  unfold Tp.nearOne
  rw [if_neg (by rw [h]; decide)]
theorem Tp.nearOne_new {all : List Int} {f : Ec.Pair} {dr i y : Int} {x d : Ec.Pair} {st : List Ec.Pair × Ec.Pair} (h : Sp.inR i 0 (all.length - 1) = true) (hy : rd all i.toNat = y) (hx : Tp.red dr y = x) (hd : Tp.dist x f = d) (hc : st.1.length = 0 ∨ Tp.cmpF d st.2 < 0) : Tp.nearOne all f dr i st = ([x], d) := by
  unfold Tp.nearOne
  rw [if_pos h]
  dsimp only
  rw [hy, hx, hd, if_pos hc, if_pos ⟨Tp.cmp_self d, rfl⟩]
  rfl
theorem Tp.nearOne_old {all : List Int} {f : Ec.Pair} {dr i y : Int} {x d : Ec.Pair} {st : List Ec.Pair × Ec.Pair} (h : Sp.inR i 0 (all.length - 1) = true) (hy : rd all i.toNat = y) (hx : Tp.red dr y = x) (hd : Tp.dist x f = d) (hc : ¬ (st.1.length = 0 ∨ Tp.cmpF d st.2 < 0)) :
    Tp.nearOne all f dr i st = if Tp.cmpF d st.2 = 0 ∧ Tp.frIs st.1 x = false then (st.1 ++ [x], st.2) else st := by
  unfold Tp.nearOne
  rw [if_pos h]
  dsimp only
  rw [hy, hx, hd, if_neg hc]
theorem t_near_any (a b p s : Int) (V T : Value) (bs os ns cs : Nat) (M : Value) (k : Nat) (A : Option Addr) (cA : Nat) (all : List Int) (fn fd : Int) (w : World)
    (hk : k < ns) (hns : ns ≤ 1000) (hrow : w.cell? ⟨bs, os + k, none⟩ = some (.slice A all.length cA)) (hm : Ints w A all) (hlen : all.length ≤ 1000) (hall : ∀ k, k < all.length → 1 ≤ rd all k ∧ rd all k ≤ 1000000) (hf : (1 ≤ fn ∧ fn ≤ 1000) ∧ (1 ≤ fd ∧ fd ≤ 1000)) :
    Calls Tryz.prog 152 #[.agg #[.int .i64 a, .int .i64 b, .int .i64 p, .int .i64 s, V, T, .slice (some ⟨bs, os, none⟩) ns cs, M], .int .i64 (k : Int), .agg #[.int .i64 fn, .int .i64 fd]] w fun e w' => ∃ B d, e = .returned (.tuple #[.slice B (Tp.near all ⟨fn, fd⟩).1.length d, .agg #[.int .i64 (Tp.near all ⟨fn, fd⟩).2.drives, .int .i64 (Tp.near all ⟨fn, fd⟩).2.driven]]) ∧ w'.ownsRow (w.heap.size + 4) 69 2 (.slice B (Tp.near all ⟨fn, fd⟩).1.length d) (Tp.near all ⟨fn, fd⟩).1.length (Tp.pc (Tp.near all ⟨fn, fd⟩).1) ∧ Ext w w' := by
  have hmf : ∀ fn first cap w, (Instr.makeFunc fn first cap).run Tryz.prog w = .ok (.func fn first cap) w := fun _ _ _ _ => rfl
  have hp0 := Tp.pick2_0
  have hp1 := Tp.pick2_1
  have HM := Lib.hid hm
  have HALL := Lib.hid hall
  have HF := Lib.hid hf
  obtain ⟨i0, hi0, hi1, hi2, hi3⟩ := info_parts Tp.info_fr
  have hk1 : (k : Int) < (ns : Int) := by omega
  have HR0 : Hid (Tp.NearR w #[.int .i64 a, .int .i64 b, .int .i64 p, .int .i64 s, V, T, .slice (some ⟨bs, os, none⟩) ns cs, M] fn fd (.slice none 0 0) ([], ⟨0, 0⟩) ((((w.alloc (.cells #[.int .i64 a, .int .i64 b, .int .i64 p, .int .i64 s, V, T, .slice (some ⟨bs, os, none⟩) ns cs, M] 165)).alloc (.cells #[.int .i64 fn, .int .i64 fd] 69)).alloc (.cells #[.int .i64 0, .int .i64 0] 69)).alloc (.cells #[.int .i64 0, .int .i64 0] 69))) := Lib.hid ⟨by simp [World.ownsRow, Tp.pc], (blocks4 w _ _ _ _).2.2.2, (blocks4 w _ _ _ _).2.2.1, (blocks4 w _ _ _ _).2.1, (blocks4 w _ _ _ _).1, ((((Ext.refl w).alloc _).alloc _).alloc _).alloc _, by unfold Tp.DistOk; simp, ⟨none, 0, rfl⟩⟩
  have c0 := HR0.out.wheels.cell
  have c1 := HR0.out.ext.cell hrow
  have HRW := Lib.hid hrow
  clear hm hall hrow
  obtain ⟨fu, hfu⟩ : ∃ fu, Tp.near all ⟨fn, fd⟩ = fu := ⟨_, rfl⟩
  have HFU : Hid (Tp.nearN all ⟨fn, fd⟩ all.length = fu) := Lib.hid hfu
  rw [hfu]
  clear hfu
  go_enter Tryz.func152, Tryz.ntmps152
  go_wp2_with fail
  clear c0 c1
  obtain ⟨W0, hW0⟩ : ∃ W, (((w.alloc (.cells #[.int .i64 a, .int .i64 b, .int .i64 p, .int .i64 s, V, T, .slice (some ⟨bs, os, none⟩) ns cs, M] 165)).alloc (.cells #[.int .i64 fn, .int .i64 fd] 69)).alloc (.cells #[.int .i64 0, .int .i64 0] 69)).alloc (.cells #[.int .i64 0, .int .i64 0] 69) = W := ⟨_, rfl⟩
  rw [hW0] at HR0 ⊢
  clear hW0
  go_loopw [8, 26] (fun v i wr => ∃ k : Nat, k ≤ all.length ∧ i = .int .i64 (k : Int) ∧ Tp.NearR w #[.int .i64 a, .int .i64 b, .int .i64 p, .int .i64 s, V, T, .slice (some ⟨bs, os, none⟩) ns cs, M] fn fd v (Tp.nearN all ⟨fn, fd⟩ k) wr) (fun _ i _ => all.length - (intOf i).toNat)
  case atStart => exact ⟨0, Nat.zero_le _, rfl, HR0.out⟩
  case round =>
    obtain ⟨j, hj, rfl, hR⟩ := hrel
    obtain ⟨B1, d1, rfl⟩ := hR.val
    have HR := Lib.hid hR
    have hL2 := Tp.nearN_len (all := all) (f := ⟨fn, fd⟩) j
    clear hR
    by_cases hlt : j < all.length
    · have hlt' : (j : Int) < (all.length : Int) := by omega
      have hdr := HALL.out j hlt
      have HNX : Hid (Tp.nearN all ⟨fn, fd⟩ (j + 1) = Tp.nearOne all ⟨fn, fd⟩ (rd all j) ((Tp.bsL all fn (rd all j * fd) : Nat) : Int) (Tp.nearOne all ⟨fn, fd⟩ (rd all j) (((Tp.bsL all fn (rd all j * fd) : Nat) : Int) - 1) (Tp.nearN all ⟨fn, fd⟩ j))) := Lib.hid rfl
      have hSL : (Tp.nearN all ⟨fn, fd⟩ j).1.length ≤ 2000 := by omega
      obtain ⟨S, hS⟩ : ∃ S, Tp.nearN all ⟨fn, fd⟩ j = S := ⟨_, rfl⟩
      rw [hS] at HR HNX hSL ⊢
      clear hS hL2
      have hbs := (Tp.bs_le (fun k => decide (rd all k * fn < (rd all j * fd))) all.length 0 all.length (Nat.zero_le _)).1
      rw [show Tp.bs (fun k => decide (rd all k * fn < (rd all j * fd))) all.length 0 all.length = Tp.bsL all fn (rd all j * fd) from rfl] at hbs
      have HSE := Lib.hid (fun W h h2 => t_search_any A cA all (rd all j * fd) fn fd (w.heap.size + 1) W h h2 (by omega) (by have := HF.out; omega) (fun k hk => by have := HALL.out k hk; omega))
      obtain ⟨q, hq⟩ : ∃ q, Tp.bsL all fn (rd all j * fd) = q := ⟨_, rfl⟩
      rw [hq] at HSE HNX hbs
      clear hq
      obtain ⟨bb, o, rfl, hc⟩ := HM.out (by omega)
      have q0 := HR.out.ext.cell (hc j hlt)
      obtain ⟨dr, hdr2⟩ : ∃ dr, rd all j = dr := ⟨_, rfl⟩
      rw [hdr2] at q0 hdr HNX HSE
      have hmul := mul_bounds0 (a := dr) (b := fd) (A := 1000000) (B := 1000) (by omega) hdr.2 (by omega) hf.2.2
      have cf := HR.out.f.cell
      clear hc hdr2
      go_wp2_with fail
      refine (HSE.out _ (HM.out.ext HR.out.ext) HR.out.f).mono ?_
      rintro e w1 ⟨⟨bo, rfl⟩, rfl⟩
      go_wp2_with fail
      obtain ⟨S1, hS1⟩ : ∃ S1, Tp.nearOne all ⟨fn, fd⟩ dr ((q : Int) - 1) S = S1 := ⟨_, rfl⟩
      rw [hS1] at HNX
      obtain ⟨S2, hS2⟩ : ∃ S2, Tp.nearOne all ⟨fn, fd⟩ dr (q : Int) S1 = S2 := ⟨_, rfl⟩
      rw [hS2] at HNX
      have hL1 : S1.1.length ≤ 2001 := by rw [← hS1]; have := Tp.nearOne_len (all := all) (f := ⟨fn, fd⟩) (drives := dr) (i := (q : Int) - 1) (st := S); omega
      obtain ⟨ia, hia⟩ : ∃ ia, (q : Int) - 1 = ia := ⟨_, rfl⟩
      obtain ⟨ib, hib⟩ : ∃ ib, (q : Int) = ib := ⟨_, rfl⟩
      rw [hia] at hS1 ⊢
      rw [hib] at hS2 ⊢
      have HS1 := Lib.hid hS1
      have HS2 := Lib.hid hS2
      have HIA := Lib.hid (show -1 ≤ ia ∧ ia ≤ 1000 by omega)
      have HIB := Lib.hid (show -1 ≤ ib ∧ ib ≤ 1000 by omega)
      have HWX := Lib.hid (show w.heap.size + 4 ≤ wr.heap.size from by have := HR.out.least.lt; omega)
      obtain ⟨wo, hwo⟩ : ∃ wo : World, wo = wr := ⟨_, rfl⟩
      clear hia hib hS1 hS2 q0 cf
      go_loopw [8, 44] (fun v i wr => (i = .int .i64 0 ∧ Tp.NearR w #[.int .i64 a, .int .i64 b, .int .i64 p, .int .i64 s, V, T, .slice (some ⟨bs, os, none⟩) ns cs, M] fn fd v S wr) ∨ (i = .int .i64 1 ∧ Tp.NearR w #[.int .i64 a, .int .i64 b, .int .i64 p, .int .i64 s, V, T, .slice (some ⟨bs, os, none⟩) ns cs, M] fn fd v S1 wr) ∨ (i = .int .i64 2 ∧ Tp.NearR w #[.int .i64 a, .int .i64 b, .int .i64 p, .int .i64 s, V, T, .slice (some ⟨bs, os, none⟩) ns cs, M] fn fd v S2 wr)) (fun _ i _ => 2 - (intOf i).toNat)
      case atStart => exact .inl ⟨rfl, HR.out⟩
      case round =>
        clear hwo HR HWX wo
        rcases hrel with ⟨rfl, hR⟩ | ⟨rfl, hR⟩ | ⟨rfl, hR⟩
        · obtain ⟨B2, d2, rfl⟩ := hR.val
          have HR := Lib.hid hR
          have hok := hR.ok
          unfold Tp.DistOk at hok
          have HIN := Lib.hid (fun W => t_in_any ia 0 ((all.length : Int) - 1) W)
          obtain ⟨bi, hbi⟩ : ∃ bi, Sp.inR ia 0 ((all.length : Int) - 1) = bi := ⟨_, rfl⟩
          rw [hbi] at HIN
          have HBI := Lib.hid hbi
          clear hR hbi
          cases bi
          · go_wp2_with fail
            refine (HIN.out _).mono ?_
            rintro e w1 ⟨rfl, rfl⟩
            dsimp only
            go_wp2_with fail
            go_roundw
            case rel => exact .inr (.inl ⟨rfl, by rw [← HS1.out, Tp.nearOne_out HBI.out]; exact HR.out⟩)
            case measure => simp [intOf]
          · have hrg : 0 ≤ ia ∧ ia < (all.length : Int) := by have := HBI.out; simp [Sp.inR] at this; omega
            obtain ⟨r, rfl⟩ : ∃ r : Nat, ia = (r : Int) := ⟨ia.toNat, by omega⟩
            have hr1 : r < all.length := by omega
            have hyb := HALL.out r hr1
            obtain ⟨bb2, o2, he2, hc⟩ := HM.out (by omega)
            cases he2
            have q0 := HR.out.ext.cell (hc r hr1)
            have hry : rd all ((r : Int)).toNat = rd all r := rfl
            obtain ⟨y, hy⟩ : ∃ y, rd all r = y := ⟨_, rfl⟩
            rw [hy] at q0 hyb hry
            have hxl := Tp.red_lims hdr hyb
            have HRD := Lib.hid (fun W => t_reduced_any dr y W hdr.1 hdr.2 hyb.1 hyb.2)
            rw [show (dr / (Int.gcd dr y : Int)) = (Tp.red dr y).drives from rfl, show (y / (Int.gcd dr y : Int)) = (Tp.red dr y).driven from rfl] at HRD
            obtain ⟨⟨x1, x2⟩, hX⟩ : ∃ X, Tp.red dr y = X := ⟨_, rfl⟩
            rw [hX] at HRD hxl
            have hdo := Tp.dist_ok (f := ⟨fn, fd⟩) hxl hf
            have HDI := Lib.hid (fun W => t_distance_any x1 x2 fn fd W (by have := hxl.1; simp only at this; omega) (by have := hxl.2; simp only at this; omega) (by omega) (by omega))
            obtain ⟨⟨e1, e2⟩, hD⟩ : ∃ D, Tp.dist ⟨x1, x2⟩ ⟨fn, fd⟩ = D := ⟨_, rfl⟩
            have hD1 : max (Tp.cmpF ⟨x1, x2⟩ ⟨fn, fd⟩) (-(Tp.cmpF ⟨x1, x2⟩ ⟨fn, fd⟩)) = e1 := congrArg Ec.Pair.drives hD
            have hD2 : x2 = e2 := congrArg Ec.Pair.driven hD
            rw [hD] at hdo
            unfold Tp.DistOk at hdo
            simp only at hdo hxl
            have HDI2 : Hid (∀ W, Calls Tryz.prog 193 #[.agg #[.int .i64 x1, .int .i64 x2], .agg #[.int .i64 fn, .int .i64 fd]] W fun e w' => e = .returned (.agg #[.int .i64 e1, .int .i64 e2]) ∧ Ext W w') := Lib.hid fun W => by have := HDI.out W; rw [hD1] at this; rw [← hD2]; exact this
            have HNEW : Hid ((S.1.length = 0 ∨ Tp.cmpF ⟨e1, e2⟩ S.2 < 0) → S1 = ([⟨x1, x2⟩], ⟨e1, e2⟩)) := Lib.hid fun h => by rw [← HS1.out]; exact Tp.nearOne_new HBI.out hry hX hD h
            have HOLD : Hid (¬ (S.1.length = 0 ∨ Tp.cmpF ⟨e1, e2⟩ S.2 < 0) → S1 = if Tp.cmpF ⟨e1, e2⟩ S.2 = 0 ∧ Tp.frIs S.1 ⟨x1, x2⟩ = false then (S.1 ++ [⟨x1, x2⟩], S.2) else S) := Lib.hid fun h => by rw [← HS1.out]; exact Tp.nearOne_old HBI.out hry hX hD h
            have hdd := HR.out.ok
            have HOK : Hid (Tp.DistOk ⟨e1, e2⟩) := Lib.hid (by unfold Tp.DistOk; simp only; exact hdo)
            clear HDI hX hD hD1 hD2 hy hry hc hyb hdd
            go_wp2_with fail
            refine (HIN.out _).mono ?_
            rintro e w1 ⟨rfl, rfl⟩
            dsimp only
            go_wp2_with fail
            refine (HRD.out _).mono ?_
            rintro e w1 ⟨rfl, hE1⟩
            have HR1 := Lib.hid ((HR.out.to hE1).to ((Ext.refl _).alloc (.cells #[.int .i64 x1, .int .i64 x2] 69)))
            have HX1 := Lib.hid (Row.new w1 69 #[.int .i64 x1, .int .i64 x2])
            have cX := HX1.out.cell
            have cf := HR1.out.f.cell
            have hz1 := hE1.size
            clear q0 hE1
            go_wp2_with fail
            refine (HDI2.out _).mono ?_
            rintro e w2 ⟨rfl, hE2⟩
            have hz2s : w1.heap.size ≤ w2.heap.size := by have := hE2.size; simp only [World.size_alloc] at this; omega
            have HR2 := Lib.hid ((HR1.out.to hE2).to ((Ext.refl _).alloc (.cells #[.int .i64 e1, .int .i64 e2] 69)))
            have HX2 := Lib.hid ((HX1.out.ext hE2).ext ((Ext.refl _).alloc (.cells #[.int .i64 e1, .int .i64 e2] 69)))
            have HD2 := Lib.hid (Row.new w2 69 #[.int .i64 e1, .int .i64 e2])
            obtain ⟨bX, hbX⟩ : ∃ bX, w1.heap.size = bX := ⟨_, rfl⟩
            have HBX : Hid (w.heap.size + 4 ≤ bX) := Lib.hid (by have h1 := hz1; have h2 := HR.out.least.lt; omega)
            rw [hbX] at HX2 hz2s ⊢
            have cX := HX2.out.cell
            have cD := HD2.out.cell
            have cL := HR2.out.least.cell
            have HCD := Lib.hid (fun W => t_compare_any e1 e2 e1 e2 W (by omega) (by omega) (by omega) (by omega))
            rw [Tp.cmp_self] at HCD
            have HCM := Lib.hid (fun W => t_compare_any e1 e2 S.2.drives S.2.driven W (by omega) (by omega) (by omega) (by omega))
            obtain ⟨cc, hcc⟩ : ∃ cc, Tp.cmpF ⟨e1, e2⟩ S.2 = cc := ⟨_, rfl⟩
            have hcc2 : Tp.cmpF ⟨e1, e2⟩ ⟨S.2.drives, S.2.driven⟩ = cc := hcc
            rw [hcc2] at HCM
            rw [hcc] at HNEW HOLD
            have HBL := Lib.hid (HR.out.least.lt)
            clear hE2 hbX cf hcc hcc2 hok hdo hxl
            by_cases hz : S.1.length = 0
            · have hz2 : ((S.1.length : Int) == 0) = true := by rw [hz]; rfl
              go_wp2_with fail
              obtain ⟨W3, hW3⟩ : ∃ W, w2.alloc (.cells #[.int .i64 e1, .int .i64 e2] 69) = W := ⟨_, rfl⟩
              obtain ⟨bD, hbD⟩ : ∃ bD, w2.heap.size = bD := ⟨_, rfl⟩
              rw [hW3, hbD] at HD2
              rw [hW3] at HR2 HX2
              rw [hW3, hbD]
              have HBD : Hid (w.heap.size + 4 ≤ bD) := Lib.hid (by have h1 := hz2s; have h2 := HBX.out; omega)
              clear cX cD cL hW3 hbD hz2
              have HO2 := Lib.hid (HNEW.out (.inl hz))
              have cD := HD2.out.cell
              have cL := HR2.out.least.cell
              have fL := HR2.out.least.free
              have jL := lts HR2.out.least.lt
              have hn1 : w.heap.size + 1 + 1 + 1 ≠ bD ∧ bD ≠ w.heap.size + 1 + 1 + 1 := by have := HBD.out; omega
              have hn2 := hn1.1
              have hn3 := hn1.2
              refine Tp.wp_named (fun a0 ha0 => ?_)
              refine Code.wp_mono (Q := fun e a' w' => e = .normal ∧ a' = (a0.put (some 71) (.agg #[.int .i64 e1, .int .i64 e2])).put (some 8) (.slice none 0 0) ∧ Tp.NearR w #[.int .i64 a, .int .i64 b, .int .i64 p, .int .i64 s, V, T, .slice (some ⟨bs, os, none⟩) ns cs, M] fn fd (.slice none 0 0) ([], ⟨e1, e2⟩) w' ∧ Row w' bX 69 #[.int .i64 x1, .int .i64 x2] ∧ Row w' bD 69 #[.int .i64 e1, .int .i64 e2]) ?hq ?hr
              case hr =>
                subst ha0
                go_region_held3 (fun w' => w'.cell? ⟨bD, 0, none⟩ = some (.int .i64 e1) ∧ w'.cell? ⟨bD, 1, none⟩ = some (.int .i64 e2)) (go_keep) (fail)
                refine ⟨rfl, ?_, (HR2.out.set ⟨e1, e2⟩ HOK.out).to ((Ext.refl _).drew), ?_, ?_⟩
                · rfl
                · exact ((HX2.out.far (p := ⟨w.heap.size + 1 + 1 + 1, 0, none⟩) (by have := HBX.out; simp; omega) _).far (p := ⟨w.heap.size + 1 + 1 + 1, 1, none⟩) (by have := HBX.out; simp; omega) _).ext ((Ext.refl _).drew)
                · exact ((HD2.out.far (p := ⟨w.heap.size + 1 + 1 + 1, 0, none⟩) (by have := HBX.out; simp; omega) _).far (p := ⟨w.heap.size + 1 + 1 + 1, 1, none⟩) (by have := HBX.out; simp; omega) _).ext ((Ext.refl _).drew)
              case hq =>
                rintro e a' w4 ⟨rfl, rfl, hR4, hX4, hD4⟩
                subst ha0
                simp only [Act.put, List.setIfInBounds_toArray, List.set_cons_succ, List.set_cons_zero]
                have HR4 := Lib.hid hR4
                have HX4 := Lib.hid hX4
                have cD := hD4.cell
                have cL := hR4.least.cell
                clear hR4 hX4 hD4 fL jL
                go_wp2_with fail
                refine (HCD.out _).mono ?_
                rintro e w5 ⟨rfl, hE5⟩
                have HR5 := Lib.hid (HR4.out.to hE5)
                have HX5 := Lib.hid (HX4.out.ext hE5)
                have cX := HX5.out.cell
                clear hE5 cD cL
                dsimp only
                go_wp2_with fail
                refine (t_hasFr_any none 0 [] x1 x2 _ (fun h => by cases h) (by simp)).mono ?_
                rintro e w6 ⟨rfl, hE6⟩
                have HR6 := Lib.hid (HR5.out.to hE6)
                have HX6 := Lib.hid (HX5.out.ext hE6)
                clear hE6 cX
                dsimp only [Tp.frIs, List.any_nil]
                have cX := HX6.out.cell
                have HOW := Lib.hid (HR6.out.out.alloc (.cells #[.int .i64 x1, .int .i64 x2] 69))
                have HRA := Lib.hid (HR6.out.to ((Ext.refl _).alloc (.cells #[.int .i64 x1, .int .i64 x2] 69)))
                have hzz := HR6.out.least.lt
                skip
                go_wp2_with (at_builtin; refine wpList_append_lies _ rfl _ _ 62 rfl (w.heap.size + 4) 69 i0 _ 2 16 Tryz.underlying62 hi0 hi1 hi2 hi3 rfl (by decide) _ (0) ([]) rfl HOW.out ⟨_, 0, none⟩ 1 1 [.int .i64 x1, .int .i64 x2] rfl rfl (World.news_of_block (cs := #[.int .i64 x1, .int .i64 x2]) (t := 69) (fr := (0, 0)) (heap_alloc_new _ _)) (by simp [Value.oneCell']) (by omega) (by simp only [maxLen]; omega) (by omega) (by simp; omega) _ rfl ?_; intro gg cap w7 hown7 hgrow hat hlt7; have HR7 := Lib.hid (Tp.NearR.grown (x := ⟨x1, x2⟩) HRA.out hgrow hown7); clear hown7 hgrow hat cX)
                go_roundw
                case rel => exact .inr (.inl ⟨rfl, by rw [HO2.out]; exact HR7.out⟩)
                case measure => simp [intOf]
            · have hz2 : ((S.1.length : Int) == 0) = false := by rw [beq_eq_false_iff_ne]; omega
              go_wp2_with fail
              refine (HCM.out _).mono ?_
              rintro e w3 ⟨rfl, hE3⟩
              have HR3 := Lib.hid (HR2.out.to hE3)
              have HX3 := Lib.hid (HX2.out.ext hE3)
              have HD3 := Lib.hid (HD2.out.ext hE3)
              obtain ⟨bD, hbD⟩ : ∃ bD, w2.heap.size = bD := ⟨_, rfl⟩
              have HBD : Hid (w.heap.size + 4 ≤ bD) := Lib.hid (by have h1 := hz2s; have h2 := HBX.out; omega)
              rw [hbD] at HD3 ⊢
              clear cX cD cL hE3 hbD hz2
              dsimp only
              by_cases hlc : cc < 0
              · go_wp2_with fail
                have HO2 := Lib.hid (HNEW.out (.inr hlc))
                have cD := HD3.out.cell
                have cL := HR3.out.least.cell
                have fL := HR3.out.least.free
                have jL := lts HR3.out.least.lt
                have hn1 : w.heap.size + 1 + 1 + 1 ≠ bD ∧ bD ≠ w.heap.size + 1 + 1 + 1 := by have := HBD.out; omega
                have hn2 := hn1.1
                have hn3 := hn1.2
                refine Tp.wp_named (fun a0 ha0 => ?_)
                refine Code.wp_mono (Q := fun e a' w' => e = .normal ∧ a' = (a0.put (some 71) (.agg #[.int .i64 e1, .int .i64 e2])).put (some 8) (.slice none 0 0) ∧ Tp.NearR w #[.int .i64 a, .int .i64 b, .int .i64 p, .int .i64 s, V, T, .slice (some ⟨bs, os, none⟩) ns cs, M] fn fd (.slice none 0 0) ([], ⟨e1, e2⟩) w' ∧ Row w' bX 69 #[.int .i64 x1, .int .i64 x2] ∧ Row w' bD 69 #[.int .i64 e1, .int .i64 e2]) ?hq ?hr
                case hr =>
                  subst ha0
                  go_region_held3 (fun w' => w'.cell? ⟨bD, 0, none⟩ = some (.int .i64 e1) ∧ w'.cell? ⟨bD, 1, none⟩ = some (.int .i64 e2)) (go_keep) (fail)
                  refine ⟨rfl, ?_, (HR3.out.set ⟨e1, e2⟩ HOK.out).to ((Ext.refl _).drew), ?_, ?_⟩
                  · rfl
                  · exact ((HX3.out.far (p := ⟨w.heap.size + 1 + 1 + 1, 0, none⟩) (by have := HBX.out; simp; omega) _).far (p := ⟨w.heap.size + 1 + 1 + 1, 1, none⟩) (by have := HBX.out; simp; omega) _).ext ((Ext.refl _).drew)
                  · exact ((HD3.out.far (p := ⟨w.heap.size + 1 + 1 + 1, 0, none⟩) (by have := HBX.out; simp; omega) _).far (p := ⟨w.heap.size + 1 + 1 + 1, 1, none⟩) (by have := HBX.out; simp; omega) _).ext ((Ext.refl _).drew)
                case hq =>
                  rintro e a' w4 ⟨rfl, rfl, hR4, hX4, hD4⟩
                  subst ha0
                  simp only [Act.put, List.setIfInBounds_toArray, List.set_cons_succ, List.set_cons_zero]
                  have HR4 := Lib.hid hR4
                  have HX4 := Lib.hid hX4
                  have cD := hD4.cell
                  have cL := hR4.least.cell
                  clear hR4 hX4 hD4 fL jL
                  go_wp2_with fail
                  refine (HCD.out _).mono ?_
                  rintro e w5 ⟨rfl, hE5⟩
                  have HR5 := Lib.hid (HR4.out.to hE5)
                  have HX5 := Lib.hid (HX4.out.ext hE5)
                  have cX := HX5.out.cell
                  clear hE5 cD cL
                  dsimp only
                  go_wp2_with fail
                  refine (t_hasFr_any none 0 [] x1 x2 _ (fun h => by cases h) (by simp)).mono ?_
                  rintro e w6 ⟨rfl, hE6⟩
                  have HR6 := Lib.hid (HR5.out.to hE6)
                  have HX6 := Lib.hid (HX5.out.ext hE6)
                  clear hE6 cX
                  dsimp only [Tp.frIs, List.any_nil]
                  have cX := HX6.out.cell
                  have HOW := Lib.hid (HR6.out.out.alloc (.cells #[.int .i64 x1, .int .i64 x2] 69))
                  have HRA := Lib.hid (HR6.out.to ((Ext.refl _).alloc (.cells #[.int .i64 x1, .int .i64 x2] 69)))
                  have hzz := HR6.out.least.lt
                  skip
                  go_wp2_with (at_builtin; refine wpList_append_lies _ rfl _ _ 62 rfl (w.heap.size + 4) 69 i0 _ 2 16 Tryz.underlying62 hi0 hi1 hi2 hi3 rfl (by decide) _ (0) ([]) rfl HOW.out ⟨_, 0, none⟩ 1 1 [.int .i64 x1, .int .i64 x2] rfl rfl (World.news_of_block (cs := #[.int .i64 x1, .int .i64 x2]) (t := 69) (fr := (0, 0)) (heap_alloc_new _ _)) (by simp [Value.oneCell']) (by omega) (by simp only [maxLen]; omega) (by omega) (by simp; omega) _ rfl ?_; intro gg cap w7 hown7 hgrow hat hlt7; have HR7 := Lib.hid (Tp.NearR.grown (x := ⟨x1, x2⟩) HRA.out hgrow hown7); clear hown7 hgrow hat cX)
                  go_roundw
                  case rel => exact .inr (.inl ⟨rfl, by rw [HO2.out]; exact HR7.out⟩)
                  case measure => simp [intOf]
              · have HO := Lib.hid (HOLD.out (by omega))
                have cX := HX3.out.cell
                have cD := HD3.out.cell
                have cL := HR3.out.least.cell
                go_wp2_with fail
                refine (HCM.out _).mono ?_
                rintro e w4 ⟨rfl, hE4⟩
                have HR4 := Lib.hid (HR3.out.to hE4)
                have HX4 := Lib.hid (HX3.out.ext hE4)
                clear cX cD cL hE4
                dsimp only
                by_cases hce : cc = 0
                · have hce2 : (cc == 0) = true := by simpa using hce
                  obtain ⟨A5, c5, he5, hp5⟩ := Tp.pairs_own HR4.out.out
                  cases he5
                  have HHAS := Lib.hid (fun W h => t_hasFr_any B2 d2 S.1 x1 x2 W h (by omega))
                  have HP5 := Lib.hid hp5
                  have cX := HX4.out.cell
                  obtain ⟨qq, hqq⟩ : ∃ qq, Tp.frIs S.1 ⟨x1, x2⟩ = qq := ⟨_, rfl⟩
                  rw [hqq] at HHAS HO
                  clear hqq hp5
                  go_wp2_with fail
                  refine (HHAS.out _ HP5.out).mono ?_
                  rintro e w5 ⟨rfl, hE5⟩
                  have HR5 := Lib.hid (HR4.out.to hE5)
                  have HX5 := Lib.hid (HX4.out.ext hE5)
                  clear cX hE5
                  dsimp only
                  cases qq
                  · have HO2 : Hid (S1 = (S.1 ++ [⟨x1, x2⟩], S.2)) := Lib.hid (by rw [HO.out, if_pos ⟨hce, rfl⟩])
                    have cX := HX5.out.cell
                    have HOW := Lib.hid (HR5.out.out.alloc (.cells #[.int .i64 x1, .int .i64 x2] 69))
                    have HRA := Lib.hid (HR5.out.to ((Ext.refl _).alloc (.cells #[.int .i64 x1, .int .i64 x2] 69)))
                    have hzz := HR5.out.least.lt
                    have hls : S.1.length ≤ 2001 := by omega
                    go_wp2_with (at_builtin; refine wpList_append_lies _ rfl _ _ 62 rfl (w.heap.size + 4) 69 i0 _ 2 16 Tryz.underlying62 hi0 hi1 hi2 hi3 rfl (by decide) _ (S.1.length) (Tp.pc S.1) rfl HOW.out ⟨_, 0, none⟩ 1 1 [.int .i64 x1, .int .i64 x2] rfl rfl (World.news_of_block (cs := #[.int .i64 x1, .int .i64 x2]) (t := 69) (fr := (0, 0)) (heap_alloc_new _ _)) (by simp [Value.oneCell']) (by omega) (by simp only [maxLen]; omega) (by omega) (by simp; omega) _ rfl ?_; intro gg cap w7 hown7 hgrow hat hlt7; have HR7 := Lib.hid (Tp.NearR.grown (x := ⟨x1, x2⟩) HRA.out hgrow hown7); clear hown7 hgrow hat cX)
                    go_roundw
                    case rel => exact .inr (.inl ⟨rfl, by rw [HO2.out]; exact HR7.out⟩)
                    case measure => simp [intOf]
                  · have HO2 : Hid (S1 = S) := Lib.hid (by rw [HO.out, if_neg (fun h => by cases h.2)])
                    go_wp2_with fail
                    go_roundw
                    case rel => exact .inr (.inl ⟨rfl, by rw [HO2.out]; exact HR5.out⟩)
                    case measure => simp [intOf]
                · have hce2 : (cc == 0) = false := by simpa using hce
                  have HO2 : Hid (S1 = S) := Lib.hid (by rw [HO.out, if_neg (fun h => hce h.1)])
                  go_wp2_with fail
                  go_roundw
                  case rel => exact .inr (.inl ⟨rfl, by rw [HO2.out]; exact HR4.out⟩)
                  case measure => simp [intOf]
        · obtain ⟨B2, d2, rfl⟩ := hR.val
          have HR := Lib.hid hR
          have hok := hR.ok
          unfold Tp.DistOk at hok
          have HIN := Lib.hid (fun W => t_in_any ib 0 ((all.length : Int) - 1) W)
          obtain ⟨bi, hbi⟩ : ∃ bi, Sp.inR ib 0 ((all.length : Int) - 1) = bi := ⟨_, rfl⟩
          rw [hbi] at HIN
          have HBI := Lib.hid hbi
          clear hR hbi
          cases bi
          · go_wp2_with fail
            refine (HIN.out _).mono ?_
            rintro e w1 ⟨rfl, rfl⟩
            dsimp only
            go_wp2_with fail
            go_roundw
            case rel => exact .inr (.inr ⟨rfl, by rw [← HS2.out, Tp.nearOne_out HBI.out]; exact HR.out⟩)
            case measure => simp [intOf]
          · have hrg : 0 ≤ ib ∧ ib < (all.length : Int) := by have := HBI.out; simp [Sp.inR] at this; omega
            obtain ⟨r, rfl⟩ : ∃ r : Nat, ib = (r : Int) := ⟨ib.toNat, by omega⟩
            have hr1 : r < all.length := by omega
            have hyb := HALL.out r hr1
            obtain ⟨bb2, o2, he2, hc⟩ := HM.out (by omega)
            cases he2
            have q0 := HR.out.ext.cell (hc r hr1)
            have hry : rd all ((r : Int)).toNat = rd all r := rfl
            obtain ⟨y, hy⟩ : ∃ y, rd all r = y := ⟨_, rfl⟩
            rw [hy] at q0 hyb hry
            have hxl := Tp.red_lims hdr hyb
            have HRD := Lib.hid (fun W => t_reduced_any dr y W hdr.1 hdr.2 hyb.1 hyb.2)
            rw [show (dr / (Int.gcd dr y : Int)) = (Tp.red dr y).drives from rfl, show (y / (Int.gcd dr y : Int)) = (Tp.red dr y).driven from rfl] at HRD
            obtain ⟨⟨x1, x2⟩, hX⟩ : ∃ X, Tp.red dr y = X := ⟨_, rfl⟩
            rw [hX] at HRD hxl
            have hdo := Tp.dist_ok (f := ⟨fn, fd⟩) hxl hf
            have HDI := Lib.hid (fun W => t_distance_any x1 x2 fn fd W (by have := hxl.1; simp only at this; omega) (by have := hxl.2; simp only at this; omega) (by omega) (by omega))
            obtain ⟨⟨e1, e2⟩, hD⟩ : ∃ D, Tp.dist ⟨x1, x2⟩ ⟨fn, fd⟩ = D := ⟨_, rfl⟩
            have hD1 : max (Tp.cmpF ⟨x1, x2⟩ ⟨fn, fd⟩) (-(Tp.cmpF ⟨x1, x2⟩ ⟨fn, fd⟩)) = e1 := congrArg Ec.Pair.drives hD
            have hD2 : x2 = e2 := congrArg Ec.Pair.driven hD
            rw [hD] at hdo
            unfold Tp.DistOk at hdo
            simp only at hdo hxl
            have HDI2 : Hid (∀ W, Calls Tryz.prog 193 #[.agg #[.int .i64 x1, .int .i64 x2], .agg #[.int .i64 fn, .int .i64 fd]] W fun e w' => e = .returned (.agg #[.int .i64 e1, .int .i64 e2]) ∧ Ext W w') := Lib.hid fun W => by have := HDI.out W; rw [hD1] at this; rw [← hD2]; exact this
            have HNEW : Hid ((S1.1.length = 0 ∨ Tp.cmpF ⟨e1, e2⟩ S1.2 < 0) → S2 = ([⟨x1, x2⟩], ⟨e1, e2⟩)) := Lib.hid fun h => by rw [← HS2.out]; exact Tp.nearOne_new HBI.out hry hX hD h
            have HOLD : Hid (¬ (S1.1.length = 0 ∨ Tp.cmpF ⟨e1, e2⟩ S1.2 < 0) → S2 = if Tp.cmpF ⟨e1, e2⟩ S1.2 = 0 ∧ Tp.frIs S1.1 ⟨x1, x2⟩ = false then (S1.1 ++ [⟨x1, x2⟩], S1.2) else S1) := Lib.hid fun h => by rw [← HS2.out]; exact Tp.nearOne_old HBI.out hry hX hD h
            have hdd := HR.out.ok
            have HOK : Hid (Tp.DistOk ⟨e1, e2⟩) := Lib.hid (by unfold Tp.DistOk; simp only; exact hdo)
            clear HDI hX hD hD1 hD2 hy hry hc hyb hdd
            go_wp2_with fail
            refine (HIN.out _).mono ?_
            rintro e w1 ⟨rfl, rfl⟩
            dsimp only
            go_wp2_with fail
            refine (HRD.out _).mono ?_
            rintro e w1 ⟨rfl, hE1⟩
            have HR1 := Lib.hid ((HR.out.to hE1).to ((Ext.refl _).alloc (.cells #[.int .i64 x1, .int .i64 x2] 69)))
            have HX1 := Lib.hid (Row.new w1 69 #[.int .i64 x1, .int .i64 x2])
            have cX := HX1.out.cell
            have cf := HR1.out.f.cell
            have hz1 := hE1.size
            clear q0 hE1
            go_wp2_with fail
            refine (HDI2.out _).mono ?_
            rintro e w2 ⟨rfl, hE2⟩
            have hz2s : w1.heap.size ≤ w2.heap.size := by have := hE2.size; simp only [World.size_alloc] at this; omega
            have HR2 := Lib.hid ((HR1.out.to hE2).to ((Ext.refl _).alloc (.cells #[.int .i64 e1, .int .i64 e2] 69)))
            have HX2 := Lib.hid ((HX1.out.ext hE2).ext ((Ext.refl _).alloc (.cells #[.int .i64 e1, .int .i64 e2] 69)))
            have HD2 := Lib.hid (Row.new w2 69 #[.int .i64 e1, .int .i64 e2])
            obtain ⟨bX, hbX⟩ : ∃ bX, w1.heap.size = bX := ⟨_, rfl⟩
            have HBX : Hid (w.heap.size + 4 ≤ bX) := Lib.hid (by have h1 := hz1; have h2 := HR.out.least.lt; omega)
            rw [hbX] at HX2 hz2s ⊢
            have cX := HX2.out.cell
            have cD := HD2.out.cell
            have cL := HR2.out.least.cell
            have HCD := Lib.hid (fun W => t_compare_any e1 e2 e1 e2 W (by omega) (by omega) (by omega) (by omega))
            rw [Tp.cmp_self] at HCD
            have HCM := Lib.hid (fun W => t_compare_any e1 e2 S1.2.drives S1.2.driven W (by omega) (by omega) (by omega) (by omega))
            obtain ⟨cc, hcc⟩ : ∃ cc, Tp.cmpF ⟨e1, e2⟩ S1.2 = cc := ⟨_, rfl⟩
            have hcc2 : Tp.cmpF ⟨e1, e2⟩ ⟨S1.2.drives, S1.2.driven⟩ = cc := hcc
            rw [hcc2] at HCM
            rw [hcc] at HNEW HOLD
            have HBL := Lib.hid (HR.out.least.lt)
            clear hE2 hbX cf hcc hcc2 hok hdo hxl
            by_cases hz : S1.1.length = 0
            · have hz2 : ((S1.1.length : Int) == 0) = true := by rw [hz]; rfl
              go_wp2_with fail
              obtain ⟨W3, hW3⟩ : ∃ W, w2.alloc (.cells #[.int .i64 e1, .int .i64 e2] 69) = W := ⟨_, rfl⟩
              obtain ⟨bD, hbD⟩ : ∃ bD, w2.heap.size = bD := ⟨_, rfl⟩
              rw [hW3, hbD] at HD2
              rw [hW3] at HR2 HX2
              rw [hW3, hbD]
              have HBD : Hid (w.heap.size + 4 ≤ bD) := Lib.hid (by have h1 := hz2s; have h2 := HBX.out; omega)
              clear cX cD cL hW3 hbD hz2
              have HO2 := Lib.hid (HNEW.out (.inl hz))
              have cD := HD2.out.cell
              have cL := HR2.out.least.cell
              have fL := HR2.out.least.free
              have jL := lts HR2.out.least.lt
              have hn1 : w.heap.size + 1 + 1 + 1 ≠ bD ∧ bD ≠ w.heap.size + 1 + 1 + 1 := by have := HBD.out; omega
              have hn2 := hn1.1
              have hn3 := hn1.2
              refine Tp.wp_named (fun a0 ha0 => ?_)
              refine Code.wp_mono (Q := fun e a' w' => e = .normal ∧ a' = (a0.put (some 71) (.agg #[.int .i64 e1, .int .i64 e2])).put (some 8) (.slice none 0 0) ∧ Tp.NearR w #[.int .i64 a, .int .i64 b, .int .i64 p, .int .i64 s, V, T, .slice (some ⟨bs, os, none⟩) ns cs, M] fn fd (.slice none 0 0) ([], ⟨e1, e2⟩) w' ∧ Row w' bX 69 #[.int .i64 x1, .int .i64 x2] ∧ Row w' bD 69 #[.int .i64 e1, .int .i64 e2]) ?hq ?hr
              case hr =>
                subst ha0
                go_region_held3 (fun w' => w'.cell? ⟨bD, 0, none⟩ = some (.int .i64 e1) ∧ w'.cell? ⟨bD, 1, none⟩ = some (.int .i64 e2)) (go_keep) (fail)
                refine ⟨rfl, ?_, (HR2.out.set ⟨e1, e2⟩ HOK.out).to ((Ext.refl _).drew), ?_, ?_⟩
                · rfl
                · exact ((HX2.out.far (p := ⟨w.heap.size + 1 + 1 + 1, 0, none⟩) (by have := HBX.out; simp; omega) _).far (p := ⟨w.heap.size + 1 + 1 + 1, 1, none⟩) (by have := HBX.out; simp; omega) _).ext ((Ext.refl _).drew)
                · exact ((HD2.out.far (p := ⟨w.heap.size + 1 + 1 + 1, 0, none⟩) (by have := HBX.out; simp; omega) _).far (p := ⟨w.heap.size + 1 + 1 + 1, 1, none⟩) (by have := HBX.out; simp; omega) _).ext ((Ext.refl _).drew)
              case hq =>
                rintro e a' w4 ⟨rfl, rfl, hR4, hX4, hD4⟩
                subst ha0
                simp only [Act.put, List.setIfInBounds_toArray, List.set_cons_succ, List.set_cons_zero]
                have HR4 := Lib.hid hR4
                have HX4 := Lib.hid hX4
                have cD := hD4.cell
                have cL := hR4.least.cell
                clear hR4 hX4 hD4 fL jL
                go_wp2_with fail
                refine (HCD.out _).mono ?_
                rintro e w5 ⟨rfl, hE5⟩
                have HR5 := Lib.hid (HR4.out.to hE5)
                have HX5 := Lib.hid (HX4.out.ext hE5)
                have cX := HX5.out.cell
                clear hE5 cD cL
                dsimp only
                go_wp2_with fail
                refine (t_hasFr_any none 0 [] x1 x2 _ (fun h => by cases h) (by simp)).mono ?_
                rintro e w6 ⟨rfl, hE6⟩
                have HR6 := Lib.hid (HR5.out.to hE6)
                have HX6 := Lib.hid (HX5.out.ext hE6)
                clear hE6 cX
                dsimp only [Tp.frIs, List.any_nil]
                have cX := HX6.out.cell
                have HOW := Lib.hid (HR6.out.out.alloc (.cells #[.int .i64 x1, .int .i64 x2] 69))
                have HRA := Lib.hid (HR6.out.to ((Ext.refl _).alloc (.cells #[.int .i64 x1, .int .i64 x2] 69)))
                have hzz := HR6.out.least.lt
                skip
                go_wp2_with (at_builtin; refine wpList_append_lies _ rfl _ _ 62 rfl (w.heap.size + 4) 69 i0 _ 2 16 Tryz.underlying62 hi0 hi1 hi2 hi3 rfl (by decide) _ (0) ([]) rfl HOW.out ⟨_, 0, none⟩ 1 1 [.int .i64 x1, .int .i64 x2] rfl rfl (World.news_of_block (cs := #[.int .i64 x1, .int .i64 x2]) (t := 69) (fr := (0, 0)) (heap_alloc_new _ _)) (by simp [Value.oneCell']) (by omega) (by simp only [maxLen]; omega) (by omega) (by simp; omega) _ rfl ?_; intro gg cap w7 hown7 hgrow hat hlt7; have HR7 := Lib.hid (Tp.NearR.grown (x := ⟨x1, x2⟩) HRA.out hgrow hown7); clear hown7 hgrow hat cX)
                go_roundw
                case rel => exact .inr (.inr ⟨rfl, by rw [HO2.out]; exact HR7.out⟩)
                case measure => simp [intOf]
            · have hz2 : ((S1.1.length : Int) == 0) = false := by rw [beq_eq_false_iff_ne]; omega
              go_wp2_with fail
              refine (HCM.out _).mono ?_
              rintro e w3 ⟨rfl, hE3⟩
              have HR3 := Lib.hid (HR2.out.to hE3)
              have HX3 := Lib.hid (HX2.out.ext hE3)
              have HD3 := Lib.hid (HD2.out.ext hE3)
              obtain ⟨bD, hbD⟩ : ∃ bD, w2.heap.size = bD := ⟨_, rfl⟩
              have HBD : Hid (w.heap.size + 4 ≤ bD) := Lib.hid (by have h1 := hz2s; have h2 := HBX.out; omega)
              rw [hbD] at HD3 ⊢
              clear cX cD cL hE3 hbD hz2
              dsimp only
              by_cases hlc : cc < 0
              · go_wp2_with fail
                have HO2 := Lib.hid (HNEW.out (.inr hlc))
                have cD := HD3.out.cell
                have cL := HR3.out.least.cell
                have fL := HR3.out.least.free
                have jL := lts HR3.out.least.lt
                have hn1 : w.heap.size + 1 + 1 + 1 ≠ bD ∧ bD ≠ w.heap.size + 1 + 1 + 1 := by have := HBD.out; omega
                have hn2 := hn1.1
                have hn3 := hn1.2
                refine Tp.wp_named (fun a0 ha0 => ?_)
                refine Code.wp_mono (Q := fun e a' w' => e = .normal ∧ a' = (a0.put (some 71) (.agg #[.int .i64 e1, .int .i64 e2])).put (some 8) (.slice none 0 0) ∧ Tp.NearR w #[.int .i64 a, .int .i64 b, .int .i64 p, .int .i64 s, V, T, .slice (some ⟨bs, os, none⟩) ns cs, M] fn fd (.slice none 0 0) ([], ⟨e1, e2⟩) w' ∧ Row w' bX 69 #[.int .i64 x1, .int .i64 x2] ∧ Row w' bD 69 #[.int .i64 e1, .int .i64 e2]) ?hq ?hr
                case hr =>
                  subst ha0
                  go_region_held3 (fun w' => w'.cell? ⟨bD, 0, none⟩ = some (.int .i64 e1) ∧ w'.cell? ⟨bD, 1, none⟩ = some (.int .i64 e2)) (go_keep) (fail)
                  refine ⟨rfl, ?_, (HR3.out.set ⟨e1, e2⟩ HOK.out).to ((Ext.refl _).drew), ?_, ?_⟩
                  · rfl
                  · exact ((HX3.out.far (p := ⟨w.heap.size + 1 + 1 + 1, 0, none⟩) (by have := HBX.out; simp; omega) _).far (p := ⟨w.heap.size + 1 + 1 + 1, 1, none⟩) (by have := HBX.out; simp; omega) _).ext ((Ext.refl _).drew)
                  · exact ((HD3.out.far (p := ⟨w.heap.size + 1 + 1 + 1, 0, none⟩) (by have := HBX.out; simp; omega) _).far (p := ⟨w.heap.size + 1 + 1 + 1, 1, none⟩) (by have := HBX.out; simp; omega) _).ext ((Ext.refl _).drew)
                case hq =>
                  rintro e a' w4 ⟨rfl, rfl, hR4, hX4, hD4⟩
                  subst ha0
                  simp only [Act.put, List.setIfInBounds_toArray, List.set_cons_succ, List.set_cons_zero]
                  have HR4 := Lib.hid hR4
                  have HX4 := Lib.hid hX4
                  have cD := hD4.cell
                  have cL := hR4.least.cell
                  clear hR4 hX4 hD4 fL jL
                  go_wp2_with fail
                  refine (HCD.out _).mono ?_
                  rintro e w5 ⟨rfl, hE5⟩
                  have HR5 := Lib.hid (HR4.out.to hE5)
                  have HX5 := Lib.hid (HX4.out.ext hE5)
                  have cX := HX5.out.cell
                  clear hE5 cD cL
                  dsimp only
                  go_wp2_with fail
                  refine (t_hasFr_any none 0 [] x1 x2 _ (fun h => by cases h) (by simp)).mono ?_
                  rintro e w6 ⟨rfl, hE6⟩
                  have HR6 := Lib.hid (HR5.out.to hE6)
                  have HX6 := Lib.hid (HX5.out.ext hE6)
                  clear hE6 cX
                  dsimp only [Tp.frIs, List.any_nil]
                  have cX := HX6.out.cell
                  have HOW := Lib.hid (HR6.out.out.alloc (.cells #[.int .i64 x1, .int .i64 x2] 69))
                  have HRA := Lib.hid (HR6.out.to ((Ext.refl _).alloc (.cells #[.int .i64 x1, .int .i64 x2] 69)))
                  have hzz := HR6.out.least.lt
                  skip
                  go_wp2_with (at_builtin; refine wpList_append_lies _ rfl _ _ 62 rfl (w.heap.size + 4) 69 i0 _ 2 16 Tryz.underlying62 hi0 hi1 hi2 hi3 rfl (by decide) _ (0) ([]) rfl HOW.out ⟨_, 0, none⟩ 1 1 [.int .i64 x1, .int .i64 x2] rfl rfl (World.news_of_block (cs := #[.int .i64 x1, .int .i64 x2]) (t := 69) (fr := (0, 0)) (heap_alloc_new _ _)) (by simp [Value.oneCell']) (by omega) (by simp only [maxLen]; omega) (by omega) (by simp; omega) _ rfl ?_; intro gg cap w7 hown7 hgrow hat hlt7; have HR7 := Lib.hid (Tp.NearR.grown (x := ⟨x1, x2⟩) HRA.out hgrow hown7); clear hown7 hgrow hat cX)
                  go_roundw
                  case rel => exact .inr (.inr ⟨rfl, by rw [HO2.out]; exact HR7.out⟩)
                  case measure => simp [intOf]
              · have HO := Lib.hid (HOLD.out (by omega))
                have cX := HX3.out.cell
                have cD := HD3.out.cell
                have cL := HR3.out.least.cell
                go_wp2_with fail
                refine (HCM.out _).mono ?_
                rintro e w4 ⟨rfl, hE4⟩
                have HR4 := Lib.hid (HR3.out.to hE4)
                have HX4 := Lib.hid (HX3.out.ext hE4)
                clear cX cD cL hE4
                dsimp only
                by_cases hce : cc = 0
                · have hce2 : (cc == 0) = true := by simpa using hce
                  obtain ⟨A5, c5, he5, hp5⟩ := Tp.pairs_own HR4.out.out
                  cases he5
                  have HHAS := Lib.hid (fun W h => t_hasFr_any B2 d2 S1.1 x1 x2 W h (by omega))
                  have HP5 := Lib.hid hp5
                  have cX := HX4.out.cell
                  obtain ⟨qq, hqq⟩ : ∃ qq, Tp.frIs S1.1 ⟨x1, x2⟩ = qq := ⟨_, rfl⟩
                  rw [hqq] at HHAS HO
                  clear hqq hp5
                  go_wp2_with fail
                  refine (HHAS.out _ HP5.out).mono ?_
                  rintro e w5 ⟨rfl, hE5⟩
                  have HR5 := Lib.hid (HR4.out.to hE5)
                  have HX5 := Lib.hid (HX4.out.ext hE5)
                  clear cX hE5
                  dsimp only
                  cases qq
                  · have HO2 : Hid (S2 = (S1.1 ++ [⟨x1, x2⟩], S1.2)) := Lib.hid (by rw [HO.out, if_pos ⟨hce, rfl⟩])
                    have cX := HX5.out.cell
                    have HOW := Lib.hid (HR5.out.out.alloc (.cells #[.int .i64 x1, .int .i64 x2] 69))
                    have HRA := Lib.hid (HR5.out.to ((Ext.refl _).alloc (.cells #[.int .i64 x1, .int .i64 x2] 69)))
                    have hzz := HR5.out.least.lt
                    have hls : S1.1.length ≤ 2001 := by omega
                    go_wp2_with (at_builtin; refine wpList_append_lies _ rfl _ _ 62 rfl (w.heap.size + 4) 69 i0 _ 2 16 Tryz.underlying62 hi0 hi1 hi2 hi3 rfl (by decide) _ (S1.1.length) (Tp.pc S1.1) rfl HOW.out ⟨_, 0, none⟩ 1 1 [.int .i64 x1, .int .i64 x2] rfl rfl (World.news_of_block (cs := #[.int .i64 x1, .int .i64 x2]) (t := 69) (fr := (0, 0)) (heap_alloc_new _ _)) (by simp [Value.oneCell']) (by omega) (by simp only [maxLen]; omega) (by omega) (by simp; omega) _ rfl ?_; intro gg cap w7 hown7 hgrow hat hlt7; have HR7 := Lib.hid (Tp.NearR.grown (x := ⟨x1, x2⟩) HRA.out hgrow hown7); clear hown7 hgrow hat cX)
                    go_roundw
                    case rel => exact .inr (.inr ⟨rfl, by rw [HO2.out]; exact HR7.out⟩)
                    case measure => simp [intOf]
                  · have HO2 : Hid (S2 = S1) := Lib.hid (by rw [HO.out, if_neg (fun h => by cases h.2)])
                    go_wp2_with fail
                    go_roundw
                    case rel => exact .inr (.inr ⟨rfl, by rw [HO2.out]; exact HR5.out⟩)
                    case measure => simp [intOf]
                · have hce2 : (cc == 0) = false := by simpa using hce
                  have HO2 : Hid (S2 = S1) := Lib.hid (by rw [HO.out, if_neg (fun h => hce h.1)])
                  go_wp2_with fail
                  go_roundw
                  case rel => exact .inr (.inr ⟨rfl, by rw [HO2.out]; exact HR4.out⟩)
                  case measure => simp [intOf]
        · obtain ⟨B2, d2, rfl⟩ := hR.val
          have HR := Lib.hid hR
          clear hR
          go_wp2_with fail
          go_roundw
          case rel => exact ⟨j + 1, by omega, by go_num, by rw [HNX.out]; exact HR.out⟩
          case measure => simp [intOf]; omega
    · obtain rfl : j = all.length := by omega
      have hlt' : ¬ ((all.length : Int) < (all.length : Int)) := by omega
      rw [HFU.out] at HR hL2 ⊢
      have cL := HR.out.least.cell
      have fR := HR.out.res.free
      have cR := HR.out.res.cell
      have jR := lts HR.out.res.lt
      obtain ⟨A5, c5, he5, hp5⟩ := Tp.pairs_own HR.out.out
      cases he5
      have HP5 := Lib.hid hp5
      clear hp5
      go_wp2_with fail
      refine Tp.wp_named (fun a0 ha0 => ?_)
      refine Code.wp_mono (Q := fun e a' w' => e = .normal ∧ a' = (((a0.put (some 88) (.slice B1 fu.1.length d1)).put (some 89) (.agg #[.int .i64 fu.2.drives, .int .i64 fu.2.driven])).put (some 6) (.slice B1 fu.1.length d1)) ∧ Row w' (w.heap.size + 1 + 1) 69 #[.int .i64 fu.2.drives, .int .i64 fu.2.driven] ∧ w'.ownsRow (w.heap.size + 4) 69 2 (.slice B1 fu.1.length d1) fu.1.length (Tp.pc fu.1) ∧ Ext w w') ?hq ?hr
      case hr =>
        subst ha0
        go_region_held3 (fun w' => w'.cell? ⟨w.heap.size + 1 + 1 + 1, 0, none⟩ = some (.int .i64 fu.2.drives) ∧ w'.cell? ⟨w.heap.size + 1 + 1 + 1, 1, none⟩ = some (.int .i64 fu.2.driven)) (go_keep) (fail)
        refine ⟨rfl, ?_, (by simpa using (HR.out.res.set_ 0 (.int .i64 fu.2.drives)).set_ 1 (.int .i64 fu.2.driven) : Row _ _ _ _).ext ((Ext.refl _).drew), ?_, ((HR.out.ext.setCell (p := ⟨w.heap.size + 1 + 1, 0, none⟩) (by simp <;> omega) _).setCell (p := ⟨w.heap.size + 1 + 1, 1, none⟩) (by simp <;> omega) _).drew⟩
        · rfl
        · exact own_ext (Tp.own_set (Tp.own_set HR.out.out (a := ⟨w.heap.size + 1 + 1, 0, none⟩) (by simp <;> omega) (.int .i64 fu.2.drives)) (a := ⟨w.heap.size + 1 + 1, 1, none⟩) (by simp <;> omega) (.int .i64 fu.2.driven)) ((Ext.refl _).drew)
      case hq =>
        rintro e a' w4 ⟨rfl, rfl, hR4, hP4, hE4⟩
        subst ha0
        simp only [Act.put, List.setIfInBounds_toArray, List.set_cons_succ, List.set_cons_zero]
        have c4 := hR4.cell
        go_wp2_with fail
        exact bodyPost_ret (v := .tuple #[.slice B1 fu.1.length d1, .agg #[.int .i64 fu.2.drives, .int .i64 fu.2.driven]]) (by simp [results, Tryz.results152, go_sem, c4]) rfl ⟨B1, d1, rfl, hP4, hE4⟩
end Go.Proofs.YtimkmokomohgjaaGreat
