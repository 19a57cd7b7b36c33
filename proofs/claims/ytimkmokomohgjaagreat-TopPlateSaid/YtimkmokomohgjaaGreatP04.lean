/- Volume 4 of the texts that the laws of this seat use: TpTurns TpClone EcRefM EcRef1 TpRepeat TpPlRep EcKept TpRFT V07N TpS: walks of the program's functions, and plain laws. -/
import Derived.Carry
import Derived.BigQuiet
import Derived.Laws.StructEq
import Derived.Laws.CopyOwn
import Derived.Test.YtimkmokomohgjaaGreatP01
import Derived.Test.YtimkmokomohgjaaGreatP02
import Derived.Test.YtimkmokomohgjaaGreatP03
namespace Go.Proofs.YtimkmokomohgjaaGreat
open Go.RowKit
open Sp (rd)
set_option maxRecDepth 100000
set_option maxHeartbeats 2000000
set_option linter.unusedVariables false
theorem t_Turns_sense (A : Option Addr) (c : Nat) (l : List Ec.Pair) (w : World) (hm : Pairs w A l) (hl : l.length ≤ 100000) (h : Ec.trainOk l = true) :
    Calls Tryz.prog 66 #[.slice A l.length c] w fun r w' => r = .returned (.tuple #[.agg #[.int .i64 (Ec.turnsN l), .int .i64 (Ec.turnsD l)], .bool ((l.length : Int) % 2 == 0), .int .i64 0]) ∧ Ext w w' := by
  have HM := Lib.hid hm
  have hK := trainOk_of h
  have HK := Lib.hid hK
  have h3 := hK.n3
  clear hm hK
  go_enter Tryz.func66, Tryz.ntmps66
  go_wp2_with fail
  refine (t_isTrain_any A c l _ (HM.out.ext ((Ext.refl w).alloc _)) hl).mono ?_
  rintro r w1 ⟨rfl, hE1⟩
  have hE := ((Ext.refl w).alloc _).trans hE1
  have hr := (Row.new w 69 #[.int .i64 0, .int .i64 0]).ext hE1
  clear hE1
  go_wp2_with fail
  refine (t_turns_any A c l _ (HM.out.ext hE) HK.out).mono ?_
  rintro r w2 ⟨rfl, hE2⟩
  have hr2 := hr.ext hE2
  have g0 := hr2.cell
  have k0 := hr2.free
  have HE3 := Lib.hid (hE.trans hE2)
  clear hr hE hE2
  go_wp2_with fail
  exact bodyPost_ret (v := .tuple #[.agg #[.int .i64 (Ec.turnsN l), .int .i64 (Ec.turnsD l)], .bool ((l.length : Int) % 2 == 0), .int .i64 0]) (by simp [results, Tryz.results66, go_sem, g0]) rfl ⟨rfl, (HE3.out.setCell (p := ⟨w.heap.size, 0, none⟩) (Nat.le_refl _) _).setCell (p := ⟨w.heap.size, 1, none⟩) (Nat.le_refl _) _⟩
end Go.Proofs.YtimkmokomohgjaaGreat
namespace Go.Proofs.YtimkmokomohgjaaGreat
open Go.RowKit
open Sp (rd)
set_option maxRecDepth 100000
set_option maxHeartbeats 4000000
set_option linter.unusedVariables false
theorem Tp.pairs_news {w : World} {b o : Nat} {l : List Ec.Pair} (h : Pairs w (some ⟨b, o, none⟩) l) : ∀ j u, (Tp.pc l)[j]? = some u → w.cell? ((⟨b, o, none⟩ : Addr).add j) = some u := by
  intro j u hu
  have hj : j < l.length * 2 := by
    have := (List.getElem?_eq_some_iff.1 hu).1
    rwa [Tp.pc_len] at this
  have hadd : (⟨b, o, none⟩ : Addr).add j = ⟨b, o + j, none⟩ := by unfold Addr.add; split <;> simp_all
  obtain ⟨b', o', e, hc⟩ := h (by omega)
  cases e
  rw [hadd]
  rcases (show j = j / 2 * 2 ∨ j = j / 2 * 2 + 1 by omega) with e | e
  · rw [e] at hu ⊢
    rw [(Tp.pc_get l (j / 2) (by omega)).1] at hu
    cases hu
    exact (hc (j / 2) (by omega)).1
  · rw [e] at hu ⊢
    rw [(Tp.pc_get l (j / 2) (by omega)).2] at hu
    cases hu
    exact (hc (j / 2) (by omega)).2
theorem Tp.pc_one (l : List Ec.Pair) : ∀ u ∈ Tp.pc l, u.oneCell' = true := by
  intro u hu
  simp only [Tp.pc, List.mem_flatMap, List.mem_cons, List.not_mem_nil, or_false] at hu
  obtain ⟨m, _, rfl | rfl⟩ := hu <;> rfl
theorem Tp.own_empty (W : World) (base : Nat) (t : TypeId) (size : Nat) (h : base ≤ W.heap.size) : (W.alloc (.cells #[] t)).ownsRow base t size (.slice (some ⟨W.heap.size, 0, none⟩) 0 0) 0 [] :=
  ⟨by simp, .inr ⟨W.heap.size, 0, #[], rfl, h, heap_alloc_new W _, Nat.le_refl _, Nat.zero_le _, by simp, by simp⟩⟩
theorem Tp.eql_nil (w : World) : (binOp .eql 78 (.slice none 0 0) (.slice none 0 0)).run Tryz.prog w = .ok (.bool true) w := by kernel_rfl
theorem Tp.eql_some (b o n c : Nat) (w : World) : (binOp .eql 78 (.slice (some ⟨b, o, none⟩) n c) (.slice none 0 0)).run Tryz.prog w = .ok (.bool false) w := by kernel_rfl
theorem Tp.neq_nil (w : World) : (binOp .neq 78 (.slice none 0 0) (.slice none 0 0)).run Tryz.prog w = .ok (.bool false) w := by kernel_rfl
theorem Tp.neq_some (b o n c : Nat) (w : World) : (binOp .neq 78 (.slice (some ⟨b, o, none⟩) n c) (.slice none 0 0)).run Tryz.prog w = .ok (.bool true) w := by kernel_rfl
theorem s_Clone_nil (w : World) : Calls Tryz.prog 197 #[.slice none 0 0] w fun e w' => e = .returned (.slice none 0 0) ∧ Ext w w' := by
  have he := Tp.eql_nil
  go_enter Tryz.func197, Tryz.ntmps197
  go_wp2_with fail
  go_ret
  exact ⟨rfl, Ext.refl _⟩
theorem s_Clone_any (b o n c : Nat) (l : List Ec.Pair) (w : World) (hm : Pairs w (some ⟨b, o, none⟩) l) (h0 : 0 < l.length) (hl : l.length ≤ 1000) (hn : n = l.length) :
    Calls Tryz.prog 197 #[.slice (some ⟨b, o, none⟩) n c] w fun e w' => ∃ g cap, e = .returned (.slice (some ⟨g, 0, none⟩) n cap) ∧ w'.ownsRow w.heap.size 125 2 (.slice (some ⟨g, 0, none⟩) n cap) n (Tp.pc l) ∧ Ext w w' := by
  have HM := Lib.hid (Tp.pairs_news (hm.ext ((Ext.refl w).alloc (.cells #[] 125))))
  have HO := Lib.hid (Tp.own_empty w w.heap.size 125 2 (Nat.le_refl _))
  obtain ⟨i0, hi0, hi1, hi2, hi3⟩ := info_parts Tp.info_pair
  have he := Tp.eql_some
  clear hm
  go_enter Tryz.func197, Tryz.ntmps197
  go_wp2_with (at_builtin; refine wpList_append_lies _ rfl _ _ 78 rfl w.heap.size 125 i0 _ 2 16 Tryz.underlying78 hi0 hi1 hi2 hi3 rfl (by decide) _ 0 [] rfl HO.out ⟨b, o, none⟩ n c (Tp.pc l) rfl (by rw [Tp.pc_len, hn]) HM.out (Tp.pc_one l) (by omega) (by simp only [maxLen]; omega) (by omega) (by simp) _ rfl ?_; intro gg cap w5 hown5 hgrow hat hlt5; have HO5 := Lib.hid hown5; have HX5 := Lib.hid (((Ext.refl w).alloc (.cells #[] 125)).grown hgrow (fun g hg => (HO.out.lt g hg).1)); clear hown5 hgrow hat)
  rw [Nat.zero_add] at HO5
  go_ret
  exact ⟨gg, cap, by rw [hn]; rfl, by simpa using HO5.out, HX5.out⟩
end Go.Proofs.YtimkmokomohgjaaGreat
namespace Go.Proofs.YtimkmokomohgjaaGreat
open Go.RowKit
open Sp (rd)
theorem ngcd_step (x y : Nat) : Nat.gcd x y = Nat.gcd y (x % y) := by rw [Nat.gcd_comm, Nat.gcd_rec, Nat.gcd_comm]
end Go.Proofs.YtimkmokomohgjaaGreat
namespace Go.Proofs.YtimkmokomohgjaaGreat
open Go.RowKit
open Sp (rd)
set_option maxRecDepth 100000
set_option maxHeartbeats 2000000
set_option linter.unusedVariables false
theorem r1_in_any (x lo hi : Int) (w : World) : Calls Tryz.prog 72 #[.int .i64 x, .int .i64 lo, .int .i64 hi] w fun e w' => e = .returned (.bool (Sp.inR x lo hi)) ∧ w = w' := by
  by_cases h1 : lo ≤ x <;> by_cases h2 : x ≤ hi <;>
  · go_enter Tryz.func72, Tryz.ntmps72
    go_wp2_with fail
    all_goals
      go_ret
      exact ⟨ret_bool (by simp [Sp.inR, h1, h2]), rfl⟩
theorem r1_Teeth_any (n : Int) (w : World) : Calls Tryz.prog 71 #[.int .i64 n] w fun e w' => e = .returned (.bool (Ec.isTeeth n)) ∧ w = w' := by
  go_enter Tryz.func71, Tryz.ntmps71
  go_wp2_with fail
  refine (r1_in_any n 4 60 _).mono ?_
  rintro e w' ⟨rfl, rfl⟩
  go_wp2_with fail
  go_ret
  exact ⟨rfl, rfl⟩
end Go.Proofs.YtimkmokomohgjaaGreat
namespace Go.Proofs.YtimkmokomohgjaaGreat
open Go.RowKit
open Sp (rd)
set_option maxRecDepth 100000
set_option maxHeartbeats 4000000
set_option linter.unusedVariables false
theorem b_Mul64_0 (w : World) : Calls Tryz.prog 200 #[.int .u64 1, .int .u64 0] w fun e w' => e = .returned (.tuple #[.int .u64 0, .int .u64 0]) ∧ w = w' := by
  go_enter Tryz.func200, Tryz.ntmps200
  go_wp2_with fail
  go_ret2
  exact ⟨rfl, rfl⟩
theorem b_Mul_0 (w : World) : Calls Tryz.prog 171 #[.int .u64 1, .int .u64 0] w fun e w' => e = .returned (.tuple #[.int .u64 0, .int .u64 0]) ∧ w = w' := by
  go_enter Tryz.func171, Tryz.ntmps171
  go_wp2_with fail
  refine (b_Mul64_0 _).mono ?_
  rintro e w1 ⟨rfl, rfl⟩
  go_wp2_with fail
  go_ret2
  exact ⟨rfl, rfl⟩
theorem b_Mul64_1 (w : World) : Calls Tryz.prog 200 #[.int .u64 1, .int .u64 1] w fun e w' => e = .returned (.tuple #[.int .u64 0, .int .u64 1]) ∧ w = w' := by
  go_enter Tryz.func200, Tryz.ntmps200
  go_wp2_with fail
  go_ret2
  exact ⟨rfl, rfl⟩
theorem b_Mul_1 (w : World) : Calls Tryz.prog 171 #[.int .u64 1, .int .u64 1] w fun e w' => e = .returned (.tuple #[.int .u64 0, .int .u64 1]) ∧ w = w' := by
  go_enter Tryz.func171, Tryz.ntmps171
  go_wp2_with fail
  refine (b_Mul64_1 _).mono ?_
  rintro e w1 ⟨rfl, rfl⟩
  go_wp2_with fail
  go_ret2
  exact ⟨rfl, rfl⟩
theorem b_Mul64_2 (w : World) : Calls Tryz.prog 200 #[.int .u64 1, .int .u64 2] w fun e w' => e = .returned (.tuple #[.int .u64 0, .int .u64 2]) ∧ w = w' := by
  go_enter Tryz.func200, Tryz.ntmps200
  go_wp2_with fail
  go_ret2
  exact ⟨rfl, rfl⟩
theorem b_Mul_2 (w : World) : Calls Tryz.prog 171 #[.int .u64 1, .int .u64 2] w fun e w' => e = .returned (.tuple #[.int .u64 0, .int .u64 2]) ∧ w = w' := by
  go_enter Tryz.func171, Tryz.ntmps171
  go_wp2_with fail
  refine (b_Mul64_2 _).mono ?_
  rintro e w1 ⟨rfl, rfl⟩
  go_wp2_with fail
  go_ret2
  exact ⟨rfl, rfl⟩
theorem mk_int_0 (w : World) : (Instr.makeSlice 48 (.int .i64 0) (.int .i64 0)).run Tryz.prog w = .ok (.slice (some ⟨w.heap.size, 0, none⟩) 0 0) (w.alloc (.cells #[] 3)) := by kernel_rfl
theorem mk_int_1 (w : World) : (Instr.makeSlice 48 (.int .i64 1) (.int .i64 1)).run Tryz.prog w = .ok (.slice (some ⟨w.heap.size, 0, none⟩) 1 1) (w.alloc (.cells #[.int .i64 0] 3)) := by kernel_rfl
theorem mk_int_2 (w : World) : (Instr.makeSlice 48 (.int .i64 2) (.int .i64 2)).run Tryz.prog w = .ok (.slice (some ⟨w.heap.size, 0, none⟩) 2 2) (w.alloc (.cells #[.int .i64 0, .int .i64 0] 3)) := by kernel_rfl
theorem szInt : (Tryz.prog.info? 3).map (·.size) = some 1 := by kernel_rfl
theorem cp_run (w : World) (g o dLen dCap : Nat) (a : Addr) (sLen sCap : Nat) (cur : Array Value) (cs : List Value) (hg : Row w g 3 cur) (hn : cs.length = Nat.min sLen dLen)
    (hsrc : ∀ j v, cs[j]? = some v → w.cell? (a.add j) = some v) (hfit : o + cs.length ≤ cur.size) (h1 : ∀ v ∈ cs, v.oneCell' = true) :
    (Builtin.copy_ #[48, 48] 3 #[.slice (some ⟨g, o, none⟩) dLen dCap, .slice (some a) sLen sCap]).run Tryz.prog w = .ok (goInt cs.length) (w.setRow g (cur.toList.take o ++ cs ++ cur.toList.drop (o + cs.length)).toArray) ∧
      Row (w.setRow g (cur.toList.take o ++ cs ++ cur.toList.drop (o + cs.length)).toArray) g 3 (cur.toList.take o ++ cs ++ cur.toList.drop (o + cs.length)).toArray ∧
      (∀ w0, Ext w0 w → w0.heap.size ≤ g → Ext w0 (w.setRow g (cur.toList.take o ++ cs ++ cur.toList.drop (o + cs.length)).toArray)) :=
  ⟨run_copy_row Tryz.prog w 48 48 3 3 g o dLen dCap a sLen sCap cur 3 cs Tryz.underlying48 szInt hg hn hsrc hfit h1, setRow_heap w g cur _ 3 _ hg,
    fun w0 hb hBg => below_setRow hb hBg _⟩
theorem cp_zero (w : World) (g b : Nat) : (Builtin.copy_ #[48, 48] 3 #[.slice (some ⟨g, 0, none⟩) 0 0, .slice (some ⟨b, 0, none⟩) 1 1]).run Tryz.prog w = .ok (goInt 0) w :=
  run_copy_none w 48 48 3 3 _ _ 0 0 1 1 Tryz.underlying48 szInt rfl
theorem s_Repeat_0 (b : Nat) (w : World) : Calls Tryz.prog 149 #[.slice (some ⟨b, 0, none⟩) 1 1, .int .i64 0] w fun e w' => ∃ A c, e = .returned (.slice A 0 c) ∧ Ext w w' := by
  have hmk := fun w => mk_int_0 w
  have hcp := fun W => cp_zero W w.heap.size b
  have HE := Lib.hid ((Ext.refl w).alloc (.cells #[] 3))
  go_enter Tryz.func149, Tryz.ntmps149
  go_wp2_with fail
  refine (b_Mul_0 _).mono ?_
  rintro e w1 ⟨rfl, rfl⟩
  go_wp2_with fail
  go_loopw [8] (fun i wr => i = .int .i64 0 ∧ Ext w wr) (fun _ _ => 0)
  case atStart => exact ⟨rfl, HE.out⟩
  case round =>
    obtain ⟨rfl, hE⟩ := hrel
    go_wp2_with fail
    go_ret
    exact ⟨_, _, rfl, hE⟩
theorem Tp.sixty {w : World} {b n : Nat} (hr : Row w b 3 (Array.replicate n (.int .i64 60))) : Ints w (some ⟨b, 0, none⟩) (List.replicate n 60) := fun _ => ⟨b, 0, rfl, fun k hk => by
  rw [List.length_replicate] at hk
  have h := hr.cell k
  simp [hk] at h
  simpa [rd, hk] using h⟩
theorem s_Repeat_1 (b : Nat) (w : World) (hr : Row w b 3 #[.int .i64 60]) : Calls Tryz.prog 149 #[.slice (some ⟨b, 0, none⟩) 1 1, .int .i64 1] w fun e w' => ∃ A c, e = .returned (.slice A 1 c) ∧ Ints w' A [60] ∧ Ext w w' := by
  have hmk := fun w => mk_int_1 w
  have HN := Lib.hid (Row.new w 3 #[.int .i64 0])
  have HE := Lib.hid ((Ext.refl w).alloc (.cells #[.int .i64 0] 3))
  have HR := Lib.hid (hr.ext HE.out)
  obtain ⟨hcp, hrow, hext⟩ := cp_run _ w.heap.size 0 1 1 ⟨b, 0, none⟩ 1 1 #[.int .i64 0] [.int .i64 60] HN.out rfl (fun j v hj => by
    match j, hj with
    | 0, hj =>
      have := HR.out.cell 0
      simp at hj
      subst hj
      simpa [Addr.add] using this
    | j + 1, hj => simp at hj) (by simp) (by simp [Value.oneCell'])
  have HX := Lib.hid (hext w HE.out (Nat.le_refl _))
  have HW := Lib.hid hrow
  simp only [List.take_zero, List.nil_append, List.length_cons, List.length_nil, Nat.zero_add, List.drop_succ_cons, List.drop_nil, List.append_nil] at hcp HX HW
  clear hrow hext hr
  go_enter Tryz.func149, Tryz.ntmps149
  go_wp2_with fail
  refine (b_Mul_1 _).mono ?_
  rintro e w1 ⟨rfl, rfl⟩
  go_wp2_with fail
  clear hcp
  go_loopw [8] (fun i wr => i = .int .i64 1 ∧ Row wr w.heap.size 3 #[.int .i64 60] ∧ Ext w wr) (fun _ _ => 0)
  case atStart => exact ⟨rfl, HW.out, HX.out⟩
  case round =>
    obtain ⟨rfl, hR, hE⟩ := hrel
    have HR' := Lib.hid hR
    have HE' := Lib.hid hE
    clear hR hE
    go_wp2_with fail
    go_ret
    exact ⟨_, _, rfl, Tp.sixty (n := 1) HR'.out, HE'.out⟩
theorem s_Repeat_2 (b : Nat) (w : World) (hr : Row w b 3 #[.int .i64 60]) : Calls Tryz.prog 149 #[.slice (some ⟨b, 0, none⟩) 1 1, .int .i64 2] w fun e w' => ∃ A c, e = .returned (.slice A 2 c) ∧ Ints w' A [60, 60] ∧ Ext w w' := by
  have hmk := fun w => mk_int_2 w
  have HN := Lib.hid (Row.new w 3 #[.int .i64 0, .int .i64 0])
  have HE := Lib.hid ((Ext.refl w).alloc (.cells #[.int .i64 0, .int .i64 0] 3))
  have HR := Lib.hid (hr.ext HE.out)
  obtain ⟨hcp, hrow, hext⟩ := cp_run _ w.heap.size 0 2 2 ⟨b, 0, none⟩ 1 1 #[.int .i64 0, .int .i64 0] [.int .i64 60] HN.out rfl (fun j v hj => by
    match j, hj with
    | 0, hj =>
      have := HR.out.cell 0
      simp at hj
      subst hj
      simpa [Addr.add] using this
    | j + 1, hj => simp at hj) (by simp) (by simp [Value.oneCell'])
  have HX := Lib.hid (hext w HE.out (Nat.le_refl _))
  have HW := Lib.hid hrow
  simp only [List.take_zero, List.nil_append, List.length_cons, List.length_nil, Nat.zero_add, List.drop_succ_cons, List.drop_zero, List.cons_append] at hcp HX HW
  clear hrow hext hr
  go_enter Tryz.func149, Tryz.ntmps149
  go_wp2_with fail
  refine (b_Mul_2 _).mono ?_
  rintro e w1 ⟨rfl, rfl⟩
  go_wp2_with fail
  clear hcp
  obtain ⟨H, hH⟩ : ∃ H, w.heap.size = H := ⟨_, rfl⟩
  have HH := Lib.hid hH
  rw [hH] at HX HW ⊢
  clear hH
  go_loopw [8] (fun i wr => (i = .int .i64 1 ∧ Row wr H 3 #[.int .i64 60, .int .i64 0] ∧ Ext w wr) ∨ (i = .int .i64 2 ∧ Row wr H 3 #[.int .i64 60, .int .i64 60] ∧ Ext w wr)) (fun i _ => 2 - (intOf i).toNat)
  case atStart => exact .inl ⟨rfl, HW.out, HX.out⟩
  case round =>
    rcases hrel with ⟨rfl, hR, hE⟩ | ⟨rfl, hR, hE⟩
    · obtain ⟨hcp, hrow, hext⟩ := cp_run wr.drew H 1 1 1 ⟨H, 0, none⟩ 1 2 #[.int .i64 60, .int .i64 0] [.int .i64 60] hR.drew rfl (fun j v hj => by
        match j, hj with
        | 0, hj =>
          have := hR.drew.cell 0
          simp at hj
          subst hj
          simpa [Addr.add] using this
        | j + 1, hj => simp at hj) (by simp) (by simp [Value.oneCell'])
      have HX1 := Lib.hid (hext w hE.drew (by rw [HH.out]; exact Nat.le_refl _))
      have HW1 := Lib.hid hrow
      simp only [List.take_succ_cons, List.take_zero, List.nil_append, List.length_cons, List.length_nil, Nat.zero_add, Nat.reduceAdd, List.drop_succ_cons, List.drop_nil, List.append_nil, List.cons_append] at hcp HX1 HW1
      clear hrow hext hR hE
      go_wp2_with fail
      go_region
      go_wp2_with fail
      go_roundw
      case rel => exact .inr ⟨by go_num, HW1.out, HX1.out⟩
      case measure => simp [intOf]
    · have HR' := Lib.hid hR
      have HE' := Lib.hid hE
      clear hR hE
      go_wp2_with fail
      go_ret
      exact ⟨_, _, rfl, Tp.sixty (n := 2) HR'.out, HE'.out⟩
/-- The product of n sixties, made anew: the sizes of the marks. -/
theorem t_sixties_any (A : Option Addr) (c n : Nat) (w : World) (hm : Ints w A (List.replicate n 60)) (hn : n ≤ 2) : Calls Tryz.prog 148 #[.slice A n c] w fun e w' => e = .returned (.int .i64 ((60 ^ n : Nat) : Int)) ∧ w = w' := by
  have h := t_product_any A c (List.replicate n 60) w hm (by rw [List.length_replicate]; omega) (fun k hk => by
    rw [List.length_replicate] at hk
    simp [rd, hk])
  rw [List.length_replicate] at h
  match n, hn, h with
  | 0, _, h => exact h
  | 1, _, h => exact h
  | 2, _, h => exact h
end Go.Proofs.YtimkmokomohgjaaGreat
namespace Go.Proofs.YtimkmokomohgjaaGreat
open Go.RowKit
open Sp (rd)
set_option maxRecDepth 100000
set_option maxHeartbeats 8000000
set_option linter.unusedVariables false
set_option linter.unusedSimpArgs false
theorem Tp.szTurn : (Tryz.prog.info? 68).map (·.size) = some 2 := by kernel_rfl
theorem Tp.cp_run2 (w : World) (g o dLen dCap : Nat) (a : Addr) (sLen sCap cnt : Nat) (cur : Array Value) (cs : List Value) (hg : Row w g 68 cur) (hc : Nat.min sLen dLen = cnt) (hn : cs.length = cnt * 2)
    (hsrc : ∀ j v, cs[j]? = some v → w.cell? (a.add j) = some v) (hfit : o + cs.length ≤ cur.size) (h1 : ∀ v ∈ cs, v.oneCell' = true) :
    (Builtin.copy_ #[59, 59] 3 #[.slice (some ⟨g, o, none⟩) dLen dCap, .slice (some a) sLen sCap]).run Tryz.prog w = .ok (goInt cnt) (w.setRow g (cur.toList.take o ++ cs ++ cur.toList.drop (o + cs.length)).toArray) ∧
      Row (w.setRow g (cur.toList.take o ++ cs ++ cur.toList.drop (o + cs.length)).toArray) g 68 (cur.toList.take o ++ cs ++ cur.toList.drop (o + cs.length)).toArray ∧
      (∀ w0, Ext w0 w → w0.heap.size ≤ g → Ext w0 (w.setRow g (cur.toList.take o ++ cs ++ cur.toList.drop (o + cs.length)).toArray)) := by
  refine ⟨?_, setRow_heap w g cur _ 68 _ hg, fun w0 hb hBg => below_setRow hb hBg _⟩
  have hl := run_loadCells_list (P := Tryz.prog) w a cs hsrc
  have hst := run_storeCells_at Tryz.prog g o 68 cs 0 cur w hg (by simpa using hfit) h1
  have hs := Tp.szTurn
  cases hq : Tryz.prog.info? 68 with
  | none => simp [hq] at hs
  | some i =>
    have hi : i.size = 2 := by simpa [hq] using hs
    simp [Builtin.copy_, run_underlying Tryz.underlying59, Builtin.lenOf, Builtin.firstCells, sizeOf, typeInfo, hq, hi, hc, ← hn, hl, hst]
theorem b_Mul64_4 (w : World) : Calls Tryz.prog 200 #[.int .u64 1, .int .u64 4] w fun e w' => e = .returned (.tuple #[.int .u64 0, .int .u64 4]) ∧ w = w' := by
  go_enter Tryz.func200, Tryz.ntmps200
  go_wp2_with fail
  go_ret2
  exact ⟨rfl, rfl⟩
theorem b_Mul_4 (w : World) : Calls Tryz.prog 171 #[.int .u64 1, .int .u64 4] w fun e w' => e = .returned (.tuple #[.int .u64 0, .int .u64 4]) ∧ w = w' := by
  go_enter Tryz.func171, Tryz.ntmps171
  go_wp2_with fail
  refine (b_Mul64_4 _).mono ?_
  rintro e w1 ⟨rfl, rfl⟩
  go_wp2_with fail
  go_ret2
  exact ⟨rfl, rfl⟩
theorem b_Mul64_6 (w : World) : Calls Tryz.prog 200 #[.int .u64 1, .int .u64 6] w fun e w' => e = .returned (.tuple #[.int .u64 0, .int .u64 6]) ∧ w = w' := by
  go_enter Tryz.func200, Tryz.ntmps200
  go_wp2_with fail
  go_ret2
  exact ⟨rfl, rfl⟩
theorem b_Mul_6 (w : World) : Calls Tryz.prog 171 #[.int .u64 1, .int .u64 6] w fun e w' => e = .returned (.tuple #[.int .u64 0, .int .u64 6]) ∧ w = w' := by
  go_enter Tryz.func171, Tryz.ntmps171
  go_wp2_with fail
  refine (b_Mul64_6 _).mono ?_
  rintro e w1 ⟨rfl, rfl⟩
  go_wp2_with fail
  go_ret2
  exact ⟨rfl, rfl⟩
theorem b_Mul64_8 (w : World) : Calls Tryz.prog 200 #[.int .u64 1, .int .u64 8] w fun e w' => e = .returned (.tuple #[.int .u64 0, .int .u64 8]) ∧ w = w' := by
  go_enter Tryz.func200, Tryz.ntmps200
  go_wp2_with fail
  go_ret2
  exact ⟨rfl, rfl⟩
theorem b_Mul_8 (w : World) : Calls Tryz.prog 171 #[.int .u64 1, .int .u64 8] w fun e w' => e = .returned (.tuple #[.int .u64 0, .int .u64 8]) ∧ w = w' := by
  go_enter Tryz.func171, Tryz.ntmps171
  go_wp2_with fail
  refine (b_Mul64_8 _).mono ?_
  rintro e w1 ⟨rfl, rfl⟩
  go_wp2_with fail
  go_ret2
  exact ⟨rfl, rfl⟩
theorem pl_mk_2 (w : World) : (Instr.makeSlice 59 (.int .i64 2) (.int .i64 2)).run Tryz.prog w = .ok (.slice (some ⟨w.heap.size, 0, none⟩) 2 2) (w.alloc (.cells #[.int .i64 0, .int .i64 0, .int .i64 0, .int .i64 0] 68)) := by kernel_rfl
theorem pl_Repeat_2 (b : Nat) (w : World) (hr : Row w b 68 #[.int .i64 0, .int .i64 1]) : Calls Tryz.prog 118 #[.slice (some ⟨b, 0, none⟩) 1 1, .int .i64 2] w fun e w' => e = .returned (.slice (some ⟨w.heap.size, 0, none⟩) 2 2) ∧ Row w' w.heap.size 68 #[.int .i64 0, .int .i64 1, .int .i64 0, .int .i64 1] ∧ Ext w w' := by
  have hmk := fun w => pl_mk_2 w
  have HN := Lib.hid (Row.new w 68 #[.int .i64 0, .int .i64 0, .int .i64 0, .int .i64 0])
  have HE := Lib.hid ((Ext.refl w).alloc (.cells #[.int .i64 0, .int .i64 0, .int .i64 0, .int .i64 0] 68))
  have HR := Lib.hid (hr.ext HE.out)
  obtain ⟨hcp, hrow, hext⟩ := Tp.cp_run2 _ w.heap.size 0 2 2 ⟨b, 0, none⟩ 1 1 1 #[.int .i64 0, .int .i64 0, .int .i64 0, .int .i64 0] [.int .i64 0, .int .i64 1] HN.out rfl rfl (fun j v hj => by
      have hr := HR.out
      match j, hj with
      | 0, hj =>
        have := hr.cell 0
        simp at hj
        subst hj
        simpa [Addr.add] using this
      | 1, hj =>
        have := hr.cell 1
        simp at hj
        subst hj
        simpa [Addr.add] using this
      | j + 2, hj => simp at hj) (by simp) (by simp [Value.oneCell'])
  have HX := Lib.hid (hext w HE.out (Nat.le_refl _))
  have HW := Lib.hid hrow
  simp only [List.take_succ_cons, List.take_zero, List.nil_append, List.length_cons, List.length_nil, Nat.zero_add, Nat.reduceAdd, List.drop_succ_cons, List.drop_zero, List.drop_nil, List.append_nil, List.cons_append] at hcp HX HW
  clear hrow hext hr
  go_enter Tryz.func118, Tryz.ntmps118
  go_wp2_with fail
  refine (b_Mul_2 _).mono ?_
  rintro e w1 ⟨rfl, rfl⟩
  go_wp2_with fail
  clear hcp
  obtain ⟨H, hH⟩ : ∃ H, w.heap.size = H := ⟨_, rfl⟩
  have HH := Lib.hid hH
  rw [hH] at HX HW ⊢
  clear hH hmk
  go_loopw [8] (fun i wr => (i = .int .i64 1 ∧ Row wr H 68 #[.int .i64 0, .int .i64 1, .int .i64 0, .int .i64 0] ∧ Ext w wr) ∨ (i = .int .i64 2 ∧ Row wr H 68 #[.int .i64 0, .int .i64 1, .int .i64 0, .int .i64 1] ∧ Ext w wr)) (fun i _ => 2 - (intOf i).toNat)
  case atStart => exact .inl ⟨rfl, HW.out, HX.out⟩
  case round =>
    rcases hrel with ⟨rfl, hR, hE⟩ | ⟨rfl, hR, hE⟩
    · obtain ⟨hcp, hrow, hext⟩ := Tp.cp_run2 wr.drew H 2 1 1 ⟨H, 0, none⟩ 1 2 1 #[.int .i64 0, .int .i64 1, .int .i64 0, .int .i64 0] [.int .i64 0, .int .i64 1] hR.drew rfl rfl (fun j v hj => by
          have hr := hR.drew
          match j, hj with
          | 0, hj =>
            have := hr.cell 0
            simp at hj
            subst hj
            simpa [Addr.add] using this
          | 1, hj =>
            have := hr.cell 1
            simp at hj
            subst hj
            simpa [Addr.add] using this
          | j + 2, hj => simp at hj) (by simp) (by simp [Value.oneCell'])
      have HX1 := Lib.hid (hext w hE.drew (by rw [HH.out]; exact Nat.le_refl _))
      have HW1 := Lib.hid hrow
      simp only [List.take_succ_cons, List.take_zero, List.nil_append, List.length_cons, List.length_nil, Nat.zero_add, Nat.reduceAdd, List.drop_succ_cons, List.drop_zero, List.drop_nil, List.append_nil, List.cons_append] at hcp HX1 HW1
      clear hrow hext hR hE
      go_wp2_with fail
      go_region
      go_wp2_with fail
      go_roundw
      case rel => exact .inr (⟨by go_num, HW1.out, HX1.out⟩)
      case measure => simp [intOf]
    · have HR' := Lib.hid hR
      have HE' := Lib.hid hE
      clear hR hE
      go_wp2_with fail
      go_ret
      rw [HH.out]
      exact ⟨rfl, HR'.out, HE'.out⟩
theorem pl_mk_4 (w : World) : (Instr.makeSlice 59 (.int .i64 4) (.int .i64 4)).run Tryz.prog w = .ok (.slice (some ⟨w.heap.size, 0, none⟩) 4 4) (w.alloc (.cells #[.int .i64 0, .int .i64 0, .int .i64 0, .int .i64 0, .int .i64 0, .int .i64 0, .int .i64 0, .int .i64 0] 68)) := by kernel_rfl
theorem pl_Repeat_4 (b : Nat) (w : World) (hr : Row w b 68 #[.int .i64 0, .int .i64 1]) : Calls Tryz.prog 118 #[.slice (some ⟨b, 0, none⟩) 1 1, .int .i64 4] w fun e w' => e = .returned (.slice (some ⟨w.heap.size, 0, none⟩) 4 4) ∧ Row w' w.heap.size 68 #[.int .i64 0, .int .i64 1, .int .i64 0, .int .i64 1, .int .i64 0, .int .i64 1, .int .i64 0, .int .i64 1] ∧ Ext w w' := by
  have hmk := fun w => pl_mk_4 w
  have HN := Lib.hid (Row.new w 68 #[.int .i64 0, .int .i64 0, .int .i64 0, .int .i64 0, .int .i64 0, .int .i64 0, .int .i64 0, .int .i64 0])
  have HE := Lib.hid ((Ext.refl w).alloc (.cells #[.int .i64 0, .int .i64 0, .int .i64 0, .int .i64 0, .int .i64 0, .int .i64 0, .int .i64 0, .int .i64 0] 68))
  have HR := Lib.hid (hr.ext HE.out)
  obtain ⟨hcp, hrow, hext⟩ := Tp.cp_run2 _ w.heap.size 0 4 4 ⟨b, 0, none⟩ 1 1 1 #[.int .i64 0, .int .i64 0, .int .i64 0, .int .i64 0, .int .i64 0, .int .i64 0, .int .i64 0, .int .i64 0] [.int .i64 0, .int .i64 1] HN.out rfl rfl (fun j v hj => by
      have hr := HR.out
      match j, hj with
      | 0, hj =>
        have := hr.cell 0
        simp at hj
        subst hj
        simpa [Addr.add] using this
      | 1, hj =>
        have := hr.cell 1
        simp at hj
        subst hj
        simpa [Addr.add] using this
      | j + 2, hj => simp at hj) (by simp) (by simp [Value.oneCell'])
  have HX := Lib.hid (hext w HE.out (Nat.le_refl _))
  have HW := Lib.hid hrow
  simp only [List.take_succ_cons, List.take_zero, List.nil_append, List.length_cons, List.length_nil, Nat.zero_add, Nat.reduceAdd, List.drop_succ_cons, List.drop_zero, List.drop_nil, List.append_nil, List.cons_append] at hcp HX HW
  clear hrow hext hr
  go_enter Tryz.func118, Tryz.ntmps118
  go_wp2_with fail
  refine (b_Mul_4 _).mono ?_
  rintro e w1 ⟨rfl, rfl⟩
  go_wp2_with fail
  clear hcp
  obtain ⟨H, hH⟩ : ∃ H, w.heap.size = H := ⟨_, rfl⟩
  have HH := Lib.hid hH
  rw [hH] at HX HW ⊢
  clear hH hmk
  go_loopw [8] (fun i wr => (i = .int .i64 1 ∧ Row wr H 68 #[.int .i64 0, .int .i64 1, .int .i64 0, .int .i64 0, .int .i64 0, .int .i64 0, .int .i64 0, .int .i64 0] ∧ Ext w wr) ∨ (i = .int .i64 2 ∧ Row wr H 68 #[.int .i64 0, .int .i64 1, .int .i64 0, .int .i64 1, .int .i64 0, .int .i64 0, .int .i64 0, .int .i64 0] ∧ Ext w wr) ∨ (i = .int .i64 4 ∧ Row wr H 68 #[.int .i64 0, .int .i64 1, .int .i64 0, .int .i64 1, .int .i64 0, .int .i64 1, .int .i64 0, .int .i64 1] ∧ Ext w wr)) (fun i _ => 4 - (intOf i).toNat)
  case atStart => exact .inl ⟨rfl, HW.out, HX.out⟩
  case round =>
    rcases hrel with ⟨rfl, hR, hE⟩ | ⟨rfl, hR, hE⟩ | ⟨rfl, hR, hE⟩
    · obtain ⟨hcp, hrow, hext⟩ := Tp.cp_run2 wr.drew H 2 3 3 ⟨H, 0, none⟩ 1 4 1 #[.int .i64 0, .int .i64 1, .int .i64 0, .int .i64 0, .int .i64 0, .int .i64 0, .int .i64 0, .int .i64 0] [.int .i64 0, .int .i64 1] hR.drew rfl rfl (fun j v hj => by
          have hr := hR.drew
          match j, hj with
          | 0, hj =>
            have := hr.cell 0
            simp at hj
            subst hj
            simpa [Addr.add] using this
          | 1, hj =>
            have := hr.cell 1
            simp at hj
            subst hj
            simpa [Addr.add] using this
          | j + 2, hj => simp at hj) (by simp) (by simp [Value.oneCell'])
      have HX1 := Lib.hid (hext w hE.drew (by rw [HH.out]; exact Nat.le_refl _))
      have HW1 := Lib.hid hrow
      simp only [List.take_succ_cons, List.take_zero, List.nil_append, List.length_cons, List.length_nil, Nat.zero_add, Nat.reduceAdd, List.drop_succ_cons, List.drop_zero, List.drop_nil, List.append_nil, List.cons_append] at hcp HX1 HW1
      clear hrow hext hR hE
      go_wp2_with fail
      go_region
      go_wp2_with fail
      go_roundw
      case rel => exact .inr (.inl ⟨by go_num, HW1.out, HX1.out⟩)
      case measure => simp [intOf]
    · obtain ⟨hcp, hrow, hext⟩ := Tp.cp_run2 wr.drew H 4 2 2 ⟨H, 0, none⟩ 2 4 2 #[.int .i64 0, .int .i64 1, .int .i64 0, .int .i64 1, .int .i64 0, .int .i64 0, .int .i64 0, .int .i64 0] [.int .i64 0, .int .i64 1, .int .i64 0, .int .i64 1] hR.drew rfl rfl (fun j v hj => by
          have hr := hR.drew
          match j, hj with
          | 0, hj =>
            have := hr.cell 0
            simp at hj
            subst hj
            simpa [Addr.add] using this
          | 1, hj =>
            have := hr.cell 1
            simp at hj
            subst hj
            simpa [Addr.add] using this
          | 2, hj =>
            have := hr.cell 2
            simp at hj
            subst hj
            simpa [Addr.add] using this
          | 3, hj =>
            have := hr.cell 3
            simp at hj
            subst hj
            simpa [Addr.add] using this
          | j + 4, hj => simp at hj) (by simp) (by simp [Value.oneCell'])
      have HX1 := Lib.hid (hext w hE.drew (by rw [HH.out]; exact Nat.le_refl _))
      have HW1 := Lib.hid hrow
      simp only [List.take_succ_cons, List.take_zero, List.nil_append, List.length_cons, List.length_nil, Nat.zero_add, Nat.reduceAdd, List.drop_succ_cons, List.drop_zero, List.drop_nil, List.append_nil, List.cons_append] at hcp HX1 HW1
      clear hrow hext hR hE
      go_wp2_with fail
      go_region
      go_wp2_with fail
      go_roundw
      case rel => exact .inr (.inr (⟨by go_num, HW1.out, HX1.out⟩))
      case measure => simp [intOf]
    · have HR' := Lib.hid hR
      have HE' := Lib.hid hE
      clear hR hE
      go_wp2_with fail
      go_ret
      rw [HH.out]
      exact ⟨rfl, HR'.out, HE'.out⟩
theorem pl_mk_6 (w : World) : (Instr.makeSlice 59 (.int .i64 6) (.int .i64 6)).run Tryz.prog w = .ok (.slice (some ⟨w.heap.size, 0, none⟩) 6 6) (w.alloc (.cells #[.int .i64 0, .int .i64 0, .int .i64 0, .int .i64 0, .int .i64 0, .int .i64 0, .int .i64 0, .int .i64 0, .int .i64 0, .int .i64 0, .int .i64 0, .int .i64 0] 68)) := by kernel_rfl
theorem pl_Repeat_6 (b : Nat) (w : World) (hr : Row w b 68 #[.int .i64 0, .int .i64 1]) : Calls Tryz.prog 118 #[.slice (some ⟨b, 0, none⟩) 1 1, .int .i64 6] w fun e w' => e = .returned (.slice (some ⟨w.heap.size, 0, none⟩) 6 6) ∧ Row w' w.heap.size 68 #[.int .i64 0, .int .i64 1, .int .i64 0, .int .i64 1, .int .i64 0, .int .i64 1, .int .i64 0, .int .i64 1, .int .i64 0, .int .i64 1, .int .i64 0, .int .i64 1] ∧ Ext w w' := by
  have hmk := fun w => pl_mk_6 w
  have HN := Lib.hid (Row.new w 68 #[.int .i64 0, .int .i64 0, .int .i64 0, .int .i64 0, .int .i64 0, .int .i64 0, .int .i64 0, .int .i64 0, .int .i64 0, .int .i64 0, .int .i64 0, .int .i64 0])
  have HE := Lib.hid ((Ext.refl w).alloc (.cells #[.int .i64 0, .int .i64 0, .int .i64 0, .int .i64 0, .int .i64 0, .int .i64 0, .int .i64 0, .int .i64 0, .int .i64 0, .int .i64 0, .int .i64 0, .int .i64 0] 68))
  have HR := Lib.hid (hr.ext HE.out)
  obtain ⟨hcp, hrow, hext⟩ := Tp.cp_run2 _ w.heap.size 0 6 6 ⟨b, 0, none⟩ 1 1 1 #[.int .i64 0, .int .i64 0, .int .i64 0, .int .i64 0, .int .i64 0, .int .i64 0, .int .i64 0, .int .i64 0, .int .i64 0, .int .i64 0, .int .i64 0, .int .i64 0] [.int .i64 0, .int .i64 1] HN.out rfl rfl (fun j v hj => by
      have hr := HR.out
      match j, hj with
      | 0, hj =>
        have := hr.cell 0
        simp at hj
        subst hj
        simpa [Addr.add] using this
      | 1, hj =>
        have := hr.cell 1
        simp at hj
        subst hj
        simpa [Addr.add] using this
      | j + 2, hj => simp at hj) (by simp) (by simp [Value.oneCell'])
  have HX := Lib.hid (hext w HE.out (Nat.le_refl _))
  have HW := Lib.hid hrow
  simp only [List.take_succ_cons, List.take_zero, List.nil_append, List.length_cons, List.length_nil, Nat.zero_add, Nat.reduceAdd, List.drop_succ_cons, List.drop_zero, List.drop_nil, List.append_nil, List.cons_append] at hcp HX HW
  clear hrow hext hr
  go_enter Tryz.func118, Tryz.ntmps118
  go_wp2_with fail
  refine (b_Mul_6 _).mono ?_
  rintro e w1 ⟨rfl, rfl⟩
  go_wp2_with fail
  clear hcp
  obtain ⟨H, hH⟩ : ∃ H, w.heap.size = H := ⟨_, rfl⟩
  have HH := Lib.hid hH
  rw [hH] at HX HW ⊢
  clear hH hmk
  go_loopw [8] (fun i wr => (i = .int .i64 1 ∧ Row wr H 68 #[.int .i64 0, .int .i64 1, .int .i64 0, .int .i64 0, .int .i64 0, .int .i64 0, .int .i64 0, .int .i64 0, .int .i64 0, .int .i64 0, .int .i64 0, .int .i64 0] ∧ Ext w wr) ∨ (i = .int .i64 2 ∧ Row wr H 68 #[.int .i64 0, .int .i64 1, .int .i64 0, .int .i64 1, .int .i64 0, .int .i64 0, .int .i64 0, .int .i64 0, .int .i64 0, .int .i64 0, .int .i64 0, .int .i64 0] ∧ Ext w wr) ∨ (i = .int .i64 4 ∧ Row wr H 68 #[.int .i64 0, .int .i64 1, .int .i64 0, .int .i64 1, .int .i64 0, .int .i64 1, .int .i64 0, .int .i64 1, .int .i64 0, .int .i64 0, .int .i64 0, .int .i64 0] ∧ Ext w wr) ∨ (i = .int .i64 6 ∧ Row wr H 68 #[.int .i64 0, .int .i64 1, .int .i64 0, .int .i64 1, .int .i64 0, .int .i64 1, .int .i64 0, .int .i64 1, .int .i64 0, .int .i64 1, .int .i64 0, .int .i64 1] ∧ Ext w wr)) (fun i _ => 6 - (intOf i).toNat)
  case atStart => exact .inl ⟨rfl, HW.out, HX.out⟩
  case round =>
    rcases hrel with ⟨rfl, hR, hE⟩ | ⟨rfl, hR, hE⟩ | ⟨rfl, hR, hE⟩ | ⟨rfl, hR, hE⟩
    · obtain ⟨hcp, hrow, hext⟩ := Tp.cp_run2 wr.drew H 2 5 5 ⟨H, 0, none⟩ 1 6 1 #[.int .i64 0, .int .i64 1, .int .i64 0, .int .i64 0, .int .i64 0, .int .i64 0, .int .i64 0, .int .i64 0, .int .i64 0, .int .i64 0, .int .i64 0, .int .i64 0] [.int .i64 0, .int .i64 1] hR.drew rfl rfl (fun j v hj => by
          have hr := hR.drew
          match j, hj with
          | 0, hj =>
            have := hr.cell 0
            simp at hj
            subst hj
            simpa [Addr.add] using this
          | 1, hj =>
            have := hr.cell 1
            simp at hj
            subst hj
            simpa [Addr.add] using this
          | j + 2, hj => simp at hj) (by simp) (by simp [Value.oneCell'])
      have HX1 := Lib.hid (hext w hE.drew (by rw [HH.out]; exact Nat.le_refl _))
      have HW1 := Lib.hid hrow
      simp only [List.take_succ_cons, List.take_zero, List.nil_append, List.length_cons, List.length_nil, Nat.zero_add, Nat.reduceAdd, List.drop_succ_cons, List.drop_zero, List.drop_nil, List.append_nil, List.cons_append] at hcp HX1 HW1
      clear hrow hext hR hE
      go_wp2_with fail
      go_region
      go_wp2_with fail
      go_roundw
      case rel => exact .inr (.inl ⟨by go_num, HW1.out, HX1.out⟩)
      case measure => simp [intOf]
    · obtain ⟨hcp, hrow, hext⟩ := Tp.cp_run2 wr.drew H 4 4 4 ⟨H, 0, none⟩ 2 6 2 #[.int .i64 0, .int .i64 1, .int .i64 0, .int .i64 1, .int .i64 0, .int .i64 0, .int .i64 0, .int .i64 0, .int .i64 0, .int .i64 0, .int .i64 0, .int .i64 0] [.int .i64 0, .int .i64 1, .int .i64 0, .int .i64 1] hR.drew rfl rfl (fun j v hj => by
          have hr := hR.drew
          match j, hj with
          | 0, hj =>
            have := hr.cell 0
            simp at hj
            subst hj
            simpa [Addr.add] using this
          | 1, hj =>
            have := hr.cell 1
            simp at hj
            subst hj
            simpa [Addr.add] using this
          | 2, hj =>
            have := hr.cell 2
            simp at hj
            subst hj
            simpa [Addr.add] using this
          | 3, hj =>
            have := hr.cell 3
            simp at hj
            subst hj
            simpa [Addr.add] using this
          | j + 4, hj => simp at hj) (by simp) (by simp [Value.oneCell'])
      have HX1 := Lib.hid (hext w hE.drew (by rw [HH.out]; exact Nat.le_refl _))
      have HW1 := Lib.hid hrow
      simp only [List.take_succ_cons, List.take_zero, List.nil_append, List.length_cons, List.length_nil, Nat.zero_add, Nat.reduceAdd, List.drop_succ_cons, List.drop_zero, List.drop_nil, List.append_nil, List.cons_append] at hcp HX1 HW1
      clear hrow hext hR hE
      go_wp2_with fail
      go_region
      go_wp2_with fail
      go_roundw
      case rel => exact .inr (.inr (.inl ⟨by go_num, HW1.out, HX1.out⟩))
      case measure => simp [intOf]
    · obtain ⟨hcp, hrow, hext⟩ := Tp.cp_run2 wr.drew H 8 2 2 ⟨H, 0, none⟩ 4 6 2 #[.int .i64 0, .int .i64 1, .int .i64 0, .int .i64 1, .int .i64 0, .int .i64 1, .int .i64 0, .int .i64 1, .int .i64 0, .int .i64 0, .int .i64 0, .int .i64 0] [.int .i64 0, .int .i64 1, .int .i64 0, .int .i64 1] hR.drew rfl rfl (fun j v hj => by
          have hr := hR.drew
          match j, hj with
          | 0, hj =>
            have := hr.cell 0
            simp at hj
            subst hj
            simpa [Addr.add] using this
          | 1, hj =>
            have := hr.cell 1
            simp at hj
            subst hj
            simpa [Addr.add] using this
          | 2, hj =>
            have := hr.cell 2
            simp at hj
            subst hj
            simpa [Addr.add] using this
          | 3, hj =>
            have := hr.cell 3
            simp at hj
            subst hj
            simpa [Addr.add] using this
          | j + 4, hj => simp at hj) (by simp) (by simp [Value.oneCell'])
      have HX1 := Lib.hid (hext w hE.drew (by rw [HH.out]; exact Nat.le_refl _))
      have HW1 := Lib.hid hrow
      simp only [List.take_succ_cons, List.take_zero, List.nil_append, List.length_cons, List.length_nil, Nat.zero_add, Nat.reduceAdd, List.drop_succ_cons, List.drop_zero, List.drop_nil, List.append_nil, List.cons_append] at hcp HX1 HW1
      clear hrow hext hR hE
      go_wp2_with fail
      go_region
      go_wp2_with fail
      go_roundw
      case rel => exact .inr (.inr (.inr (⟨by go_num, HW1.out, HX1.out⟩)))
      case measure => simp [intOf]
    · have HR' := Lib.hid hR
      have HE' := Lib.hid hE
      clear hR hE
      go_wp2_with fail
      go_ret
      rw [HH.out]
      exact ⟨rfl, HR'.out, HE'.out⟩
theorem pl_mk_8 (w : World) : (Instr.makeSlice 59 (.int .i64 8) (.int .i64 8)).run Tryz.prog w = .ok (.slice (some ⟨w.heap.size, 0, none⟩) 8 8) (w.alloc (.cells #[.int .i64 0, .int .i64 0, .int .i64 0, .int .i64 0, .int .i64 0, .int .i64 0, .int .i64 0, .int .i64 0, .int .i64 0, .int .i64 0, .int .i64 0, .int .i64 0, .int .i64 0, .int .i64 0, .int .i64 0, .int .i64 0] 68)) := by kernel_rfl
theorem pl_Repeat_8 (b : Nat) (w : World) (hr : Row w b 68 #[.int .i64 0, .int .i64 1]) : Calls Tryz.prog 118 #[.slice (some ⟨b, 0, none⟩) 1 1, .int .i64 8] w fun e w' => e = .returned (.slice (some ⟨w.heap.size, 0, none⟩) 8 8) ∧ Row w' w.heap.size 68 #[.int .i64 0, .int .i64 1, .int .i64 0, .int .i64 1, .int .i64 0, .int .i64 1, .int .i64 0, .int .i64 1, .int .i64 0, .int .i64 1, .int .i64 0, .int .i64 1, .int .i64 0, .int .i64 1, .int .i64 0, .int .i64 1] ∧ Ext w w' := by
  have hmk := fun w => pl_mk_8 w
  have HN := Lib.hid (Row.new w 68 #[.int .i64 0, .int .i64 0, .int .i64 0, .int .i64 0, .int .i64 0, .int .i64 0, .int .i64 0, .int .i64 0, .int .i64 0, .int .i64 0, .int .i64 0, .int .i64 0, .int .i64 0, .int .i64 0, .int .i64 0, .int .i64 0])
  have HE := Lib.hid ((Ext.refl w).alloc (.cells #[.int .i64 0, .int .i64 0, .int .i64 0, .int .i64 0, .int .i64 0, .int .i64 0, .int .i64 0, .int .i64 0, .int .i64 0, .int .i64 0, .int .i64 0, .int .i64 0, .int .i64 0, .int .i64 0, .int .i64 0, .int .i64 0] 68))
  have HR := Lib.hid (hr.ext HE.out)
  obtain ⟨hcp, hrow, hext⟩ := Tp.cp_run2 _ w.heap.size 0 8 8 ⟨b, 0, none⟩ 1 1 1 #[.int .i64 0, .int .i64 0, .int .i64 0, .int .i64 0, .int .i64 0, .int .i64 0, .int .i64 0, .int .i64 0, .int .i64 0, .int .i64 0, .int .i64 0, .int .i64 0, .int .i64 0, .int .i64 0, .int .i64 0, .int .i64 0] [.int .i64 0, .int .i64 1] HN.out rfl rfl (fun j v hj => by
      have hr := HR.out
      match j, hj with
      | 0, hj =>
        have := hr.cell 0
        simp at hj
        subst hj
        simpa [Addr.add] using this
      | 1, hj =>
        have := hr.cell 1
        simp at hj
        subst hj
        simpa [Addr.add] using this
      | j + 2, hj => simp at hj) (by simp) (by simp [Value.oneCell'])
  have HX := Lib.hid (hext w HE.out (Nat.le_refl _))
  have HW := Lib.hid hrow
  simp only [List.take_succ_cons, List.take_zero, List.nil_append, List.length_cons, List.length_nil, Nat.zero_add, Nat.reduceAdd, List.drop_succ_cons, List.drop_zero, List.drop_nil, List.append_nil, List.cons_append] at hcp HX HW
  clear hrow hext hr
  go_enter Tryz.func118, Tryz.ntmps118
  go_wp2_with fail
  refine (b_Mul_8 _).mono ?_
  rintro e w1 ⟨rfl, rfl⟩
  go_wp2_with fail
  clear hcp
  obtain ⟨H, hH⟩ : ∃ H, w.heap.size = H := ⟨_, rfl⟩
  have HH := Lib.hid hH
  rw [hH] at HX HW ⊢
  clear hH hmk
  go_loopw [8] (fun i wr => (i = .int .i64 1 ∧ Row wr H 68 #[.int .i64 0, .int .i64 1, .int .i64 0, .int .i64 0, .int .i64 0, .int .i64 0, .int .i64 0, .int .i64 0, .int .i64 0, .int .i64 0, .int .i64 0, .int .i64 0, .int .i64 0, .int .i64 0, .int .i64 0, .int .i64 0] ∧ Ext w wr) ∨ (i = .int .i64 2 ∧ Row wr H 68 #[.int .i64 0, .int .i64 1, .int .i64 0, .int .i64 1, .int .i64 0, .int .i64 0, .int .i64 0, .int .i64 0, .int .i64 0, .int .i64 0, .int .i64 0, .int .i64 0, .int .i64 0, .int .i64 0, .int .i64 0, .int .i64 0] ∧ Ext w wr) ∨ (i = .int .i64 4 ∧ Row wr H 68 #[.int .i64 0, .int .i64 1, .int .i64 0, .int .i64 1, .int .i64 0, .int .i64 1, .int .i64 0, .int .i64 1, .int .i64 0, .int .i64 0, .int .i64 0, .int .i64 0, .int .i64 0, .int .i64 0, .int .i64 0, .int .i64 0] ∧ Ext w wr) ∨ (i = .int .i64 8 ∧ Row wr H 68 #[.int .i64 0, .int .i64 1, .int .i64 0, .int .i64 1, .int .i64 0, .int .i64 1, .int .i64 0, .int .i64 1, .int .i64 0, .int .i64 1, .int .i64 0, .int .i64 1, .int .i64 0, .int .i64 1, .int .i64 0, .int .i64 1] ∧ Ext w wr)) (fun i _ => 8 - (intOf i).toNat)
  case atStart => exact .inl ⟨rfl, HW.out, HX.out⟩
  case round =>
    rcases hrel with ⟨rfl, hR, hE⟩ | ⟨rfl, hR, hE⟩ | ⟨rfl, hR, hE⟩ | ⟨rfl, hR, hE⟩
    · obtain ⟨hcp, hrow, hext⟩ := Tp.cp_run2 wr.drew H 2 7 7 ⟨H, 0, none⟩ 1 8 1 #[.int .i64 0, .int .i64 1, .int .i64 0, .int .i64 0, .int .i64 0, .int .i64 0, .int .i64 0, .int .i64 0, .int .i64 0, .int .i64 0, .int .i64 0, .int .i64 0, .int .i64 0, .int .i64 0, .int .i64 0, .int .i64 0] [.int .i64 0, .int .i64 1] hR.drew rfl rfl (fun j v hj => by
          have hr := hR.drew
          match j, hj with
          | 0, hj =>
            have := hr.cell 0
            simp at hj
            subst hj
            simpa [Addr.add] using this
          | 1, hj =>
            have := hr.cell 1
            simp at hj
            subst hj
            simpa [Addr.add] using this
          | j + 2, hj => simp at hj) (by simp) (by simp [Value.oneCell'])
      have HX1 := Lib.hid (hext w hE.drew (by rw [HH.out]; exact Nat.le_refl _))
      have HW1 := Lib.hid hrow
      simp only [List.take_succ_cons, List.take_zero, List.nil_append, List.length_cons, List.length_nil, Nat.zero_add, Nat.reduceAdd, List.drop_succ_cons, List.drop_zero, List.drop_nil, List.append_nil, List.cons_append] at hcp HX1 HW1
      clear hrow hext hR hE
      go_wp2_with fail
      go_region
      go_wp2_with fail
      go_roundw
      case rel => exact .inr (.inl ⟨by go_num, HW1.out, HX1.out⟩)
      case measure => simp [intOf]
    · obtain ⟨hcp, hrow, hext⟩ := Tp.cp_run2 wr.drew H 4 6 6 ⟨H, 0, none⟩ 2 8 2 #[.int .i64 0, .int .i64 1, .int .i64 0, .int .i64 1, .int .i64 0, .int .i64 0, .int .i64 0, .int .i64 0, .int .i64 0, .int .i64 0, .int .i64 0, .int .i64 0, .int .i64 0, .int .i64 0, .int .i64 0, .int .i64 0] [.int .i64 0, .int .i64 1, .int .i64 0, .int .i64 1] hR.drew rfl rfl (fun j v hj => by
          have hr := hR.drew
          match j, hj with
          | 0, hj =>
            have := hr.cell 0
            simp at hj
            subst hj
            simpa [Addr.add] using this
          | 1, hj =>
            have := hr.cell 1
            simp at hj
            subst hj
            simpa [Addr.add] using this
          | 2, hj =>
            have := hr.cell 2
            simp at hj
            subst hj
            simpa [Addr.add] using this
          | 3, hj =>
            have := hr.cell 3
            simp at hj
            subst hj
            simpa [Addr.add] using this
          | j + 4, hj => simp at hj) (by simp) (by simp [Value.oneCell'])
      have HX1 := Lib.hid (hext w hE.drew (by rw [HH.out]; exact Nat.le_refl _))
      have HW1 := Lib.hid hrow
      simp only [List.take_succ_cons, List.take_zero, List.nil_append, List.length_cons, List.length_nil, Nat.zero_add, Nat.reduceAdd, List.drop_succ_cons, List.drop_zero, List.drop_nil, List.append_nil, List.cons_append] at hcp HX1 HW1
      clear hrow hext hR hE
      go_wp2_with fail
      go_region
      go_wp2_with fail
      go_roundw
      case rel => exact .inr (.inr (.inl ⟨by go_num, HW1.out, HX1.out⟩))
      case measure => simp [intOf]
    · obtain ⟨hcp, hrow, hext⟩ := Tp.cp_run2 wr.drew H 8 4 4 ⟨H, 0, none⟩ 4 8 4 #[.int .i64 0, .int .i64 1, .int .i64 0, .int .i64 1, .int .i64 0, .int .i64 1, .int .i64 0, .int .i64 1, .int .i64 0, .int .i64 0, .int .i64 0, .int .i64 0, .int .i64 0, .int .i64 0, .int .i64 0, .int .i64 0] [.int .i64 0, .int .i64 1, .int .i64 0, .int .i64 1, .int .i64 0, .int .i64 1, .int .i64 0, .int .i64 1] hR.drew rfl rfl (fun j v hj => by
          have hr := hR.drew
          match j, hj with
          | 0, hj =>
            have := hr.cell 0
            simp at hj
            subst hj
            simpa [Addr.add] using this
          | 1, hj =>
            have := hr.cell 1
            simp at hj
            subst hj
            simpa [Addr.add] using this
          | 2, hj =>
            have := hr.cell 2
            simp at hj
            subst hj
            simpa [Addr.add] using this
          | 3, hj =>
            have := hr.cell 3
            simp at hj
            subst hj
            simpa [Addr.add] using this
          | 4, hj =>
            have := hr.cell 4
            simp at hj
            subst hj
            simpa [Addr.add] using this
          | 5, hj =>
            have := hr.cell 5
            simp at hj
            subst hj
            simpa [Addr.add] using this
          | 6, hj =>
            have := hr.cell 6
            simp at hj
            subst hj
            simpa [Addr.add] using this
          | 7, hj =>
            have := hr.cell 7
            simp at hj
            subst hj
            simpa [Addr.add] using this
          | j + 8, hj => simp at hj) (by simp) (by simp [Value.oneCell'])
      have HX1 := Lib.hid (hext w hE.drew (by rw [HH.out]; exact Nat.le_refl _))
      have HW1 := Lib.hid hrow
      simp only [List.take_succ_cons, List.take_zero, List.nil_append, List.length_cons, List.length_nil, Nat.zero_add, Nat.reduceAdd, List.drop_succ_cons, List.drop_zero, List.drop_nil, List.append_nil, List.cons_append] at hcp HX1 HW1
      clear hrow hext hR hE
      go_wp2_with fail
      go_region
      go_wp2_with fail
      go_roundw
      case rel => exact .inr (.inr (.inr (⟨by go_num, HW1.out, HX1.out⟩)))
      case measure => simp [intOf]
    · have HR' := Lib.hid hR
      have HE' := Lib.hid hE
      clear hR hE
      go_wp2_with fail
      go_ret
      rw [HH.out]
      exact ⟨rfl, HR'.out, HE'.out⟩
end Go.Proofs.YtimkmokomohgjaaGreat
namespace Go.Proofs.YtimkmokomohgjaaGreat
open Sp (rd)
set_option linter.unusedSimpArgs false
set_option linter.unusedVariables false
namespace Ec
/-- By how many minutes a hand is off after some turns, times a denominator. -/
def offN (l : List Pair) (num den turns : Int) : Int := (turnsN l * den - num * turnsD l) * turns * 21600
def within (l : List Pair) (num den limit turns : Int) : Bool := decide (max (offN l num den turns) (-offN l num den turns) ≤ limit * (turnsD l * den))
def prevF (feasts set : List Int) (k : Nat) : Int := if k = 0 then 0 else feastOf feasts set (k - 1)
/-- Is a hand kept, from a setting on? -/
def keepsGo (l : List Pair) (num den limit : Int) (feasts set : List Int) (until_ : Int) (k : Nat) : Nat → Bool
  | 0 => within l num den limit (until_ - prevF feasts set k)
  | n + 1 => if feastOf feasts set k < until_ then within l num den limit (feastOf feasts set k - prevF feasts set k) && keepsGo l num den limit feasts set until_ (k + 1) n else within l num den limit (until_ - prevF feasts set k)
def keeps (l : List Pair) (num den limit : Int) (feasts set : List Int) (until_ : Int) : Bool := keepsGo l num den limit feasts set until_ 0 set.length
end Ec
end Go.Proofs.YtimkmokomohgjaaGreat
namespace Go.Proofs.YtimkmokomohgjaaGreat
open Go.RowKit
open Sp (rd)
set_option maxRecDepth 100000
set_option maxHeartbeats 4000000
set_option linter.unusedVariables false
theorem l1_F_any (w : World) : Calls Tryz.prog 36 #[] w fun e w' => e = .returned (.agg #[.int .i64 43, .int .i64 30]) ∧ Ext w w' := by
  go_enter Tryz.func36, Tryz.ntmps36
  go_wp2_with fail
  have b0 := (Row.new w 69 #[.int .i64 43, .int .i64 30]).cell
  exact bodyPost_ret (v := .agg #[.int .i64 43, .int .i64 30]) (by simp [results, Tryz.results36, go_sem, b0]) rfl ⟨rfl, (Ext.refl w).alloc _⟩
theorem l1_R_any (w : World) : Calls Tryz.prog 35 #[] w fun e w' => ∃ A, e = .returned (.agg #[.int .i64 6, .int .i64 12, .int .i64 2, .int .i64 1, .slice A 1 1]) ∧ Ints w' A [7] ∧ Ext w w' := by
  go_enter Tryz.func35, Tryz.ntmps35
  go_wp2_with fail
  have r0 := (Row.new w 101 #[.int .i64 6, .int .i64 12, .int .i64 2, .int .i64 1, .slice (some ⟨w.heap.size + 1, 0, none⟩) 1 1]).alloc (.cells #[.int .i64 7] 3)
  have r1 := Row.new (w.alloc (.cells #[.int .i64 6, .int .i64 12, .int .i64 2, .int .i64 1, .slice (some ⟨w.heap.size + 1, 0, none⟩) 1 1] 101)) 3 #[.int .i64 7]
  simp only [World.size_alloc] at r1
  have b0 := r0.cell
  refine bodyPost_ret (v := .agg #[.int .i64 6, .int .i64 12, .int .i64 2, .int .i64 1, .slice (some ⟨w.heap.size + 1, 0, none⟩) 1 1]) (by simp [results, Tryz.results35, go_sem, b0]) rfl ⟨_, rfl, ?_, ((Ext.refl w).alloc _).alloc _⟩
  exact fun _ => ⟨_, 0, rfl, fun k hk => by
    obtain rfl : k = 0 := by simp at hk; omega
    exact (r1.cell 0).trans rfl⟩
theorem l1_T_any (w : World) : Calls Tryz.prog 40 #[] w fun e w' => ∃ A, e = .returned (.slice A 2 2) ∧ Pairs w' A [⟨12, 10⟩, ⟨12, 10⟩] ∧ Ext w w' := by
  go_enter Tryz.func40, Tryz.ntmps40
  go_wp2_with fail
  have r0 := Row.new w 125 #[.int .i64 12, .int .i64 10, .int .i64 12, .int .i64 10]
  go_ret
  refine ⟨_, rfl, ?_, (Ext.refl w).alloc _⟩
  exact fun _ => ⟨_, 0, rfl, fun k hk => by
    have hk2 : k < 2 := hk
    rcases (show k = 0 ∨ k = 1 by omega) with rfl | rfl
    · exact ⟨(r0.cell 0).trans rfl, (r0.cell 1).trans rfl⟩
    · exact ⟨(r0.cell 2).trans rfl, (r0.cell 3).trans rfl⟩⟩
end Go.Proofs.YtimkmokomohgjaaGreat
namespace Go.Proofs.YtimkmokomohgjaaGreat
open Go.RowKit Go.Shelf
open Sp (rd)
def moonV : Bool → Value
  | true => .iface 179 (.agg #[])
  | false => .iface 181 (.agg #[])
theorem moonOf_any (full : Bool) (w : World) : Calls Tryz.prog 50 #[.bool full] w fun e w' => e = .returned (moonV full) ∧ Ext w w' := by
  cases full
  · go_enter Tryz.func50, Tryz.ntmps50
    go_wp2_with fail
    go_ret
    exact ⟨rfl, Ext.refl _⟩
  · go_enter Tryz.func50, Tryz.ntmps50
    go_wp2_with fail
    go_ret
    exact ⟨rfl, Ext.refl _⟩
theorem has_any (s : Sp.Sky) (A : Option Addr) (c : Nat) (day : Int) (full : Bool) (w : World) (hs : SkyOk s) (hm : Bodies w A s.bodies) (h2 : 1 ≤ day) (h3 : day ≤ 20000) :
    Calls Tryz.prog 49 #[.agg #[.slice A s.bodies.length c, .int .i64 s.nnum, .int .i64 s.nden, .int .i64 s.nstart, .int .i64 day], moonV full] w fun e w' => e = .returned (.bool (Sp.moonB s day full)) ∧ Ext w w' := by
  cases full
  · exact hasNew s A c day w hs hm h2 h3
  · exact hasFull s A c day w hs hm h2 h3
theorem blocks4 (w : World) (o1 o2 o3 o4 : Obj) : ((((w.alloc o1).alloc o2).alloc o3).alloc o4).heap[w.heap.size]? = some o1 ∧ ((((w.alloc o1).alloc o2).alloc o3).alloc o4).heap[w.heap.size + 1]? = some o2 ∧ ((((w.alloc o1).alloc o2).alloc o3).alloc o4).heap[w.heap.size + 2]? = some o3 ∧ ((((w.alloc o1).alloc o2).alloc o3).alloc o4).heap[w.heap.size + 3]? = some o4 :=
  ⟨(Below.heap_alloc _ _ _ (by simp; omega)).trans (blocks3 w o1 o2 o3).1, (Below.heap_alloc _ _ _ (by simp)).trans (blocks3 w o1 o2 o3).2.1, (Below.heap_alloc _ _ _ (by simp)).trans (blocks3 w o1 o2 o3).2.2, by have := heap_alloc_new (((w.alloc o1).alloc o2).alloc o3) o4; simpa using this⟩
theorem next_results (tmps : Array Value) (W : World) (b2 b3 : Nat) (x e : Int) (h6 : tmps[6]?.getD undef = .pointer (some ⟨b2, 0, none⟩)) (h7 : tmps[7]?.getD undef = .pointer (some ⟨b3, 0, none⟩))
    (c2 : W.cell? ⟨b2, 0, none⟩ = some (.int .i64 x)) (c3 : W.cell? ⟨b3, 0, none⟩ = some (.int .i64 e)) : (results Tryz.f11 tmps).run Tryz.prog W = .ok (.tuple #[.int .i64 x, .int .i64 e]) W := by
  simp [results, Tryz.results11, go_sem, h6, h7, c2, c3]
def nextV (s : Sp.Sky) (day : Int) (full : Bool) : Value := match Sp.nextO s day full with
  | some d => .tuple #[.int .i64 d, .int .i64 0]
  | none => .tuple #[.int .i64 0, .int .i64 5]
attribute [local go_sem] Oper.semAt_some
theorem nextN_none (s : Sp.Sky) (full : Bool) : ∀ (n : Nat) (lo : Int), (∀ k : Nat, k < n → Sp.moonB s (lo + k) full = false) → Sp.nextN s full lo n = none
  | 0, _, _ => rfl
  | n + 1, lo, h => by
    have h0 := h 0 (by omega)
    simp only [Int.natCast_zero, Int.add_zero] at h0
    simp only [Sp.nextN, h0, Bool.false_eq_true, if_false]
    refine nextN_none s full n (lo + 1) fun k hk => ?_
    have := h (k + 1) (by omega)
    rwa [show lo + 1 + (k : Int) = lo + ((k + 1 : Nat) : Int) by omega]
theorem nextN_some (s : Sp.Sky) (full : Bool) : ∀ (n : Nat) (lo : Int) (j : Nat), j < n → (∀ k : Nat, k < j → Sp.moonB s (lo + k) full = false) → Sp.moonB s (lo + j) full = true → Sp.nextN s full lo n = some (lo + j)
  | 0, _, _, h, _, _ => by omega
  | n + 1, lo, 0, _, _, h1 => by
    simp only [Int.natCast_zero, Int.add_zero] at h1 ⊢
    simp [Sp.nextN, h1]
  | n + 1, lo, j + 1, hj, h, h1 => by
    have h0 := h 0 (by omega)
    simp only [Int.natCast_zero, Int.add_zero] at h0
    simp only [Sp.nextN, h0, Bool.false_eq_true, if_false]
    have := nextN_some s full n (lo + 1) j (by omega) (fun k hk => by
      have := h (k + 1) (by omega)
      rwa [show lo + 1 + (k : Int) = lo + ((k + 1 : Nat) : Int) by omega]) (by rwa [show lo + 1 + (j : Int) = lo + ((j + 1 : Nat) : Int) by omega])
    rw [this]
    congr 1
    omega
theorem days_get {pre : List Day1} {lo : Int} {n : Nat} (h : pre.map Subtype.val = daysL lo n) : pre.length = n ∧ ∀ k (hk : k < pre.length), (pre[k]).1 = lo + (k : Nat) := by
  have hl : pre.length = n := by have := congrArg List.length h; simpa [daysL] using this
  refine ⟨hl, fun k hk => ?_⟩
  have h1 : (pre.map Subtype.val)[k]? = (daysL lo n)[k]? := by rw [h]
  simp only [List.getElem?_map, daysL] at h1
  rw [List.getElem?_eq_getElem hk, List.getElem?_range (by omega)] at h1
  simpa using h1
theorem next_none (s : Sp.Sky) (day lo : Int) (full : Bool) (hlo : max 1 day = lo) (xs : List Day1) (h : DaysAll lo 20000 xs) (hn : ∀ x ∈ xs, Sp.moonB s x.1 full = false) : nextV s day full = .tuple #[.int .i64 0, .int .i64 5] := by
  obtain ⟨hl, hg⟩ := days_get (n := (20000 + 1 - lo).toNat) h
  have : Sp.nextO s day full = none := by
    unfold Sp.nextO
    rw [hlo]
    refine nextN_none s full _ lo fun k hk => ?_
    have hk' : k < xs.length := by omega
    rw [← hg k hk']
    exact hn _ (List.getElem_mem hk')
  simp [nextV, this]
theorem next_some (s : Sp.Sky) (day lo : Int) (full : Bool) (hlo : max 1 day = lo) (init : List Day1) (x : Day1) (h : DaysSome lo 20000 (init ++ [x])) (hn : ∀ y ∈ init, Sp.moonB s y.1 full = false) (h1 : Sp.moonB s x.1 full = true) : nextV s day full = .tuple #[.int .i64 x.1, .int .i64 0] := by
  obtain ⟨k, hk, h⟩ := h
  obtain ⟨hl, hg⟩ := days_get h
  simp only [List.length_append, List.length_cons, List.length_nil] at hl
  have hx : x.1 = lo + (init.length : Nat) := by
    have := hg init.length (by simp)
    simpa using this
  have : Sp.nextO s day full = some (lo + (init.length : Nat)) := by
    unfold Sp.nextO
    rw [hlo]
    refine nextN_some s full _ lo init.length (by omega) (fun k hk => ?_) (by rw [← hx]; exact h1)
    have hg' := hg k (by simp; omega)
    rw [List.getElem_append_left hk] at hg'
    rw [← hg']
    exact hn _ (List.getElem_mem hk)
  simp [nextV, this, hx]
def NextI (w : World) (s : Sp.Sky) (full : Bool) (pre : List Day1) (W : World) : Prop := (∀ x ∈ pre, Sp.moonB s x.1 full = false) ∧ (Below w.heap.size w W ∧ w.heap.size + 3 ≤ W.heap.size)
def NextX (w0 : World) (s : Sp.Sky) (full : Bool) (c : Code) (pre : List Day1) (W : World) : Prop := c = .ret ∧ ∃ init x, pre = init ++ [x] ∧ (∀ y ∈ init, Sp.moonB s y.1 full = false) ∧ Sp.moonB s x.1 full = true ∧
  Row W (w0.heap.size + 2) 3 #[.int .i64 x.1] ∧ Row W (w0.heap.size + 3) 32 #[.int .i64 0] ∧ Below w0.heap.size w0 W
theorem nextI_own (w : World) (s : Sp.Sky) (full : Bool) (B : Nat) (hB : w.heap.size ≤ B) : OwnFrom B (NextI w s full) := fun _ _ _ _ ⟨h, hb, hz⟩ hg hr =>
  ⟨h, hb.grown hg hb.size (fun k e => Nat.le_trans hB (hr k e).1), Nat.le_trans hz hg.size⟩
theorem nextX_own (w : World) (s : Sp.Sky) (full : Bool) (B : Nat) (hB : w.heap.size ≤ B) (c : Code) : OwnFrom B (NextX w s full c) := fun _ _ _ _ ⟨e, i, x, h1, h2, h3, h4, h5, hb⟩ hg hr =>
  ⟨e, i, x, h1, h2, h3, h4.kept hg fun r e => (hr r e).2, h5.kept hg fun r e => (hr r e).2, hb.grown hg hb.size (fun k e => Nat.le_trans hB (hr k e).1)⟩
theorem keepsFrom_ext {W W' : World} (h : Ext W W') (B : Nat) : KeepsFrom B W W' := ⟨h.size, fun k _ _ hk _ => (h.block k (Array.getElem?_eq_some_iff.1 hk).1).trans hk⟩
set_option maxRecDepth 100000 in
set_option maxHeartbeats 1000000 in
theorem Next_ok0 (s : Sp.Sky) (A : Option Addr) (c : Nat) (day : Int) (full : Bool) (w : World) (hm : Bodies w A s.bodies) (hl : Short s.bodies) (c0 : Sp.skyOk s = true) (c1 : Sp.isDay day = true) (hday : day ≤ 1) :
    Calls Tryz.prog 11 #[.agg #[.slice A s.bodies.length c, .int .i64 s.nnum, .int .i64 s.nden, .int .i64 s.nstart], .int .i64 day, .bool full] w fun e w' => e = .returned (nextV s day full) ∧ Ext w w' := by
  have hl1 := hl.1
  have HL := Lib.hid hl
  have HM := Lib.hid hm
  clear hm hl
  obtain ⟨d1, d2⟩ := isDay_of c1
  refine (callsIn_wide (n := 8)).1 ?_
  refine callsIn_of_wp_marks Tryz.func11 rfl trivial ?_ rfl
  simp only [Tryz.ntmps11, List.size_toArray, List.length_cons, List.length_nil, Nat.reduceAdd, Nat.reduceSub, Array.replicate_succ, Array.replicate_zero, List.push_toArray, List.append_toArray, List.nil_append, List.cons_append]
  gi_wp2
  refine ⟨trivial, (callsIn_wide.2 (isSky_any s A c _ (HM.out.ext (((((Ext.refl w).alloc _).alloc _).alloc _).alloc _)) HL.out)).mono ?_⟩
  rintro e w1 ⟨rfl, hE1⟩
  have hE := (((((Ext.refl w).alloc _).alloc _).alloc _).alloc _).trans hE1
  have hr : Row w1 w.heap.size 28 _ := Row.ext (blocks4 w _ _ _ _).1 hE1
  have hr1 : Row w1 (w.heap.size + 1) 4 _ := Row.ext (blocks4 w _ _ _ _).2.1 hE1
  have hr2 : Row w1 (w.heap.size + 2) 3 _ := Row.ext (blocks4 w _ _ _ _).2.2.1 hE1
  have hr3 : Row w1 (w.heap.size + 3) 32 _ := Row.ext (blocks4 w _ _ _ _).2.2.2 hE1
  have hz1 : w.heap.size + 4 ≤ w1.heap.size := by have := hE1.size; simpa using this
  have b0 := hr.cell
  clear hE1
  rw [c0]
  have HK := Lib.hid (skyOk_iff.1 c0)
  gi_wp2
  refine ⟨trivial, (callsIn_wide.2 (isDay_any day _)).mono ?_⟩
  rintro e w0 ⟨rfl, rfl⟩
  rw [c1]
  gi_wp2
  refine ⟨trivial, (callsIn_wide.2 (days_any A _ c s 1 20000 _)).mono ?_⟩
  rintro e w' ⟨rfl, rfl⟩
  gi_wp2
  have hlo : max 1 day = 1 := by omega
  have rS := daysW_S A s.bodies.length c s 1 20000 w1
  have rF := daysW_F A s.bodies.length c s 1 20000 w1
  have rT := daysW_T A s.bodies.length c s 1 20000 w1
  have hsz := daysW_size A s.bodies.length c s 1 20000 w1
  have hE2 := daysW_ext A s.bodies.length c s 1 20000 w1
  obtain ⟨W0, hW0⟩ : ∃ W0, daysW A s.bodies.length c s 1 20000 w1 = W0 := ⟨_, rfl⟩
  rw [hW0] at hE2 rS rF rT hsz ⊢
  clear hW0 b0
  have HE := Lib.hid hE
  have h0 : NextI w1 s full [] W0 := ⟨by simp, hE2, by omega⟩
  clear hE hE2
  refine wpIn_rangeFunc_ownH rfl (by omega) (gf := 103) (lb := #[.pointer (some ⟨w1.heap.size + 1, 0, none⟩), .pointer (some ⟨w1.heap.size + 2, 0, none⟩), .pointer (some ⟨w1.heap.size, 0, none⟩)]) rfl trivial (enters_of Tryz.func103 (by kernel_rfl) rfl)
    (days_stops (8 - 1) (by omega) A s.bodies.length c s 1 20000 (by omega) (by omega) w1.heap.size W0 rS rF rT) (fun h k => keepsTwo_t _ _ h k) (keepsTwo_b (by omega) (by omega)) (Below.refl _ _) (fun _ => rfl)
    (NextI w1 s full)
    (NextX w s full)
    (nextI_own w1 s full _ (by omega))
    (nextX_own w s full _ (by omega))
    h0
    (fun x a' W => ∃ Bx, w1.heap.size + 3 ≤ Bx ∧ Row W Bx 115 #[.slice A s.bodies.length c, .int .i64 s.nnum, .int .i64 s.nden, .int .i64 s.nstart, .int .i64 x.1] ∧ a' = (⟨#[.agg #[.slice A s.bodies.length c, .int .i64 s.nnum, .int .i64 s.nden, .int .i64 s.nstart], .int .i64 day, .bool full, .pointer (some ⟨w.heap.size, 0, none⟩), undef, .pointer (some ⟨w.heap.size + 1, 0, none⟩), .pointer (some ⟨w.heap.size + 1 + 1, 0, none⟩), .pointer (some ⟨w.heap.size + 1 + 1 + 1, 0, none⟩), .pointer (some ⟨Bx, 0, none⟩), .agg #[.slice A s.bodies.length c, .int .i64 s.nnum, .int .i64 s.nden, .int .i64 s.nstart], .bool true, .bool false, .bool false, .int .i64 day, .bool true, .bool false, .bool false, .agg #[.slice A s.bodies.length c, .int .i64 s.nnum, .int .i64 s.nden, .int .i64 s.nstart], .int .i64 day, .int .i64 1, daysV w1.heap.size, .agg #[.slice A s.bodies.length c, .int .i64 s.nnum, .int .i64 s.nden, .int .i64 s.nstart, .int .i64 x.1], undef, undef, undef, undef, undef, undef], []⟩ : Act))
    (fun x a' _ X Y row hs hg hr => by obtain ⟨Bx, h0, h1, h2⟩ := hs; exact ⟨Bx, h0, h1.kept hg fun r e => (hr r e).2, h2⟩)
    ?assign ?body ?done ?stop
  case assign =>
    rintro l pre x W K hi hK
    simp only [skyV]
    gi_wp2
    obtain ⟨hI, hB, hz⟩ := hi
    exact hK _ _ ((KeepsOthers.alloc _ _).from _) ⟨Below.heap_alloc _ _ _ (by omega), Below.heap_alloc _ _ _ (by omega)⟩ ⟨hI, hB.alloc hB.size _, by simp; omega⟩ ⟨_, by omega, Row.new _ _ _, rfl⟩
  case body =>
    rintro l pre x a' W hl ⟨r, hr'⟩ ⟨hI, hB, hz⟩ ⟨Bx, hBx, rX, rfl⟩ hlt
    have hx := x.2
    have hE1 : Ext w1 W := hB
    have HE1 := Lib.hid hE1
    have HI := Lib.hid hI
    have HE3 := Lib.hid (HE.out.trans hE1)
    clear hB hI
    gi_wp2
    refine wpIn_region_later (by kernel_rfl) (by kernel_rfl) (by kernel_rfl) (fun WW hW => ?_)
    have q1 := Later.block (w := WW) (by rw [hW]; exact rX)
    have q2 := Later.block (w := WW) (by rw [hW]; exact hr1.ext hE1)
    have HB := Lib.hid (fun X : Later WW => HM.out.ext ((by rw [hW]; exact HE3.out : Ext w WW).trans X.ext))
    clear hE1
    repeat (go_big_quiet_step ((first | (go_at_call 50; exact Later.call (moonOf_any _ _)) | (go_at_call 49; exact Later.call (has_any s A c _ full _ HK.out (by exact HB.out _) (by omega) (by omega))))))
    refine wpQuiet_nil ?_
    rintro ⟨W2, hE4⟩
    subst hW
    have hz4 := Nat.le_trans hz hE4.size
    cases hb : Sp.moonB s x.1 full
    · have HE4 := Lib.hid hE4
      clear q1 q2
      gi_wp2
      refine ⟨keepsFrom_ext HE4.out _, ⟨HE4.out.block _ (by omega), HE4.out.block _ (by omega)⟩, ?_, HE1.out.trans HE4.out, hz4⟩
      intro y hy
      rcases List.mem_append.1 hy with hy | hy
      · exact HI.out y hy
      · rw [List.mem_singleton.1 hy]; exact hb
    · have HE4 := Lib.hid hE4
      have c4 := (rX.ext hE4).cell
      have s2 := (hr2.ext HE1.out).ext hE4
      have s3 := (hr3.ext HE1.out).ext hE4
      have cc2 := s2.cell
      have cc3 := s3.cell
      have ff2 := s2.free
      have ff3 := s3.free
      have ne1 : w.heap.size + 2 ≠ Bx := by omega
      have ne2 : w.heap.size + 3 ≠ Bx := by omega
      clear q1 q2
      gi_wp2
      refine ⟨(keepsFrom_ext HE4.out _).trans (((KeepsOthers.setCell _ _ _).trans (KeepsOthers.setCell _ _ _)).from _), rfl, pre, x, rfl, HI.out, hb, ?_, ?_, ?_⟩
      · simpa using (s2.set_ 0 (.int .i64 x.1)).far (p := ⟨w.heap.size + 3, 0, none⟩) (by simp) (.int .i64 0)
      · simpa using (s3.far (p := ⟨w.heap.size + 2, 0, none⟩) (by simp) (.int .i64 x.1)).set_ 0 (.int .i64 0)
      · exact ((HE3.out.trans HE4.out).setCell (by simp; omega) _).setCell (by simp; omega) _
  case done =>
    rintro D xs W hD hS ⟨hI, hB, hz⟩ hK
    have hB' : Ext w1 W := hB
    have s2 := hr2.ext hB'
    have s3 := hr3.ext hB'
    have HB := Lib.hid hB'
    have cc2 := s2.cell
    have cc3 := s3.cell
    have ff2 := s2.free
    have ff3 := s3.free
    have HI := Lib.hid hI
    clear hB hB' hI
    gi_wp2
    have hK' := ((KeepsOthers.setCell W ⟨w.heap.size + 2, 0, none⟩ (.int .i64 0)).trans (KeepsOthers.setCell _ ⟨w.heap.size + 3, 0, none⟩ (.int .i64 5))).same D _ hK rfl
    refine ⟨by simp, .inl ⟨_, _, rfl, run_takeDeferred hK', ?_⟩⟩
    have s2' : Row ((W.setCell ⟨w.heap.size + 2, 0, none⟩ (.int .i64 0)).setCell ⟨w.heap.size + 3, 0, none⟩ (.int .i64 5)) (w.heap.size + 2) 3 #[.int .i64 0] := by simpa using (s2.set_ 0 (.int .i64 0)).far (p := ⟨w.heap.size + 3, 0, none⟩) (by simp) (.int .i64 5)
    have s3' : Row ((W.setCell ⟨w.heap.size + 2, 0, none⟩ (.int .i64 0)).setCell ⟨w.heap.size + 3, 0, none⟩ (.int .i64 5)) (w.heap.size + 3) 32 #[.int .i64 5] := by simpa using (s3.far (p := ⟨w.heap.size + 2, 0, none⟩) (by simp) (.int .i64 0)).set_ 0 (.int .i64 5)
    have k2 := s2'.kept (grownBy_putObj' _ D (.deferred none)) (fun r e => by cases e; exact ⟨_, hK', rfl⟩)
    have k3 := s3'.kept (grownBy_putObj' _ D (.deferred none)) (fun r e => by cases e; exact ⟨_, hK', rfl⟩)
    refine ⟨_, next_results _ _ (w.heap.size + 2) (w.heap.size + 3) 0 5 rfl rfl (by simpa using k2.cell 0) (by simpa using k3.cell 0), by rw [next_none s day 1 full hlo xs hS HI.out], ?_⟩
    have hF := ((HE.out.trans HB.out).setCell (p := ⟨w.heap.size + 2, 0, none⟩) (by simp) (.int .i64 0)).setCell (p := ⟨w.heap.size + 3, 0, none⟩) (by simp) (.int .i64 5)
    exact Below.grown hF (grownBy_putObj' _ D (.deferred none)) hF.size (fun k e => by cases e; omega)
  case stop =>
    rintro D c' pre W hD hS ⟨rfl, init, x, rfl, hn, h1, s2, s3, hB⟩ hK
    gi_wp2
    refine ⟨by simp, .inl ⟨_, _, rfl, run_takeDeferred hK, ?_⟩⟩
    have k2 := s2.kept (grownBy_putObj' _ D (.deferred none)) (fun r e => by cases e; exact ⟨_, hK, rfl⟩)
    have k3 := s3.kept (grownBy_putObj' _ D (.deferred none)) (fun r e => by cases e; exact ⟨_, hK, rfl⟩)
    refine ⟨_, next_results _ _ (w.heap.size + 2) (w.heap.size + 3) x.1 0 rfl rfl (by simpa using k2.cell 0) (by simpa using k3.cell 0), by rw [next_some s day 1 full hlo init x hS hn h1], ?_⟩
    exact Below.grown hB (grownBy_putObj' _ D (.deferred none)) hB.size (fun k e => by cases e; omega)
end Go.Proofs.YtimkmokomohgjaaGreat
namespace Go.Proofs.YtimkmokomohgjaaGreat
open Go.RowKit
open Sp (rd)
set_option maxRecDepth 100000
set_option linter.unusedVariables false
def skyS : Sp.Sky := ⟨[⟨360, 1, 0, [0]⟩, ⟨27, 1, 0, [0, 300, 0, -300]⟩], 6000, 1, 1000⟩
theorem bodyAt_row {w : World} {g o h c : Nat} {t u : TypeId} {cs rs : Array Value} {B : Sp.Body} (h1 : Row w g t cs) (h2 : Row w h u rs) (c0 : cs[o]? = some (.int .i64 B.num)) (c1 : cs[o + 1]? = some (.int .i64 B.den)) (c2 : cs[o + 2]? = some (.int .i64 B.start))
    (c3 : cs[o + 3]? = some (.slice (some ⟨h, 0, none⟩) B.road.length c)) (hr : ∀ k, k < B.road.length → rs[k]? = some (.int .i64 (rd B.road k))) : BodyAt w g o B :=
  ⟨(h1.cell _).trans c0, (h1.cell _).trans c1, (h1.cell _).trans c2, _, _, (h1.cell _).trans c3, fun _ => ⟨h, 0, rfl, fun k hk => by rw [Nat.zero_add]; exact (h2.cell _).trans (hr k hk)⟩⟩
theorem l_S_any (w : World) : Calls Tryz.prog 38 #[] w fun e w' => ∃ A c, e = .returned (.agg #[.slice A 2 c, .int .i64 6000, .int .i64 1, .int .i64 1000]) ∧ Bodies w' A skyS.bodies ∧ Ext w w' := by
  go_enter Tryz.func38, Tryz.ntmps38
  go_wp2_with fail
  obtain ⟨b1, b2, b3, b4⟩ := blocks4 w (.cells #[.slice (some ⟨w.heap.size + 1 + 1 + 1, 0, none⟩) 2 2, .int .i64 6000, .int .i64 1, .int .i64 1000] 28) (.cells #[.int .i64 0] 3) (.cells #[.int .i64 0, .int .i64 300, .int .i64 0, .int .i64 (-300)] 3)
    (.cells #[.int .i64 360, .int .i64 1, .int .i64 0, .slice (some ⟨w.heap.size + 1, 0, none⟩) 1 1, .int .i64 27, .int .i64 1, .int .i64 0, .slice (some ⟨w.heap.size + 1 + 1, 0, none⟩) 4 4] 72)
  refine bodyPost_ret (results_cell_row rfl _ _ w.heap.size 28 _ (0, 0) _ rfl b1 Tryz.underlying28 rfl (by kernel_rfl)) rfl ?_
  refine ⟨_, _, rfl, fun _ => ⟨w.heap.size + 1 + 1 + 1, 0, rfl, fun k hk => ?_⟩, ((((Ext.refl w).alloc _).alloc _).alloc _).alloc _⟩
  match k, hk with
  | 0, _ => exact bodyAt_row (c := 1) b4 b2 rfl rfl rfl rfl (fun k hk => by match k, hk with | 0, _ => rfl)
  | 1, _ => exact bodyAt_row (c := 4) b4 b3 rfl rfl rfl rfl (fun k hk => by match k, hk with | 0, _ => rfl | 1, _ => rfl | 2, _ => rfl | 3, _ => rfl)
  | n + 2, h => exact absurd h (by simp [skyS])
theorem skyS_ok : Sp.skyOk skyS = true := by decide +kernel
theorem skyS_next : Sp.nextO skyS 1 false = some 30 := by decide +kernel
theorem skyS_Next (A : Option Addr) (c : Nat) (w : World) (h : Bodies w A skyS.bodies) :
    Calls Tryz.prog 11 #[.agg #[.slice A 2 c, .int .i64 6000, .int .i64 1, .int .i64 1000], .int .i64 1, .bool false] w fun e w' => e = .returned (.tuple #[.int .i64 30, .int .i64 0]) ∧ Ext w w' := by
  have := Next_ok0 skyS A c 1 false w h ⟨by decide, fun k hk => by
    have hk2 : k < 2 := hk
    rcases (show k = 0 ∨ k = 1 by omega) with rfl | rfl <;> decide⟩ skyS_ok (by decide) (Int.le_refl _)
  unfold nextV at this
  rw [skyS_next] at this
  exact this
end Go.Proofs.YtimkmokomohgjaaGreat
