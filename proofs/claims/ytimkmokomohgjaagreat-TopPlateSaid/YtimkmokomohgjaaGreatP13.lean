/- Volume 13: TpPrep: a walk of the program's function. -/
import Derived.Carry
import Derived.BigQuiet
import Derived.Laws.MakeOwn
import Derived.Test.YtimkmokomohgjaaGreatP02
import Derived.Test.YtimkmokomohgjaaGreatP03
import Derived.Test.YtimkmokomohgjaaGreatP04
import Derived.Test.YtimkmokomohgjaaGreatP05
namespace Go.Proofs.YtimkmokomohgjaaGreat
open Go.RowKit Go.Shelf
open Sp (rd)
attribute [local go_sem] Oper.semAt_some
set_option maxRecDepth 100000
set_option maxHeartbeats 4000000
set_option linter.unusedVariables false
set_option linter.unusedSimpArgs false
theorem s_Repeat_any (b k : Nat) (hk : k ≤ 2) (w : World) (hr : Row w b 3 #[.int .i64 60]) : Calls Tryz.prog 149 #[.slice (some ⟨b, 0, none⟩) 1 1, .int .i64 (k : Int)] w fun e w' => ∃ A c, e = .returned (.slice A k c) ∧ Ints w' A (List.replicate k 60) ∧ Ext w w' := by
  rcases (show k = 0 ∨ k = 1 ∨ k = 2 by omega) with rfl | rfl | rfl
  · exact (s_Repeat_0 b w).mono fun e w' ⟨A, c, h1, h2⟩ => ⟨A, c, h1, fun h => by simp at h, h2⟩
  · exact s_Repeat_1 b w hr
  · exact s_Repeat_2 b w hr
theorem Tp.info_bool : (Tryz.prog.info? 4).map (fun i => (i.zero, i.size, i.bytes)) = some (some (.bool false), 1, 1) := by kernel_rfl
theorem Tp.wpIn_named {c : Code} {F : Fence} {n : Nat} {P : Program} {Q : Exit → Act → World → Prop} {a : Act} {w : World} (h : ∀ a0, a0 = a → c.wpIn F n P Q a0 w) : c.wpIn F n P Q a w := h a rfl
theorem Tp.make_marks (pw : Nat) (hp : pw ≤ 10000) (w : World) : (Instr.makeSlice 63 (.int .i64 ((pw : Int) + 1)) (.int .i64 ((pw : Int) + 1))).run Tryz.prog w = .ok (.slice (some ⟨w.heap.size, 0, none⟩) (pw + 1) (pw + 1)) (w.alloc (.cells (madeCells #[.bool false] (pw + 1)) 4)) := by
  obtain ⟨i0, h0, h1, h2, h3⟩ := info_parts Tp.info_bool
  have := run_make (P := Tryz.prog) w 63 4 i0 _ Tryz.underlying63 h0 h1 .i64 .i64 ((pw : Int) + 1) ((pw : Int) + 1) (by omega) (by omega) (by rw [h3]; omega) (by omega)
  rw [this, h2, show ((pw : Int) + 1).toNat = pw + 1 by omega, Nat.mul_one]
  rfl
theorem Tp.keeps_ext {B : Nat} {A C : World} (h : Ext A C) : KeepsFrom B A C := ⟨h.size, fun k o _ hk _ => (h.block k (Array.getElem?_eq_some_iff.1 hk).1).trans hk⟩
theorem t_prepared_in (a b s : Int) (Av : Option Addr) (nv cv : Nat) (At : Option Addr) (ct : Nat) (teeth : List Int) (P : Nat) (w : World) (hP : P ≤ 2) (hm : Ints w At teeth) (hl : teeth.length ≤ 1000) (ht : ∀ k, k < teeth.length → 1 ≤ rd teeth k ∧ rd teeth k ≤ 60) :
    CallsIn Fence.wide 9 Tryz.prog 91 #[.agg #[.int .i64 a, .int .i64 b, .int .i64 (P : Int), .int .i64 s, .slice Av nv cv, .slice At teeth.length ct]] w fun e w' => ∃ xs ys Bs ds Bm dm, e = .returned (.agg #[.int .i64 a, .int .i64 b, .int .i64 (P : Int), .int .i64 s, .slice Av nv cv, .slice At teeth.length ct, .slice Bs (P + 1) ds, .slice Bm (P + 1) dm]) ∧
      w'.ownsRow (w.heap.size + 3) 48 1 (.slice Bs (P + 1) ds) (P + 1) xs ∧ w'.ownsRow (w.heap.size + 3) 63 1 (.slice Bm (P + 1) dm) (P + 1) ys ∧ (∀ j, j < P + 1 → Tp.One (w.heap.size + 3) teeth w' (xs.getD j undef) (ys.getD j undef) j) ∧ Ext w w' := by
  have HM := Lib.hid hm
  have HT := Lib.hid ht
  have r0 := Row.new w 161 #[.int .i64 a, .int .i64 b, .int .i64 (P : Int), .int .i64 s, .slice Av nv cv, .slice At teeth.length ct]
  have HR0 : Hid (Tp.PrepR w #[.int .i64 a, .int .i64 b, .int .i64 (P : Int), .int .i64 s, .slice Av nv cv, .slice At teeth.length ct] #[.int .i64 0, .int .i64 0, .int .i64 0, .int .i64 0, .slice none 0 0, .slice none 0 0, .slice none 0 0, .slice none 0 0] teeth a b (P : Int) s (.slice Av nv cv) (.slice At teeth.length ct) (.slice none 0 0) (.slice none 0 0) [] [] 0 (((w.alloc (.cells #[.int .i64 a, .int .i64 b, .int .i64 (P : Int), .int .i64 s, .slice Av nv cv, .slice At teeth.length ct] 161)).alloc (.cells #[.int .i64 0, .int .i64 0, .int .i64 0, .int .i64 0, .slice none 0 0, .slice none 0 0, .slice none 0 0, .slice none 0 0] 165)).alloc (.cells #[.int .i64 a, .int .i64 b, .int .i64 (P : Int), .int .i64 s, .slice Av nv cv, .slice At teeth.length ct, .slice none 0 0, .slice none 0 0] 165))) := Lib.hid ⟨(blocks3 w _ _ _).1, (blocks3 w _ _ _).2.1, (blocks3 w _ _ _).2.2, by simp [World.ownsRow], by simp [World.ownsRow], ⟨rfl, rfl⟩, fun j hj => by omega, (((Ext.refl w).alloc _).alloc _).alloc _⟩
  have c0 := HR0.out.rule.cell
  have c1 := r0.cell
  clear hm ht r0
  refine callsIn_of_wp_marks Tryz.func91 rfl trivial ?_ rfl
  simp only [Tryz.ntmps91, List.size_toArray, List.length_cons, List.length_nil, Nat.reduceAdd, Nat.reduceSub, Array.replicate_succ, Array.replicate_zero, List.push_toArray, List.append_toArray, List.nil_append, List.cons_append]
  gi_wp2
  clear c0 c1
  refine wpIn_loop (I := fun (a0 : Act) (W : World) => ∃ (k : Nat) (Ds : List Nat) (vs vm : Value) (xs ys : List Value) (u4 u5 u6 u7 u8 u9 u17 u18 u19 u20 u21 u22 u23 u24 u25 u26 u27 u28 u29 u30 u31 u32 u33 u34 u35 u36 u37 u38 u39 u40 u41 u42 u43 u44 u45 u46 u47 u48 u49 u50 u51 u52 u53 u54 u55 u56 u57 : Value), a0 = (⟨#[.agg #[.int .i64 a, .int .i64 b, .int .i64 (P : Int), .int .i64 s, .slice Av nv cv, .slice At teeth.length ct], .pointer (some ⟨w.heap.size, 0, none⟩), .pointer (some ⟨w.heap.size + 1, 0, none⟩), .pointer (some ⟨w.heap.size + 1 + 1, 0, none⟩), u4, u5, u6, u7, u8, u9, .agg #[.int .i64 a, .int .i64 b, .int .i64 (P : Int), .int .i64 s, .slice Av nv cv, .slice At teeth.length ct], .agg #[.int .i64 a, .int .i64 b, .int .i64 (P : Int), .int .i64 s, .slice Av nv cv, .slice At teeth.length ct, .slice none 0 0, .slice none 0 0], .pointer (some ⟨w.heap.size, 0, none⟩), .pointer (some ⟨w.heap.size, 2, none⟩), .int .i64 (P : Int), .int .i64 ((P : Int) + 1), .int .i64 (k : Int), u17, u18, u19, u20, u21, u22, u23, u24, u25, u26, u27, u28, u29, u30, u31, u32, u33, u34, u35, u36, u37, u38, u39, u40, u41, u42, u43, u44, u45, u46, u47, u48, u49, u50, u51, u52, u53, u54, u55, u56, u57, undef], Ds.map Tp.mk⟩ : Act) ∧ k ≤ P + 1 ∧ Ds.Nodup ∧ (∀ D ∈ Ds, w.heap.size ≤ D ∧ W.heap[D]? = some (.deferred (some []))) ∧ Tp.PrepR w #[.int .i64 a, .int .i64 b, .int .i64 (P : Int), .int .i64 s, .slice Av nv cv, .slice At teeth.length ct] #[.int .i64 0, .int .i64 0, .int .i64 0, .int .i64 0, .slice none 0 0, .slice none 0 0, .slice none 0 0, .slice none 0 0] teeth a b (P : Int) s (.slice Av nv cv) (.slice At teeth.length ct) vs vm xs ys k W) (μ := fun a0 _ => P + 2 - (intOf (a0.tmps.getD 16 undef)).toNat) ?start ?round
  case start => exact ⟨0, [], _, _, _, _, _, _, _, _, _, _, _, _, _, _, _, _, _, _, _, _, _, _, _, _, _, _, _, _, _, _, _, _, _, _, _, _, _, _, _, _, _, _, _, _, _, _, _, _, _, _, _, rfl, by omega, List.nodup_nil, by simp, HR0.out⟩
  case round =>
    intro a0 wr hI
    obtain ⟨k, Ds, vs, vm, xs, ys, u4, u5, u6, u7, u8, u9, u17, u18, u19, u20, u21, u22, u23, u24, u25, u26, u27, u28, u29, u30, u31, u32, u33, u34, u35, u36, u37, u38, u39, u40, u41, u42, u43, u44, u45, u46, u47, u48, u49, u50, u51, u52, u53, u54, u55, u56, u57, rfl, hk, hnd, hDs, hR⟩ := hI
    have HR := Lib.hid hR
    have HND := Lib.hid hnd
    have HDS := Lib.hid hDs
    have hz0 := hR.ext.size
    have hz00 := hR.out.lt
    clear hR hnd hDs HR0
    by_cases hlt : k < P + 1
    · have hlt' : (k : Int) < (P : Int) + 1 := by omega
      have hk2 : k ≤ 2 := by omega
      obtain ⟨pw, hpw⟩ : ∃ pw, 60 ^ k = pw := ⟨_, rfl⟩
      have hpw9 : 1 ≤ pw ∧ pw ≤ 3600 := by
        rw [← hpw]
        rcases (show k = 0 ∨ k = 1 ∨ k = 2 by omega) with rfl | rfl | rfl <;> decide
      have HPW := Lib.hid hpw
      have rS := Row.new wr 3 #[.int .i64 60]
      have HRS := Lib.hid rS
      clear hpw rS
      gi_wp2
      refine ⟨trivial, (callsIn_wide.2 (s_Repeat_any _ k hk2 _ HRS.out)).mono ?_⟩
      rintro e w1 ⟨A1, c1, rfl, hI1, hE1⟩
      have HE1 := Lib.hid (((Ext.refl wr).alloc (.cells #[.int .i64 60] 3)).trans hE1)
      have HSX := Lib.hid (t_sixties_any A1 c1 k w1 hI1 hk2)
      rw [HPW.out] at HSX
      clear hE1 hI1
      have hmk := Tp.make_marks pw (by omega) w1
      gi_wp2
      refine ⟨trivial, (callsIn_wide.2 HSX.out).mono ?_⟩
      rintro e w2 ⟨rfl, rfl⟩
      have HW2 : Hid (Ext w1 ((w1.alloc (.cells (madeCells #[.bool false] (pw + 1)) 4)).alloc (.cells #[.slice (some ⟨w1.heap.size, 0, none⟩) (pw + 1) (pw + 1)] 63))) := Lib.hid (((Ext.refl w1).alloc _).alloc _)
      have HR2 := Lib.hid ((HR.out.to HE1.out).to HW2.out)
      have HB2 := Lib.hid (Row.new (w1.alloc (.cells (madeCells #[.bool false] (pw + 1)) 4)) 63 #[.slice (some ⟨w1.heap.size, 0, none⟩) (pw + 1) (pw + 1)])
      have HM2 := Lib.hid ((Tp.Mks.new w1 (pw + 1)).ext ((Ext.refl _).alloc (.cells #[.slice (some ⟨w1.heap.size, 0, none⟩) (pw + 1) (pw + 1)] 63)))
      have cr := HR2.out.rule.cell
      gi_wp2
      clear cr hmk
      obtain ⟨W2, hW2⟩ : ∃ W, (w1.alloc (.cells (madeCells #[.bool false] (pw + 1)) 4)).alloc (.cells #[.slice (some ⟨w1.heap.size, 0, none⟩) (pw + 1) (pw + 1)] 63) = W := ⟨_, rfl⟩
      simp only [World.size_alloc] at HB2
      rw [hW2] at HW2 HR2 HB2 HM2
      try simp only [World.size_alloc]
      rw [hW2]
      refine ⟨trivial, (callsIn_wide.2 (t_products_any a b (P : Int) s (.slice Av nv cv) (.slice At teeth.length ct) (k : Int) W2)).mono ?_⟩
      rintro e W3 ⟨g, h, rfl, hg1, hgh, hrg, hrh, hE3⟩
      have HR3 := Lib.hid (HR2.out.to hE3)
      have HB3 := Lib.hid (HB2.out.ext hE3)
      have HM3 := Lib.hid (HM2.out.ext hE3)
      have HX3 := Lib.hid ((HE1.out.trans HW2.out).trans hE3)
      have hz3 : w.heap.size ≤ W3.heap.size := HR3.out.ext.size
      have hz6 : wr.heap.size ≤ w1.heap.size := HE1.out.size
      have hz4 : w.heap.size + 3 ≤ w1.heap.size := by have := HE1.out.size; omega
      have hz5 : w1.heap.size + 1 < W3.heap.size := HB3.out.lt
      obtain ⟨gm, hgm⟩ : ∃ gm, w1.heap.size = gm := ⟨_, rfl⟩
      rw [hgm] at HB3 HM3 hz4 hz5 hz6 ⊢
      clear hgm hE3 HM2 HB2 HR2 hg1 hW2
      gi_wp2
      refine Tp.wpIn_named (fun a0 ha0 => ?_)
      refine wpIn_range_step rfl (by omega) (gf := 187) (lb := #[.pointer (some ⟨g, 0, none⟩), .pointer (some ⟨h, 0, none⟩)]) (by rw [ha0]; rfl) trivial (enters_of Tryz.func187 (by kernel_rfl) rfl)
        (fun W' hW' => t_prods_seq (9 - 1) g h a b (P : Int) s (.slice Av nv cv) At ct teeth k ((pw : Int) + 1) w HM.out hl HT.out (by omega) (by rw [← HPW.out]; simp; omega) (by omega) W3 HR3.out.ext hrg hrh W' hW')
        (fun h k => h.trans k) (fun W l o o' h1 h2 h3 h4 => Tp.KP.book hz3 W l o o' h1 h2 h3 h4)
        (fun A B h => Tp.keeps_ext h) (fun _ => rfl)
        (Tp.MarksI ((pw : Int) + 1) gm (pw + 1) W3) (fun _ _ _ => False) (Tp.marksI_own _ _ _ _) (fun _ _ _ _ _ hs _ _ => hs) (fun _ _ _ h k => Tp.marksI_ext h k) (Tp.Mks.start HM3.out)
        (fun x a' _ => a' = (⟨(a0.tmps.setIfInBounds 28 (.int .i64 x.1)).setIfInBounds 6 (.int .i64 x.1), []⟩ : Act)) (fun x a' _ X Y row hs hg hr => hs)
        ?assign ?body ?done ?stop
      case assign =>
        rintro l pre x W K hi' hK'
        subst ha0
        gi_wp2
        exact hK' _ _ (KeepsFrom.refl _ _) (Tp.KP.refl _ _ _ _) hi' rfl
      case body =>
        rintro l pre ⟨xv, hx0, hx1⟩ a' W hl' hi' rfl hlt2
        subst ha0
        obtain ⟨xn, rfl⟩ : ∃ xn : Nat, xv = (xn : Int) := ⟨xv.toNat, by omega⟩
        have hx2 : (xn : Int) < ((pw + 1 : Nat) : Int) := by omega
        have rb : Row W (gm + 1) 63 #[.slice (some ⟨gm, 0, none⟩) (pw + 1) (pw + 1)] := (hi'.1.block (gm + 1) hz5 (fun e => by cases e <;> omega)).trans HB3.out
        have cb := rb.cell
        obtain ⟨cs, hrow, hcs, hcc⟩ := hi'.2
        have cm := (hrow.cell xn).trans (hcc xn (by omega))
        have fm := hrow.free
        have jm := lts hrow.lt
        have HI := Lib.hid hi'
        have HRW := Lib.hid hrow
        clear hi' hcc hrow
        gi_wp2
        exact ⟨(KeepsOthers.setCell _ _ _).from _, (Tp.KP.refl _ _ _ _).store HRW.out (by omega) _ _, Tp.marksI_set HI.out _ xn rfl⟩
      case stop =>
        rintro D c pre W _ _ h _
        exact h.elim
      case done =>
        rintro D ps W hD hS hi' hKD
        subst ha0
        have rb : Row W (gm + 1) 63 #[.slice (some ⟨gm, 0, none⟩) (pw + 1) (pw + 1)] := (hi'.1.block (gm + 1) hz5 (fun e => by cases e <;> omega)).trans HB3.out
        have cb := rb.cell
        have HEW : Hid (Ext wr W) := Lib.hid (HX3.out.grown hi'.1 (fun k e => by cases e; omega))
        have HMK : Hid (Tp.Mks W gm (pw + 1) (Tp.mark teeth k)) := Lib.hid (hi'.2.congr fun i => by rw [hS]; rfl)
        have HKD := Lib.hid hKD
        have HRB := Lib.hid rb
        clear hi' hKD rb
        obtain ⟨M, hMM⟩ : ∃ M, Tp.mark teeth k = M := ⟨_, rfl⟩
        have HMM := Lib.hid hMM
        rw [hMM] at HMK
        clear hMM
        obtain ⟨i0, hi0, hi1, hi2, hi3⟩ := info_parts info_int
        gi_wp2
        clear cb
        have hkm : ∀ g, vm.ownBlock = some g → g < wr.heap.size := fun g hg => (HR.out.om.lt g hg).2
        have hks : ∀ g, vs.ownBlock = some g → g < wr.heap.size := fun g hg => (HR.out.os.lt g hg).2
        have hko : ∀ g, vs.ownBlock = some g → w.heap.size + 3 ≤ g := fun g hg => (HR.out.os.lt g hg).1
        have hkp : ∀ g, vm.ownBlock = some g → w.heap.size + 3 ≤ g := fun g hg => (HR.out.om.lt g hg).1
        have HN1 : Hid (vs.ownBlock ≠ some (w.heap.size + 1 + 1) ∧ vs.ownBlock ≠ some (gm + 1) ∧ vm.ownBlock ≠ some (w.heap.size + 1 + 1) ∧ vm.ownBlock ≠ some (gm + 1)) := Lib.hid ⟨fun e => by have := hko _ e; omega, fun e => by have := hks _ e; omega, fun e => by have := hkp _ e; omega, fun e => by have := hkm _ e; omega⟩
        clear hkm hks hko hkp
        refine (wpIn_wide (n := 9)).2 ?_
        go_loopw [7, 34] (fun v i W4 => ∃ j : Nat, j ≤ pw + 1 ∧ i = .int .i64 (j : Int) ∧ W4.ownsRow W.heap.size 3 1 v (Tp.upTo M j).length ((Tp.upTo M j).map fun x => .int .i64 x) ∧ Ext W W4) (fun _ i _ => pw + 1 - (intOf i).toNat)
        case atStart => exact ⟨0, Nat.zero_le _, rfl, by simp [Tp.upTo, World.ownsRow], Ext.refl _⟩
        case round =>
          obtain ⟨j, hj, rfl, hO, hX⟩ := hrel
          have hzz := hX.size
          have hzw := HRB.out.lt
          by_cases hlt3 : j < pw + 1
          · have hl4 : (j : Int) < (pw : Int) + 1 := by omega
            have hl5 : (j : Int) < ((pw + 1 : Nat) : Int) := by omega
            obtain ⟨cs, hrow, hcs, hcc⟩ := HMK.out
            have cm := ((hrow.ext hX).cell j).trans (hcc j hlt3)
            have HO := Lib.hid hO
            have HX := Lib.hid hX
            have hlen := Tp.upTo_len M j
            clear hrow hcs hcc hO hX
            cases hb : M j
            · rw [hb] at cm
              have HB := Lib.hid hb
              clear hb
              go_wp2_with fail
              go_roundw
              case rel => exact ⟨j + 1, by omega, by go_num, by rw [Tp.upTo_no HB.out]; exact HO.out, HX.out⟩
              case measure => simp [intOf]; omega
            · rw [hb] at cm
              have HSC := Lib.hid (Tp.upTo_yes hb)
              obtain ⟨Lj, hLj⟩ : ∃ L, Tp.upTo M j = L := ⟨_, rfl⟩
              rw [hLj] at HO HSC hlen
              have HO4 := Lib.hid (HO.out.alloc (.cells #[.int .i64 (j : Int)] 3))
              clear hb hLj
              go_wp2_with (at_builtin; refine wpList_append_lies _ rfl _ _ 48 rfl W.heap.size 3 i0 _ 1 8 Tryz.underlying48 hi0 hi1 hi2 hi3 rfl (by decide) _ Lj.length (Lj.map fun x => .int .i64 x) rfl HO4.out ⟨_, 0, none⟩ 1 1 [.int .i64 (j : Int)] rfl rfl (World.news_of_block (cs := #[.int .i64 (j : Int)]) (t := 3) (fr := (0, 0)) (heap_alloc_new _ _)) (by simp [Value.oneCell']) (by omega) (by simp only [maxLen]; omega) (by omega) (by simp; omega) _ rfl ?_; intro gg cap w5 hown5 hgrow hat hlt5; have HO5 := Lib.hid hown5; have HX5 := Lib.hid ((HX.out.alloc (.cells #[.int .i64 (j : Int)] 3)).grown hgrow (fun g hg => (HO4.out.lt g hg).1)); clear hown5 hgrow hat cm)
              go_roundw
              case rel => exact ⟨j + 1, by omega, by go_num, by rw [HSC.out]; simpa using HO5.out, HX5.out⟩
              case measure => simp [intOf]; omega
          · obtain rfl : j = pw + 1 := by omega
            have hl4 : ¬ ((pw : Int) + 1 < (pw : Int) + 1) := by omega
            go_wp2_with fail
            obtain ⟨Bv, dv, rfl⟩ := Tp.own_slice hO
            have hHR := (HR.out.to HEW.out).to hX
            have hone : Tp.One (w.heap.size + 3) teeth _ (.slice Bv (Tp.upTo M (pw + 1)).length dv) (.slice (some ⟨gm, 0, none⟩) (pw + 1) (pw + 1)) k := ⟨by rw [show Tp.sorted teeth k = Tp.upTo M (pw + 1) from by rw [← HMM.out, ← HPW.out]; rfl]; exact Tp.own_mono hO (by omega), gm, by omega, by rw [HPW.out], by rw [HMM.out, HPW.out]; exact HMK.out.ext hX⟩
            have HR4 := Lib.hid hHR
            have HONE := Lib.hid hone
            have rb4 := HRB.out.ext hX
            obtain ⟨j0, hj0, hj1, hj2, hj3⟩ := info_parts Tp.info_lint
            obtain ⟨l0, hl0, hl1, hl2, hl3⟩ := info_parts Tp.info_lbool
            skip
            have hEW4 := hX
            clear hO hX hHR hone
            have c6 := HR4.out.out.cell 6
            have c7 := HR4.out.out.cell 7
            have cb := rb4.cell 0
            simp only [List.getElem?_toArray, List.getElem?_cons_succ, List.getElem?_cons_zero] at c6 c7 cb
            have f6 := HR4.out.out.free 6
            have f7 := HR4.out.out.free 7
            have jo := lts HR4.out.out.lt
            have jb := lts rb4.lt
            have hn2 : w.heap.size + 1 + 1 ≠ gm + 1 := by omega
            have hn3 : gm + 1 ≠ w.heap.size + 1 + 1 := by omega
            have hn4 : ¬ (w.heap.size + 1 = gm) := by omega
            have hn5 : ¬ (gm = w.heap.size + 1) := by omega
            go_wp2_with fail
            refine (wpIn_wide (n := 9)).2 ?_
            refine Tp.wp_named (fun a0 ha0 => ?_)
            refine Code.wp_mono (Q := fun e a' w' => e = .normal ∧ (∃ z45 z46 z47 z48 z49 z50 z51 z52 z53 z54 z55 z56 : Value, a' = ((((((((((((a0.put (some 45) z45).put (some 46) z46).put (some 47) z47).put (some 48) z48).put (some 49) z49).put (some 50) z50).put (some 51) z51).put (some 52) z52).put (some 53) z53).put (some 54) z54).put (some 55) z55).put (some 56) z56)) ∧ (∃ vs' vm' xs' ys', Tp.PrepR w #[.int .i64 a, .int .i64 b, .int .i64 (P : Int), .int .i64 s, .slice Av nv cv, .slice At teeth.length ct] #[.int .i64 0, .int .i64 0, .int .i64 0, .int .i64 0, .slice none 0 0, .slice none 0 0, .slice none 0 0, .slice none 0 0] teeth a b (P : Int) s (.slice Av nv cv) (.slice At teeth.length ct) vs' vm' xs' ys' (k + 1) w') ∧ KeepsOthers wr w') ?hq ?hr
            case hr =>
              rename_i q2 k3 a2 wrx ux0 ux1 ux2 ux3 ux4 ux5 ux6 ux7 ux8 ux9 ux10 ux11 q1 k2 a1 k1 k0 q0 a00
              clear a00 a1 a2 q0 q1 q2
              clear hj hlt3 hl4 hzz hzw HRS HE1 HX3 HR3 HM3 HB3 HMK HMM HM HT HND HDS HKD HR HEW HRB HPW HSX HW2
              subst ha0
              have hS0 : wr.drew.cell? ⟨gm + 1, 0, none⟩ = some (.slice (some ⟨gm, 0, none⟩) (pw + 1) (pw + 1)) ∧ (∀ b : Bool, b = false → wr.drew.cell? ⟨w.heap.size + 1 + 1, 6, none⟩ = some vs ∧ wr.drew.cell? ⟨w.heap.size + 1 + 1, 7, none⟩ = some vm) := ⟨cb, fun _ _ => ⟨c6, c7⟩⟩
              refine Tp.region_phase 11 (fun b w' => w'.cell? ⟨gm + 1, 0, none⟩ = some (.slice (some ⟨gm, 0, none⟩) (pw + 1) (pw + 1)) ∧ (b = false → w'.cell? ⟨w.heap.size + 1 + 1, 6, none⟩ = some vs ∧ w'.cell? ⟨w.heap.size + 1 + 1, 7, none⟩ = some vm)) (by kernel_rfl) ?_
              refine Tp.anyP_takeU (i := 0) (v := (.pointer (some ⟨w.heap.size + 1 + 1, 6, none⟩))) (fun _ => True) (fun _ _ _ => trivial) (by decide) rfl (by kernel_rfl) (by kernel_rfl) (by kernel_rfl) (fun _ _ _ h => by cases h.1) (Or.inl ⟨by rfl, fun w _ => ?_⟩) ⟨hS0.1, hS0.2 _⟩ ?_
              · go_simp
              try simp only [Act.put, List.setIfInBounds_toArray, List.set_cons_zero, List.set_cons_succ]
              refine Tp.anyP_takeU (i := 5) (v := (.pointer (some ⟨w.heap.size + 1 + 1, 7, none⟩))) (fun _ => True) (fun _ _ _ => trivial) (by decide) rfl (by kernel_rfl) (by kernel_rfl) (by kernel_rfl) (fun _ _ _ h => by cases h.1) (Or.inl ⟨by rfl, fun w _ => ?_⟩) ⟨hS0.1, hS0.2 _⟩ ?_
              · go_simp
              try simp only [Act.put, List.setIfInBounds_toArray, List.set_cons_zero, List.set_cons_succ]
              refine Tp.anyP_takeU (i := 2) (v := (.slice Bv (Tp.upTo M (pw + 1)).length dv)) (fun _ => True) (fun _ _ _ => trivial) (by decide) rfl (by kernel_rfl) (by kernel_rfl) (by kernel_rfl) (fun _ _ _ h => by cases h.1) (Or.inl ⟨by rfl, fun w _ => ?_⟩) ⟨hS0.1, hS0.2 _⟩ ?_
              · go_simp
              try simp only [Act.put, List.setIfInBounds_toArray, List.set_cons_zero, List.set_cons_succ]
              refine Tp.anyP_take (i := 1) (v := vs) rfl (by kernel_rfl) (by kernel_rfl) (by kernel_rfl) ⟨_, rfl, waits_one (by kernel_rfl)⟩ (fun _ _ _ h => by cases h.1) (Or.inl ⟨by rfl, fun w hw => ?_⟩) ⟨hS0.1, hS0.2 _⟩ (by kernel_rfl) ?_
              · have hw6 := (hw.2 rfl).1
                have hw7 := (hw.2 rfl).2
                go_simp
              try simp only [Act.put, List.setIfInBounds_toArray, List.set_cons_zero, List.set_cons_succ]
              refine Tp.anyP_take (i := 6) (v := vm) rfl (by kernel_rfl) (by kernel_rfl) (by kernel_rfl) ⟨_, rfl, waits_one (by kernel_rfl)⟩ (fun _ _ _ h => by cases h.1) (Or.inl ⟨by rfl, fun w hw => ?_⟩) ⟨hS0.1, hS0.2 _⟩ (by kernel_rfl) ?_
              · have hw6 := (hw.2 rfl).1
                have hw7 := (hw.2 rfl).2
                go_simp
              try simp only [Act.put, List.setIfInBounds_toArray, List.set_cons_zero, List.set_cons_succ]
              refine Tp.anyP_takeU (i := 7) (v := (.slice (some ⟨gm, 0, none⟩) (pw + 1) (pw + 1))) (fun w' => w'.cell? ⟨gm + 1, 0, none⟩ = some (.slice (some ⟨gm, 0, none⟩) (pw + 1) (pw + 1))) (fun _ _ h => h.1) (by decide) rfl (by kernel_rfl) (by kernel_rfl) (by kernel_rfl) (fun _ _ _ h => by cases h.1) (Or.inl ⟨by rfl, fun w hw => ?_⟩) ⟨hS0.1, hS0.2 _⟩ ?_
              · go_simp
              try simp only [Act.put, List.setIfInBounds_toArray, List.set_cons_zero, List.set_cons_succ]
              have hc : Ext wr wr.drew := (Ext.refl wr).drew
              refine Tp.anyP_two (i := 3) (j := 8) (by kernel_rfl) rfl rfl (fun K hK => ?_) (fun K hK => ?_)
              · have hA : Ext wr (wr.drew.alloc (.cells #[(.slice Bv (Tp.upTo M (pw + 1)).length dv)] 48)) ∧ wr.cell? ⟨gm + 1, 0, none⟩ = some (.slice (some ⟨gm, 0, none⟩) (pw + 1) (pw + 1)) ∧ wr.cell? ⟨w.heap.size + 1 + 1, 6, none⟩ = some vs ∧ wr.cell? ⟨w.heap.size + 1 + 1, 7, none⟩ = some vm := ⟨hc.alloc _, cb, c6, c7⟩
                rw [if_pos (by rfl)]
                go_simp
                refine hK.out _ _ ⟨hA.1.cell hA.2.1, fun _ => ⟨hA.1.cell hA.2.2.1, hA.1.cell hA.2.2.2⟩⟩ ?_
                clear hK K
                try simp only [Act.put, List.setIfInBounds_toArray, List.set_cons_zero, List.set_cons_succ]
                refine Tp.anyP_two (i := 4) (j := 8) (by kernel_rfl) rfl rfl (fun K hK => ?_) (fun K hK => ?_)
                · skip
                  refine step_append_lies _ (by rfl) (Operand.tmp 46) (Operand.tmp 48) _ (by rfl) (w.heap.size + 3) 48 j0 _ 1 24 Tryz.underlying162 hj0 hj1 hj2 hj3 rfl (by omega) vs k xs (by rfl) (own_ext HR4.out.os hA.1) _ 1 1 [(.slice Bv (Tp.upTo M (pw + 1)).length dv)] (by rfl) (by rfl) (World.news_of_block (cs := #[(.slice Bv (Tp.upTo M (pw + 1)).length dv)]) (t := 48) (fr := (0, 0)) (news1 rfl)) (by simp [Value.oneCell']) (by omega) (by unfold maxLen; omega) (by omega) (by simp; omega) _ (by rfl) ?_
                  intro g1 cap1 w1 hown1 hgrow1 hat1 hlt1
                  have ro1 := Tp.far_own (own_ext HR4.out.os hA.1) hgrow1 (HR4.out.out.ext hA.1) (by omega)
                  have rb1 : Row w1 (gm + 1) 63 #[(.slice (some ⟨gm, 0, none⟩) (pw + 1) (pw + 1))] := Tp.grown_far (rb4.ext hA.1) hgrow1 (Ne.symm HN1.out.2.1)
                  have hm1 := Tp.own_grown (own_ext HR4.out.om hA.1) hgrow1 (Tp.rowOf (own_ext HR4.out.os hA.1)) (by decide)
                  have hz1 := hgrow1.size
                  refine hK.out _ _ ⟨rb1.cell 0, fun _ => ⟨ro1.cell 6, ro1.cell 7⟩⟩ ?_
                  clear hK K
                  try simp only [Act.put, List.setIfInBounds_toArray, List.set_cons_zero, List.set_cons_succ]
                  refine Tp.anyP_takeU (i := 10) (v := (.pointer (some ⟨w.heap.size + 1 + 1, 6, none⟩))) (fun _ => True) (fun _ _ _ => trivial) (by decide) rfl (by kernel_rfl) (by kernel_rfl) (by kernel_rfl) (fun _ _ _ h => by cases h.1) (Or.inl ⟨by rfl, fun w _ => ?_⟩) ⟨rb1.cell 0, fun _ => ⟨ro1.cell 6, ro1.cell 7⟩⟩ ?_
                  · go_simp
                  try simp only [Act.put, List.setIfInBounds_toArray, List.set_cons_zero, List.set_cons_succ]
                  have hB : Ext w1 (w1.alloc (.cells #[(.slice (some ⟨gm, 0, none⟩) (pw + 1) (pw + 1))] 63)) := (Ext.refl _).alloc _
                  refine Tp.anyP_one (i := 8) (by kernel_rfl) rfl (fun K hK => ?_)
                  rw [if_pos (by rfl)]
                  go_simp
                  refine hK.out _ _ ⟨(rb1.ext hB).cell 0, fun _ => ⟨(ro1.ext hB).cell 6, (ro1.ext hB).cell 7⟩⟩ ?_
                  clear hK K
                  try simp only [Act.put, List.setIfInBounds_toArray, List.set_cons_zero, List.set_cons_succ]
                  refine Tp.anyP_one (i := 9) (by kernel_rfl) rfl (fun K hK => ?_)
                  refine step_append_lies _ (by rfl) (Operand.tmp 51) (Operand.tmp 53) _ (by rfl) (w.heap.size + 3) 63 l0 _ 1 24 Tryz.underlying163 hl0 hl1 hl2 hl3 rfl (by omega) vm k ys (by rfl) (own_ext hm1 hB) _ 1 1 [(.slice (some ⟨gm, 0, none⟩) (pw + 1) (pw + 1))] (by rfl) (by rfl) (World.news_of_block (cs := #[(.slice (some ⟨gm, 0, none⟩) (pw + 1) (pw + 1))]) (t := 63) (fr := (0, 0)) (news1 rfl)) (by simp [Value.oneCell']) (by omega) (by unfold maxLen; omega) (by omega) (by simp at hz1 ⊢; omega) _ (by rfl) ?_
                  intro g2 cap2 w2 hown2 hgrow2 hat2 hlt2
                  have ro2 := Tp.far_own (own_ext hm1 hB) hgrow2 (ro1.ext hB) (by omega)
                  have rb2 : Row w2 (gm + 1) 63 #[(.slice (some ⟨gm, 0, none⟩) (pw + 1) (pw + 1))] := Tp.grown_far (rb1.ext hB) hgrow2 (Ne.symm HN1.out.2.2.2)
                  refine hK.out _ _ ⟨rb2.cell 0, fun _ => ⟨ro2.cell 6, ro2.cell 7⟩⟩ ?_
                  clear hK K
                  try simp only [Act.put, List.setIfInBounds_toArray, List.set_cons_zero, List.set_cons_succ]
                  have c62 : w2.cell? ⟨w.heap.size + 1 + 1, 6, none⟩ = some vs := ro2.cell 6
                  have f62 := ro2.free 6
                  have j2 := lts ro2.lt
                  refine Tp.anyP_one (i := 11) (by kernel_rfl) rfl (fun K hK => ?_)
                  rw [if_pos (by rfl)]
                  go_simp
                  have ro3 := ro2.set_ 6 (.slice (some ⟨g1, 0, none⟩) (k + 1) cap1)
                  have rb3 := rb2.far (p := ⟨w.heap.size + 1 + 1, 6, none⟩) (by simp; omega) (.slice (some ⟨g1, 0, none⟩) (k + 1) cap1)
                  refine hK.out _ _ ⟨rb3.cell 0, fun h => (by cases h)⟩ ?_
                  clear hK K c62 f62 j2
                  try simp only [Act.put, List.setIfInBounds_toArray, List.set_cons_zero, List.set_cons_succ]
                  refine Tp.anyP_takeU (i := 12) (v := (.pointer (some ⟨w.heap.size + 1 + 1, 7, none⟩))) (fun _ => True) (fun _ _ _ => trivial) (by decide) rfl (by kernel_rfl) (by kernel_rfl) (by kernel_rfl) (fun _ _ _ h => by cases h.1) (Or.inl ⟨by rfl, fun w _ => ?_⟩) ⟨rb3.cell 0, fun h => (by cases h)⟩ ?_
                  · go_simp
                  try simp only [Act.put, List.setIfInBounds_toArray, List.set_cons_zero, List.set_cons_succ]
                  have c72 : (w2.setCell ⟨w.heap.size + 1 + 1, 6, none⟩ (.slice (some ⟨g1, 0, none⟩) (k + 1) cap1)).cell? ⟨w.heap.size + 1 + 1, 7, none⟩ = some vm := ro3.cell 7
                  have f72 := ro3.free 7
                  have j2 := lts ro3.lt
                  refine Tp.anyP_one (i := 13) (by kernel_rfl) rfl (fun K hK => ?_)
                  rw [if_pos (by rfl)]
                  go_simp
                  have rb4x := rb3.far (p := ⟨w.heap.size + 1 + 1, 7, none⟩) (by simp; omega) (.slice (some ⟨g2, 0, none⟩) (k + 1) cap2)
                  refine hK.out _ _ ⟨rb4x.cell 0, fun h => (by cases h)⟩ ?_
                  clear hK K c72 f72 j2
                  try simp only [Act.put, List.setIfInBounds_toArray, List.set_cons_zero, List.set_cons_succ]
                  refine ⟨by kernel_rfl, ?_⟩
                  have hst := HR4.out.step HONE.out hA.1 hgrow1 hown1 hB hgrow2 hown2
                  exact ⟨rfl, ⟨_, _, _, _, _, _, _, _, _, _, _, _, rfl⟩, ⟨_, _, _, _, hst.1⟩, hst.2⟩
                · have hA2 : Ext wr ((wr.drew.alloc (.cells #[(.slice Bv (Tp.upTo M (pw + 1)).length dv)] 48)).alloc (.cells #[(.slice (some ⟨gm, 0, none⟩) (pw + 1) (pw + 1))] 63)) ∧ wr.cell? ⟨gm + 1, 0, none⟩ = some (.slice (some ⟨gm, 0, none⟩) (pw + 1) (pw + 1)) ∧ wr.cell? ⟨w.heap.size + 1 + 1, 6, none⟩ = some vs ∧ wr.cell? ⟨w.heap.size + 1 + 1, 7, none⟩ = some vm := ⟨(hc.alloc _).alloc _, cb, c6, c7⟩
                  rw [if_pos (by rfl)]
                  go_simp
                  refine hK.out _ _ ⟨hA2.1.cell hA2.2.1, fun _ => ⟨hA2.1.cell hA2.2.2.1, hA2.1.cell hA2.2.2.2⟩⟩ ?_
                  clear hK K
                  try simp only [Act.put, List.setIfInBounds_toArray, List.set_cons_zero, List.set_cons_succ]
                  refine Tp.anyP_one (i := 4) (by kernel_rfl) rfl (fun K hK => ?_)
                  refine step_append_lies _ (by rfl) (Operand.tmp 46) (Operand.tmp 48) _ (by rfl) (w.heap.size + 3) 48 j0 _ 1 24 Tryz.underlying162 hj0 hj1 hj2 hj3 rfl (by omega) vs k xs (by rfl) (own_ext HR4.out.os hA2.1) _ 1 1 [(.slice Bv (Tp.upTo M (pw + 1)).length dv)] (by rfl) (by rfl) (World.news_of_block (cs := #[(.slice Bv (Tp.upTo M (pw + 1)).length dv)]) (t := 48) (fr := (0, 0)) (by exact news2 (by simp))) (by simp [Value.oneCell']) (by omega) (by unfold maxLen; omega) (by omega) (by simp; omega) _ (by rfl) ?_
                  intro g1 cap1 w1 hown1 hgrow1 hat1 hlt1
                  have ro1 := Tp.far_own (own_ext HR4.out.os hA2.1) hgrow1 (HR4.out.out.ext hA2.1) (by omega)
                  have rb1 : Row w1 (gm + 1) 63 #[(.slice (some ⟨gm, 0, none⟩) (pw + 1) (pw + 1))] := Tp.grown_far (rb4.ext hA2.1) hgrow1 (Ne.symm HN1.out.2.1)
                  have hm1 := Tp.own_grown (own_ext HR4.out.om hA2.1) hgrow1 (Tp.rowOf (own_ext HR4.out.os hA2.1)) (by decide)
                  have hz1 := hgrow1.size
                  refine hK.out _ _ ⟨rb1.cell 0, fun _ => ⟨ro1.cell 6, ro1.cell 7⟩⟩ ?_
                  clear hK K
                  try simp only [Act.put, List.setIfInBounds_toArray, List.set_cons_zero, List.set_cons_succ]
                  refine Tp.anyP_takeU (i := 10) (v := (.pointer (some ⟨w.heap.size + 1 + 1, 6, none⟩))) (fun _ => True) (fun _ _ _ => trivial) (by decide) rfl (by kernel_rfl) (by kernel_rfl) (by kernel_rfl) (fun _ _ _ h => by cases h.1) (Or.inl ⟨by rfl, fun w _ => ?_⟩) ⟨rb1.cell 0, fun _ => ⟨ro1.cell 6, ro1.cell 7⟩⟩ ?_
                  · go_simp
                  try simp only [Act.put, List.setIfInBounds_toArray, List.set_cons_zero, List.set_cons_succ]
                  refine Tp.anyP_one (i := 9) (by kernel_rfl) rfl (fun K hK => ?_)
                  refine step_append_lies _ (by rfl) (Operand.tmp 51) (Operand.tmp 53) _ (by rfl) (w.heap.size + 3) 63 l0 _ 1 24 Tryz.underlying163 hl0 hl1 hl2 hl3 rfl (by omega) vm k ys (by rfl) (own_ext hm1 (Ext.refl w1)) _ 1 1 [(.slice (some ⟨gm, 0, none⟩) (pw + 1) (pw + 1))] (by rfl) (by rfl) (World.news_of_block (cs := #[(.slice (some ⟨gm, 0, none⟩) (pw + 1) (pw + 1))]) (t := 63) (fr := (0, 0)) (by exact (hgrow1.block _ (by first | (simp; done) | (simp; omega) | omega) (fun e => by have := (HR4.out.os.lt _ e.symm).2; first | omega | (simp at this; done) | (simp at this; omega))).trans (news1 (by simp)))) (by simp [Value.oneCell']) (by omega) (by unfold maxLen; omega) (by omega) (by simp at hz1 ⊢; omega) _ (by rfl) ?_
                  intro g2 cap2 w2 hown2 hgrow2 hat2 hlt2
                  have ro2 := Tp.far_own (own_ext hm1 (Ext.refl w1)) hgrow2 (ro1.ext (Ext.refl w1)) (by omega)
                  have rb2 : Row w2 (gm + 1) 63 #[(.slice (some ⟨gm, 0, none⟩) (pw + 1) (pw + 1))] := Tp.grown_far (rb1.ext (Ext.refl w1)) hgrow2 (Ne.symm HN1.out.2.2.2)
                  refine hK.out _ _ ⟨rb2.cell 0, fun _ => ⟨ro2.cell 6, ro2.cell 7⟩⟩ ?_
                  clear hK K
                  try simp only [Act.put, List.setIfInBounds_toArray, List.set_cons_zero, List.set_cons_succ]
                  have c62 : w2.cell? ⟨w.heap.size + 1 + 1, 6, none⟩ = some vs := ro2.cell 6
                  have f62 := ro2.free 6
                  have j2 := lts ro2.lt
                  refine Tp.anyP_one (i := 11) (by kernel_rfl) rfl (fun K hK => ?_)
                  rw [if_pos (by rfl)]
                  go_simp
                  have ro3 := ro2.set_ 6 (.slice (some ⟨g1, 0, none⟩) (k + 1) cap1)
                  have rb3 := rb2.far (p := ⟨w.heap.size + 1 + 1, 6, none⟩) (by simp; omega) (.slice (some ⟨g1, 0, none⟩) (k + 1) cap1)
                  refine hK.out _ _ ⟨rb3.cell 0, fun h => (by cases h)⟩ ?_
                  clear hK K c62 f62 j2
                  try simp only [Act.put, List.setIfInBounds_toArray, List.set_cons_zero, List.set_cons_succ]
                  refine Tp.anyP_takeU (i := 12) (v := (.pointer (some ⟨w.heap.size + 1 + 1, 7, none⟩))) (fun _ => True) (fun _ _ _ => trivial) (by decide) rfl (by kernel_rfl) (by kernel_rfl) (by kernel_rfl) (fun _ _ _ h => by cases h.1) (Or.inl ⟨by rfl, fun w _ => ?_⟩) ⟨rb3.cell 0, fun h => (by cases h)⟩ ?_
                  · go_simp
                  try simp only [Act.put, List.setIfInBounds_toArray, List.set_cons_zero, List.set_cons_succ]
                  have c72 : (w2.setCell ⟨w.heap.size + 1 + 1, 6, none⟩ (.slice (some ⟨g1, 0, none⟩) (k + 1) cap1)).cell? ⟨w.heap.size + 1 + 1, 7, none⟩ = some vm := ro3.cell 7
                  have f72 := ro3.free 7
                  have j2 := lts ro3.lt
                  refine Tp.anyP_one (i := 13) (by kernel_rfl) rfl (fun K hK => ?_)
                  rw [if_pos (by rfl)]
                  go_simp
                  have rb4x := rb3.far (p := ⟨w.heap.size + 1 + 1, 7, none⟩) (by simp; omega) (.slice (some ⟨g2, 0, none⟩) (k + 1) cap2)
                  refine hK.out _ _ ⟨rb4x.cell 0, fun h => (by cases h)⟩ ?_
                  clear hK K c72 f72 j2
                  try simp only [Act.put, List.setIfInBounds_toArray, List.set_cons_zero, List.set_cons_succ]
                  refine ⟨by kernel_rfl, ?_⟩
                  have hst := HR4.out.step HONE.out hA2.1 hgrow1 hown1 (Ext.refl w1) hgrow2 hown2
                  exact ⟨rfl, ⟨_, _, _, _, _, _, _, _, _, _, _, _, rfl⟩, ⟨_, _, _, _, hst.1⟩, hst.2⟩
              · have hA : Ext wr (wr.drew.alloc (.cells #[(.slice (some ⟨gm, 0, none⟩) (pw + 1) (pw + 1))] 63)) ∧ wr.cell? ⟨gm + 1, 0, none⟩ = some (.slice (some ⟨gm, 0, none⟩) (pw + 1) (pw + 1)) ∧ wr.cell? ⟨w.heap.size + 1 + 1, 6, none⟩ = some vs ∧ wr.cell? ⟨w.heap.size + 1 + 1, 7, none⟩ = some vm := ⟨hc.alloc _, cb, c6, c7⟩
                rw [if_pos (by rfl)]
                go_simp
                refine hK.out _ _ ⟨hA.1.cell hA.2.1, fun _ => ⟨hA.1.cell hA.2.2.1, hA.1.cell hA.2.2.2⟩⟩ ?_
                clear hK K
                try simp only [Act.put, List.setIfInBounds_toArray, List.set_cons_zero, List.set_cons_succ]
                have hA2 : Ext wr ((wr.drew.alloc (.cells #[(.slice (some ⟨gm, 0, none⟩) (pw + 1) (pw + 1))] 63)).alloc (.cells #[(.slice Bv (Tp.upTo M (pw + 1)).length dv)] 48)) ∧ wr.cell? ⟨gm + 1, 0, none⟩ = some (.slice (some ⟨gm, 0, none⟩) (pw + 1) (pw + 1)) ∧ wr.cell? ⟨w.heap.size + 1 + 1, 6, none⟩ = some vs ∧ wr.cell? ⟨w.heap.size + 1 + 1, 7, none⟩ = some vm := ⟨(hc.alloc _).alloc _, cb, c6, c7⟩
                refine Tp.anyP_one (i := 3) (by kernel_rfl) rfl (fun K hK => ?_)
                rw [if_pos (by rfl)]
                go_simp
                refine hK.out _ _ ⟨hA2.1.cell hA2.2.1, fun _ => ⟨hA2.1.cell hA2.2.2.1, hA2.1.cell hA2.2.2.2⟩⟩ ?_
                clear hK K
                try simp only [Act.put, List.setIfInBounds_toArray, List.set_cons_zero, List.set_cons_succ]
                refine Tp.anyP_one (i := 4) (by kernel_rfl) rfl (fun K hK => ?_)
                refine step_append_lies _ (by rfl) (Operand.tmp 46) (Operand.tmp 48) _ (by rfl) (w.heap.size + 3) 48 j0 _ 1 24 Tryz.underlying162 hj0 hj1 hj2 hj3 rfl (by omega) vs k xs (by rfl) (own_ext HR4.out.os hA2.1) _ 1 1 [(.slice Bv (Tp.upTo M (pw + 1)).length dv)] (by rfl) (by rfl) (World.news_of_block (cs := #[(.slice Bv (Tp.upTo M (pw + 1)).length dv)]) (t := 48) (fr := (0, 0)) (by exact news1 (by simp))) (by simp [Value.oneCell']) (by omega) (by unfold maxLen; omega) (by omega) (by simp; omega) _ (by rfl) ?_
                intro g1 cap1 w1 hown1 hgrow1 hat1 hlt1
                have ro1 := Tp.far_own (own_ext HR4.out.os hA2.1) hgrow1 (HR4.out.out.ext hA2.1) (by omega)
                have rb1 : Row w1 (gm + 1) 63 #[(.slice (some ⟨gm, 0, none⟩) (pw + 1) (pw + 1))] := Tp.grown_far (rb4.ext hA2.1) hgrow1 (Ne.symm HN1.out.2.1)
                have hm1 := Tp.own_grown (own_ext HR4.out.om hA2.1) hgrow1 (Tp.rowOf (own_ext HR4.out.os hA2.1)) (by decide)
                have hz1 := hgrow1.size
                refine hK.out _ _ ⟨rb1.cell 0, fun _ => ⟨ro1.cell 6, ro1.cell 7⟩⟩ ?_
                clear hK K
                try simp only [Act.put, List.setIfInBounds_toArray, List.set_cons_zero, List.set_cons_succ]
                refine Tp.anyP_takeU (i := 10) (v := (.pointer (some ⟨w.heap.size + 1 + 1, 6, none⟩))) (fun _ => True) (fun _ _ _ => trivial) (by decide) rfl (by kernel_rfl) (by kernel_rfl) (by kernel_rfl) (fun _ _ _ h => by cases h.1) (Or.inl ⟨by rfl, fun w _ => ?_⟩) ⟨rb1.cell 0, fun _ => ⟨ro1.cell 6, ro1.cell 7⟩⟩ ?_
                · go_simp
                try simp only [Act.put, List.setIfInBounds_toArray, List.set_cons_zero, List.set_cons_succ]
                refine Tp.anyP_one (i := 9) (by kernel_rfl) rfl (fun K hK => ?_)
                refine step_append_lies _ (by rfl) (Operand.tmp 51) (Operand.tmp 53) _ (by rfl) (w.heap.size + 3) 63 l0 _ 1 24 Tryz.underlying163 hl0 hl1 hl2 hl3 rfl (by omega) vm k ys (by rfl) (own_ext hm1 (Ext.refl w1)) _ 1 1 [(.slice (some ⟨gm, 0, none⟩) (pw + 1) (pw + 1))] (by rfl) (by rfl) (World.news_of_block (cs := #[(.slice (some ⟨gm, 0, none⟩) (pw + 1) (pw + 1))]) (t := 63) (fr := (0, 0)) (by exact (hgrow1.block _ (by first | (simp; done) | (simp; omega) | omega) (fun e => by have := (HR4.out.os.lt _ e.symm).2; first | omega | (simp at this; done) | (simp at this; omega))).trans (news2 (by simp)))) (by simp [Value.oneCell']) (by omega) (by unfold maxLen; omega) (by omega) (by simp at hz1 ⊢; omega) _ (by rfl) ?_
                intro g2 cap2 w2 hown2 hgrow2 hat2 hlt2
                have ro2 := Tp.far_own (own_ext hm1 (Ext.refl w1)) hgrow2 (ro1.ext (Ext.refl w1)) (by omega)
                have rb2 : Row w2 (gm + 1) 63 #[(.slice (some ⟨gm, 0, none⟩) (pw + 1) (pw + 1))] := Tp.grown_far (rb1.ext (Ext.refl w1)) hgrow2 (Ne.symm HN1.out.2.2.2)
                refine hK.out _ _ ⟨rb2.cell 0, fun _ => ⟨ro2.cell 6, ro2.cell 7⟩⟩ ?_
                clear hK K
                try simp only [Act.put, List.setIfInBounds_toArray, List.set_cons_zero, List.set_cons_succ]
                have c62 : w2.cell? ⟨w.heap.size + 1 + 1, 6, none⟩ = some vs := ro2.cell 6
                have f62 := ro2.free 6
                have j2 := lts ro2.lt
                refine Tp.anyP_one (i := 11) (by kernel_rfl) rfl (fun K hK => ?_)
                rw [if_pos (by rfl)]
                go_simp
                have ro3 := ro2.set_ 6 (.slice (some ⟨g1, 0, none⟩) (k + 1) cap1)
                have rb3 := rb2.far (p := ⟨w.heap.size + 1 + 1, 6, none⟩) (by simp; omega) (.slice (some ⟨g1, 0, none⟩) (k + 1) cap1)
                refine hK.out _ _ ⟨rb3.cell 0, fun h => (by cases h)⟩ ?_
                clear hK K c62 f62 j2
                try simp only [Act.put, List.setIfInBounds_toArray, List.set_cons_zero, List.set_cons_succ]
                refine Tp.anyP_takeU (i := 12) (v := (.pointer (some ⟨w.heap.size + 1 + 1, 7, none⟩))) (fun _ => True) (fun _ _ _ => trivial) (by decide) rfl (by kernel_rfl) (by kernel_rfl) (by kernel_rfl) (fun _ _ _ h => by cases h.1) (Or.inl ⟨by rfl, fun w _ => ?_⟩) ⟨rb3.cell 0, fun h => (by cases h)⟩ ?_
                · go_simp
                try simp only [Act.put, List.setIfInBounds_toArray, List.set_cons_zero, List.set_cons_succ]
                have c72 : (w2.setCell ⟨w.heap.size + 1 + 1, 6, none⟩ (.slice (some ⟨g1, 0, none⟩) (k + 1) cap1)).cell? ⟨w.heap.size + 1 + 1, 7, none⟩ = some vm := ro3.cell 7
                have f72 := ro3.free 7
                have j2 := lts ro3.lt
                refine Tp.anyP_one (i := 13) (by kernel_rfl) rfl (fun K hK => ?_)
                rw [if_pos (by rfl)]
                go_simp
                have rb4x := rb3.far (p := ⟨w.heap.size + 1 + 1, 7, none⟩) (by simp; omega) (.slice (some ⟨g2, 0, none⟩) (k + 1) cap2)
                refine hK.out _ _ ⟨rb4x.cell 0, fun h => (by cases h)⟩ ?_
                clear hK K c72 f72 j2
                try simp only [Act.put, List.setIfInBounds_toArray, List.set_cons_zero, List.set_cons_succ]
                refine ⟨by kernel_rfl, ?_⟩
                have hst := HR4.out.step HONE.out hA2.1 hgrow1 hown1 (Ext.refl w1) hgrow2 hown2
                exact ⟨rfl, ⟨_, _, _, _, _, _, _, _, _, _, _, _, rfl⟩, ⟨_, _, _, _, hst.1⟩, hst.2⟩
            case hq =>
              rintro e a' w7 ⟨rfl, ⟨z45, z46, z47, z48, z49, z50, z51, z52, z53, z54, z55, z56, rfl⟩, ⟨vs', vm', xs', ys', hR7⟩, hK7⟩
              subst ha0
              simp only [Act.put, List.setIfInBounds_toArray, List.set_cons_succ, List.set_cons_zero]
              have HR7 := Lib.hid hR7
              have HK7 := Lib.hid hK7
              have HEW4 := Lib.hid hEW4
              clear hR7 hK7 c6 c7 cb f6 f7 rb4 hEW4
              gi_wp2
              refine ⟨⟨k + 1, D :: Ds, vs', vm', xs', ys', _, _, _, _, _, _, _, _, _, _, _, _, _, _, _, _, _, _, _, _, _, _, _, _, _, _, _, _, _, _, _, _, _, _, _, _, _, _, _, _, _, _, _, _, _, _, _, rfl, by omega, List.nodup_cons.2 ⟨fun h => ?_, HND.out⟩, fun D' h => ?_, HR7.out⟩, ?_⟩
              · have h1 := (Array.getElem?_eq_some_iff.1 (HDS.out D h).2).1
                omega
              · rcases List.mem_cons.1 h with rfl | h'
                · exact ⟨by omega, HK7.out.same _ _ ((HEW4.out.block _ (Array.getElem?_eq_some_iff.1 HKD.out).1).trans HKD.out) rfl⟩
                · exact ⟨(HDS.out D' h').1, HK7.out.same _ _ (((HEW.out.trans HEW4.out).block _ (Array.getElem?_eq_some_iff.1 (HDS.out D' h').2).1).trans (HDS.out D' h').2) rfl⟩
              · simp [intOf]; omega
    · obtain rfl : k = P + 1 := by omega
      have hlt' : ¬ (((P + 1 : Nat) : Int) < (P : Int) + 1) := by omega
      obtain ⟨Bs, ds, rfl⟩ := Tp.own_slice HR.out.os
      obtain ⟨Bm, dm, rfl⟩ := Tp.own_slice HR.out.om
      have cO := HR.out.out.cell
      have cZ := HR.out.res.cell
      have fZ := HR.out.res.free
      have jZ := lts HR.out.res.lt
      gi_wp2
      have HX := Lib.hid (Tp.set8 HR.out.res (.int .i64 a) (.int .i64 b) (.int .i64 (P : Int)) (.int .i64 s) (.slice Av nv cv) (.slice At teeth.length ct) (.slice Bs (P + 1) ds) (.slice Bm (P + 1) dm))
      have HO := Lib.hid (fun C h0 hC => Tp.through8 (C := C) (g := w.heap.size + 1) hC (w := wr) h0 (.int .i64 a) (.int .i64 b) (.int .i64 (P : Int)) (.int .i64 s) (.slice Av nv cv) (.slice At teeth.length ct) (.slice Bs (P + 1) ds) (.slice Bm (P + 1) dm))
      refine Tp.leaves_marks w.heap.size Ds _ HND.out (fun D h => ⟨(HDS.out D h).1, ?_⟩) (fun w9 hs => ?_)
      · exact HO.out (fun W => W.heap[D]? = some (.deferred (some []))) (HDS.out D h).2 (fun W i v h => (KeepsOthers.setCell W _ v).same _ _ h rfl)
      · have k0 := (hs.row HX.out).cell
        refine ⟨.agg #[.int .i64 a, .int .i64 b, .int .i64 (P : Int), .int .i64 s, .slice Av nv cv, .slice At teeth.length ct, .slice Bs (P + 1) ds, .slice Bm (P + 1) dm], by simp [results, Tryz.results91, go_sem, k0], xs, ys, Bs, ds, Bm, dm, rfl, ?_, ?_, ?_, ?_⟩
        · exact hs.own (HO.out (fun W => W.ownsRow (w.heap.size + 3) 48 1 (.slice Bs (P + 1) ds) (P + 1) xs) HR.out.os (fun W i v h => ownsRow_setCell_below h (by simp) v))
        · exact hs.own (HO.out (fun W => W.ownsRow (w.heap.size + 3) 63 1 (.slice Bm (P + 1) dm) (P + 1) ys) HR.out.om (fun W i v h => ownsRow_setCell_below h (by simp) v))
        · exact fun j hj => (HO.out (fun W => Tp.One (w.heap.size + 3) teeth W (xs.getD j undef) (ys.getD j undef) j) (HR.out.all j hj) (fun W i v h => h.set (by simp) v)).cells hs
        · exact Below.trans (HO.out (fun W => Ext w W) HR.out.ext (fun W i v h => h.setCell (p := ⟨w.heap.size + 1, i, none⟩) (by simp) v)) hs.below
theorem t_prepared_any (a b s : Int) (Av : Option Addr) (nv cv : Nat) (At : Option Addr) (ct : Nat) (teeth : List Int) (P : Nat) (w : World) (hP : P ≤ 2) (hm : Ints w At teeth) (hl : teeth.length ≤ 1000) (ht : ∀ k, k < teeth.length → 1 ≤ rd teeth k ∧ rd teeth k ≤ 60) :
    Calls Tryz.prog 91 #[.agg #[.int .i64 a, .int .i64 b, .int .i64 (P : Int), .int .i64 s, .slice Av nv cv, .slice At teeth.length ct]] w fun e w' => ∃ xs ys Bs ds Bm dm, e = .returned (.agg #[.int .i64 a, .int .i64 b, .int .i64 (P : Int), .int .i64 s, .slice Av nv cv, .slice At teeth.length ct, .slice Bs (P + 1) ds, .slice Bm (P + 1) dm]) ∧
      w'.ownsRow (w.heap.size + 3) 48 1 (.slice Bs (P + 1) ds) (P + 1) xs ∧ w'.ownsRow (w.heap.size + 3) 63 1 (.slice Bm (P + 1) dm) (P + 1) ys ∧ (∀ j, j < P + 1 → Tp.One (w.heap.size + 3) teeth w' (xs.getD j undef) (ys.getD j undef) j) ∧ Ext w w' :=
  callsIn_wide.1 (t_prepared_in a b s Av nv cv At ct teeth P w hP hm hl ht)
end Go.Proofs.YtimkmokomohgjaaGreat
