/- The walk of the law SkyMore. (Printed by wip/mklaws1.py.) -/
import Derived.Test.YtlcddcnmoajpjaaGreatDoorLawSkyAgrees
import Derived.Test.YtlcddcnmoajpjaaGreatDoorAppNotes
namespace Go.Proofs.YtlcddcnmoajpjaaGreatDoor
open Go.RowKit
open Sp (rd)
set_option linter.unusedSimpArgs false
set_option linter.unusedVariables false

set_option maxRecDepth 100000 in
set_option maxHeartbeats 8000000 in
theorem law_SkyMore (start : Int) (l : List Sp.Note) (A : Option Addr) (c : Nat) (low high : Int) (more : Sp.Note) (less : Int) (w : World) (hV : Env w) (hm : Notes w A l) (hl : l.length ≤ maxLen) (hn : (-9223372036854775808 ≤ more.day ∧ more.day ≤ 9223372036854775807) ∧ (-9223372036854775808 ≤ more.seen ∧ more.seen ≤ 9223372036854775807) ∧ (-9223372036854775808 ≤ more.off ∧ more.off ≤ 9223372036854775807)) :
    Calls Tryz.prog 11 #[.int .i64 start, .slice A l.length c, .int .i64 low, .int .i64 high, .agg #[.int .i64 more.day, .int .i64 more.seen, .int .i64 more.off], .int .i64 less] w fun e w' => e = .returned (.bool true) ∧ Ext w w' := by
  have HM := Lib.hid hm
  have HV := Lib.hid hV
  have hmx : (maxLen : Nat) ≤ 9223372036854775807 := by decide
  have HE0 : Hid (Ext w w) := Lib.hid (Ext.refl w)
  clear hm hV
  go_enter Tryz.func11, Tryz.ntmps11
  have hboff := hn.2.2
  have HRM := Lib.hid (Row.new w 76 #[.int .i64 more.day, .int .i64 more.seen, .int .i64 more.off])
  have hX1 : Ext w (w.alloc (.cells #[.int .i64 more.day, .int .i64 more.seen, .int .i64 more.off] 76)) := (Ext.refl _).alloc _
  have HE1 := Lib.hid (HE0.out.trans hX1)
  have bRM := HRM.out.cell
  clear hX1
  go_wp2_with fail
  generalize w.alloc (.cells #[.int .i64 more.day, .int .i64 more.seen, .int .i64 more.off] 76) = w1 at *
  cases hfew : decide ((l.length : Int) ≤ 8) with
  | false =>
    refine (few_any A l.length c _ (by omega)).mono ?_
    rintro e w' ⟨rfl, rfl⟩
    rw [hfew]
    go_wp2_with fail
    refine (known_any w1 (HV.out.ext HE1.out)).mono ?_
    rintro e w2 ⟨rfl, hE2⟩
    go_wp2_with fail
    go_ret
    exact ⟨rfl, HE1.out.trans hE2⟩
  | true =>
    have hl8 : l.length ≤ 8 := by have := of_decide_eq_true hfew; omega
    refine (few_any A l.length c _ (by omega)).mono ?_
    rintro e w' ⟨rfl, rfl⟩
    rw [hfew]
    cases h1 : Sp.spot start with
    | false =>
      go_wp2_with fail
      refine (r_Spot_any _ _).mono ?_
      rintro e w' ⟨rfl, rfl⟩
      rw [h1]
      go_wp2_with fail
      refine (known_any w1 (HV.out.ext HE1.out)).mono ?_
      rintro e w2 ⟨rfl, hE2⟩
      go_wp2_with fail
      go_ret
      exact ⟨rfl, HE1.out.trans hE2⟩
    | true =>
      cases h2 : Sp.notesOk l with
      | false =>
        go_wp2_with fail
        refine (r_Spot_any _ _).mono ?_
        rintro e w' ⟨rfl, rfl⟩
        rw [h1]
        go_wp2_with fail
        refine (r_Notes_any l A c w1 (HM.out.ext HE1.out) (by omega)).mono ?_
        rintro e w2 ⟨rfl, hE2⟩
        have HE2 := Lib.hid (HE1.out.trans hE2)
        replace HRM := Lib.hid (HRM.out.ext hE2)
        clear bRM
        have bRM := HRM.out.cell
        clear hE2
        rw [h2]
        go_wp2_with fail
        refine (known_any w2 (HV.out.ext HE2.out)).mono ?_
        rintro e w3 ⟨rfl, hE3⟩
        go_wp2_with fail
        go_ret
        exact ⟨rfl, HE2.out.trans hE3⟩
      | true =>
        cases h3 : Sp.rangeOk low high with
        | false =>
          go_wp2_with fail
          refine (r_Spot_any _ _).mono ?_
          rintro e w' ⟨rfl, rfl⟩
          rw [h1]
          go_wp2_with fail
          refine (r_Notes_any l A c w1 (HM.out.ext HE1.out) (by omega)).mono ?_
          rintro e w2 ⟨rfl, hE2⟩
          have HE2 := Lib.hid (HE1.out.trans hE2)
          replace HRM := Lib.hid (HRM.out.ext hE2)
          clear bRM
          have bRM := HRM.out.cell
          clear hE2
          rw [h2]
          go_wp2_with fail
          refine (r_Range_any _ _ _).mono ?_
          rintro e w' ⟨rfl, rfl⟩
          rw [h3]
          go_wp2_with fail
          refine (known_any w2 (HV.out.ext HE2.out)).mono ?_
          rintro e w3 ⟨rfl, hE3⟩
          go_wp2_with fail
          go_ret
          exact ⟨rfl, HE2.out.trans hE3⟩
        | true =>
          by_cases hl0 : less < 0
          case pos =>
            go_wp2_with fail
            refine (r_Spot_any _ _).mono ?_
            rintro e w' ⟨rfl, rfl⟩
            rw [h1]
            go_wp2_with fail
            refine (r_Notes_any l A c w1 (HM.out.ext HE1.out) (by omega)).mono ?_
            rintro e w2 ⟨rfl, hE2⟩
            have HE2 := Lib.hid (HE1.out.trans hE2)
            replace HRM := Lib.hid (HRM.out.ext hE2)
            clear bRM
            have bRM := HRM.out.cell
            clear hE2
            rw [h2]
            go_wp2_with fail
            refine (r_Range_any _ _ _).mono ?_
            rintro e w' ⟨rfl, rfl⟩
            rw [h3]
            go_wp2_with fail
            refine (known_any w2 (HV.out.ext HE2.out)).mono ?_
            rintro e w3 ⟨rfl, hE3⟩
            go_wp2_with fail
            go_ret
            exact ⟨rfl, HE2.out.trans hE3⟩
          case neg =>
            by_cases hlm : more.off < less
            case pos =>
              go_wp2_with fail
              refine (r_Spot_any _ _).mono ?_
              rintro e w' ⟨rfl, rfl⟩
              rw [h1]
              go_wp2_with fail
              refine (r_Notes_any l A c w1 (HM.out.ext HE1.out) (by omega)).mono ?_
              rintro e w2 ⟨rfl, hE2⟩
              have HE2 := Lib.hid (HE1.out.trans hE2)
              replace HRM := Lib.hid (HRM.out.ext hE2)
              clear bRM
              have bRM := HRM.out.cell
              clear hE2
              rw [h2]
              go_wp2_with fail
              refine (r_Range_any _ _ _).mono ?_
              rintro e w' ⟨rfl, rfl⟩
              rw [h3]
              go_wp2_with fail
              refine (known_any w2 (HV.out.ext HE2.out)).mono ?_
              rintro e w3 ⟨rfl, hE3⟩
              go_wp2_with fail
              go_ret
              exact ⟨rfl, HE2.out.trans hE3⟩
            case neg =>
              go_wp2_with fail
              refine (r_Spot_any _ _).mono ?_
              rintro e w' ⟨rfl, rfl⟩
              rw [h1]
              go_wp2_with fail
              refine (r_Notes_any l A c w1 (HM.out.ext HE1.out) (by omega)).mono ?_
              rintro e w2 ⟨rfl, hE2⟩
              have HE2 := Lib.hid (HE1.out.trans hE2)
              replace HRM := Lib.hid (HRM.out.ext hE2)
              clear bRM
              have bRM := HRM.out.cell
              clear hE2
              rw [h2]
              go_wp2_with fail
              refine (r_Range_any _ _ _).mono ?_
              rintro e w' ⟨rfl, rfl⟩
              rw [h3]
              obtain ⟨m, hm⟩ : ∃ m, l ++ [more] = m := ⟨_, rfl⟩
              have hml : m.length = l.length + 1 := by rw [← hm]; simp
              have hmc : noteCells l ++ [.int .i64 more.day, .int .i64 more.seen, .int .i64 more.off] = noteCells m := by rw [← hm, noteCells_app]; rfl
              have HMM := Lib.hid hm
              clear hm
              have hrm := HRM.out.lt
              obtain ⟨i0, hi0, hi1, hi2, hi3⟩ := info_parts info_note
              go_wp2_with fail
              refine cut_at (AppPost 54 55 56 57 58 13 w2 m (.slice A l.length c) (.agg #[.int .i64 more.day, .int .i64 more.seen, .int .i64 more.off])) ?hr ?hq
              case hr =>
                skip
                rcases Nat.eq_zero_or_pos l.length with h0 | h0
                · obtain rfl := List.eq_nil_of_length_eq_zero h0
                  go_region_law (first | (refine step_append_none A c rfl (Operand.const (.slice none 0 0)) (Operand.tmp 54) rfl rfl rfl (by simp [Act.eval, Act.put]) ?_) | (refine step_append_lies _ rfl (Operand.tmp 55) (Operand.tmp 57) 58 rfl w2.heap.size 76 i0 _ 3 24 Tryz.underlying58 hi0 hi1 hi2 hi3 rfl (by decide) (.slice none 0 0) 0 [] (by simp [Act.eval, Act.put]) (World.ownsRow_nil _ _ _ _) ⟨w2.heap.size, 0, none⟩ 1 1 [.int .i64 more.day, .int .i64 more.seen, .int .i64 more.off] (by simp [Act.eval, Act.put]) rfl (World.news_of_block (cs := #[.int .i64 more.day, .int .i64 more.seen, .int .i64 more.off]) (t := 76) (fr := (0, 0)) (heap_alloc_new _ _)) (noteCells_one [more]) (by omega) (by simp only [maxLen]; omega) (by omega) (by simp) _ rfl ?_; intro g2 cap2 w10 hown2 hgrow2 hat2 hlt2; have hE10 : Ext w2 w10 := Ext.grown (by repeat (first | exact Ext.refl _ | assumption | apply Ext.drew | apply Ext.alloc)) hgrow2 (fun q hq => by cases hq)))
                  all_goals exact AppPost.mk _ _ g2 cap2 (by rw [← hmc, hml]; exact hown2) hE10 (by rw [hml]; rfl)
                · obtain ⟨b, oo, rfl, hc⟩ := (HM.out.ext HE2.out) h0
                  have HNN := Lib.hid (notes_news hc)
                  go_region_law (first | (refine step_append_lies _ rfl (Operand.const (.slice none 0 0)) (Operand.tmp 54) 58 rfl w2.heap.size 76 i0 _ 3 24 Tryz.underlying58 hi0 hi1 hi2 hi3 rfl (by decide) (.slice none 0 0) 0 [] rfl (World.ownsRow_nil _ _ _ _) ⟨b, oo, none⟩ l.length c (noteCells l) (by simp [Act.eval, Act.put]) (noteCells_length l) (HNN.out _ (by repeat (first | exact Ext.refl _ | assumption | apply Ext.drew | apply Ext.alloc))) (noteCells_one l) h0 (by simp only [maxLen]; omega) (by omega) (by simp) _ rfl ?_; intro g1 cap1 w9 hown1 hgrow1 hat1 hlt1; have hE9 : Ext w2 w9 := Ext.grown (by repeat (first | exact Ext.refl _ | assumption | apply Ext.drew | apply Ext.alloc)) hgrow1 (fun q hq => by cases hq); have b9 := (HRM.out.ext hE9).cell; simp only [Nat.zero_add, List.nil_append] at hown1 ⊢) | (refine step_append_lies _ rfl (Operand.tmp 55) (Operand.tmp 57) 58 rfl w2.heap.size 76 i0 _ 3 24 Tryz.underlying58 hi0 hi1 hi2 hi3 rfl (by decide) (.slice (some ⟨g1, 0, none⟩) l.length cap1) l.length (noteCells l) (by simp [Act.eval, Act.put]) (hown1.alloc (.cells #[.int .i64 more.day, .int .i64 more.seen, .int .i64 more.off] 76)) ⟨w9.heap.size, 0, none⟩ 1 1 [.int .i64 more.day, .int .i64 more.seen, .int .i64 more.off] (by simp [Act.eval, Act.put]) rfl (World.news_of_block (cs := #[.int .i64 more.day, .int .i64 more.seen, .int .i64 more.off]) (t := 76) (fr := (0, 0)) (heap_alloc_new _ _)) (noteCells_one [more]) (by omega) (by simp only [maxLen]; omega) (by omega) (by have := hE9.size; simp; omega) _ rfl ?_; intro g2 cap2 w10 hown2 hgrow2 hat2 hlt2; have hE10 : Ext w2 w10 := Ext.grown (by repeat (first | exact Ext.refl _ | assumption | apply Ext.drew | apply Ext.alloc)) hgrow2 (fun q hq => (hown1.lt q hq).1)) | (refine step_append_lies _ rfl (Operand.tmp 55) (Operand.tmp 57) 58 rfl w2.heap.size 76 i0 _ 3 24 Tryz.underlying58 hi0 hi1 hi2 hi3 rfl (by decide) (.slice (some ⟨g1, 0, none⟩) l.length cap1) l.length (noteCells l) (by simp [Act.eval, Act.put]) hown1 ⟨w2.heap.size, 0, none⟩ 1 1 [.int .i64 more.day, .int .i64 more.seen, .int .i64 more.off] (by simp [Act.eval, Act.put]) rfl (World.news_of_block (cs := #[.int .i64 more.day, .int .i64 more.seen, .int .i64 more.off]) (t := 76) (fr := (0, 0)) ((hgrow1.block _ (by simp) (by intro e; cases e)).trans (heap_alloc_new _ _))) (noteCells_one [more]) (by omega) (by simp only [maxLen]; omega) (by omega) (by have := hE9.size; simp; omega) _ rfl ?_; intro g2 cap2 w10 hown2 hgrow2 hat2 hlt2; have hE10 : Ext w2 w10 := Ext.grown (by repeat (first | exact Ext.refl _ | assumption | apply Ext.drew | apply Ext.alloc)) hgrow2 (fun q hq => (hown1.lt q hq).1)))
                  all_goals exact AppPost.mk _ _ g2 cap2 (by rw [← hmc, hml]; exact hown2) hE10 (by rw [hml]; rfl)
              case hq =>
                intro e a' w3 hap
                obtain ⟨rfl, u55, u57, g2, cap2, hown, hE3, rfl⟩ := hap.get
                clear hap
                simp only [Act.put, List.setIfInBounds_toArray, List.set_cons_succ, List.set_cons_zero]
                have HNX := Lib.hid (own_notes hown)
                clear hown
                have HE3 := Lib.hid (HE2.out.trans hE3)
                replace HRM := Lib.hid (HRM.out.ext hE3)
                clear bRM
                have bRM := HRM.out.cell
                clear hE3
                have hm9 : m.length ≤ 9 := by omega
                have hm0 : 0 < m.length := by omega
                have hlm : (l.length : Int) < (m.length : Int) := by omega
                have HML := Lib.hid hml
                clear hml hmc
                cases h5 : Sp.notesOk m with
                | false =>
                  go_wp2_with fail
                  refine (r_Notes_any m (some ⟨g2, 0, none⟩) cap2 w3 HNX.out (by omega)).mono ?_
                  rintro e w4 ⟨rfl, hE4⟩
                  have HE4 := Lib.hid (HE3.out.trans hE4)
                  replace HNX := Lib.hid (HNX.out.ext hE4)
                  replace HRM := Lib.hid (HRM.out.ext hE4)
                  clear bRM
                  have bRM := HRM.out.cell
                  clear hE4
                  rw [h5]
                  go_wp2_with fail
                  refine (known_any w4 (HV.out.ext HE4.out)).mono ?_
                  rintro e w5 ⟨rfl, hE5⟩
                  go_wp2_with fail
                  go_ret
                  exact ⟨rfl, HE4.out.trans hE5⟩
                | true =>
                  go_wp2_with fail
                  refine (r_Notes_any m (some ⟨g2, 0, none⟩) cap2 w3 HNX.out (by omega)).mono ?_
                  rintro e w4 ⟨rfl, hE4⟩
                  have HE4 := Lib.hid (HE3.out.trans hE4)
                  replace HNX := Lib.hid (HNX.out.ext hE4)
                  replace HRM := Lib.hid (HRM.out.ext hE4)
                  clear bRM
                  have bRM := HRM.out.cell
                  clear hE4
                  rw [h5]
                  obtain ⟨b2, o2, e2, hc2⟩ := HNX.out (by omega)
                  obtain ⟨e3, rfl⟩ : g2 = b2 ∧ o2 = 0 := by simp at e2; exact ⟨e2.1, e2.2.symm⟩
                  subst e3
                  have HNY := Lib.hid (notes_news hc2)
                  have hnt : nt m l.length = more := by rw [← HMM.out]; simp [nt]
                  have hcg := (noteCells_get m l.length (by omega)).2.2
                  rw [hnt] at hcg
                  have HCG := Lib.hid hcg
                  obtain ⟨m', hm'⟩ : ∃ m', l ++ [(⟨more.day, more.seen, more.off - less⟩ : Sp.Note)] = m' := ⟨_, rfl⟩
                  have HML' : Hid (m'.length = m.length) := Lib.hid (by rw [← hm', HML.out]; simp)
                  have hset : (noteCells m).set (l.length * 3 + 2) (.int .i64 (more.off - less)) = noteCells m' := by rw [← hm', ← HMM.out]; exact noteCells_set l more _
                  have HSET := Lib.hid hset
                  have h6 : Sp.notesOk m' = true := by rw [← hm']; exact notesOk_less (by rw [HMM.out]; exact h5) (by omega) (by omega)
                  have HAB := Lib.hid (more_speeds (start := start) (l := l) (m := m) (low := low) (high := high) (p := fun v => decide (Sp.apart (Sp.at_ start v more.day) more.seen ≤ more.off)) (fun v => by rw [← HMM.out]; exact agrees_snoc start l more v))
                  have HBC := Lib.hid (more_speeds (start := start) (l := m) (m := m') (low := low) (high := high) (p := fun v => decide (Sp.apart (Sp.at_ start v more.day) more.seen ≤ more.off - less)) (fun v => by rw [← HMM.out, ← hm']; exact agrees_less start l more less v (by omega)))
                  clear hc2 hcg hnt hset hm'
                  skip
                  go_wp2_with (at_builtin; refine wpList_append_lies _ rfl _ _ 58 rfl w4.heap.size 76 i0 _ 3 24 Tryz.underlying58 hi0 hi1 hi2 hi3 rfl (by decide) (.slice none 0 0) 0 [] rfl (World.ownsRow_nil _ _ _ _) ⟨g2, 0, none⟩ m.length cap2 (noteCells m) rfl (noteCells_length m) (HNY.out _ (Ext.refl _)) (noteCells_one m) (by omega) (by simp only [maxLen]; omega) (by omega) (Nat.le_refl _) _ rfl ?_; intro g3 cap3 w9 hown3 hgrow3 hat3 hlt3; simp only [Nat.zero_add, List.nil_append] at hown3 ⊢; have hE9 : Ext w4 w9 := Ext.grown (Ext.refl _) hgrow3 (fun q hq => by cases hq); have b9 := (HRM.out.ext hE9).cell; have c9 := (hown3.cellAt (l.length * 3 + 2) (by omega)).trans HCG.out; have f9 := hown3.frozenAt (l.length * 3 + 2); have hst := (hown3.stored (l.length * 3 + 2) (.int .i64 (more.off - less))).1; have hge := (hown3.lt g3 rfl).1; have hEs := hE9.setCell (p := ⟨g3, l.length * 3 + 2, none⟩) hge (.int .i64 (more.off - less)); have HOWN3 := Lib.hid hst; have HEST := Lib.hid hEs; clear hown3 hgrow3 hat3 hlt3 hE9 hst hEs)
                  have hyo := HOWN3.out
                  rw [HSET.out, ← HML'.out] at hyo
                  have HNZ := Lib.hid (own_notes hyo)
                  have hE5 := HEST.out
                  clear hyo c9 f9 b9 HOWN3 HEST
                  generalize w9.setCell ⟨g3, l.length * 3 + 2, none⟩ (.int .i64 (more.off - less)) = w5 at *
                  have HE5 := Lib.hid (HE4.out.trans hE5)
                  replace HNX := Lib.hid (HNX.out.ext hE5)
                  replace HRM := Lib.hid (HRM.out.ext hE5)
                  clear bRM
                  have bRM := HRM.out.cell
                  clear hE5
                  have N0 := notesArg_mk h1 h2 h3
                  have N1 := notesArg_mk h1 h5 h3
                  have N2 := notesArg_mk h1 h6 h3
                  by_cases ea : Sp.speedsL start l low high = []
                  case pos =>
                    have eb := HAB.out.2.1 ea
                    have ec := HBC.out.2.1 eb
                    have hq := Speeds_none start low high A c l w5 (HM.out.ext HE5.out) (by have := HML'.out; omega) N0 ea
                    refine hq.mono ?_
                    clear hq
                    rintro e w6 ⟨rfl, hE6⟩
                    have HE6 := Lib.hid (HE5.out.trans hE6)
                    replace HNX := Lib.hid (HNX.out.ext hE6)
                    replace HNZ := Lib.hid (HNZ.out.ext hE6)
                    replace HRM := Lib.hid (HRM.out.ext hE6)
                    clear bRM
                    have bRM := HRM.out.cell
                    clear hE6
                    have HSA := Lib.hid (Row.new w6 61 #[.int .i64 0, .int .i64 0])
                    have hX7 : Ext w6 (w6.alloc (.cells #[.int .i64 0, .int .i64 0] 61)) := (Ext.refl _).alloc _
                    have HE7 := Lib.hid (HE6.out.trans hX7)
                    replace HNX := Lib.hid (HNX.out.ext hX7)
                    replace HNZ := Lib.hid (HNZ.out.ext hX7)
                    replace HRM := Lib.hid (HRM.out.ext hX7)
                    clear bRM
                    have bRM := HRM.out.cell
                    have bSA := HSA.out.cell
                    clear hX7
                    go_wp2_with fail
                    generalize w6.alloc (.cells #[.int .i64 0, .int .i64 0] 61) = w7 at *
                    have hq := Speeds_none start low high (some ⟨g2, 0, none⟩) cap2 m w7 HNX.out (by have := HML'.out; omega) N1 eb
                    refine hq.mono ?_
                    clear hq
                    rintro e w8 ⟨rfl, hE8⟩
                    have HE8 := Lib.hid (HE7.out.trans hE8)
                    replace HNX := Lib.hid (HNX.out.ext hE8)
                    replace HNZ := Lib.hid (HNZ.out.ext hE8)
                    replace HRM := Lib.hid (HRM.out.ext hE8)
                    clear bRM
                    have bRM := HRM.out.cell
                    replace HSA := Lib.hid (HSA.out.ext hE8)
                    clear bSA
                    have bSA := HSA.out.cell
                    clear hE8
                    have HSB := Lib.hid (Row.new w8 61 #[.int .i64 0, .int .i64 0])
                    have hX9 : Ext w8 (w8.alloc (.cells #[.int .i64 0, .int .i64 0] 61)) := (Ext.refl _).alloc _
                    have HE9 := Lib.hid (HE8.out.trans hX9)
                    replace HNX := Lib.hid (HNX.out.ext hX9)
                    replace HNZ := Lib.hid (HNZ.out.ext hX9)
                    replace HRM := Lib.hid (HRM.out.ext hX9)
                    clear bRM
                    have bRM := HRM.out.cell
                    replace HSA := Lib.hid (HSA.out.ext hX9)
                    clear bSA
                    have bSA := HSA.out.cell
                    have bSB := HSB.out.cell
                    clear hX9
                    go_wp2_with fail
                    generalize w8.alloc (.cells #[.int .i64 0, .int .i64 0] 61) = w9 at *
                    have hq := Speeds_none start low high (some ⟨g3, 0, none⟩) cap3 m' w9 HNZ.out (by have := HML'.out; omega) N2 ec
                    rw [HML'.out] at hq
                    refine hq.mono ?_
                    clear hq
                    rintro e w10 ⟨rfl, hE10⟩
                    have HE10 := Lib.hid (HE9.out.trans hE10)
                    replace HNX := Lib.hid (HNX.out.ext hE10)
                    replace HNZ := Lib.hid (HNZ.out.ext hE10)
                    replace HRM := Lib.hid (HRM.out.ext hE10)
                    clear bRM
                    have bRM := HRM.out.cell
                    replace HSA := Lib.hid (HSA.out.ext hE10)
                    clear bSA
                    have bSA := HSA.out.cell
                    replace HSB := Lib.hid (HSB.out.ext hE10)
                    clear bSB
                    have bSB := HSB.out.cell
                    clear hE10
                    have HSC := Lib.hid (Row.new w10 61 #[.int .i64 0, .int .i64 0])
                    have hX11 : Ext w10 (w10.alloc (.cells #[.int .i64 0, .int .i64 0] 61)) := (Ext.refl _).alloc _
                    have HE11 := Lib.hid (HE10.out.trans hX11)
                    replace HNX := Lib.hid (HNX.out.ext hX11)
                    replace HNZ := Lib.hid (HNZ.out.ext hX11)
                    replace HRM := Lib.hid (HRM.out.ext hX11)
                    clear bRM
                    have bRM := HRM.out.cell
                    replace HSA := Lib.hid (HSA.out.ext hX11)
                    clear bSA
                    have bSA := HSA.out.cell
                    replace HSB := Lib.hid (HSB.out.ext hX11)
                    clear bSB
                    have bSB := HSB.out.cell
                    have bSC := HSC.out.cell
                    clear hX11
                    go_wp2_with fail
                    generalize w10.alloc (.cells #[.int .i64 0, .int .i64 0] 61) = w11 at *
                    refine (known_any w11 (HV.out.ext HE11.out)).mono ?_
                    rintro e w12 ⟨rfl, hE12⟩
                    go_wp2_with fail
                    go_ret
                    exact ⟨rfl, HE11.out.trans hE12⟩
                  case neg =>
                    by_cases eb : Sp.speedsL start m low high = []
                    case pos =>
                      have ec := HBC.out.2.1 eb
                      obtain ⟨xSA, hxSA⟩ : ∃ q, (Sp.speedsL start l low high).headD 0 = q := ⟨_, rfl⟩
                      obtain ⟨ySA, hySA⟩ : ∃ q, (Sp.speedsL start l low high).getLastD 0 = q := ⟨_, rfl⟩
                      have HXSA := Lib.hid hxSA
                      have HYSA := Lib.hid hySA
                      clear hxSA hySA
                      have hq := Speeds_ok start low high A c l w5 (HM.out.ext HE5.out) (by have := HML'.out; omega) N0 ea
                      refine hq.mono ?_
                      clear hq
                      rintro e w6 ⟨rfl, hE6⟩
                      have HE6 := Lib.hid (HE5.out.trans hE6)
                      replace HNX := Lib.hid (HNX.out.ext hE6)
                      replace HNZ := Lib.hid (HNZ.out.ext hE6)
                      replace HRM := Lib.hid (HRM.out.ext hE6)
                      clear bRM
                      have bRM := HRM.out.cell
                      clear hE6
                      rw [HXSA.out, HYSA.out]
                      have HSA := Lib.hid (Row.new w6 61 #[.int .i64 xSA, .int .i64 ySA])
                      have hX7 : Ext w6 (w6.alloc (.cells #[.int .i64 xSA, .int .i64 ySA] 61)) := (Ext.refl _).alloc _
                      have HE7 := Lib.hid (HE6.out.trans hX7)
                      replace HNX := Lib.hid (HNX.out.ext hX7)
                      replace HNZ := Lib.hid (HNZ.out.ext hX7)
                      replace HRM := Lib.hid (HRM.out.ext hX7)
                      clear bRM
                      have bRM := HRM.out.cell
                      have bSA := HSA.out.cell
                      clear hX7
                      go_wp2_with fail
                      generalize w6.alloc (.cells #[.int .i64 xSA, .int .i64 ySA] 61) = w7 at *
                      have hq := Speeds_none start low high (some ⟨g2, 0, none⟩) cap2 m w7 HNX.out (by have := HML'.out; omega) N1 eb
                      refine hq.mono ?_
                      clear hq
                      rintro e w8 ⟨rfl, hE8⟩
                      have HE8 := Lib.hid (HE7.out.trans hE8)
                      replace HNX := Lib.hid (HNX.out.ext hE8)
                      replace HNZ := Lib.hid (HNZ.out.ext hE8)
                      replace HRM := Lib.hid (HRM.out.ext hE8)
                      clear bRM
                      have bRM := HRM.out.cell
                      replace HSA := Lib.hid (HSA.out.ext hE8)
                      clear bSA
                      have bSA := HSA.out.cell
                      clear hE8
                      have HSB := Lib.hid (Row.new w8 61 #[.int .i64 0, .int .i64 0])
                      have hX9 : Ext w8 (w8.alloc (.cells #[.int .i64 0, .int .i64 0] 61)) := (Ext.refl _).alloc _
                      have HE9 := Lib.hid (HE8.out.trans hX9)
                      replace HNX := Lib.hid (HNX.out.ext hX9)
                      replace HNZ := Lib.hid (HNZ.out.ext hX9)
                      replace HRM := Lib.hid (HRM.out.ext hX9)
                      clear bRM
                      have bRM := HRM.out.cell
                      replace HSA := Lib.hid (HSA.out.ext hX9)
                      clear bSA
                      have bSA := HSA.out.cell
                      have bSB := HSB.out.cell
                      clear hX9
                      go_wp2_with fail
                      generalize w8.alloc (.cells #[.int .i64 0, .int .i64 0] 61) = w9 at *
                      have hq := Speeds_none start low high (some ⟨g3, 0, none⟩) cap3 m' w9 HNZ.out (by have := HML'.out; omega) N2 ec
                      rw [HML'.out] at hq
                      refine hq.mono ?_
                      clear hq
                      rintro e w10 ⟨rfl, hE10⟩
                      have HE10 := Lib.hid (HE9.out.trans hE10)
                      replace HNX := Lib.hid (HNX.out.ext hE10)
                      replace HNZ := Lib.hid (HNZ.out.ext hE10)
                      replace HRM := Lib.hid (HRM.out.ext hE10)
                      clear bRM
                      have bRM := HRM.out.cell
                      replace HSA := Lib.hid (HSA.out.ext hE10)
                      clear bSA
                      have bSA := HSA.out.cell
                      replace HSB := Lib.hid (HSB.out.ext hE10)
                      clear bSB
                      have bSB := HSB.out.cell
                      clear hE10
                      have HSC := Lib.hid (Row.new w10 61 #[.int .i64 0, .int .i64 0])
                      have hX11 : Ext w10 (w10.alloc (.cells #[.int .i64 0, .int .i64 0] 61)) := (Ext.refl _).alloc _
                      have HE11 := Lib.hid (HE10.out.trans hX11)
                      replace HNX := Lib.hid (HNX.out.ext hX11)
                      replace HNZ := Lib.hid (HNZ.out.ext hX11)
                      replace HRM := Lib.hid (HRM.out.ext hX11)
                      clear bRM
                      have bRM := HRM.out.cell
                      replace HSA := Lib.hid (HSA.out.ext hX11)
                      clear bSA
                      have bSA := HSA.out.cell
                      replace HSB := Lib.hid (HSB.out.ext hX11)
                      clear bSB
                      have bSB := HSB.out.cell
                      have bSC := HSC.out.cell
                      clear hX11
                      go_wp2_with fail
                      generalize w10.alloc (.cells #[.int .i64 0, .int .i64 0] 61) = w11 at *
                      refine (known_any w11 (HV.out.ext HE11.out)).mono ?_
                      rintro e w12 ⟨rfl, hE12⟩
                      go_wp2_with fail
                      go_ret
                      exact ⟨rfl, HE11.out.trans hE12⟩
                    case neg =>
                      by_cases ec : Sp.speedsL start m' low high = []
                      case pos =>
                        obtain ⟨xSA, hxSA⟩ : ∃ q, (Sp.speedsL start l low high).headD 0 = q := ⟨_, rfl⟩
                        obtain ⟨ySA, hySA⟩ : ∃ q, (Sp.speedsL start l low high).getLastD 0 = q := ⟨_, rfl⟩
                        obtain ⟨xSB, hxSB⟩ : ∃ q, (Sp.speedsL start m low high).headD 0 = q := ⟨_, rfl⟩
                        obtain ⟨ySB, hySB⟩ : ∃ q, (Sp.speedsL start m low high).getLastD 0 = q := ⟨_, rfl⟩
                        have o1 := HAB.out.2.2 eb
                        rw [hxSA, hySA, hxSB, hySB] at o1
                        obtain ⟨o1a, o1b⟩ := o1
                        have HXSA := Lib.hid hxSA
                        have HYSA := Lib.hid hySA
                        clear hxSA hySA
                        have HXSB := Lib.hid hxSB
                        have HYSB := Lib.hid hySB
                        clear hxSB hySB
                        have l1 := HAB.out.1
                        have hq := Speeds_ok start low high A c l w5 (HM.out.ext HE5.out) (by have := HML'.out; omega) N0 ea
                        refine hq.mono ?_
                        clear hq
                        rintro e w6 ⟨rfl, hE6⟩
                        have HE6 := Lib.hid (HE5.out.trans hE6)
                        replace HNX := Lib.hid (HNX.out.ext hE6)
                        replace HNZ := Lib.hid (HNZ.out.ext hE6)
                        replace HRM := Lib.hid (HRM.out.ext hE6)
                        clear bRM
                        have bRM := HRM.out.cell
                        clear hE6
                        rw [HXSA.out, HYSA.out]
                        have HSA := Lib.hid (Row.new w6 61 #[.int .i64 xSA, .int .i64 ySA])
                        have hX7 : Ext w6 (w6.alloc (.cells #[.int .i64 xSA, .int .i64 ySA] 61)) := (Ext.refl _).alloc _
                        have HE7 := Lib.hid (HE6.out.trans hX7)
                        replace HNX := Lib.hid (HNX.out.ext hX7)
                        replace HNZ := Lib.hid (HNZ.out.ext hX7)
                        replace HRM := Lib.hid (HRM.out.ext hX7)
                        clear bRM
                        have bRM := HRM.out.cell
                        have bSA := HSA.out.cell
                        clear hX7
                        go_wp2_with fail
                        generalize w6.alloc (.cells #[.int .i64 xSA, .int .i64 ySA] 61) = w7 at *
                        have hq := Speeds_ok start low high (some ⟨g2, 0, none⟩) cap2 m w7 HNX.out (by have := HML'.out; omega) N1 eb
                        refine hq.mono ?_
                        clear hq
                        rintro e w8 ⟨rfl, hE8⟩
                        have HE8 := Lib.hid (HE7.out.trans hE8)
                        replace HNX := Lib.hid (HNX.out.ext hE8)
                        replace HNZ := Lib.hid (HNZ.out.ext hE8)
                        replace HRM := Lib.hid (HRM.out.ext hE8)
                        clear bRM
                        have bRM := HRM.out.cell
                        replace HSA := Lib.hid (HSA.out.ext hE8)
                        clear bSA
                        have bSA := HSA.out.cell
                        clear hE8
                        rw [HXSB.out, HYSB.out]
                        have HSB := Lib.hid (Row.new w8 61 #[.int .i64 xSB, .int .i64 ySB])
                        have hX9 : Ext w8 (w8.alloc (.cells #[.int .i64 xSB, .int .i64 ySB] 61)) := (Ext.refl _).alloc _
                        have HE9 := Lib.hid (HE8.out.trans hX9)
                        replace HNX := Lib.hid (HNX.out.ext hX9)
                        replace HNZ := Lib.hid (HNZ.out.ext hX9)
                        replace HRM := Lib.hid (HRM.out.ext hX9)
                        clear bRM
                        have bRM := HRM.out.cell
                        replace HSA := Lib.hid (HSA.out.ext hX9)
                        clear bSA
                        have bSA := HSA.out.cell
                        have bSB := HSB.out.cell
                        clear hX9
                        go_wp2_with fail
                        generalize w8.alloc (.cells #[.int .i64 xSB, .int .i64 ySB] 61) = w9 at *
                        have hq := Speeds_none start low high (some ⟨g3, 0, none⟩) cap3 m' w9 HNZ.out (by have := HML'.out; omega) N2 ec
                        rw [HML'.out] at hq
                        refine hq.mono ?_
                        clear hq
                        rintro e w10 ⟨rfl, hE10⟩
                        have HE10 := Lib.hid (HE9.out.trans hE10)
                        replace HNX := Lib.hid (HNX.out.ext hE10)
                        replace HNZ := Lib.hid (HNZ.out.ext hE10)
                        replace HRM := Lib.hid (HRM.out.ext hE10)
                        clear bRM
                        have bRM := HRM.out.cell
                        replace HSA := Lib.hid (HSA.out.ext hE10)
                        clear bSA
                        have bSA := HSA.out.cell
                        replace HSB := Lib.hid (HSB.out.ext hE10)
                        clear bSB
                        have bSB := HSB.out.cell
                        clear hE10
                        have HSC := Lib.hid (Row.new w10 61 #[.int .i64 0, .int .i64 0])
                        have hX11 : Ext w10 (w10.alloc (.cells #[.int .i64 0, .int .i64 0] 61)) := (Ext.refl _).alloc _
                        have HE11 := Lib.hid (HE10.out.trans hX11)
                        replace HNX := Lib.hid (HNX.out.ext hX11)
                        replace HNZ := Lib.hid (HNZ.out.ext hX11)
                        replace HRM := Lib.hid (HRM.out.ext hX11)
                        clear bRM
                        have bRM := HRM.out.cell
                        replace HSA := Lib.hid (HSA.out.ext hX11)
                        clear bSA
                        have bSA := HSA.out.cell
                        replace HSB := Lib.hid (HSB.out.ext hX11)
                        clear bSB
                        have bSB := HSB.out.cell
                        have bSC := HSC.out.cell
                        clear hX11
                        go_wp2_with fail
                        generalize w10.alloc (.cells #[.int .i64 0, .int .i64 0] 61) = w11 at *
                        refine (known_any w11 (HV.out.ext HE11.out)).mono ?_
                        rintro e w12 ⟨rfl, hE12⟩
                        go_wp2_with fail
                        go_ret
                        exact ⟨rfl, HE11.out.trans hE12⟩
                      case neg =>
                        obtain ⟨xSA, hxSA⟩ : ∃ q, (Sp.speedsL start l low high).headD 0 = q := ⟨_, rfl⟩
                        obtain ⟨ySA, hySA⟩ : ∃ q, (Sp.speedsL start l low high).getLastD 0 = q := ⟨_, rfl⟩
                        obtain ⟨xSB, hxSB⟩ : ∃ q, (Sp.speedsL start m low high).headD 0 = q := ⟨_, rfl⟩
                        obtain ⟨ySB, hySB⟩ : ∃ q, (Sp.speedsL start m low high).getLastD 0 = q := ⟨_, rfl⟩
                        obtain ⟨xSC, hxSC⟩ : ∃ q, (Sp.speedsL start m' low high).headD 0 = q := ⟨_, rfl⟩
                        obtain ⟨ySC, hySC⟩ : ∃ q, (Sp.speedsL start m' low high).getLastD 0 = q := ⟨_, rfl⟩
                        have o1 := HAB.out.2.2 eb
                        rw [hxSA, hySA, hxSB, hySB] at o1
                        obtain ⟨o1a, o1b⟩ := o1
                        have o2 := HBC.out.2.2 ec
                        rw [hxSB, hySB, hxSC, hySC] at o2
                        obtain ⟨o2a, o2b⟩ := o2
                        have HXSA := Lib.hid hxSA
                        have HYSA := Lib.hid hySA
                        clear hxSA hySA
                        have HXSB := Lib.hid hxSB
                        have HYSB := Lib.hid hySB
                        clear hxSB hySB
                        have HXSC := Lib.hid hxSC
                        have HYSC := Lib.hid hySC
                        clear hxSC hySC
                        have l1 := HAB.out.1
                        have l2 := HBC.out.1
                        have hq := Speeds_ok start low high A c l w5 (HM.out.ext HE5.out) (by have := HML'.out; omega) N0 ea
                        refine hq.mono ?_
                        clear hq
                        rintro e w6 ⟨rfl, hE6⟩
                        have HE6 := Lib.hid (HE5.out.trans hE6)
                        replace HNX := Lib.hid (HNX.out.ext hE6)
                        replace HNZ := Lib.hid (HNZ.out.ext hE6)
                        replace HRM := Lib.hid (HRM.out.ext hE6)
                        clear bRM
                        have bRM := HRM.out.cell
                        clear hE6
                        rw [HXSA.out, HYSA.out]
                        have HSA := Lib.hid (Row.new w6 61 #[.int .i64 xSA, .int .i64 ySA])
                        have hX7 : Ext w6 (w6.alloc (.cells #[.int .i64 xSA, .int .i64 ySA] 61)) := (Ext.refl _).alloc _
                        have HE7 := Lib.hid (HE6.out.trans hX7)
                        replace HNX := Lib.hid (HNX.out.ext hX7)
                        replace HNZ := Lib.hid (HNZ.out.ext hX7)
                        replace HRM := Lib.hid (HRM.out.ext hX7)
                        clear bRM
                        have bRM := HRM.out.cell
                        have bSA := HSA.out.cell
                        clear hX7
                        go_wp2_with fail
                        generalize w6.alloc (.cells #[.int .i64 xSA, .int .i64 ySA] 61) = w7 at *
                        have hq := Speeds_ok start low high (some ⟨g2, 0, none⟩) cap2 m w7 HNX.out (by have := HML'.out; omega) N1 eb
                        refine hq.mono ?_
                        clear hq
                        rintro e w8 ⟨rfl, hE8⟩
                        have HE8 := Lib.hid (HE7.out.trans hE8)
                        replace HNX := Lib.hid (HNX.out.ext hE8)
                        replace HNZ := Lib.hid (HNZ.out.ext hE8)
                        replace HRM := Lib.hid (HRM.out.ext hE8)
                        clear bRM
                        have bRM := HRM.out.cell
                        replace HSA := Lib.hid (HSA.out.ext hE8)
                        clear bSA
                        have bSA := HSA.out.cell
                        clear hE8
                        rw [HXSB.out, HYSB.out]
                        have HSB := Lib.hid (Row.new w8 61 #[.int .i64 xSB, .int .i64 ySB])
                        have hX9 : Ext w8 (w8.alloc (.cells #[.int .i64 xSB, .int .i64 ySB] 61)) := (Ext.refl _).alloc _
                        have HE9 := Lib.hid (HE8.out.trans hX9)
                        replace HNX := Lib.hid (HNX.out.ext hX9)
                        replace HNZ := Lib.hid (HNZ.out.ext hX9)
                        replace HRM := Lib.hid (HRM.out.ext hX9)
                        clear bRM
                        have bRM := HRM.out.cell
                        replace HSA := Lib.hid (HSA.out.ext hX9)
                        clear bSA
                        have bSA := HSA.out.cell
                        have bSB := HSB.out.cell
                        clear hX9
                        go_wp2_with fail
                        generalize w8.alloc (.cells #[.int .i64 xSB, .int .i64 ySB] 61) = w9 at *
                        have hq := Speeds_ok start low high (some ⟨g3, 0, none⟩) cap3 m' w9 HNZ.out (by have := HML'.out; omega) N2 ec
                        rw [HML'.out] at hq
                        refine hq.mono ?_
                        clear hq
                        rintro e w10 ⟨rfl, hE10⟩
                        have HE10 := Lib.hid (HE9.out.trans hE10)
                        replace HNX := Lib.hid (HNX.out.ext hE10)
                        replace HNZ := Lib.hid (HNZ.out.ext hE10)
                        replace HRM := Lib.hid (HRM.out.ext hE10)
                        clear bRM
                        have bRM := HRM.out.cell
                        replace HSA := Lib.hid (HSA.out.ext hE10)
                        clear bSA
                        have bSA := HSA.out.cell
                        replace HSB := Lib.hid (HSB.out.ext hE10)
                        clear bSB
                        have bSB := HSB.out.cell
                        clear hE10
                        rw [HXSC.out, HYSC.out]
                        have HSC := Lib.hid (Row.new w10 61 #[.int .i64 xSC, .int .i64 ySC])
                        have hX11 : Ext w10 (w10.alloc (.cells #[.int .i64 xSC, .int .i64 ySC] 61)) := (Ext.refl _).alloc _
                        have HE11 := Lib.hid (HE10.out.trans hX11)
                        replace HNX := Lib.hid (HNX.out.ext hX11)
                        replace HNZ := Lib.hid (HNZ.out.ext hX11)
                        replace HRM := Lib.hid (HRM.out.ext hX11)
                        clear bRM
                        have bRM := HRM.out.cell
                        replace HSA := Lib.hid (HSA.out.ext hX11)
                        clear bSA
                        have bSA := HSA.out.cell
                        replace HSB := Lib.hid (HSB.out.ext hX11)
                        clear bSB
                        have bSB := HSB.out.cell
                        have bSC := HSC.out.cell
                        clear hX11
                        go_wp2_with fail
                        generalize w10.alloc (.cells #[.int .i64 xSC, .int .i64 ySC] 61) = w11 at *
                        refine (known_any w11 (HV.out.ext HE11.out)).mono ?_
                        rintro e w12 ⟨rfl, hE12⟩
                        go_wp2_with fail
                        go_ret
                        exact ⟨rfl, HE11.out.trans hE12⟩
end Go.Proofs.YtlcddcnmoajpjaaGreatDoor
