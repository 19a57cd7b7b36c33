/- The walk of the law SkyWatched. (Printed by wip/mklaws1.py.) -/
import Derived.Test.YtlcddcnmoajpjaaGreatDoorLawSkyAgrees
import Derived.Test.YtlcddcnmoajpjaaGreatDoorAppNotes
import Derived.Test.YtlcddcnmoajpjaaGreatDoorV11
namespace Go.Proofs.YtlcddcnmoajpjaaGreatDoor
open Go.RowKit
open Sp (rd)
set_option linter.unusedSimpArgs false
set_option linter.unusedVariables false

attribute [local irreducible] Sp.left Sp.maxN
theorem watch_facts (start : Int) (L days : List Int) (off : Int) (h0 : 0 ≤ off) (hL : L ≠ []) (hd : 0 < days.length) :
    Sp.watchI start L days off < days.length ∧ 1 ≤ Sp.left start L (rd days (Sp.watchI start L days off)) off ∧ Sp.left start L (rd days (Sp.watchI start L days off)) off ≤ L.length ∧
    ∀ j, j < days.length → Sp.left start L (rd days (Sp.watchI start L days off)) off ≤ Sp.left start L (rd days j) off ∧ (Sp.left start L (rd days (Sp.watchI start L days off)) off = Sp.left start L (rd days j) off → Sp.watchI start L days off ≤ j) := by
  have a := watchN_le start L days off (days.length - 1)
  refine ⟨by unfold Sp.watchI; omega, left_pos _ _ _ _ h0 hL, left_le _ _ _ _, fun j hj => watchN_best start L days off (days.length - 1) j (by omega)⟩
theorem seen_more (start : Int) (l : List Sp.Note) (low high : Int) (n : Sp.Note) (h0 : 0 ≤ n.off) : (Sp.speedsL start (l ++ [n]) low high).length ≤ Sp.left start (Sp.speedsL start l low high) n.day n.off := by
  have e : Sp.speedsL start (l ++ [n]) low high = (Sp.speedsL start l low high).filter (fun v => decide (Sp.apart (Sp.at_ start v n.day) n.seen ≤ n.off)) := speedsN_filter start l (l ++ [n]) low _ _ (fun v => agrees_snoc start l n v)
  rw [e]
  exact seen_le start _ n.day n.seen n.off h0
theorem watch_one (start : Int) (L : List Int) (x off : Int) : Sp.watchI start L [x] off = 0 := rfl
theorem rd_one (x : Int) : rd [x] 0 = x := rfl
theorem notesOk_snoc {l : List Sp.Note} {day seen off : Int} (h : Sp.notesOk l = true) (h6 : l.length < 6) (hd : Sp.isDay day = true) (hs : Sp.spot seen = true) (ho : Sp.isOff off = true) : Sp.notesOk (l ++ [⟨day, seen, off⟩]) = true := by
  simp only [Sp.notesOk, Bool.and_eq_true, decide_eq_true_eq, List.all_append, List.all_cons, List.all_nil, Bool.and_true, List.length_append, List.length_cons, List.length_nil, Sp.noteOk] at h ⊢
  exact ⟨by omega, h.2, hd, hs, ho⟩

set_option maxRecDepth 100000 in
set_option maxHeartbeats 8000000 in
theorem law_SkyWatched (start : Int) (l : List Sp.Note) (A : Option Addr) (c : Nat) (low high : Int) (days : List Int) (A2 : Option Addr) (c2 : Nat) (off other seen : Int) (w : World) (hV : Env w) (hm : Notes w A l) (hl : l.length ≤ maxLen) (hd : Ints w A2 days) (hdl : days.length ≤ maxLen) (hdc : days.length ≤ c2) :
    Calls Tryz.prog 10 #[.int .i64 start, .slice A l.length c, .int .i64 low, .int .i64 high, .slice A2 days.length c2, .int .i64 off, .int .i64 other, .int .i64 seen] w fun e w' => e = .returned (.bool true) ∧ Ext w w' := by
  have HM := Lib.hid hm
  have HV := Lib.hid hV
  have hmx : (maxLen : Nat) ≤ 9223372036854775807 := by decide
  have HE0 : Hid (Ext w w) := Lib.hid (Ext.refl w)
  clear hm hV
  go_enter Tryz.func10, Tryz.ntmps10
  have HD := Lib.hid hd
  clear hd
  go_wp2_with fail
  refine (few_any A l.length c _ (by omega)).mono ?_
  rintro e w' ⟨rfl, rfl⟩
  cases hfew : decide ((l.length : Int) ≤ 8) with
  | false =>
    go_wp2_with fail
    refine (known_any w (HV.out.ext HE0.out)).mono ?_
    rintro e w1 ⟨rfl, hE1⟩
    go_wp2_with fail
    go_ret
    exact ⟨rfl, HE0.out.trans hE1⟩
  | true =>
    have hl8 : l.length ≤ 8 := by have := of_decide_eq_true hfew; omega
    clear hfew
    by_cases hd8 : 8 < days.length
    case pos =>
      go_wp2_with fail
      refine (known_any w (HV.out.ext HE0.out)).mono ?_
      rintro e w1 ⟨rfl, hE1⟩
      go_wp2_with fail
      go_ret
      exact ⟨rfl, HE0.out.trans hE1⟩
    case neg =>
      go_wp2_with fail
      refine (r_Spot_any _ _).mono ?_
      rintro e w' ⟨rfl, rfl⟩
      cases h1 : Sp.spot start with
      | false =>
        go_wp2_with fail
        refine (known_any w (HV.out.ext HE0.out)).mono ?_
        rintro e w1 ⟨rfl, hE1⟩
        go_wp2_with fail
        go_ret
        exact ⟨rfl, HE0.out.trans hE1⟩
      | true =>
        go_wp2_with fail
        refine (r_Notes_any l A c w (HM.out.ext HE0.out) (by omega)).mono ?_
        rintro e w1 ⟨rfl, hE1⟩
        have HE1 := Lib.hid (HE0.out.trans hE1)
        clear hE1
        cases h2 : Sp.notesOk l with
        | false =>
          go_wp2_with fail
          refine (known_any w1 (HV.out.ext HE1.out)).mono ?_
          rintro e w2 ⟨rfl, hE2⟩
          go_wp2_with fail
          go_ret
          exact ⟨rfl, HE1.out.trans hE2⟩
        | true =>
          by_cases h6 : 6 ≤ l.length
          case pos =>
            go_wp2_with fail
            refine (known_any w1 (HV.out.ext HE1.out)).mono ?_
            rintro e w2 ⟨rfl, hE2⟩
            go_wp2_with fail
            go_ret
            exact ⟨rfl, HE1.out.trans hE2⟩
          case neg =>
            go_wp2_with fail
            refine (r_Range_any _ _ _).mono ?_
            rintro e w' ⟨rfl, rfl⟩
            cases h3 : Sp.rangeOk low high with
            | false =>
              go_wp2_with fail
              refine (known_any w1 (HV.out.ext HE1.out)).mono ?_
              rintro e w2 ⟨rfl, hE2⟩
              go_wp2_with fail
              go_ret
              exact ⟨rfl, HE1.out.trans hE2⟩
            | true =>
              go_wp2_with fail
              refine (r_Days_any days A2 c2 w1 (HD.out.ext HE1.out) (by omega)).mono ?_
              rintro e w2 ⟨rfl, hE2⟩
              have HE2 := Lib.hid (HE1.out.trans hE2)
              clear hE2
              cases h4 : Sp.daysOk days with
              | false =>
                go_wp2_with fail
                refine (known_any w2 (HV.out.ext HE2.out)).mono ?_
                rintro e w3 ⟨rfl, hE3⟩
                go_wp2_with fail
                go_ret
                exact ⟨rfl, HE2.out.trans hE3⟩
              | true =>
                go_wp2_with fail
                refine (r_Off_any _ _).mono ?_
                rintro e w' ⟨rfl, rfl⟩
                cases h5 : Sp.isOff off with
                | false =>
                  go_wp2_with fail
                  refine (known_any w2 (HV.out.ext HE2.out)).mono ?_
                  rintro e w3 ⟨rfl, hE3⟩
                  go_wp2_with fail
                  go_ret
                  exact ⟨rfl, HE2.out.trans hE3⟩
                | true =>
                  by_cases hb0 : other < 0
                  case pos =>
                    go_wp2_with fail
                    refine (known_any w2 (HV.out.ext HE2.out)).mono ?_
                    rintro e w3 ⟨rfl, hE3⟩
                    go_wp2_with fail
                    go_ret
                    exact ⟨rfl, HE2.out.trans hE3⟩
                  case neg =>
                    by_cases hb1 : (days.length : Int) ≤ other
                    case pos =>
                      go_wp2_with fail
                      refine (known_any w2 (HV.out.ext HE2.out)).mono ?_
                      rintro e w3 ⟨rfl, hE3⟩
                      go_wp2_with fail
                      go_ret
                      exact ⟨rfl, HE2.out.trans hE3⟩
                    case neg =>
                      go_wp2_with fail
                      refine (r_Spot_any _ _).mono ?_
                      rintro e w' ⟨rfl, rfl⟩
                      cases h7 : Sp.spot seen with
                      | false =>
                        go_wp2_with fail
                        refine (known_any w2 (HV.out.ext HE2.out)).mono ?_
                        rintro e w3 ⟨rfl, hE3⟩
                        go_wp2_with fail
                        go_ret
                        exact ⟨rfl, HE2.out.trans hE3⟩
                      | true =>
                        obtain ⟨j, rfl⟩ := Int.eq_ofNat_of_zero_le (show 0 ≤ other by omega)
                        have hj : j < days.length := by omega
                        have hoff := inR_iff.1 h5
                        obtain ⟨r1, r2, r3, r4⟩ := range_of h3
                        have N0 := notesArg_mk h1 h2 h3
                        have W0 : watchArg start l low high days off = true := by simp [watchArg, N0, h4, h5]
                        have hdays := h4
                        simp only [Sp.daysOk, Bool.and_eq_true] at hdays
                        have hdall := List.all_eq_true.1 hdays.2
                        have W1 : watchArg start l low high [rd days j] off = true := by
                          have hdj : Sp.isDay (rd days j) = true := hdall _ (by rw [← getrd hj]; exact List.getElem_mem hj)
                          simp [watchArg, N0, h5, Sp.daysOk, Sp.inR, hdj]
                        obtain ⟨b2, o2, rfl, hdc0⟩ := HD.out (by omega)
                        have HDC := Lib.hid hdc0
                        clear hdc0 hdays
                        obtain ⟨L, hL⟩ : ∃ L, Sp.speedsL start l low high = L := ⟨_, rfl⟩
                        have HLL := Lib.hid hL
                        by_cases hn : Sp.speedsL start l low high = []
                        case pos =>
                          go_wp2_with fail
                          refine (Watch_none start low high off A (some ⟨b2, o2, none⟩) c c2 l days w2 (HM.out.ext HE2.out) (HD.out.ext HE2.out) (by omega) (by omega) W0 hn).mono ?_
                          rintro e w3 ⟨rfl, hE3⟩
                          have HE3 := Lib.hid (HE2.out.trans hE3)
                          clear hE3
                          clear hL
                          go_wp2_with fail
                          refine (Speeds_none start low high A c l w3 (HM.out.ext HE3.out) (by omega) N0 hn).mono ?_
                          rintro e w4 ⟨rfl, hE4⟩
                          have HE4 := Lib.hid (HE3.out.trans hE4)
                          clear hE4
                          have hX5 : Ext w4 (w4.alloc (.cells #[.int .i64 0, .int .i64 0] 61)) := (Ext.refl _).alloc _
                          have HE5 := Lib.hid (HE4.out.trans hX5)
                          clear hX5
                          go_wp2_with fail
                          generalize w4.alloc (.cells #[.int .i64 0, .int .i64 0] 61) = w5 at *
                          refine (known_any w5 (HV.out.ext HE5.out)).mono ?_
                          rintro e w6 ⟨rfl, hE6⟩
                          go_wp2_with fail
                          go_ret
                          exact ⟨rfl, HE5.out.trans hE6⟩
                        case neg =>
                          have hn' : Sp.speedsL start l low high ≠ [] := hn
                          obtain ⟨i, hi⟩ : ∃ i, Sp.watchI start L days off = i := ⟨_, rfl⟩
                          obtain ⟨day, hday⟩ : ∃ d, rd days i = d := ⟨_, rfl⟩
                          obtain ⟨nv, hnv⟩ : ∃ n, Sp.left start L day off = n := ⟨_, rfl⟩
                          obtain ⟨mv, hmv⟩ : ∃ n, Sp.left start L (rd days j) off = n := ⟨_, rfl⟩
                          obtain ⟨N, hN⟩ : ∃ N, L.length = N := ⟨_, rfl⟩
                          obtain ⟨x0, hx0⟩ : ∃ q, L.headD 0 = q := ⟨_, rfl⟩
                          obtain ⟨x1, hx1⟩ : ∃ q, L.getLastD 0 = q := ⟨_, rfl⟩
                          have HF : Hid (i < days.length ∧ 1 ≤ nv ∧ nv ≤ N ∧ nv ≤ mv ∧ (nv = mv → i ≤ j) ∧ N ≤ 5001) := Lib.hid (by
                            obtain ⟨f1, f2, f3, f4⟩ := watch_facts start (Sp.speedsL start l low high) days off (by omega) hn (by omega)
                            obtain ⟨f5, f6⟩ := f4 j hj
                            have hLlen := speedsL_length start l low high
                            rw [hL] at f1 f2 f3 f5 f6 hLlen
                            rw [hi] at f1 f2 f3 f5 f6
                            rw [hday, hnv] at f2 f3 f5 f6
                            rw [hmv] at f5 f6
                            rw [hN] at f3 hLlen
                            exact ⟨f1, f2, f3, f5, f6, by omega⟩)
                          have HI := Lib.hid hi
                          have HDY := Lib.hid hday
                          have HNV := Lib.hid hnv
                          have HMV := Lib.hid hmv
                          have HX0 := Lib.hid hx0
                          have HX1 := Lib.hid hx1
                          have HN := Lib.hid hN
                          have HDOK : Hid (Sp.isDay day = true) := Lib.hid (by rw [← hday]; exact hdall _ (by rw [← getrd HF.out.1]; exact List.getElem_mem HF.out.1))
                          clear hi hday hnv hmv hx0 hx1 hL hN hdall hdl hmx
                          go_wp2_with fail
                          refine (Watch_ok start low high off A (some ⟨b2, o2, none⟩) c c2 l days w2 (HM.out.ext HE2.out) (HD.out.ext HE2.out) (by omega) (by omega) W0 hn').mono ?_
                          rintro e w3 ⟨rfl, hE3⟩
                          have HE3 := Lib.hid (HE2.out.trans hE3)
                          clear hE3
                          rw [HLL.out, HI.out, HDY.out, HNV.out]
                          go_wp2_with fail
                          refine (Speeds_ok start low high A c l w3 (HM.out.ext HE3.out) (by omega) N0 hn').mono ?_
                          rintro e w4 ⟨rfl, hE4⟩
                          have HE4 := Lib.hid (HE3.out.trans hE4)
                          clear hE4
                          rw [HLL.out, HX0.out, HX1.out, HN.out]
                          have hX5 : Ext w4 (w4.alloc (.cells #[.int .i64 x0, .int .i64 x1] 61)) := (Ext.refl _).alloc _
                          have HE5 := Lib.hid (HE4.out.trans hX5)
                          clear hX5
                          go_wp2_with fail
                          generalize w4.alloc (.cells #[.int .i64 x0, .int .i64 x1] 61) = w5 at *
                          have hcj := HDC.out j hj
                          have HCJ := Lib.hid (HE5.out.cell hcj)
                          have hi1 : Ints w5 (some ⟨b2, o2 + j, none⟩) [rd days j] := fun _ => ⟨b2, o2 + j, rfl, fun q hq => by
                            have : q = 0 := by simpa using hq
                            subst this
                            exact HCJ.out⟩
                          have HI1 := Lib.hid hi1
                          clear hi1 hcj
                          refine (Watch_ok start low high off A (some ⟨b2, o2 + j, none⟩) c (c2 - j) l [rd days j] w5 (HM.out.ext HE5.out) HI1.out (by omega) (by simp) W1 hn').mono ?_
                          rintro e w6 ⟨rfl, hE6⟩
                          have HE6 := Lib.hid (HE5.out.trans hE6)
                          clear hE6
                          rw [HLL.out, watch_one, rd_one, HMV.out]
                          obtain ⟨f1, f2, f3, f4, f5, f6⟩ := HF.out
                          have f4' : ¬ ((mv : Int) < (nv : Int)) := by omega
                          have f2' : ¬ ((nv : Int) < 1) := by omega
                          have f1' : ¬ ((days.length : Int) ≤ (i : Int)) := by omega
                          have f3' : ¬ ((N : Int) < (nv : Int)) := by omega
                          clear hb0 hb1 hd8 h6
                          by_cases hmn : mv = nv
                          case pos =>
                            have hij : ¬ ((j : Int) < (i : Int)) := by have := f5 hmn.symm; omega
                            subst hmn
                            clear f5 f4 f4' HF
                            obtain ⟨m, hm⟩ : ∃ m, l ++ [(⟨day, seen, off⟩ : Sp.Note)] = m := ⟨_, rfl⟩
                            have hml : m.length = l.length + 1 := by rw [← hm]; simp
                            have hmc : noteCells l ++ [.int .i64 day, .int .i64 seen, .int .i64 off] = noteCells m := by rw [← hm, noteCells_app]; rfl
                            have HMM := Lib.hid hm
                            clear hm
                            obtain ⟨i0, hi0, hi1, hi2, hi3⟩ := info_parts info_note
                            have HCI := Lib.hid (HDC.out i f1)
                            have hci : w6.cell? ⟨b2, o2 + i, none⟩ = some (.int .i64 day) := by have := HE6.out.cell HCI.out; rwa [HDY.out] at this
                            have HCD := Lib.hid hci
                            go_wp2_with fail
                            simp only [show decide (8 < (days.length : Int)) = false from decide_eq_false (by omega), show decide (6 ≤ (l.length : Int)) = false from decide_eq_false (by omega), show decide ((j : Int) < 0) = false from decide_eq_false (by omega), show decide ((days.length : Int) ≤ (j : Int)) = false from decide_eq_false (by omega), show decide (days.length ≤ j) = false from decide_eq_false (by omega), show decide ((i : Int) < 0) = false from decide_eq_false (by omega), show decide (days.length ≤ i) = false from decide_eq_false (by omega), show decide ((days.length : Int) ≤ (i : Int)) = false from decide_eq_false (by omega), show decide ((mv : Int) < 1) = false from decide_eq_false (by omega), show decide ((N : Int) < (mv : Int)) = false from decide_eq_false (by omega), show decide (N < mv) = false from decide_eq_false (by omega), show decide (j < i) = false from decide_eq_false (by omega), show decide ((j : Int) < (i : Int)) = false from decide_eq_false (by omega), Bool.or_false, Bool.false_or, Bool.or_self, Bool.and_false, Bool.false_and, Bool.and_true, Bool.true_and]
                            refine cut_at (fun a e a' w' => ∃ y1 y2 y3 y4 y5 y6 : Value, AppPost 174 175 182 183 184 26 w6 m (.slice A l.length c) (.agg #[.int .i64 day, .int .i64 seen, .int .i64 off]) ((((((a.put (some 176) y1).put (some 177) y2).put (some 178) y3).put (some 179) y4).put (some 180) y5).put (some 181) y6) e a' w') ?hr ?hq
                            case hr =>
                              rcases Nat.eq_zero_or_pos l.length with h0 | h0
                              · have HL0 := Lib.hid (List.eq_nil_of_length_eq_zero h0)
                                have H00 := Lib.hid h0
                                clear h0
                                go_region_law (first | (refine step_append_none A c rfl (Operand.const (.slice none 0 0)) (Operand.tmp 174) rfl rfl rfl (by simp [Act.eval, Act.put, H00.out]) ?_) | (refine step_append_lies _ rfl (Operand.tmp 175) (Operand.tmp 183) 58 rfl w6.heap.size 76 i0 _ 3 24 Tryz.underlying58 hi0 hi1 hi2 hi3 rfl (by decide) (.slice none 0 0) 0 [] (by simp [Act.eval, Act.put]) (World.ownsRow_nil _ _ _ _) ⟨w6.heap.size, 0, none⟩ 1 1 [.int .i64 day, .int .i64 seen, .int .i64 off] (by simp [Act.eval, Act.put]) rfl (World.news_of_block (cs := #[.int .i64 day, .int .i64 seen, .int .i64 off]) (t := 76) (fr := (0, 0)) (heap_alloc_new _ _)) (noteCells_one [⟨day, seen, off⟩]) (by omega) (by simp only [maxLen]; omega) (by omega) (by simp) _ rfl ?_; intro g2 cap2 w10 hown2 hgrow2 hat2 hlt2; have hE10 : Ext w6 w10 := Ext.grown (by repeat (first | exact Ext.refl _ | assumption | apply Ext.drew | apply Ext.alloc)) hgrow2 (fun q hq => by cases hq)))
                                all_goals exact ⟨(.slice (some ⟨b2, o2, none⟩) days.length c2), (.int .i64 i), (.pointer (some ⟨b2, o2 + i, none⟩)), (.int .i64 day), (.int .i64 seen), (.int .i64 off), AppPost.mk (.slice none 0 0) (.slice (some ⟨w6.heap.size, 0, none⟩) 1 1) g2 cap2 (by rw [← hmc, hml, HL0.out]; exact hown2) hE10 (by simp only [Act.put, List.getElem_toArray, List.getElem_cons_succ, List.getElem_cons_zero, List.setIfInBounds_toArray, List.set_cons_succ, List.set_cons_zero]; rw [hml, H00.out])⟩
                              · obtain ⟨b, oo, rfl, hc⟩ := (HM.out.ext HE6.out) h0
                                have HNN := Lib.hid (notes_news hc)
                                go_region_law (first | (refine step_append_lies _ rfl (Operand.const (.slice none 0 0)) (Operand.tmp 174) 58 rfl w6.heap.size 76 i0 _ 3 24 Tryz.underlying58 hi0 hi1 hi2 hi3 rfl (by decide) (.slice none 0 0) 0 [] rfl (World.ownsRow_nil _ _ _ _) ⟨b, oo, none⟩ l.length c (noteCells l) (by simp [Act.eval, Act.put]) (noteCells_length l) (HNN.out _ (by repeat (first | exact Ext.refl _ | assumption | apply Ext.drew | apply Ext.alloc))) (noteCells_one l) h0 (by simp only [maxLen]; omega) (by omega) (by simp) _ rfl ?_; intro g1 cap1 w9 hown1 hgrow1 hat1 hlt1; have hE9 : Ext w6 w9 := Ext.grown (by repeat (first | exact Ext.refl _ | assumption | apply Ext.drew | apply Ext.alloc)) hgrow1 (fun q hq => by cases hq); have b9 := hE9.cell HCD.out; simp only [Nat.zero_add, List.nil_append] at hown1 ⊢) | (refine step_append_lies _ rfl (Operand.tmp 175) (Operand.tmp 183) 58 rfl w6.heap.size 76 i0 _ 3 24 Tryz.underlying58 hi0 hi1 hi2 hi3 rfl (by decide) (.slice (some ⟨g1, 0, none⟩) l.length cap1) l.length (noteCells l) (by simp [Act.eval, Act.put]) (hown1.alloc (.cells #[.int .i64 day, .int .i64 seen, .int .i64 off] 76)) ⟨w9.heap.size, 0, none⟩ 1 1 [.int .i64 day, .int .i64 seen, .int .i64 off] (by simp [Act.eval, Act.put]) rfl (World.news_of_block (cs := #[.int .i64 day, .int .i64 seen, .int .i64 off]) (t := 76) (fr := (0, 0)) (heap_alloc_new _ _)) (noteCells_one [⟨day, seen, off⟩]) (by omega) (by simp only [maxLen]; omega) (by omega) (by have := hE9.size; simp; omega) _ rfl ?_; intro g2 cap2 w10 hown2 hgrow2 hat2 hlt2; have hE10 : Ext w6 w10 := Ext.grown (by repeat (first | exact Ext.refl _ | assumption | apply Ext.drew | apply Ext.alloc)) hgrow2 (fun q hq => (hown1.lt q hq).1)) | (refine step_append_lies _ rfl (Operand.tmp 175) (Operand.tmp 183) 58 rfl w6.heap.size 76 i0 _ 3 24 Tryz.underlying58 hi0 hi1 hi2 hi3 rfl (by decide) (.slice (some ⟨g1, 0, none⟩) l.length cap1) l.length (noteCells l) (by simp [Act.eval, Act.put]) hown1 ⟨w6.heap.size, 0, none⟩ 1 1 [.int .i64 day, .int .i64 seen, .int .i64 off] (by simp [Act.eval, Act.put]) rfl (World.news_of_block (cs := #[.int .i64 day, .int .i64 seen, .int .i64 off]) (t := 76) (fr := (0, 0)) ((hgrow1.block _ (by simp) (by intro e; cases e)).trans (heap_alloc_new _ _))) (noteCells_one [⟨day, seen, off⟩]) (by omega) (by simp only [maxLen]; omega) (by omega) (by have := hE9.size; simp; omega) _ rfl ?_; intro g2 cap2 w10 hown2 hgrow2 hat2 hlt2; have hE10 : Ext w6 w10 := Ext.grown (by repeat (first | exact Ext.refl _ | assumption | apply Ext.drew | apply Ext.alloc)) hgrow2 (fun q hq => (hown1.lt q hq).1)))
                                all_goals (first | (refine ⟨(.slice (some ⟨b2, o2, none⟩) days.length c2), (.int .i64 i), (.pointer (some ⟨b2, o2 + i, none⟩)), (.int .i64 day), (.int .i64 seen), (.int .i64 off), AppPost.mk (.slice (some ⟨g1, 0, none⟩) l.length cap1) (.slice (some ⟨w9.heap.size, 0, none⟩) 1 1) g2 cap2 (by rw [← hmc, hml]; exact hown2) hE10 ?_⟩; (simp only [Act.put, List.getElem_toArray, List.getElem_cons_succ, List.getElem_cons_zero, List.setIfInBounds_toArray, List.set_cons_succ, List.set_cons_zero]); rw [hml]; done) | (refine ⟨(.slice (some ⟨b2, o2, none⟩) days.length c2), (.int .i64 i), (.pointer (some ⟨b2, o2 + i, none⟩)), (.int .i64 day), (.int .i64 seen), (.int .i64 off), AppPost.mk (.slice (some ⟨g1, 0, none⟩) l.length cap1) (.slice (some ⟨w6.heap.size, 0, none⟩) 1 1) g2 cap2 (by rw [← hmc, hml]; exact hown2) hE10 ?_⟩; (simp only [Act.put, List.getElem_toArray, List.getElem_cons_succ, List.getElem_cons_zero, List.setIfInBounds_toArray, List.set_cons_succ, List.set_cons_zero]); rw [hml]; done))
                            case hq =>
                              intro e a' w7 hap
                              obtain ⟨y1, y2, y3, y4, y5, y6, hap⟩ := hap
                              obtain ⟨rfl, u55, u57, g2, cap2, hown, hE7, rfl⟩ := hap.get
                              clear hap
                              simp only [Act.put, List.setIfInBounds_toArray, List.set_cons_succ, List.set_cons_zero]
                              have HNX := Lib.hid (own_notes hown)
                              clear hown hci
                              have HE7 := Lib.hid (HE6.out.trans hE7)
                              clear hE7
                              have hm9 : m.length ≤ 9 := by omega
                              have HML := Lib.hid hml
                              clear hml hmc
                              have h5m : Sp.notesOk m = true := by rw [← HMM.out]; exact notesOk_snoc h2 (by omega) HDOK.out h7 h5
                              have N1 := notesArg_mk h1 h5m h3
                              by_cases hm : Sp.speedsL start m low high = []
                              case pos =>
                                go_wp2_with fail
                                refine (Speeds_none start low high (some ⟨g2, 0, none⟩) cap2 m w7 HNX.out (by omega) N1 hm).mono ?_
                                rintro e w8 ⟨rfl, hE8⟩
                                have HE8 := Lib.hid (HE7.out.trans hE8)
                                replace HNX := Lib.hid (HNX.out.ext hE8)
                                clear hE8
                                have hX9 : Ext w8 (w8.alloc (.cells #[.int .i64 0, .int .i64 0] 61)) := (Ext.refl _).alloc _
                                have HE9 := Lib.hid (HE8.out.trans hX9)
                                replace HNX := Lib.hid (HNX.out.ext hX9)
                                clear hX9
                                go_wp2_with fail
                                generalize w8.alloc (.cells #[.int .i64 0, .int .i64 0] 61) = w9 at *
                                refine (known_any w9 (HV.out.ext HE9.out)).mono ?_
                                rintro e w10 ⟨rfl, hE10⟩
                                go_wp2_with fail
                                go_ret
                                exact ⟨rfl, HE9.out.trans hE10⟩
                              case neg =>
                                obtain ⟨p0, hp0⟩ : ∃ q, (Sp.speedsL start m low high).headD 0 = q := ⟨_, rfl⟩
                                obtain ⟨p1, hp1⟩ : ∃ q, (Sp.speedsL start m low high).getLastD 0 = q := ⟨_, rfl⟩
                                obtain ⟨p2, hp2⟩ : ∃ q, (Sp.speedsL start m low high).length = q := ⟨_, rfl⟩
                                have hpn : (p2 : Int) ≤ (mv : Int) := by
                                  have q := seen_more start l low high ⟨day, seen, off⟩ hoff.1
                                  rw [HMM.out, hp2, HLL.out] at q
                                  have q2 : Sp.left start L day off = mv := HNV.out
                                  have q3 : p2 ≤ Sp.left start L day off := q
                                  omega
                                have HP0 := Lib.hid hp0
                                have HP1 := Lib.hid hp1
                                have HP2 := Lib.hid hp2
                                clear hp0 hp1 hp2
                                go_wp2_with fail
                                refine (Speeds_ok start low high (some ⟨g2, 0, none⟩) cap2 m w7 HNX.out (by omega) N1 hm).mono ?_
                                rintro e w8 ⟨rfl, hE8⟩
                                have HE8 := Lib.hid (HE7.out.trans hE8)
                                replace HNX := Lib.hid (HNX.out.ext hE8)
                                clear hE8
                                rw [HP0.out, HP1.out, HP2.out]
                                have hX9 : Ext w8 (w8.alloc (.cells #[.int .i64 p0, .int .i64 p1] 61)) := (Ext.refl _).alloc _
                                have HE9 := Lib.hid (HE8.out.trans hX9)
                                replace HNX := Lib.hid (HNX.out.ext hX9)
                                clear hX9
                                go_wp2_with fail
                                generalize w8.alloc (.cells #[.int .i64 p0, .int .i64 p1] 61) = w9 at *
                                refine (known_any w9 (HV.out.ext HE9.out)).mono ?_
                                rintro e w10 ⟨rfl, hE10⟩
                                go_wp2_with fail
                                go_ret
                                exact ⟨rfl, HE9.out.trans hE10⟩
                          case neg =>
                            have hmn' : ((mv : Int) == (nv : Int)) = false := by simp; omega
                            clear f5 HF
                            obtain ⟨m, hm⟩ : ∃ m, l ++ [(⟨day, seen, off⟩ : Sp.Note)] = m := ⟨_, rfl⟩
                            have hml : m.length = l.length + 1 := by rw [← hm]; simp
                            have hmc : noteCells l ++ [.int .i64 day, .int .i64 seen, .int .i64 off] = noteCells m := by rw [← hm, noteCells_app]; rfl
                            have HMM := Lib.hid hm
                            clear hm
                            obtain ⟨i0, hi0, hi1, hi2, hi3⟩ := info_parts info_note
                            have HCI := Lib.hid (HDC.out i f1)
                            have hci : w6.cell? ⟨b2, o2 + i, none⟩ = some (.int .i64 day) := by have := HE6.out.cell HCI.out; rwa [HDY.out] at this
                            have HCD := Lib.hid hci
                            go_wp2_with fail
                            simp only [show decide (8 < (days.length : Int)) = false from decide_eq_false (by omega), show decide (6 ≤ (l.length : Int)) = false from decide_eq_false (by omega), show decide ((j : Int) < 0) = false from decide_eq_false (by omega), show decide ((days.length : Int) ≤ (j : Int)) = false from decide_eq_false (by omega), show decide (days.length ≤ j) = false from decide_eq_false (by omega), show decide ((i : Int) < 0) = false from decide_eq_false (by omega), show decide (days.length ≤ i) = false from decide_eq_false (by omega), show decide ((days.length : Int) ≤ (i : Int)) = false from decide_eq_false (by omega), show decide ((nv : Int) < 1) = false from decide_eq_false (by omega), show decide ((N : Int) < (nv : Int)) = false from decide_eq_false (by omega), show decide (N < nv) = false from decide_eq_false (by omega), show decide ((mv : Int) < (nv : Int)) = false from decide_eq_false (by omega), show decide (mv < nv) = false from decide_eq_false (by omega), Bool.or_false, Bool.false_or, Bool.or_self, Bool.and_false, Bool.false_and, Bool.and_true, Bool.true_and]
                            refine cut_at (fun a e a' w' => ∃ y1 y2 y3 y4 y5 y6 : Value, AppPost 174 175 182 183 184 26 w6 m (.slice A l.length c) (.agg #[.int .i64 day, .int .i64 seen, .int .i64 off]) ((((((a.put (some 176) y1).put (some 177) y2).put (some 178) y3).put (some 179) y4).put (some 180) y5).put (some 181) y6) e a' w') ?hr ?hq
                            case hr =>
                              rcases Nat.eq_zero_or_pos l.length with h0 | h0
                              · have HL0 := Lib.hid (List.eq_nil_of_length_eq_zero h0)
                                have H00 := Lib.hid h0
                                clear h0
                                go_region_law (first | (refine step_append_none A c rfl (Operand.const (.slice none 0 0)) (Operand.tmp 174) rfl rfl rfl (by simp [Act.eval, Act.put, H00.out]) ?_) | (refine step_append_lies _ rfl (Operand.tmp 175) (Operand.tmp 183) 58 rfl w6.heap.size 76 i0 _ 3 24 Tryz.underlying58 hi0 hi1 hi2 hi3 rfl (by decide) (.slice none 0 0) 0 [] (by simp [Act.eval, Act.put]) (World.ownsRow_nil _ _ _ _) ⟨w6.heap.size, 0, none⟩ 1 1 [.int .i64 day, .int .i64 seen, .int .i64 off] (by simp [Act.eval, Act.put]) rfl (World.news_of_block (cs := #[.int .i64 day, .int .i64 seen, .int .i64 off]) (t := 76) (fr := (0, 0)) (heap_alloc_new _ _)) (noteCells_one [⟨day, seen, off⟩]) (by omega) (by simp only [maxLen]; omega) (by omega) (by simp) _ rfl ?_; intro g2 cap2 w10 hown2 hgrow2 hat2 hlt2; have hE10 : Ext w6 w10 := Ext.grown (by repeat (first | exact Ext.refl _ | assumption | apply Ext.drew | apply Ext.alloc)) hgrow2 (fun q hq => by cases hq)))
                                all_goals exact ⟨(.slice (some ⟨b2, o2, none⟩) days.length c2), (.int .i64 i), (.pointer (some ⟨b2, o2 + i, none⟩)), (.int .i64 day), (.int .i64 seen), (.int .i64 off), AppPost.mk (.slice none 0 0) (.slice (some ⟨w6.heap.size, 0, none⟩) 1 1) g2 cap2 (by rw [← hmc, hml, HL0.out]; exact hown2) hE10 (by simp only [Act.put, List.getElem_toArray, List.getElem_cons_succ, List.getElem_cons_zero, List.setIfInBounds_toArray, List.set_cons_succ, List.set_cons_zero]; rw [hml, H00.out])⟩
                              · obtain ⟨b, oo, rfl, hc⟩ := (HM.out.ext HE6.out) h0
                                have HNN := Lib.hid (notes_news hc)
                                go_region_law (first | (refine step_append_lies _ rfl (Operand.const (.slice none 0 0)) (Operand.tmp 174) 58 rfl w6.heap.size 76 i0 _ 3 24 Tryz.underlying58 hi0 hi1 hi2 hi3 rfl (by decide) (.slice none 0 0) 0 [] rfl (World.ownsRow_nil _ _ _ _) ⟨b, oo, none⟩ l.length c (noteCells l) (by simp [Act.eval, Act.put]) (noteCells_length l) (HNN.out _ (by repeat (first | exact Ext.refl _ | assumption | apply Ext.drew | apply Ext.alloc))) (noteCells_one l) h0 (by simp only [maxLen]; omega) (by omega) (by simp) _ rfl ?_; intro g1 cap1 w9 hown1 hgrow1 hat1 hlt1; have hE9 : Ext w6 w9 := Ext.grown (by repeat (first | exact Ext.refl _ | assumption | apply Ext.drew | apply Ext.alloc)) hgrow1 (fun q hq => by cases hq); have b9 := hE9.cell HCD.out; simp only [Nat.zero_add, List.nil_append] at hown1 ⊢) | (refine step_append_lies _ rfl (Operand.tmp 175) (Operand.tmp 183) 58 rfl w6.heap.size 76 i0 _ 3 24 Tryz.underlying58 hi0 hi1 hi2 hi3 rfl (by decide) (.slice (some ⟨g1, 0, none⟩) l.length cap1) l.length (noteCells l) (by simp [Act.eval, Act.put]) (hown1.alloc (.cells #[.int .i64 day, .int .i64 seen, .int .i64 off] 76)) ⟨w9.heap.size, 0, none⟩ 1 1 [.int .i64 day, .int .i64 seen, .int .i64 off] (by simp [Act.eval, Act.put]) rfl (World.news_of_block (cs := #[.int .i64 day, .int .i64 seen, .int .i64 off]) (t := 76) (fr := (0, 0)) (heap_alloc_new _ _)) (noteCells_one [⟨day, seen, off⟩]) (by omega) (by simp only [maxLen]; omega) (by omega) (by have := hE9.size; simp; omega) _ rfl ?_; intro g2 cap2 w10 hown2 hgrow2 hat2 hlt2; have hE10 : Ext w6 w10 := Ext.grown (by repeat (first | exact Ext.refl _ | assumption | apply Ext.drew | apply Ext.alloc)) hgrow2 (fun q hq => (hown1.lt q hq).1)) | (refine step_append_lies _ rfl (Operand.tmp 175) (Operand.tmp 183) 58 rfl w6.heap.size 76 i0 _ 3 24 Tryz.underlying58 hi0 hi1 hi2 hi3 rfl (by decide) (.slice (some ⟨g1, 0, none⟩) l.length cap1) l.length (noteCells l) (by simp [Act.eval, Act.put]) hown1 ⟨w6.heap.size, 0, none⟩ 1 1 [.int .i64 day, .int .i64 seen, .int .i64 off] (by simp [Act.eval, Act.put]) rfl (World.news_of_block (cs := #[.int .i64 day, .int .i64 seen, .int .i64 off]) (t := 76) (fr := (0, 0)) ((hgrow1.block _ (by simp) (by intro e; cases e)).trans (heap_alloc_new _ _))) (noteCells_one [⟨day, seen, off⟩]) (by omega) (by simp only [maxLen]; omega) (by omega) (by have := hE9.size; simp; omega) _ rfl ?_; intro g2 cap2 w10 hown2 hgrow2 hat2 hlt2; have hE10 : Ext w6 w10 := Ext.grown (by repeat (first | exact Ext.refl _ | assumption | apply Ext.drew | apply Ext.alloc)) hgrow2 (fun q hq => (hown1.lt q hq).1)))
                                all_goals (first | (refine ⟨(.slice (some ⟨b2, o2, none⟩) days.length c2), (.int .i64 i), (.pointer (some ⟨b2, o2 + i, none⟩)), (.int .i64 day), (.int .i64 seen), (.int .i64 off), AppPost.mk (.slice (some ⟨g1, 0, none⟩) l.length cap1) (.slice (some ⟨w9.heap.size, 0, none⟩) 1 1) g2 cap2 (by rw [← hmc, hml]; exact hown2) hE10 ?_⟩; (simp only [Act.put, List.getElem_toArray, List.getElem_cons_succ, List.getElem_cons_zero, List.setIfInBounds_toArray, List.set_cons_succ, List.set_cons_zero]); rw [hml]; done) | (refine ⟨(.slice (some ⟨b2, o2, none⟩) days.length c2), (.int .i64 i), (.pointer (some ⟨b2, o2 + i, none⟩)), (.int .i64 day), (.int .i64 seen), (.int .i64 off), AppPost.mk (.slice (some ⟨g1, 0, none⟩) l.length cap1) (.slice (some ⟨w6.heap.size, 0, none⟩) 1 1) g2 cap2 (by rw [← hmc, hml]; exact hown2) hE10 ?_⟩; (simp only [Act.put, List.getElem_toArray, List.getElem_cons_succ, List.getElem_cons_zero, List.setIfInBounds_toArray, List.set_cons_succ, List.set_cons_zero]); rw [hml]; done))
                            case hq =>
                              intro e a' w7 hap
                              obtain ⟨y1, y2, y3, y4, y5, y6, hap⟩ := hap
                              obtain ⟨rfl, u55, u57, g2, cap2, hown, hE7, rfl⟩ := hap.get
                              clear hap
                              simp only [Act.put, List.setIfInBounds_toArray, List.set_cons_succ, List.set_cons_zero]
                              have HNX := Lib.hid (own_notes hown)
                              clear hown hci
                              have HE7 := Lib.hid (HE6.out.trans hE7)
                              clear hE7
                              have hm9 : m.length ≤ 9 := by omega
                              have HML := Lib.hid hml
                              clear hml hmc
                              have h5m : Sp.notesOk m = true := by rw [← HMM.out]; exact notesOk_snoc h2 (by omega) HDOK.out h7 h5
                              have N1 := notesArg_mk h1 h5m h3
                              by_cases hm : Sp.speedsL start m low high = []
                              case pos =>
                                go_wp2_with fail
                                refine (Speeds_none start low high (some ⟨g2, 0, none⟩) cap2 m w7 HNX.out (by omega) N1 hm).mono ?_
                                rintro e w8 ⟨rfl, hE8⟩
                                have HE8 := Lib.hid (HE7.out.trans hE8)
                                replace HNX := Lib.hid (HNX.out.ext hE8)
                                clear hE8
                                have hX9 : Ext w8 (w8.alloc (.cells #[.int .i64 0, .int .i64 0] 61)) := (Ext.refl _).alloc _
                                have HE9 := Lib.hid (HE8.out.trans hX9)
                                replace HNX := Lib.hid (HNX.out.ext hX9)
                                clear hX9
                                go_wp2_with fail
                                generalize w8.alloc (.cells #[.int .i64 0, .int .i64 0] 61) = w9 at *
                                refine (known_any w9 (HV.out.ext HE9.out)).mono ?_
                                rintro e w10 ⟨rfl, hE10⟩
                                go_wp2_with fail
                                go_ret
                                exact ⟨rfl, HE9.out.trans hE10⟩
                              case neg =>
                                obtain ⟨p0, hp0⟩ : ∃ q, (Sp.speedsL start m low high).headD 0 = q := ⟨_, rfl⟩
                                obtain ⟨p1, hp1⟩ : ∃ q, (Sp.speedsL start m low high).getLastD 0 = q := ⟨_, rfl⟩
                                obtain ⟨p2, hp2⟩ : ∃ q, (Sp.speedsL start m low high).length = q := ⟨_, rfl⟩
                                have hpn : (p2 : Int) ≤ (nv : Int) := by
                                  have q := seen_more start l low high ⟨day, seen, off⟩ hoff.1
                                  rw [HMM.out, hp2, HLL.out] at q
                                  have q2 : Sp.left start L day off = nv := HNV.out
                                  have q3 : p2 ≤ Sp.left start L day off := q
                                  omega
                                have HP0 := Lib.hid hp0
                                have HP1 := Lib.hid hp1
                                have HP2 := Lib.hid hp2
                                clear hp0 hp1 hp2
                                go_wp2_with fail
                                refine (Speeds_ok start low high (some ⟨g2, 0, none⟩) cap2 m w7 HNX.out (by omega) N1 hm).mono ?_
                                rintro e w8 ⟨rfl, hE8⟩
                                have HE8 := Lib.hid (HE7.out.trans hE8)
                                replace HNX := Lib.hid (HNX.out.ext hE8)
                                clear hE8
                                rw [HP0.out, HP1.out, HP2.out]
                                have hX9 : Ext w8 (w8.alloc (.cells #[.int .i64 p0, .int .i64 p1] 61)) := (Ext.refl _).alloc _
                                have HE9 := Lib.hid (HE8.out.trans hX9)
                                replace HNX := Lib.hid (HNX.out.ext hX9)
                                clear hX9
                                go_wp2_with fail
                                generalize w8.alloc (.cells #[.int .i64 p0, .int .i64 p1] 61) = w9 at *
                                refine (known_any w9 (HV.out.ext HE9.out)).mono ?_
                                rintro e w10 ⟨rfl, hE10⟩
                                go_wp2_with fail
                                go_ret
                                exact ⟨rfl, HE9.out.trans hE10⟩
end Go.Proofs.YtlcddcnmoajpjaaGreatDoor
