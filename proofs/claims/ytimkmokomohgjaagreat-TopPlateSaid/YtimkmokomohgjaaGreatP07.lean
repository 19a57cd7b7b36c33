/- Volume 7 of the texts that the laws of this seat use: TpR2 TpMap TpLay TpLay2 TpJoin TpRat0: walks of the program's functions, and plain laws. -/
import Derived.Carry
import Derived.BigQuiet
import Derived.DeepKeys4
import Derived.Maps.Keyed
import Derived.ArgAppend
import Derived.Test.YtimkmokomohgjaaGreatP01
import Derived.Test.YtimkmokomohgjaaGreatP04
import Derived.Test.YtimkmokomohgjaaGreatP05
import Derived.Test.YtimkmokomohgjaaGreatP06
namespace Go.Proofs.YtimkmokomohgjaaGreat
open Go.RowKit
open Sp (rd)
set_option maxRecDepth 100000
set_option maxHeartbeats 16000000
set_option linter.unusedVariables false
set_option linter.unusedSimpArgs false
theorem Tp.eql_point (a b c d : Int) (w : World) : (binOp .eql 123 (.agg #[.int .i64 a, .int .i64 b]) (.agg #[.int .i64 c, .int .i64 d])).run Tryz.prog w = .ok (.bool ((a == c) && (b == d))) w := by
  have hf : (Tryz.prog.fieldsOf 123).toList.map (fun f => (f.name, f.type, f.offset)) = [("X", 3, 0), ("Y", 3, 1)] := by kernel_rfl
  obtain ⟨f1, f2, hfs, p1, p2⟩ := Tp.map_two hf
  obtain ⟨n1, t1, o1⟩ := Tp.field_parts p1
  obtain ⟨n2, t2, o2⟩ := Tp.field_parts p2
  rw [run_eql_struct, run_equalIn_agg w 9999 _ _ _ (by kernel_rfl) (by kernel_rfl), hfs]
  simp [Op.eqFields, n1, t1, o1, n2, t2, o2, part, go_sem]
  by_cases h : a = c <;> by_cases h2 : b = d <;> simp [h, h2]
theorem Tp.eql_mesh (a b c d : Int) (w : World) : (binOp .eql 129 (.agg #[.int .i64 a, .int .i64 b]) (.agg #[.int .i64 c, .int .i64 d])).run Tryz.prog w = .ok (.bool ((a == c) && (b == d))) w := by
  have hf : (Tryz.prog.fieldsOf 129).toList.map (fun f => (f.name, f.type, f.offset)) = [("A", 3, 0), ("B", 3, 1)] := by kernel_rfl
  obtain ⟨f1, f2, hfs, p1, p2⟩ := Tp.map_two hf
  obtain ⟨n1, t1, o1⟩ := Tp.field_parts p1
  obtain ⟨n2, t2, o2⟩ := Tp.field_parts p2
  rw [run_eql_struct, run_equalIn_agg w 9999 _ _ _ (by kernel_rfl) (by kernel_rfl), hfs]
  simp [Op.eqFields, n1, t1, o1, n2, t2, o2, part, go_sem]
  by_cases h : a = c <;> by_cases h2 : b = d <;> simp [h, h2]
theorem Tp.inR_yes {x lo hi : Int} (h1 : lo ≤ x) (h2 : x ≤ hi) : Sp.inR x lo hi = true := inR_iff.2 ⟨h1, h2⟩
def Tp.R2Post (links : List (Int × Ec.Pair)) (w : World) (e : Ending) (w' : World) : Prop := ∃ b, e = .returned (.bool b) ∧ (b = true → ∀ x, x < 2 * links.length → Sp.inR (Tp.wt links x) 4 50 = true) ∧ Ext w w'
theorem Tp.r2Post {links : List (Int × Ec.Pair)} {w w' : World} {e : Ending} (b : Bool) (he : e = .returned (.bool b)) (h : b = true → ∀ x, x < 2 * links.length → Sp.inR (Tp.wt links x) 4 50 = true) (hx : Ext w w') : Tp.R2Post links w e w' := ⟨b, he, h, hx⟩
theorem r2_Piece_any (links : List (Int × Ec.Pair)) (nc nw bC cC bW cW bM cM : Nat) (w : World) (hp : Tp.PlAt w links bC bW bM) (hok : Tp.LinksOk links) (h1 : 1 ≤ links.length) (h4 : links.length ≤ 4) (hnc : links.length + 1 = nc) (hnw : 2 * links.length = nw) :
    Calls Tryz.prog 16 #[.agg #[.int .i64 120, .int .i64 120, .int .i64 0, .int .i64 0, .int .i64 0, .slice (some ⟨bC, 0, none⟩) nc cC, .slice (some ⟨bW, 0, none⟩) nw cW, .slice (some ⟨bM, 0, none⟩) links.length cM]] w (Tp.R2Post links w) := by
  have HP := Lib.hid hp
  have HCL : Hid (∀ x, x < nw → Tp.wc links x ≤ links.length) := Lib.hid (fun x hx => by
    have := (hok.frm (x / 2)).1
    unfold Tp.wc
    split <;> omega)
  have HFN : Hid (∀ W, Ext w W → (∀ x, x < nw → Sp.inR (Tp.wt links x) 4 50 = true) → Tp.R2Post links w (.returned (.bool true)) W) := Lib.hid (fun W hx h => Tp.r2Post true rfl (fun _ => by rw [hnw]; exact h) hx)
  have HNO : Hid (∀ W, Ext w W → Tp.R2Post links w (.returned (.bool false)) W) := Lib.hid (fun W hx => Tp.r2Post false rfl (fun h => absurd h (by decide)) hx)
  obtain ⟨n, hn⟩ : ∃ n, links.length = n := ⟨_, rfl⟩
  have HN := Lib.hid hn
  rw [hn] at h1 h4 hnc hnw HCL ⊢
  have HNC := Lib.hid hnc
  have HNW := Lib.hid hnw
  have hc5 : nc ≤ 5 := by omega
  have hc2 : 2 ≤ nc := by omega
  have hw8 : nw ≤ 8 := by omega
  have hw2 : 2 ≤ nw := by omega
  have r0 := Row.new w 56 #[.int .i64 120, .int .i64 120, .int .i64 0, .int .i64 0, .int .i64 0, .slice (some ⟨bC, 0, none⟩) nc cC, .slice (some ⟨bW, 0, none⟩) nw cW, .slice (some ⟨bM, 0, none⟩) n cM]
  have HR0 := Lib.hid r0
  have HX0 := Lib.hid ((Ext.refl w).alloc (.cells #[.int .i64 120, .int .i64 120, .int .i64 0, .int .i64 0, .int .i64 0, .slice (some ⟨bC, 0, none⟩) nc cC, .slice (some ⟨bW, 0, none⟩) nw cW, .slice (some ⟨bM, 0, none⟩) n cM] 56))
  have a0 := r0.cell
  have i1 : Sp.inR 120 1 120 = true := rfl
  have i2 : Sp.inR 0 0 4 = true := rfl
  have i3 : Sp.inR 0 0 3 = true := rfl
  have i4 : Sp.inR (nc : Int) 1 6 = true := Tp.inR_yes (by omega) (by omega)
  have t8 : ¬ (8 : Int) < (nw : Int) := by omega
  have t10 : ¬ (10 : Int) < (n : Int) := by omega
  clear hp hok hn hnc hnw r0
  go_enter Tryz.func16, Tryz.ntmps16
  go_wp2_with (go_at_call 57; refine (r2_in_any _ _ _ _).mono ?_; rintro e w' ⟨rfl, rfl⟩)
  generalize w.alloc (.cells #[.int .i64 120, .int .i64 120, .int .i64 0, .int .i64 0, .int .i64 0, .slice (some ⟨bC, 0, none⟩) nc cC, .slice (some ⟨bW, 0, none⟩) nw cW, .slice (some ⟨bM, 0, none⟩) n cM] 56) = W0 at *
  clear a0 i1 i2 i3 i4 t8 t10
  go_loopw [3, 4, 5] (fun i cc jj wr => ∃ k : Nat, k ≤ nc ∧ i = .int .i64 (k : Int) ∧ Ext W0 wr) (fun i _ _ _ => nc - (intOf i).toNat)
  case atStart => exact ⟨0, Nat.zero_le _, rfl, Ext.refl _⟩
  case round =>
    obtain ⟨k, hk, rfl, hE⟩ := hrel
    have HE := Lib.hid hE
    have HR1 := Lib.hid (HR0.out.ext hE)
    have HP1 := Lib.hid (HP.out.ext (HX0.out.trans hE))
    clear hE
    have c1 := HR1.out.cell
    generalize wr = W1 at *
    rcases Nat.lt_or_eq_of_le hk with h9 | h9
    · have h9' : (k : Int) < (nc : Int) := by omega
      obtain ⟨d0, d1⟩ := HP1.out.cen k (by rw [HN.out]; have := HNC.out; omega)
      have j1 : Sp.inR (20 * (k : Int)) 0 120 = true := Tp.inR_yes (by omega) (by omega)
      have j2 : Sp.inR (k : Int) 0 120 = true := Tp.inR_yes (by omega) (by omega)
      have HRC := Lib.hid (Row.new W1 123 #[.int .i64 (20 * (k : Int)), .int .i64 (k : Int)])
      have hX : Ext W1 (W1.alloc (.cells #[.int .i64 (20 * (k : Int)), .int .i64 (k : Int)] 123)) := (Ext.refl _).alloc _
      have HE2 := Lib.hid (HE.out.trans hX)
      have HR2 := Lib.hid (HR1.out.ext hX)
      have HP2 := Lib.hid (HP1.out.ext hX)
      clear hX
      have z1 := lts HR1.out.lt
      have cc2 := HRC.out.cell
      go_wp2_with (go_at_call 57; refine (r2_in_any _ _ _ _).mono ?_; rintro e w' ⟨rfl, rfl⟩)
      clear c1 d0 d1 j1 j2 cc2 z1
      obtain ⟨gc, hgc⟩ : ∃ g, W1.heap.size = g := ⟨_, rfl⟩
      rw [hgc] at HRC ⊢
      clear hgc
      generalize W1.alloc (.cells #[.int .i64 (20 * (k : Int)), .int .i64 (k : Int)] 123) = W2 at *
      go_loopw [5] (fun jj wr => ∃ j : Nat, j ≤ k ∧ jj = .int .i64 (j : Int) ∧ Ext W2 wr) (fun jj _ => k - (intOf jj).toNat)
      case atStart => exact ⟨0, Nat.zero_le _, rfl, Ext.refl _⟩
      case round =>
        obtain ⟨j, hj, rfl, hE3⟩ := hrel
        have HE3 := Lib.hid hE3
        have HR3 := Lib.hid (HR2.out.ext hE3)
        have HP3 := Lib.hid (HP2.out.ext hE3)
        have HRC3 := Lib.hid (HRC.out.ext hE3)
        clear hE3
        rcases Nat.lt_or_eq_of_le hj with h8 | h8
        · have h8' : (j : Int) < (k : Int) := by omega
          have h7 : j < nc := by omega
          have h7' : (j : Int) < (nc : Int) := by omega
          obtain ⟨d0, d1⟩ := HP3.out.cen j (by rw [HN.out]; have := HNC.out; omega)
          have heq := fun W => Tp.eql_point (20 * (j : Int)) (j : Int) (20 * (k : Int)) (k : Int) W
          rw [show ((20 * (j : Int) == 20 * (k : Int)) && ((j : Int) == (k : Int))) = false by rw [Bool.and_eq_false_iff]; right; rw [beq_eq_false_iff_ne]; omega] at heq
          go_wp2_with fail
          refine wp_region_later (by kernel_rfl) (by kernel_rfl) (fun W hW => ?_)
          have hXq : Ext wr W := by rw [hW]; first | exact Ext.refl _ | exact (Ext.refl _).drewN _
          clear hW
          have HXQ := Lib.hid hXq
          clear hXq
          have v0 := (HR3.out.cell 5)
          try simp only [List.getElem?_toArray, List.getElem?_cons_zero, List.getElem?_cons_succ] at v0
          have v1 := d0
          try simp only [List.getElem?_toArray, List.getElem?_cons_zero, List.getElem?_cons_succ] at v1
          have v2 := d1
          try simp only [List.getElem?_toArray, List.getElem?_cons_zero, List.getElem?_cons_succ] at v2
          have v3 := (HRC3.out.cell 0)
          try simp only [List.getElem?_toArray, List.getElem?_cons_zero, List.getElem?_cons_succ] at v3
          have v4 := (HRC3.out.cell 1)
          try simp only [List.getElem?_toArray, List.getElem?_cons_zero, List.getElem?_cons_succ] at v4
          have u0 := fun X : Later W => (HXQ.out.trans X.ext).cell v0
          have u1 := fun X : Later W => (HXQ.out.trans X.ext).cell v1
          have u2 := fun X : Later W => (HXQ.out.trans X.ext).cell v2
          have u3 := fun X : Later W => (HXQ.out.trans X.ext).cell v3
          have u4 := fun X : Later W => (HXQ.out.trans X.ext).cell v4
          repeat (go_big_quiet_step (fail))
          refine wpQuiet_nil ?_
          rintro ⟨w7, hEz⟩
          dsimp only
          have HE7 := Lib.hid (HXQ.out.trans hEz)
          clear hEz HXQ u0 v0 u1 v1 u2 v2 u3 v3 u4 v4
          clear heq d0 d1
          go_wp2_with fail
          go_roundw
          case rel => exact ⟨j + 1, by omega, by go_num, HE3.out.trans HE7.out⟩
          case measure => simp [intOf]; omega
        · subst h8
          go_wp2_with fail
          go_roundw
          case rel => exact ⟨j + 1, by omega, by go_num, HE2.out.trans HE3.out⟩
          case measure => simp [intOf]; omega
    · replace h9 := h9.symm
      subst h9
      go_wp2_with fail
      clear c1
      go_loopw [6, 7] (fun i cc wr => ∃ x : Nat, x ≤ nw ∧ i = .int .i64 (x : Int) ∧ (∀ q, q < x → Sp.inR (Tp.wt links q) 4 50 = true) ∧ Ext W1 wr) (fun i _ _ => nw - (intOf i).toNat)
      case atStart => exact ⟨0, Nat.zero_le _, rfl, fun q hq => absurd hq (by omega), Ext.refl _⟩
      case round =>
        obtain ⟨x, hx, rfl, hT, hE3⟩ := hrel
        have HT := Lib.hid hT
        have HE3 := Lib.hid (HE.out.trans hE3)
        have HEW := Lib.hid hE3
        have HR3 := Lib.hid (HR1.out.ext hE3)
        have HP3 := Lib.hid (HP1.out.ext hE3)
        clear hE3 hT
        have c3 := HR3.out.cell
        generalize wr = W3 at *
        rcases Nat.lt_or_eq_of_le hx with h8 | h8
        · have h8' : (x : Int) < (nw : Int) := by omega
          obtain ⟨d0, d1, d2, d3⟩ := HP3.out.whl x (by rw [HN.out]; have := HNW.out; omega)
          have hcl := HCL.out x h8
          have HTS : Hid (∀ t, Tp.wt links x = t → Sp.inR t 4 50 = true → ∀ q, q < x + 1 → Sp.inR (Tp.wt links q) 4 50 = true) := Lib.hid (fun t ht h q hq => by rcases Nat.lt_or_eq_of_le (Nat.le_of_lt_succ hq) with h7 | rfl; exact HT.out q h7; rw [ht]; exact h)
          obtain ⟨q, hq⟩ : ∃ q, Tp.wc links x = q := ⟨_, rfl⟩
          obtain ⟨y, hy⟩ : ∃ y, x / 2 = y := ⟨_, rfl⟩
          obtain ⟨t, ht⟩ : ∃ t, Tp.wt links x = t := ⟨_, rfl⟩
          rw [hq] at d0 hcl
          rw [hy] at d2
          rw [ht] at d3
          replace HTS := Lib.hid (HTS.out t ht)
          have hnc := HNC.out
          have j1 : Sp.inR (q : Int) 0 ((nc : Int) - 1) = true := Tp.inR_yes (by omega) (by omega)
          have j2 : Sp.inR 0 0 2 = true := rfl
          have j3 : Sp.inR (y : Int) 0 5 = true := Tp.inR_yes (by omega) (by omega)
          clear hq hy ht hnc hcl
          have HRC := Lib.hid (Row.new W3 67 #[.int .i64 (q : Int), .int .i64 0, .int .i64 (y : Int), .int .i64 t])
          have hX : Ext W3 (W3.alloc (.cells #[.int .i64 (q : Int), .int .i64 0, .int .i64 (y : Int), .int .i64 t] 67)) := (Ext.refl _).alloc _
          have HE4 := Lib.hid (HE3.out.trans hX)
          have HEV := Lib.hid (HEW.out.trans hX)
          clear hX
          have z1 := lts HR3.out.lt
          have cc2 := HRC.out.cell
          cases j4 : Sp.inR t 4 50 with
          | false =>
            go_wp2_with (go_at_call 57; refine (r2_in_any _ _ _ _).mono ?_; rintro e w' ⟨rfl, rfl⟩)
            go_ret
            exact HNO.out _ (HX0.out.trans HE4.out)
          | true =>
            go_wp2_with (go_at_call 57; refine (r2_in_any _ _ _ _).mono ?_; rintro e w' ⟨rfl, rfl⟩)
            go_roundw
            case rel => exact ⟨x + 1, by omega, by go_num, HTS.out j4, HEV.out⟩
            case measure => simp [intOf]; omega
        · subst h8
          have HFN2 : Hid (∀ W, Ext W3 W → Tp.R2Post links w (.returned (.bool true)) W) := Lib.hid (fun W h => HFN.out W ((HX0.out.trans HE3.out).trans h) HT.out)
          clear HT HFN HEW
          go_wp2_with fail
          clear c3
          go_loopw [8, 9, 10] (fun i cc jj wr => ∃ k : Nat, k ≤ n ∧ i = .int .i64 (k : Int) ∧ Ext W3 wr) (fun i _ _ _ => n - (intOf i).toNat)
          case atStart => exact ⟨0, Nat.zero_le _, rfl, Ext.refl _⟩
          case round =>
            obtain ⟨k, hk, rfl, hE5⟩ := hrel
            have HE5 := Lib.hid hE5
            have HR5 := Lib.hid (HR3.out.ext hE5)
            have HP5 := Lib.hid (HP3.out.ext hE5)
            clear hE5
            have c5 := HR5.out.cell
            generalize wr = W5 at *
            rcases Nat.lt_or_eq_of_le hk with h7 | h7
            · have h7' : (k : Int) < (n : Int) := by omega
              obtain ⟨d0, d1⟩ := HP5.out.msh k (by rw [HN.out]; exact h7)
              have hnw := HNW.out
              have j1 : Sp.inR (2 * (k : Int)) 0 ((x : Int) - 1) = true := Tp.inR_yes (by omega) (by omega)
              have j2 : Sp.inR (2 * (k : Int) + 1) 0 ((x : Int) - 1) = true := Tp.inR_yes (by omega) (by omega)
              have j3 : ¬ 2 * (k : Int) + 1 ≤ 2 * (k : Int) := by omega
              clear hnw
              have hX : Ext W5 (W5.alloc (.cells #[.int .i64 (2 * (k : Int)), .int .i64 (2 * (k : Int) + 1)] 129)) := (Ext.refl _).alloc _
              have HRC := Lib.hid (Row.new W5 129 #[.int .i64 (2 * (k : Int)), .int .i64 (2 * (k : Int) + 1)])
              have HE6 := Lib.hid (HE5.out.trans hX)
              have HR6 := Lib.hid (HR5.out.ext hX)
              have HP6 := Lib.hid (HP5.out.ext hX)
              clear hX
              have z1 := lts HR5.out.lt
              have cc2 := HRC.out.cell
              go_wp2_with fail
              obtain ⟨gm, hgm⟩ : ∃ g, W5.heap.size = g := ⟨_, rfl⟩
              rw [hgm] at HRC cc2 ⊢
              clear hgm
              generalize W5.alloc (.cells #[.int .i64 (2 * (k : Int)), .int .i64 (2 * (k : Int) + 1)] 129) = W6 at *
              refine (r2_Wheel_any _ _ _ _ _ _ W6 (by omega)).mono ?_
              rintro e W7 ⟨rfl, hE7⟩
              rw [j1]
              replace HE6 := Lib.hid (HE6.out.trans hE7)
              replace HR6 := Lib.hid (HR6.out.ext hE7)
              replace HP6 := Lib.hid (HP6.out.ext hE7)
              replace HRC := Lib.hid (HRC.out.ext hE7)
              clear hE7 c5 cc2 d0 d1 z1
              have c6 := HR6.out.cell
              have cc6 := HRC.out.cell
              go_wp2_with fail
              refine (r2_Wheel_any _ _ _ _ _ _ W7 (by omega)).mono ?_
              rintro e W8 ⟨rfl, hE8⟩
              rw [j2]
              replace HE6 := Lib.hid (HE6.out.trans hE8)
              replace HR6 := Lib.hid (HR6.out.ext hE8)
              replace HP6 := Lib.hid (HP6.out.ext hE8)
              replace HRC := Lib.hid (HRC.out.ext hE8)
              clear hE8 c6 cc6
              have c8 := HR6.out.cell
              have cc8 := HRC.out.cell
              go_wp2_with fail
              clear c8 cc8 j1 j2 j3
              go_loopw [10] (fun jj wr => ∃ j : Nat, j ≤ k ∧ jj = .int .i64 (j : Int) ∧ Ext W8 wr) (fun jj _ => k - (intOf jj).toNat)
              case atStart => exact ⟨0, Nat.zero_le _, rfl, Ext.refl _⟩
              case round =>
                obtain ⟨j, hj, rfl, hE9⟩ := hrel
                have HE9 := Lib.hid hE9
                have HR9 := Lib.hid (HR6.out.ext hE9)
                have HP9 := Lib.hid (HP6.out.ext hE9)
                have HRC9 := Lib.hid (HRC.out.ext hE9)
                clear hE9
                rcases Nat.lt_or_eq_of_le hj with h6 | h6
                · have h6' : (j : Int) < (k : Int) := by omega
                  have h5 : j < n := by omega
                  have h5' : (j : Int) < (n : Int) := by omega
                  obtain ⟨d0, d1⟩ := HP9.out.msh j (by rw [HN.out]; exact h5)
                  have heq := fun W => Tp.eql_mesh (2 * (j : Int)) (2 * (j : Int) + 1) (2 * (k : Int)) (2 * (k : Int) + 1) W
                  rw [show ((2 * (j : Int) == 2 * (k : Int)) && (2 * (j : Int) + 1 == 2 * (k : Int) + 1)) = false by rw [Bool.and_eq_false_iff]; left; rw [beq_eq_false_iff_ne]; omega] at heq
                  go_wp2_with fail
                  refine wp_region_later (by kernel_rfl) (by kernel_rfl) (fun W hW => ?_)
                  have hXq : Ext wr W := by rw [hW]; first | exact Ext.refl _ | exact (Ext.refl _).drewN _
                  clear hW
                  have HXQ := Lib.hid hXq
                  clear hXq
                  have v0 := (HR9.out.cell 7)
                  try simp only [List.getElem?_toArray, List.getElem?_cons_zero, List.getElem?_cons_succ] at v0
                  have v1 := d0
                  try simp only [List.getElem?_toArray, List.getElem?_cons_zero, List.getElem?_cons_succ] at v1
                  have v2 := d1
                  try simp only [List.getElem?_toArray, List.getElem?_cons_zero, List.getElem?_cons_succ] at v2
                  have v3 := (HRC9.out.cell 0)
                  try simp only [List.getElem?_toArray, List.getElem?_cons_zero, List.getElem?_cons_succ] at v3
                  have v4 := (HRC9.out.cell 1)
                  try simp only [List.getElem?_toArray, List.getElem?_cons_zero, List.getElem?_cons_succ] at v4
                  have u0 := fun X : Later W => (HXQ.out.trans X.ext).cell v0
                  have u1 := fun X : Later W => (HXQ.out.trans X.ext).cell v1
                  have u2 := fun X : Later W => (HXQ.out.trans X.ext).cell v2
                  have u3 := fun X : Later W => (HXQ.out.trans X.ext).cell v3
                  have u4 := fun X : Later W => (HXQ.out.trans X.ext).cell v4
                  repeat (go_big_quiet_step (fail))
                  refine wpQuiet_nil ?_
                  rintro ⟨w7, hEz⟩
                  dsimp only
                  have HE7 := Lib.hid (HXQ.out.trans hEz)
                  clear hEz HXQ u0 v0 u1 v1 u2 v2 u3 v3 u4 v4
                  clear heq d0 d1
                  go_wp2_with fail
                  go_roundw
                  case rel => exact ⟨j + 1, by omega, by go_num, HE9.out.trans HE7.out⟩
                  case measure => simp [intOf]; omega
                · subst h6
                  go_wp2_with fail
                  go_roundw
                  case rel => exact ⟨j + 1, by omega, by go_num, HE6.out.trans HE9.out⟩
                  case measure => simp [intOf]; omega
            · subst h7
              go_wp2_with fail
              go_ret
              exact HFN2.out _ HE5.out
end Go.Proofs.YtimkmokomohgjaaGreat
namespace Go.Proofs.YtimkmokomohgjaaGreat
open Go.RowKit
open Sp (rd)
set_option maxRecDepth 100000
set_option maxHeartbeats 8000000
set_option linter.unusedVariables false
set_option linter.unusedSimpArgs false
theorem Tp.meshKeys : Maps.Keyed Tryz.prog 129 := Maps.Keyed.of_law (deep_law_laid laidOut (m := 2) (by omega) (of_decide_eq_true (by kernel_rfl)) (by kernel_rfl) (by kernel_rfl))
theorem Tp.keyOf_mesh {a b : Int} (wa : (Lit.int .i64 a).wf = true) (wb : (Lit.int .i64 b).wf = true) : ∃ l, keyOf Tryz.prog 129 (.agg #[.int .i64 a, .int .i64 b]) = some l := by
  have hkt : Tryz.prog.keyType 129 = true := by kernel_rfl
  obtain ⟨m, hm⟩ : ∃ m, Tryz.prog.types.size = m + 1 := ⟨278 - 1, by kernel_rfl⟩
  have h2 : Tryz.prog.cellsOf 129 = 2 := by kernel_rfl
  have h1 : Tryz.prog.cellsOf 3 = 1 := by kernel_rfl
  have hk : ∀ n : Int, (Lit.int .i64 n).wf = true → Tryz.prog.keyLits (m + 1) 3 [.int .i64 n] = some [.int .i64 n] := fun n hn => by
    unfold Program.keyLits
    simp [Tryz.underlying3, hn]
  have hl : Tryz.prog.keyLits (m + 1 + 1) 129 [.int .i64 a, .int .i64 b] = some [.int .i64 a, .int .i64 b] := by
    unfold Program.keyLits
    simp only [Tryz.underlying129]
    rw [if_pos ⟨by rw [h2]; rfl, by simp⟩]
    simp [h1, hk a wa, hk b wb]
  unfold keyOf
  simp only [Tryz.underlying129]
  rw [if_pos (by simp [hkt, Value.formed, Tryz.underlying129, h2]), hm]
  have hc : (Value.agg #[Value.int .i64 a, .int .i64 b]).cells.toList = [.int .i64 a, .int .i64 b] := rfl
  rw [hc, hl]
  exact ⟨_, rfl⟩
def Tp.mk2 (i : Nat) : Value := .agg #[.int .i64 (2 * (i : Int)), .int .i64 (2 * (i : Int) + 1)]
/-- Block M is the map of the first k meshes. -/
def Tp.MeshMap (M k : Nat) (w : World) : Prop := ∃ es clock, w.heap[M]? = some (.map es clock) ∧ es.toList.map (fun x => (x.key, x.val)) = (List.range k).map fun i => (Tp.mk2 i, .bool true)
theorem Tp.MeshMap.ext {M k : Nat} {w w' : World} (h : Tp.MeshMap M k w) (he : Ext w w') : Tp.MeshMap M k w' := by
  obtain ⟨es, c, h1, h2⟩ := h
  exact ⟨es, c, (he.block M (Array.getElem?_eq_some_iff.1 h1).1).trans h1, h2⟩
theorem Tp.MeshMap.new (w : World) : Tp.MeshMap w.heap.size 0 (w.alloc (.map #[] 0)) := ⟨#[], 0, heap_alloc_new w _, rfl⟩
theorem Tp.wf_small {n : Int} (h : -1000000 ≤ n ∧ n ≤ 1000000) : (Lit.int .i64 n).wf = true := by
  simp [Lit.wf, IntKind.min, IntKind.max, IntKind.signed, IntKind.bits]
  omega
theorem Tp.MeshMap.keys {M k : Nat} {w : World} {es : Array MapEntry} (hk : k ≤ 100) (h2 : es.toList.map (fun x => (x.key, x.val)) = (List.range k).map fun i => (Tp.mk2 i, .bool true)) :
    (∀ e ∈ es.toList, ∃ i, i < k ∧ e.key = Tp.mk2 i ∧ e.val = .bool true) ∧ (∀ i, i < k → ∃ e ∈ es.toList, e.key = Tp.mk2 i ∧ e.val = .bool true) ∧ (∀ e ∈ es.toList, ∃ l, keyOf Tryz.prog 129 e.key = some l) := by
  have a : ∀ e ∈ es.toList, ∃ i, i < k ∧ e.key = Tp.mk2 i ∧ e.val = .bool true := fun e he => by
    have h3 : (e.key, e.val) ∈ es.toList.map (fun x => (x.key, x.val)) := List.mem_map.2 ⟨e, he, rfl⟩
    rw [h2] at h3
    obtain ⟨i, hi, e9⟩ := List.mem_map.1 h3
    injection e9 with e1 e2
    exact ⟨i, List.mem_range.1 hi, e1.symm, e2.symm⟩
  refine ⟨a, fun i hi => ?_, fun e he => ?_⟩
  · have h3 : (Tp.mk2 i, Value.bool true) ∈ (List.range k).map fun i => (Tp.mk2 i, Value.bool true) := List.mem_map.2 ⟨i, List.mem_range.2 hi, rfl⟩
    rw [← h2] at h3
    obtain ⟨e, he, e9⟩ := List.mem_map.1 h3
    injection e9 with e1 e2
    exact ⟨e, he, e1, e2⟩
  · obtain ⟨i, hi, e1, _⟩ := a e he
    rw [e1]
    exact Tp.keyOf_mesh (Tp.wf_small (by omega)) (Tp.wf_small (by omega))
theorem Tp.MeshMap.look {M k : Nat} {w : World} (h : Tp.MeshMap M k w) (hk : k ≤ 100) {a b : Int} (ha : -1000 ≤ a ∧ a ≤ 1000) (hb : -1000 ≤ b ∧ b ≤ 1000) {r : Bool} (hr : r = true ↔ ∃ i, i < k ∧ a = 2 * (i : Int) ∧ b = 2 * (i : Int) + 1) :
    (Instr.lookup 131 (.map (some M)) (.agg #[.int .i64 a, .int .i64 b]) false).run Tryz.prog w = .ok (.bool r) w := by
  obtain ⟨es, c, h1, h2⟩ := h
  obtain ⟨k1, k2, k3⟩ := Tp.MeshMap.keys (M := M) (w := w) hk h2
  obtain ⟨l, hl⟩ := Tp.keyOf_mesh (a := a) (b := b) (Tp.wf_small (by omega)) (Tp.wf_small (by omega))
  have hz : (zeroValue 4).run Tryz.prog w = .ok (.bool false) w := by kernel_rfl
  rcases Tp.meshKeys.find w hl es.toList k3 with ⟨f1, f2⟩ | ⟨j, e0, f1, f2, f3⟩
  · have : r = false := by
      cases hrr : r
      · rfl
      · obtain ⟨i, hi, e1, e2⟩ := hr.1 hrr
        obtain ⟨e, he, ek, _⟩ := k2 i hi
        exact absurd (by rw [ek, e1, e2]; rfl) (f2 e he)
    rw [this]
    simp [Instr.lookup, run_underlying Tryz.underlying131, MapKept.run_getObj_map h1, Tp.meshKeys.check w _ hl, f1, hz, Result.andThen]
  · obtain ⟨i, hi, ek, ev⟩ := k1 e0 (List.mem_of_getElem? f2)
    have : r = true := hr.2 ⟨i, hi, by
      rw [ek] at f3
      unfold Tp.mk2 at f3
      simp at f3
      exact ⟨f3.1.symm, f3.2.symm⟩⟩
    rw [this]
    simp [Instr.lookup, run_underlying Tryz.underlying131, MapKept.run_getObj_map h1, Tp.meshKeys.check w _ hl, f1, Result.andThen, ev]
theorem Tp.MeshMap.store {M k : Nat} {w : World} (h : Tp.MeshMap M k w) (hk : k ≤ 50) :
    ∃ w', (Instr.mapUpdate 131 (.map (some M)) (Tp.mk2 k) (.bool true)).run Tryz.prog w = .ok () w' ∧ Tp.MeshMap M (k + 1) w' ∧ w.grownBy w' (some M) := by
  obtain ⟨es, c, h1, h2⟩ := h
  obtain ⟨k1, k2, k3⟩ := Tp.MeshMap.keys (M := M) (w := w) (by omega) h2
  obtain ⟨l, hl⟩ : ∃ l, keyOf Tryz.prog 129 (Tp.mk2 k) = some l := Tp.keyOf_mesh (Tp.wf_small (by omega)) (Tp.wf_small (by omega))
  have hnew : ∀ e ∈ es.toList, e.key ≠ Tp.mk2 k := fun e he hh => by
    obtain ⟨i, hi, ek, _⟩ := k1 e he
    rw [ek] at hh
    unfold Tp.mk2 at hh
    simp at hh
    omega
  rcases Tp.meshKeys.find w hl es.toList k3 with ⟨f1, f2⟩ | ⟨j, e0, f1, f2, f3⟩
  · refine ⟨ChangeMaps.setBlock w M (.map (es.push ⟨Tp.mk2 k, .bool true, c⟩) (c + 1)), ?_, ⟨_, _, ChangeMaps.heap_setBlock_same h1 _, ?_⟩, ⟨rfl, rfl, rfl, by simp [ChangeMaps.setBlock], fun i _ hi => ChangeMaps.heap_setBlock_other h1 _ (fun e => hi (by rw [e]))⟩⟩
    · simp [Instr.mapUpdate, run_underlying Tryz.underlying131, MapKept.run_getObj_map h1, Tp.meshKeys.check w false hl, f1, MapKept.run_setObj_map _ h1, Result.andThen, ChangeMaps.setBlock]
    · rw [Array.toList_push, List.map_append, h2, List.range_succ, List.map_append]
      rfl
  · exact absurd f3 (hnew e0 (List.mem_of_getElem? f2))
end Go.Proofs.YtimkmokomohgjaaGreat
namespace Go.Proofs.YtimkmokomohgjaaGreat
open Go.RowKit
open Sp (rd)
set_option maxRecDepth 100000
set_option maxHeartbeats 16000000
set_option linter.unusedVariables false
set_option linter.unusedSimpArgs false
theorem Tp.wpList_store_mesh {M k : Nat} (w : World) {ops : Array Oper} {rest : List Oper} {o : Oper} {a : Act} {Q : Exit → Act → World → Prop}
    (hg : o.guard = none) (m x v : Operand) (hop : o.op = Op.mapUpdate 131 m x v) (hm : a.eval m = .map (some M)) (hc : Tp.MeshMap M k w) (hk : k ≤ 50) (hx : a.eval x = Tp.mk2 k) (hv : a.eval v = .bool true)
    (hK : ∀ w', Tp.MeshMap M (k + 1) w' → w.grownBy w' (some M) → wpList Tryz.prog ops Q rest (a.put o.dst undef) w') :
    wpList Tryz.prog ops Q (o :: rest) a w := by
  refine wpList_plain hg fun K' hK' => ?_
  obtain ⟨w', hr, h1, h2⟩ := hc.store hk
  unfold Oper.wp
  simp [execOp, hop, hm, hx, hv, hr, Result.andThen]
  exact hK' _ _ (hK w' h1 h2)
theorem Tp.mesh_off {w w' : World} {M g : Nat} {t : TypeId} {cs : Array Value} (hr : Row w g t cs) (hg : w.grownBy w' (some M)) (hne : g ≠ M) : Row w' g t cs := (hg.block g hr.lt (fun e => hne (Option.some.inj e))).trans hr
theorem Tp.MeshMap.far {M k : Nat} {w : World} (h : Tp.MeshMap M k w) {p : Addr} (hp : M ≠ p.block) (v : Value) : Tp.MeshMap M k (w.setCell p v) := by
  obtain ⟨es, c, h1, h2⟩ := h
  exact ⟨es, c, (Below.heap_setCell w p v M hp).trans h1, h2⟩
theorem Tp.MeshMap.sets {M k g : Nat} (hg : M ≠ g) : ∀ (vs : List Value) (i : Nat) (W : World), Tp.MeshMap M k W → Tp.MeshMap M k (setsAt W g i vs)
  | [], _, _, h => h
  | v :: vs, i, _, h => Tp.MeshMap.sets hg vs (i + 1) _ (h.far (p := ⟨g, i, none⟩) hg v)
theorem pl_lay_any (links : List (Int × Ec.Pair)) (n nc nw bC cC bW cW bM cM : Nat) (w : World) (hp : Tp.PlAt w links bC bW bM) (hn : links.length = n) (h4 : n ≤ 4) :
    Calls Tryz.prog 63 #[.agg #[.int .i64 120, .int .i64 120, .int .i64 0, .int .i64 0, .int .i64 0, .slice (some ⟨bC, 0, none⟩) nc cC, .slice (some ⟨bW, 0, none⟩) nw cW, .slice (some ⟨bM, 0, none⟩) n cM], .slice none 0 0] w fun e w' => ∃ M, e = .returned (.agg #[.int .i64 120, .int .i64 120, .int .i64 0, .int .i64 0, .int .i64 0, .slice (some ⟨bC, 0, none⟩) nc cC, .slice (some ⟨bW, 0, none⟩) nw cW, .slice (some ⟨bM, 0, none⟩) n cM, .map (some M), .slice none 0 0]) ∧ Tp.MeshMap M n w' ∧ Ext w w' := by
  have HP := Lib.hid hp
  have HN := Lib.hid hn
  clear hp hn
  have hmm := @run_makeMap Tryz.prog
  go_enter Tryz.func63, Tryz.ntmps63
  go_wp2_with fail
  have hmp : Tp.MeshMap (w.heap.size + 1 + 1) 0 ((((w.alloc (.cells #[.int .i64 120, .int .i64 120, .int .i64 0, .int .i64 0, .int .i64 0, .slice (some ⟨bC, 0, none⟩) nc cC, .slice (some ⟨bW, 0, none⟩) nw cW, .slice (some ⟨bM, 0, none⟩) n cM] 56)).alloc (.cells #[.int .i64 0, .int .i64 0, .int .i64 0, .int .i64 0, .int .i64 0, .slice none 0 0, .slice none 0 0, .slice none 0 0, .map none, .slice none 0 0] 133)).alloc (.map #[] 0)).alloc (.cells #[.int .i64 120, .int .i64 120, .int .i64 0, .int .i64 0, .int .i64 0, .slice (some ⟨bC, 0, none⟩) nc cC, .slice (some ⟨bW, 0, none⟩) nw cW, .slice (some ⟨bM, 0, none⟩) n cM, .map (some (w.heap.size + 1 + 1)), .slice none 0 0] 133)) := by
    have h := (Tp.MeshMap.new ((w.alloc (.cells #[.int .i64 120, .int .i64 120, .int .i64 0, .int .i64 0, .int .i64 0, .slice (some ⟨bC, 0, none⟩) nc cC, .slice (some ⟨bW, 0, none⟩) nw cW, .slice (some ⟨bM, 0, none⟩) n cM] 56)).alloc (.cells #[.int .i64 0, .int .i64 0, .int .i64 0, .int .i64 0, .int .i64 0, .slice none 0 0, .slice none 0 0, .slice none 0 0, .map none, .slice none 0 0] 133))).ext ((Ext.refl _).alloc (.cells #[.int .i64 120, .int .i64 120, .int .i64 0, .int .i64 0, .int .i64 0, .slice (some ⟨bC, 0, none⟩) nc cC, .slice (some ⟨bW, 0, none⟩) nw cW, .slice (some ⟨bM, 0, none⟩) n cM, .map (some (w.heap.size + 1 + 1)), .slice none 0 0] 133))
    simpa using h
  have hr2 : Row ((((w.alloc (.cells #[.int .i64 120, .int .i64 120, .int .i64 0, .int .i64 0, .int .i64 0, .slice (some ⟨bC, 0, none⟩) nc cC, .slice (some ⟨bW, 0, none⟩) nw cW, .slice (some ⟨bM, 0, none⟩) n cM] 56)).alloc (.cells #[.int .i64 0, .int .i64 0, .int .i64 0, .int .i64 0, .int .i64 0, .slice none 0 0, .slice none 0 0, .slice none 0 0, .map none, .slice none 0 0] 133)).alloc (.map #[] 0)).alloc (.cells #[.int .i64 120, .int .i64 120, .int .i64 0, .int .i64 0, .int .i64 0, .slice (some ⟨bC, 0, none⟩) nc cC, .slice (some ⟨bW, 0, none⟩) nw cW, .slice (some ⟨bM, 0, none⟩) n cM, .map (some (w.heap.size + 1 + 1)), .slice none 0 0] 133)) (w.heap.size + 1) 133 #[.int .i64 0, .int .i64 0, .int .i64 0, .int .i64 0, .int .i64 0, .slice none 0 0, .slice none 0 0, .slice none 0 0, .map none, .slice none 0 0] := by
    have h := ((Row.new (w.alloc (.cells #[.int .i64 120, .int .i64 120, .int .i64 0, .int .i64 0, .int .i64 0, .slice (some ⟨bC, 0, none⟩) nc cC, .slice (some ⟨bW, 0, none⟩) nw cW, .slice (some ⟨bM, 0, none⟩) n cM] 56)) 133 #[.int .i64 0, .int .i64 0, .int .i64 0, .int .i64 0, .int .i64 0, .slice none 0 0, .slice none 0 0, .slice none 0 0, .map none, .slice none 0 0]).alloc (.map #[] 0)).alloc (.cells #[.int .i64 120, .int .i64 120, .int .i64 0, .int .i64 0, .int .i64 0, .slice (some ⟨bC, 0, none⟩) nc cC, .slice (some ⟨bW, 0, none⟩) nw cW, .slice (some ⟨bM, 0, none⟩) n cM, .map (some (w.heap.size + 1 + 1)), .slice none 0 0] 133)
    simpa using h
  have hr4 : Row ((((w.alloc (.cells #[.int .i64 120, .int .i64 120, .int .i64 0, .int .i64 0, .int .i64 0, .slice (some ⟨bC, 0, none⟩) nc cC, .slice (some ⟨bW, 0, none⟩) nw cW, .slice (some ⟨bM, 0, none⟩) n cM] 56)).alloc (.cells #[.int .i64 0, .int .i64 0, .int .i64 0, .int .i64 0, .int .i64 0, .slice none 0 0, .slice none 0 0, .slice none 0 0, .map none, .slice none 0 0] 133)).alloc (.map #[] 0)).alloc (.cells #[.int .i64 120, .int .i64 120, .int .i64 0, .int .i64 0, .int .i64 0, .slice (some ⟨bC, 0, none⟩) nc cC, .slice (some ⟨bW, 0, none⟩) nw cW, .slice (some ⟨bM, 0, none⟩) n cM, .map (some (w.heap.size + 1 + 1)), .slice none 0 0] 133)) (w.heap.size + 1 + 1 + 1) 133 #[.int .i64 120, .int .i64 120, .int .i64 0, .int .i64 0, .int .i64 0, .slice (some ⟨bC, 0, none⟩) nc cC, .slice (some ⟨bW, 0, none⟩) nw cW, .slice (some ⟨bM, 0, none⟩) n cM, .map (some (w.heap.size + 1 + 1)), .slice none 0 0] := by
    have h := Row.new (((w.alloc (.cells #[.int .i64 120, .int .i64 120, .int .i64 0, .int .i64 0, .int .i64 0, .slice (some ⟨bC, 0, none⟩) nc cC, .slice (some ⟨bW, 0, none⟩) nw cW, .slice (some ⟨bM, 0, none⟩) n cM] 56)).alloc (.cells #[.int .i64 0, .int .i64 0, .int .i64 0, .int .i64 0, .int .i64 0, .slice none 0 0, .slice none 0 0, .slice none 0 0, .map none, .slice none 0 0] 133)).alloc (.map #[] 0)) 133 #[.int .i64 120, .int .i64 120, .int .i64 0, .int .i64 0, .int .i64 0, .slice (some ⟨bC, 0, none⟩) nc cC, .slice (some ⟨bW, 0, none⟩) nw cW, .slice (some ⟨bM, 0, none⟩) n cM, .map (some (w.heap.size + 1 + 1)), .slice none 0 0]
    simpa using h
  have hE0 : Ext w ((((w.alloc (.cells #[.int .i64 120, .int .i64 120, .int .i64 0, .int .i64 0, .int .i64 0, .slice (some ⟨bC, 0, none⟩) nc cC, .slice (some ⟨bW, 0, none⟩) nw cW, .slice (some ⟨bM, 0, none⟩) n cM] 56)).alloc (.cells #[.int .i64 0, .int .i64 0, .int .i64 0, .int .i64 0, .int .i64 0, .slice none 0 0, .slice none 0 0, .slice none 0 0, .map none, .slice none 0 0] 133)).alloc (.map #[] 0)).alloc (.cells #[.int .i64 120, .int .i64 120, .int .i64 0, .int .i64 0, .int .i64 0, .slice (some ⟨bC, 0, none⟩) nc cC, .slice (some ⟨bW, 0, none⟩) nw cW, .slice (some ⟨bM, 0, none⟩) n cM, .map (some (w.heap.size + 1 + 1)), .slice none 0 0] 133)) := ((((Ext.refl w).alloc _).alloc _).alloc _).alloc _
  obtain ⟨g, hg⟩ : ∃ g, w.heap.size = g := ⟨_, rfl⟩
  have HGG := Lib.hid hg
  rw [hg] at hmp hr2 hr4 hE0 ⊢
  have HMP := Lib.hid hmp
  have HR2 := Lib.hid hr2
  have HR4 := Lib.hid hr4
  have HE0 := Lib.hid hE0
  clear hmp hr2 hr4 hE0 hg hmm
  generalize (((w.alloc (.cells #[.int .i64 120, .int .i64 120, .int .i64 0, .int .i64 0, .int .i64 0, .slice (some ⟨bC, 0, none⟩) nc cC, .slice (some ⟨bW, 0, none⟩) nw cW, .slice (some ⟨bM, 0, none⟩) n cM] 56)).alloc (.cells #[.int .i64 0, .int .i64 0, .int .i64 0, .int .i64 0, .int .i64 0, .slice none 0 0, .slice none 0 0, .slice none 0 0, .map none, .slice none 0 0] 133)).alloc (.map #[] 0)).alloc (.cells #[.int .i64 120, .int .i64 120, .int .i64 0, .int .i64 0, .int .i64 0, .slice (some ⟨bC, 0, none⟩) nc cC, .slice (some ⟨bW, 0, none⟩) nw cW, .slice (some ⟨bM, 0, none⟩) n cM, .map (some (g + 1 + 1)), .slice none 0 0] 133) = W0 at *
  go_loopw [7, 15] (fun _ i wr => ∃ k : Nat, k ≤ n ∧ i = .int .i64 (k : Int) ∧ Tp.MeshMap (g + 1 + 1) k wr ∧ Row wr (g + 1) 133 #[.int .i64 0, .int .i64 0, .int .i64 0, .int .i64 0, .int .i64 0, .slice none 0 0, .slice none 0 0, .slice none 0 0, .map none, .slice none 0 0] ∧ Row wr (g + 1 + 1 + 1) 133 #[.int .i64 120, .int .i64 120, .int .i64 0, .int .i64 0, .int .i64 0, .slice (some ⟨bC, 0, none⟩) nc cC, .slice (some ⟨bW, 0, none⟩) nw cW, .slice (some ⟨bM, 0, none⟩) n cM, .map (some (g + 1 + 1)), .slice none 0 0] ∧ Ext w wr) (fun _ i _ => n - (intOf i).toNat)
  case atStart => exact ⟨0, Nat.zero_le _, rfl, HMP.out, HR2.out, HR4.out, HE0.out⟩
  case round =>
    obtain ⟨k, hk, rfl, hM, h2, h4r, hE⟩ := hrel
    clear HMP HR2 HR4 HE0
    have HM := Lib.hid hM
    have HR2 := Lib.hid h2
    have HR4 := Lib.hid h4r
    have HE := Lib.hid hE
    clear hM h2 h4r hE
    have c4 := HR4.out.cell
    have z4 := lts HR4.out.lt
    generalize wr = W1 at *
    rcases Nat.lt_or_eq_of_le hk with h9 | h9
    · have h9' : (k : Int) < (n : Int) := by omega
      obtain ⟨d0, d1⟩ := (HP.out.ext HE.out).msh k (by rw [HN.out]; exact h9)
      have hX : Ext W1 (W1.alloc (.cells #[.int .i64 (2 * (k : Int)), .int .i64 (2 * (k : Int) + 1)] 129)) := (Ext.refl _).alloc _
      have cn := (Row.new W1 129 #[.int .i64 (2 * (k : Int)), .int .i64 (2 * (k : Int) + 1)]).cell
      go_wp2_with (at_mapUpdate; refine Tp.wpList_store_mesh _ rfl _ _ _ rfl rfl (HM.out.ext hX) (by omega) rfl rfl ?_; intro w5 hM5 hg5; have HM5 := Lib.hid hM5; have HG5 := Lib.hid hg5; clear hM5 hg5)
      go_roundw
      case rel => exact ⟨k + 1, by omega, by go_num, HM5.out, Tp.mesh_off (HR2.out.ext hX) HG5.out (by omega), Tp.mesh_off (HR4.out.ext hX) HG5.out (by omega), (HE.out.trans hX).grown HG5.out (fun q hq => by have := HGG.out; have := Option.some.inj hq; omega)⟩
      case measure => simp [intOf]; omega
    · replace h9 := h9.symm
      subst h9
      have f2 := HR2.out.free
      have c2 := HR2.out.cell
      go_wp2_with fail
      have hgg := HGG.out
      obtain ⟨W3, hW3⟩ : ∃ W3, setsAt W1 (g + 1) 0 [.int .i64 120, .int .i64 120, .int .i64 0, .int .i64 0, .int .i64 0, .slice (some ⟨bC, 0, none⟩) nc cC, .slice (some ⟨bW, 0, none⟩) nw cW, .slice (some ⟨bM, 0, none⟩) n cM, .map (some (g + 1 + 1)), .slice none 0 0] = W3 := ⟨_, rfl⟩
      have hR3 : Row W3 (g + 1) 133 #[.int .i64 120, .int .i64 120, .int .i64 0, .int .i64 0, .int .i64 0, .slice (some ⟨bC, 0, none⟩) nc cC, .slice (some ⟨bW, 0, none⟩) nw cW, .slice (some ⟨bM, 0, none⟩) n cM, .map (some (g + 1 + 1)), .slice none 0 0] := by
        rw [← hW3]
        exact Row.sets (cs := [.int .i64 0, .int .i64 0, .int .i64 0, .int .i64 0, .int .i64 0, .slice none 0 0, .slice none 0 0, .slice none 0 0, .map none, .slice none 0 0]) HR2.out _ rfl
      have hE3 : Ext w W3 := by rw [← hW3]; exact Ext.sets (by omega) _ _ _ HE.out
      have hM3 : Tp.MeshMap (g + 1 + 1) n W3 := by rw [← hW3]; exact Tp.MeshMap.sets (by omega) _ _ _ HM.out
      simp only [setsAt, Nat.reduceAdd] at hW3
      try rw [hW3]
      refine bodyPost_ret (results_cell_row rfl _ _ (g + 1) 133 _ (0, 0) _ rfl hR3 Tryz.underlying133 rfl (by kernel_rfl)) rfl ?_
      exact ⟨g + 1 + 1, rfl, hM3, hE3⟩
end Go.Proofs.YtimkmokomohgjaaGreat
namespace Go.Proofs.YtimkmokomohgjaaGreat
open Go.RowKit
open Sp (rd)
set_option maxRecDepth 100000
set_option maxHeartbeats 16000000
set_option linter.unusedVariables false
set_option linter.unusedSimpArgs false
/-- Where a laid drawing lies. -/
structure Tp.LayAt (w : World) (links : List (Int × Ec.Pair)) (bC bW bM M : Nat) : Prop where
  at_ : Tp.PlAt w links bC bW bM
  map : Tp.MeshMap M links.length w
theorem Tp.LayAt.ext {w w' : World} {links : List (Int × Ec.Pair)} {bC bW bM M : Nat} (h : Tp.LayAt w links bC bW bM M) (he : Ext w w') : Tp.LayAt w' links bC bW bM M := ⟨h.at_.ext he, h.map.ext he⟩
theorem Tp.mesh_iff {n a b : Nat} (ha : a < 2 * n) (hb : b < 2 * n) : (∃ i, i < n ∧ min (a : Int) (b : Int) = 2 * (i : Int) ∧ max (a : Int) (b : Int) = 2 * (i : Int) + 1) ↔ Tp.wmesh a b := by
  unfold Tp.wmesh
  constructor
  · rintro ⟨i, hi, h1, h2⟩
    omega
  · rintro ⟨h1, h2⟩
    exact ⟨a / 2, by omega, by omega, by omega⟩
instance (a b : Nat) : Decidable (Tp.wmesh a b) := by unfold Tp.wmesh; infer_instance
theorem pl_mesh_any (links : List (Int × Ec.Pair)) (nc nw bC cC bW cW bM cM M a b : Nat) (w : World) (hp : Tp.LayAt w links bC bW bM M) (h4 : links.length ≤ 4) (ha : a < 2 * links.length) (hb : b < 2 * links.length) :
    Calls Tryz.prog 119 #[.agg #[.int .i64 120, .int .i64 120, .int .i64 0, .int .i64 0, .int .i64 0, .slice (some ⟨bC, 0, none⟩) nc cC, .slice (some ⟨bW, 0, none⟩) nw cW, .slice (some ⟨bM, 0, none⟩) links.length cM, .map (some M), .slice none 0 0], .int .i64 (a : Int), .int .i64 (b : Int)] w fun e w' => e = .returned (.bool (decide (Tp.wmesh a b))) ∧ Ext w w' := by
  have r0 := Row.new w 133 #[.int .i64 120, .int .i64 120, .int .i64 0, .int .i64 0, .int .i64 0, .slice (some ⟨bC, 0, none⟩) nc cC, .slice (some ⟨bW, 0, none⟩) nw cW, .slice (some ⟨bM, 0, none⟩) links.length cM, .map (some M), .slice none 0 0]
  have hX0 := (Ext.refl w).alloc (.cells #[.int .i64 120, .int .i64 120, .int .i64 0, .int .i64 0, .int .i64 0, .slice (some ⟨bC, 0, none⟩) nc cC, .slice (some ⟨bW, 0, none⟩) nw cW, .slice (some ⟨bM, 0, none⟩) links.length cM, .map (some M), .slice none 0 0] 133)
  have c0 := r0.cell
  have hlk := (hp.map.ext hX0).look (by omega) (a := min (a : Int) (b : Int)) (b := max (a : Int) (b : Int)) (by omega) (by omega) (r := decide (Tp.wmesh a b)) (by rw [decide_eq_true_eq]; exact (Tp.mesh_iff ha hb).symm)
  obtain ⟨r, hr⟩ : ∃ r, decide (Tp.wmesh a b) = r := ⟨_, rfl⟩
  rw [hr] at hlk ⊢
  have HX0 := Lib.hid hX0
  clear hr hp r0 hX0
  go_enter Tryz.func119, Tryz.ntmps119
  go_wp2_with fail
  go_ret
  exact ⟨rfl, HX0.out⟩
theorem pl_centred_any (links : List (Int × Ec.Pair)) (nc nw bC cC bW cW bM cM M a b : Nat) (w : World) (hp : Tp.LayAt w links bC bW bM M) (hnw : 2 * links.length = nw) (ha : a < nw) (hb : b < nw) (h8 : nw ≤ 8) :
    Calls Tryz.prog 172 #[.agg #[.int .i64 120, .int .i64 120, .int .i64 0, .int .i64 0, .int .i64 0, .slice (some ⟨bC, 0, none⟩) nc cC, .slice (some ⟨bW, 0, none⟩) nw cW, .slice (some ⟨bM, 0, none⟩) links.length cM, .map (some M), .slice none 0 0], .int .i64 (a : Int), .int .i64 (b : Int)] w fun e w' => e = .returned (.bool ((Tp.wc links a : Int) == (Tp.wc links b : Int))) ∧ Ext w w' := by
  have HR0 := Lib.hid (Row.new w 133 #[.int .i64 120, .int .i64 120, .int .i64 0, .int .i64 0, .int .i64 0, .slice (some ⟨bC, 0, none⟩) nc cC, .slice (some ⟨bW, 0, none⟩) nw cW, .slice (some ⟨bM, 0, none⟩) links.length cM, .map (some M), .slice none 0 0])
  have hX0 := (Ext.refl w).alloc (.cells #[.int .i64 120, .int .i64 120, .int .i64 0, .int .i64 0, .int .i64 0, .slice (some ⟨bC, 0, none⟩) nc cC, .slice (some ⟨bW, 0, none⟩) nw cW, .slice (some ⟨bM, 0, none⟩) links.length cM, .map (some M), .slice none 0 0] 133)
  have HX0 := Lib.hid hX0
  obtain ⟨d0, _⟩ := (hp.at_.ext hX0).whl a (by omega)
  obtain ⟨d1, _⟩ := (hp.at_.ext hX0).whl b (by omega)
  have ha' : (a : Int) < (nw : Int) := by omega
  have hb' : (b : Int) < (nw : Int) := by omega
  obtain ⟨p, hpp⟩ : ∃ p, Tp.wc links a = p := ⟨_, rfl⟩
  obtain ⟨q, hqq⟩ : ∃ q, Tp.wc links b = q := ⟨_, rfl⟩
  rw [hpp] at d0 ⊢
  rw [hqq] at d1 ⊢
  have HD0 := Lib.hid d0
  have HD1 := Lib.hid d1
  clear hpp hqq hp hX0 hnw d0 d1
  go_enter Tryz.func172, Tryz.ntmps172
  go_wp2_with fail
  generalize w.alloc (.cells #[.int .i64 120, .int .i64 120, .int .i64 0, .int .i64 0, .int .i64 0, .slice (some ⟨bC, 0, none⟩) nc cC, .slice (some ⟨bW, 0, none⟩) nw cW, .slice (some ⟨bM, 0, none⟩) links.length cM, .map (some M), .slice none 0 0] 133) = W0 at *
  refine wp_region_later (by kernel_rfl) (by kernel_rfl) (fun W hW => ?_)
  have hXq : Ext W0 W := by rw [hW]; first | exact Ext.refl _ | exact (Ext.refl _).drewN _
  clear hW
  have HXQ := Lib.hid hXq
  have v0 := HR0.out.cell 6
  simp only [List.getElem?_toArray, List.getElem?_cons_zero, List.getElem?_cons_succ] at v0
  have u0 := fun X : Later W => (HXQ.out.trans X.ext).cell v0
  have u1 := fun X : Later W => (HXQ.out.trans X.ext).cell HD0.out
  have u2 := fun X : Later W => (HXQ.out.trans X.ext).cell HD1.out
  clear hXq
  repeat (go_big_quiet_step (fail))
  refine wpQuiet_nil ?_
  rintro ⟨w7, hEz⟩
  dsimp only
  have HE7 := Lib.hid (HX0.out.trans (HXQ.out.trans hEz))
  clear hEz u0 u1 u2 v0
  go_wp2_with fail
  go_ret
  exact ⟨rfl, HE7.out⟩
theorem pl_sleeved_any (links : List (Int × Ec.Pair)) (nc nw bC cC bW cW bM cM M a b : Nat) (w : World) (hp : Tp.LayAt w links bC bW bM M) (hnw : 2 * links.length = nw) (ha : a < nw) (hb : b < nw) (h8 : nw ≤ 8) :
    Calls Tryz.prog 120 #[.agg #[.int .i64 120, .int .i64 120, .int .i64 0, .int .i64 0, .int .i64 0, .slice (some ⟨bC, 0, none⟩) nc cC, .slice (some ⟨bW, 0, none⟩) nw cW, .slice (some ⟨bM, 0, none⟩) links.length cM, .map (some M), .slice none 0 0], .int .i64 (a : Int), .int .i64 (b : Int)] w fun e w' => e = .returned (.bool ((Tp.wc links a : Int) == (Tp.wc links b : Int))) ∧ Ext w w' := by
  have HR0 := Lib.hid (Row.new w 133 #[.int .i64 120, .int .i64 120, .int .i64 0, .int .i64 0, .int .i64 0, .slice (some ⟨bC, 0, none⟩) nc cC, .slice (some ⟨bW, 0, none⟩) nw cW, .slice (some ⟨bM, 0, none⟩) links.length cM, .map (some M), .slice none 0 0])
  have hX0 := (Ext.refl w).alloc (.cells #[.int .i64 120, .int .i64 120, .int .i64 0, .int .i64 0, .int .i64 0, .slice (some ⟨bC, 0, none⟩) nc cC, .slice (some ⟨bW, 0, none⟩) nw cW, .slice (some ⟨bM, 0, none⟩) links.length cM, .map (some M), .slice none 0 0] 133)
  have HX0 := Lib.hid hX0
  obtain ⟨_, d0, _⟩ := (hp.at_.ext hX0).whl a (by omega)
  obtain ⟨_, d1, _⟩ := (hp.at_.ext hX0).whl b (by omega)
  have ha' : (a : Int) < (nw : Int) := by omega
  have hb' : (b : Int) < (nw : Int) := by omega
  have HCN := Lib.hid (fun W (h : Ext w W) => pl_centred_any links nc nw bC cC bW cW bM cM M a b W (hp.ext h) hnw ha hb h8)
  obtain ⟨v, hv⟩ : ∃ v, ((Tp.wc links a : Int) == (Tp.wc links b : Int)) = v := ⟨_, rfl⟩
  rw [hv] at HCN ⊢
  have HD0 := Lib.hid d0
  have HD1 := Lib.hid d1
  clear hv hp hX0 hnw d0 d1
  go_enter Tryz.func120, Tryz.ntmps120
  go_wp2_with fail
  generalize w.alloc (.cells #[.int .i64 120, .int .i64 120, .int .i64 0, .int .i64 0, .int .i64 0, .slice (some ⟨bC, 0, none⟩) nc cC, .slice (some ⟨bW, 0, none⟩) nw cW, .slice (some ⟨bM, 0, none⟩) links.length cM, .map (some M), .slice none 0 0] 133) = W0 at *
  refine wp_region_later (by kernel_rfl) (by kernel_rfl) (fun W hW => ?_)
  have hXq : Ext W0 W := by rw [hW]; first | exact Ext.refl _ | exact (Ext.refl _).drewN _
  clear hW
  have HXQ := Lib.hid hXq
  have v0 := HR0.out.cell
  have u0 := fun X : Later W => (HR0.out.ext (HXQ.out.trans X.ext)).cell
  have u1 := fun X : Later W => (HXQ.out.trans X.ext).cell HD0.out
  have u2 := fun X : Later W => (HXQ.out.trans X.ext).cell HD1.out
  clear hXq
  cases v
  · repeat (go_big_quiet_step (fail))
    go_big_quiet_step ((go_at_call 172; exact Later.call (HCN.out _ (HX0.out.trans (HXQ.out.trans (Later.ext _))))))
    repeat (go_big_quiet_step (fail))
    refine wpQuiet_nil ?_
    rintro ⟨w7, hEz⟩
    dsimp only
    have HE7 := Lib.hid (HX0.out.trans (HXQ.out.trans hEz))
    clear hEz u0 u1 u2 v0
    go_wp2_with fail
    go_ret
    exact ⟨rfl, HE7.out⟩
  · repeat (go_big_quiet_step (fail))
    go_big_quiet_step ((go_at_call 172; exact Later.call (HCN.out _ (HX0.out.trans (HXQ.out.trans (Later.ext _))))))
    repeat (go_big_quiet_step (fail))
    refine wpQuiet_nil ?_
    rintro ⟨w7, hEz⟩
    dsimp only
    have HE7 := Lib.hid (HX0.out.trans (HXQ.out.trans hEz))
    clear hEz u0 u1 u2 v0
    go_wp2_with fail
    go_ret
    exact ⟨rfl, HE7.out⟩
end Go.Proofs.YtimkmokomohgjaaGreat
namespace Go.Proofs.YtimkmokomohgjaaGreat
open Go.RowKit
open Sp (rd)
set_option maxRecDepth 100000
set_option maxHeartbeats 16000000
set_option linter.unusedVariables false
set_option linter.unusedSimpArgs false
theorem Tp.mul_lim {x t X T : Int} (h1 : -X ≤ x) (h2 : x ≤ X) (h3 : 0 ≤ t) (h4 : t ≤ T) (hX : 0 ≤ X) : -(X * T) ≤ x * t ∧ x * t ≤ X * T := by
  have a := Int.mul_le_mul_of_nonneg_right h2 h3
  have b := Int.mul_le_mul_of_nonneg_left h4 hX
  have c := Int.mul_le_mul_of_nonneg_right h1 h3
  rw [Int.neg_mul] at c
  omega
theorem pl_joined_any (links : List (Int × Ec.Pair)) (nc nw bC cC bW cW bM cM M a b : Nat) (x y : Int) (w : World) (hp : Tp.LayAt w links bC bW bM M) (hnw : 2 * links.length = nw) (ha : a < nw) (hb : b < nw) (h8 : nw ≤ 8)
    (hx : -216000 ≤ x ∧ x ≤ 216000) (hy : 1 ≤ y ∧ y ≤ 216000) (ht : ∀ q, q < nw → Sp.inR (Tp.wt links q) 4 50 = true) :
    Calls Tryz.prog 121 #[.agg #[.int .i64 120, .int .i64 120, .int .i64 0, .int .i64 0, .int .i64 0, .slice (some ⟨bC, 0, none⟩) nc cC, .slice (some ⟨bW, 0, none⟩) nw cW, .slice (some ⟨bM, 0, none⟩) links.length cM, .map (some M), .slice none 0 0], .int .i64 (a : Int), .int .i64 (b : Int), .agg #[.int .i64 x, .int .i64 y]] w fun e w' => ∃ p : Ec.Pair, ∃ is : Bool, e = .returned (.tuple #[.agg #[.int .i64 p.drives, .int .i64 p.driven], .bool is]) ∧ ((Tp.wmesh a b ∧ p = Tp.redP (-x * Tp.wt links a) (y * Tp.wt links b) ∧ is = true) ∨ (¬ Tp.wmesh a b ∧ p = ⟨x, y⟩ ∧ is = ((Tp.wc links a : Int) == (Tp.wc links b : Int)))) ∧ Ext w w' := by
  have hta := inR_iff.1 (ht a ha)
  have htb := inR_iff.1 (ht b hb)
  have hE0 : Ext w (((w.alloc (.cells #[.int .i64 120, .int .i64 120, .int .i64 0, .int .i64 0, .int .i64 0, .slice (some ⟨bC, 0, none⟩) nc cC, .slice (some ⟨bW, 0, none⟩) nw cW, .slice (some ⟨bM, 0, none⟩) links.length cM, .map (some M), .slice none 0 0] 133)).alloc (.cells #[.int .i64 x, .int .i64 y] 68)).alloc (.cells #[.int .i64 0, .int .i64 0] 68)) := (((Ext.refl w).alloc _).alloc _).alloc _
  have HR1 : Hid (Row (((w.alloc (.cells #[.int .i64 120, .int .i64 120, .int .i64 0, .int .i64 0, .int .i64 0, .slice (some ⟨bC, 0, none⟩) nc cC, .slice (some ⟨bW, 0, none⟩) nw cW, .slice (some ⟨bM, 0, none⟩) links.length cM, .map (some M), .slice none 0 0] 133)).alloc (.cells #[.int .i64 x, .int .i64 y] 68)).alloc (.cells #[.int .i64 0, .int .i64 0] 68)) w.heap.size 133 #[.int .i64 120, .int .i64 120, .int .i64 0, .int .i64 0, .int .i64 0, .slice (some ⟨bC, 0, none⟩) nc cC, .slice (some ⟨bW, 0, none⟩) nw cW, .slice (some ⟨bM, 0, none⟩) links.length cM, .map (some M), .slice none 0 0]) := Lib.hid (blocks3 w _ _ _).1
  have HR2 : Hid (Row (((w.alloc (.cells #[.int .i64 120, .int .i64 120, .int .i64 0, .int .i64 0, .int .i64 0, .slice (some ⟨bC, 0, none⟩) nc cC, .slice (some ⟨bW, 0, none⟩) nw cW, .slice (some ⟨bM, 0, none⟩) links.length cM, .map (some M), .slice none 0 0] 133)).alloc (.cells #[.int .i64 x, .int .i64 y] 68)).alloc (.cells #[.int .i64 0, .int .i64 0] 68)) (w.heap.size + 1) 68 #[.int .i64 x, .int .i64 y]) := Lib.hid (blocks3 w _ _ _).2.1
  have HR3 : Hid (Row (((w.alloc (.cells #[.int .i64 120, .int .i64 120, .int .i64 0, .int .i64 0, .int .i64 0, .slice (some ⟨bC, 0, none⟩) nc cC, .slice (some ⟨bW, 0, none⟩) nw cW, .slice (some ⟨bM, 0, none⟩) links.length cM, .map (some M), .slice none 0 0] 133)).alloc (.cells #[.int .i64 x, .int .i64 y] 68)).alloc (.cells #[.int .i64 0, .int .i64 0] 68)) (w.heap.size + 1 + 1) 68 #[.int .i64 0, .int .i64 0]) := Lib.hid (blocks3 w _ _ _).2.2
  have HE0 := Lib.hid hE0
  have HMS := Lib.hid (fun W (h : Ext w W) => pl_mesh_any links nc nw bC cC bW cW bM cM M a b W (hp.ext h) (by omega) (by omega) (by omega))
  have HSL := Lib.hid (fun W (h : Ext w W) => pl_sleeved_any links nc nw bC cC bW cW bM cM M a b W (hp.ext h) hnw ha hb h8)
  have HP := Lib.hid hp
  have ha' : (a : Int) < (nw : Int) := by omega
  have hb' : (b : Int) < (nw : Int) := by omega
  have m1 := Tp.mul_lim (x := -x) (t := Tp.wt links a) (X := 216000) (T := 50) (by omega) (by omega) (by omega) hta.2 (by omega)
  have m2 := Tp.mul_lim (x := y) (t := Tp.wt links b) (X := 216000) (T := 50) (by omega) (by omega) (by omega) htb.2 (by omega)
  have m3 : 1 ≤ y * Tp.wt links b := by have := Int.mul_le_mul_of_nonneg_right hy.1 (show 0 ≤ Tp.wt links b by omega); omega
  have d0 := (hp.at_.whl a (by omega)).2.2.2
  have d1 := (hp.at_.whl b (by omega)).2.2.2
  obtain ⟨ta, hta'⟩ : ∃ t, Tp.wt links a = t := ⟨_, rfl⟩
  obtain ⟨tb, htb'⟩ : ∃ t, Tp.wt links b = t := ⟨_, rfl⟩
  rw [hta'] at d0 m1 hta ⊢
  rw [htb'] at d1 m2 m3 htb ⊢
  have HTU := Lib.hid (fun W => pl_turn_any (-x * ta) (y * tb) W (by omega) (by omega))
  obtain ⟨P, hP⟩ : ∃ P, Tp.redP (-x * ta) (y * tb) = P := ⟨_, rfl⟩
  rw [hP] at HTU ⊢
  have HD0 := Lib.hid (HE0.out.cell d0)
  have HD1 := Lib.hid (HE0.out.cell d1)
  have hw1 : IntKind.i64.wrap (-x) = -x := IntWalk.i64_in _ ⟨by omega, by omega⟩
  have hw2 : IntKind.i64.wrap (-x * ta) = -x * ta := IntWalk.i64_in _ ⟨by omega, by omega⟩
  have hw3 : IntKind.i64.wrap (y * tb) = y * tb := IntWalk.i64_in _ ⟨by omega, by omega⟩
  clear hta' htb' hp hE0 hP d0 d1 hnw ht
  have c1 := HR1.out.cell
  go_enter Tryz.func121, Tryz.ntmps121
  go_wp2_with fail
  generalize ((w.alloc (.cells #[.int .i64 120, .int .i64 120, .int .i64 0, .int .i64 0, .int .i64 0, .slice (some ⟨bC, 0, none⟩) nc cC, .slice (some ⟨bW, 0, none⟩) nw cW, .slice (some ⟨bM, 0, none⟩) links.length cM, .map (some M), .slice none 0 0] 133)).alloc (.cells #[.int .i64 x, .int .i64 y] 68)).alloc (.cells #[.int .i64 0, .int .i64 0] 68) = W0 at *
  clear c1
  refine (HMS.out W0 HE0.out).mono ?_
  rintro e W1 ⟨rfl, hE1⟩
  have HE1 := Lib.hid (HE0.out.trans hE1)
  replace HR1 := Lib.hid (HR1.out.ext hE1)
  replace HR2 := Lib.hid (HR2.out.ext hE1)
  replace HR3 := Lib.hid (HR3.out.ext hE1)
  replace HD0 := Lib.hid (hE1.cell HD0.out)
  replace HD1 := Lib.hid (hE1.cell HD1.out)
  clear hE1
  by_cases hms : Tp.wmesh a b
  case pos =>
    rw [decide_eq_true hms]
    go_wp2_with fail
    refine wp_region_later_tail 22 (by kernel_rfl) (by kernel_rfl) (fun WW hWW => ?_)
    have hXq : Ext W1 WW := by rw [hWW]; first | exact Ext.refl _ | exact (Ext.refl _).drewN _
    clear hWW
    have HXQ := Lib.hid hXq
    clear hXq
    have u0 := fun X : Later WW => ((HR1.out.ext (HXQ.out.trans X.ext)).cell)
    have u1 := fun X : Later WW => ((HR2.out.ext (HXQ.out.trans X.ext)).cell)
    have u2 := fun X : Later WW => ((HXQ.out.trans X.ext).cell HD0.out)
    have u3 := fun X : Later WW => ((HXQ.out.trans X.ext).cell HD1.out)
    simp only [List.take_succ_cons, List.take_zero, List.drop_succ_cons, List.drop_zero]
    repeat (go_big_quiet_step (fail))
    go_big_quiet_step ((go_at_call 173; exact Later.call (HTU.out _)))
    repeat (go_big_quiet_step (fail))
    refine wpQuiet_nil ?_
    rintro ⟨w8, hE8⟩
    dsimp only
    have HE8 := Lib.hid (HXQ.out.trans hE8)
    clear hE8 u0 u1 u2 u3
    have hr8 := HR3.out.ext HE8.out
    have HE9 := Lib.hid (HE1.out.trans HE8.out)
    have k := hr8.cell
    have fz := hr8.free
    go_wp2_with fail
    have c8 := ((hr8.set_ 0 (.int .i64 P.drives)).set_ 1 (.int .i64 P.driven)).cell
    refine bodyPost_ret (v := .tuple #[.agg #[.int .i64 P.drives, .int .i64 P.driven], .bool true]) (by simp [results, Tryz.results121, asAddr, go_sem, c8]) rfl ?_
    exact ⟨P, true, rfl, .inl ⟨hms, rfl, rfl⟩, (HE9.out.setCell (p := ⟨w.heap.size + 1 + 1, 0, none⟩) (by simp; omega) _).setCell (p := ⟨w.heap.size + 1 + 1, 1, none⟩) (by simp; omega) _⟩
  case neg =>
    rw [decide_eq_false hms]
    obtain ⟨v, hv⟩ : ∃ v, ((Tp.wc links a : Int) == (Tp.wc links b : Int)) = v := ⟨_, rfl⟩
    rw [hv] at HSL
    have HV := Lib.hid hv
    clear hv
    go_wp2_with fail
    refine wp_region_later_tail 5 (by kernel_rfl) (by kernel_rfl) (fun WW hWW => ?_)
    have hXq : Ext W1 WW := by rw [hWW]; first | exact Ext.refl _ | exact (Ext.refl _).drewN _
    clear hWW
    have HXQ := Lib.hid hXq
    clear hXq
    have u0 := fun X : Later WW => ((HR1.out.ext (HXQ.out.trans X.ext)).cell)
    have u1 := fun X : Later WW => ((HR2.out.ext (HXQ.out.trans X.ext)).cell)
    simp only [List.take_succ_cons, List.take_zero, List.drop_succ_cons, List.drop_zero]
    repeat (go_big_quiet_step (fail))
    go_big_quiet_step ((go_at_call 120; exact Later.call (HSL.out _ (HE1.out.trans (HXQ.out.trans (Later.ext _))))))
    repeat (go_big_quiet_step (fail))
    refine wpQuiet_nil ?_
    rintro ⟨w8, hE8⟩
    dsimp only
    have HE8 := Lib.hid (HXQ.out.trans hE8)
    clear hE8 u0 u1
    have hr8 := HR3.out.ext HE8.out
    have HE9 := Lib.hid (HE1.out.trans HE8.out)
    have k := hr8.cell
    have fz := hr8.free
    go_wp2_with fail
    have c8 := ((hr8.set_ 0 (.int .i64 x)).set_ 1 (.int .i64 y)).cell
    refine bodyPost_ret (v := .tuple #[.agg #[.int .i64 x, .int .i64 y], .bool v]) (by simp [results, Tryz.results121, asAddr, go_sem, c8]) rfl ?_
    exact ⟨⟨x, y⟩, v, rfl, .inr ⟨hms, rfl, HV.out.symm⟩, (HE9.out.setCell (p := ⟨w.heap.size + 1 + 1, 0, none⟩) (by simp; omega) _).setCell (p := ⟨w.heap.size + 1 + 1, 1, none⟩) (by simp; omega) _⟩
end Go.Proofs.YtimkmokomohgjaaGreat
namespace Go.Proofs.YtimkmokomohgjaaGreat
open Go.RowKit
open Sp (rd)
set_option maxRecDepth 100000
set_option maxHeartbeats 4000000
set_option linter.unusedVariables false
set_option linter.unusedSimpArgs false
theorem Tp.pc_set (l : List Ec.Pair) (k : Nat) (p : Ec.Pair) : ((Tp.pc l).set (k * 2) (.int .i64 p.drives)).set (k * 2 + 1) (.int .i64 p.driven) = Tp.pc (l.set k p) := by
  induction l generalizing k with
  | nil => simp [Tp.pc]
  | cons m l ih =>
    cases k with
    | zero => simp [Tp.pc]
    | succ k =>
      have e : Tp.pc (m :: l) = .int .i64 m.drives :: .int .i64 m.driven :: Tp.pc l := by simp [Tp.pc]
      have e2 : Tp.pc (m :: l.set k p) = .int .i64 m.drives :: .int .i64 m.driven :: Tp.pc (l.set k p) := by simp [Tp.pc]
      rw [e, List.set_cons_succ, e2, ← ih k, show (k + 1) * 2 = k * 2 + 1 + 1 by omega]
      rfl
theorem Tp.at_pd {out : List Ec.Pair} {k : Nat} (h : k < out.length) : pd out k = Tp.at_ out k := by
  unfold pd Tp.at_
  rw [List.getD_eq_getElem?_getD, List.getD_eq_getElem?_getD, List.getElem?_eq_getElem h]
  rfl
/-- How many wheels are not reached yet, as the block of their turns tells. -/
def Tp.cntZ : List Value → Nat
  | x :: _ :: r => (if intOf x = 0 then 1 else 0) + Tp.cntZ r
  | _ => 0
theorem Tp.cntZ_pc (l : List Ec.Pair) : Tp.cntZ (Tp.pc l) = Tp.unset l := by
  induction l with
  | nil => rfl
  | cons m l ih =>
    have e : Tp.pc (m :: l) = .int .i64 m.drives :: .int .i64 m.driven :: Tp.pc l := by simp [Tp.pc]
    rw [e, Tp.cntZ, ih]
    unfold Tp.unset
    rw [List.countP_cons]
    by_cases h : m.drives = 0
    · simp [intOf, h]; omega
    · simp [intOf, h]
def Tp.msOut (H : Nat) (w : World) : Nat := match w.heap[H]? with | some (.cells cs _ _) => Tp.cntZ cs.toList | _ => 0
theorem Tp.msOut_row {H : Nat} {w : World} {out : List Ec.Pair} (h : Row w H 68 (Tp.pc out).toArray) : Tp.msOut H w = Tp.unset out := by
  unfold Tp.msOut
  rw [h]
  exact Tp.cntZ_pc out
def Tp.lenS : Value → Nat
  | .slice _ n _ => n
  | _ => 0
/-- The wheels that are left: a slice that lies anywhere in an own block of numbers. -/
structure Tp.LeftAt (w : World) (base b o cap : Nat) (l : List Nat) : Prop where
  row : ∃ cs, Row w b 3 cs ∧ o + cap ≤ cs.size ∧ ∀ k, k < l.length → cs[o + k]? = some (.int .i64 ((l.getD k 0 : Nat) : Int))
  base : base ≤ b
  le : l.length ≤ cap
theorem Tp.LeftAt.ext {w w' : World} {base b o cap : Nat} {l : List Nat} (h : Tp.LeftAt w base b o cap l) (he : Ext w w') : Tp.LeftAt w' base b o cap l :=
  let ⟨cs, h1, h2⟩ := h.row
  ⟨⟨cs, h1.ext he, h2⟩, h.base, h.le⟩
theorem Tp.LeftAt.first {w : World} {base b o cap : Nat} {a : Nat} {l : List Nat} (h : Tp.LeftAt w base b o cap (a :: l)) : w.cell? ⟨b, o, none⟩ = some (.int .i64 (a : Int)) := by
  obtain ⟨cs, h1, h2, h3⟩ := h.row
  have := h3 0 (by simp)
  rw [h1.cell, show o = o + 0 by omega, this]
  rfl
theorem Tp.LeftAt.rest {w : World} {base b o cap : Nat} {a : Nat} {l : List Nat} (h : Tp.LeftAt w base b o cap (a :: l)) : Tp.LeftAt w base b (o + 1) (cap - 1) l := by
  obtain ⟨cs, h1, h2, h3⟩ := h.row
  have hl := h.le
  simp only [List.length_cons] at hl
  refine ⟨⟨cs, h1, by omega, fun k hk => ?_⟩, h.base, by omega⟩
  have := h3 (k + 1) (by simp; omega)
  rw [show o + 1 + k = o + (k + 1) by omega, this]
  simp
theorem Tp.LeftAt.not_row {w : World} {base b o cap g : Nat} {l : List Nat} {t : TypeId} {cs : Array Value} (h : Tp.LeftAt w base b o cap l) (hr : Row w g t cs) (ht : t ≠ 3) : g ≠ b := by
  rintro rfl
  obtain ⟨cs', h1, _⟩ := h.row
  unfold Row at hr h1
  rw [hr] at h1
  cases h1
  exact ht rfl
theorem Tp.LeftAt.off {w : World} {base b o cap : Nat} {l : List Nat} (h : Tp.LeftAt w base b o cap l) {p : Addr} (hp : b ≠ p.block) (v : Value) : Tp.LeftAt (w.setCell p v) base b o cap l :=
  let ⟨cs, h1, h2⟩ := h.row
  ⟨⟨cs, h1.far hp v, h2⟩, h.base, h.le⟩
theorem Tp.push_room {w : World} {base b o cap : Nat} {l : List Nat} (h : Tp.LeftAt w base b o cap l) (x : Nat) (hr : l.length + 1 ≤ cap) : Tp.LeftAt (w.setCell ⟨b, o + l.length, none⟩ (.int .i64 (x : Int))) base b o cap (l ++ [x]) := by
  obtain ⟨cs, h1, h2, h3⟩ := h.row
  refine ⟨⟨_, h1.set_ (o + l.length) (.int .i64 (x : Int)), by simpa using h2, fun k hk => ?_⟩, h.base, by simpa using hr⟩
  simp only [List.length_append, List.length_singleton] at hk
  rcases Nat.lt_or_eq_of_le (Nat.le_of_lt_succ hk) with h9 | rfl
  · rw [Array.getElem?_setIfInBounds_ne (by omega), h3 k h9]
    simp [List.getD_eq_getElem?_getD, List.getElem?_append_left h9]
  · rw [Array.getElem?_setIfInBounds_self_of_lt (by omega)]
    simp
theorem Tp.push_grow {w w' : World} {base : Nat} {l : List Nat} {x : Nat} {v : Value} (ho : w'.ownsRow w.heap.size 3 1 v (l.length + 1) ((l.map fun k : Nat => (.int .i64 (k : Int) : Value)) ++ [.int .i64 (x : Int)])) (hb : base ≤ w.heap.size) : ∃ b cap, v = .slice (some ⟨b, 0, none⟩) (l.length + 1) cap ∧ Tp.LeftAt w' base b 0 cap (l ++ [x]) := by
  rcases ho.2 with ⟨_, h0⟩ | ⟨g, cap, cur, rfl, hbg, hg, hnc, hcm, hcs, htake⟩
  · omega
  · refine ⟨g, cap, rfl, ⟨cur, hg, by omega, fun k hk => ?_⟩, by omega, by simpa using hnc⟩
    simp only [List.length_append, List.length_singleton] at hk
    have e : cur[0 + k]? = (cur.toList.take ((l.length + 1) * 1))[k]? := by
      rw [List.getElem?_take_of_lt (by omega), Nat.zero_add, Array.getElem?_toList]
    rw [e, htake]
    rcases Nat.lt_or_eq_of_le (Nat.le_of_lt_succ hk) with h9 | rfl
    · rw [List.getElem?_append_left (by simpa using h9)]
      simp [List.getD_eq_getElem?_getD, List.getElem?_append_left h9, h9]
    · rw [List.getElem?_append_right (by simp)]
      simp
theorem Tp.LeftAt.olds {w : World} {base b o cap : Nat} {l : List Nat} (h : Tp.LeftAt w base b o cap l) : ∀ j u, (l.map fun k : Nat => (.int .i64 (k : Int) : Value))[j]? = some u → w.cell? ⟨b, o + j, none⟩ = some u := by
  intro j u hj
  obtain ⟨cs, h1, h2, h3⟩ := h.row
  have hl : j < l.length := by simpa using (List.getElem?_eq_some_iff.1 hj).1
  rw [h1.cell, h3 j hl, ← hj]
  simp [List.getD_eq_getElem?_getD, hl]
theorem Tp.LeftAt.spare {w : World} {base b o cap : Nat} {l : List Nat} (h : Tp.LeftAt w base b o cap l) (hr : l.length + 1 ≤ cap) : ∀ j, j < 1 → (w.cell? ⟨b, o + l.length * 1 + j, none⟩).isSome = true ∧ w.frozen? ⟨b, o + l.length * 1 + j, none⟩ = false := by
  intro j hj
  obtain ⟨cs, h1, h2, h3⟩ := h.row
  refine ⟨?_, h1.free _⟩
  rw [h1.cell, Array.getElem?_eq_getElem (by omega)]
  rfl
theorem Tp.WI.put2 {m : Nat} {tv : Nat → Ec.Pair} {adj : Nat → Nat → Prop} {out : List Ec.Pair} {left : List Nat} {x k : Nat} (h : Tp.WI m tv adj out left x k) (hk : k < m) (h0 : (Tp.at_ out k).drives = 0) : Tp.WI m tv adj (out.set k (tv k)) (left ++ [k]) x (k + 1) := by
  have hl := h.len
  have hs := fun w => Tp.at_set (out := out) (k := k) (p := tv k) (by omega) w
  refine ⟨by simpa using hl, fun w hw => ?_, fun a ha => ?_, fun a ha hv => ?_, ?_⟩
  · rw [hs]; split
    · rename_i e; rw [e]; exact .inr rfl
    · exact h.val w hw
  · rw [hs]
    rcases List.mem_append.1 ha with h1 | h1
    · have := h.lefts a h1
      split
      · rename_i e; rw [e]; exact ⟨hk, rfl⟩
      · exact this
    · have e : a = k := by simpa using h1
      rw [if_pos e, e]; exact ⟨hk, rfl⟩
  · by_cases e : a = k
    · exact .inl (List.mem_append.2 (.inr (by simp [e])))
    · rw [hs, if_neg e] at hv
      refine (h.clo a ha hv).imp (fun h1 => List.mem_append.2 (.inl h1)) fun hc b hb hab hax => ?_
      rw [hs]
      split
      · rename_i e2; rw [e2]
      · rename_i e2
        exact hc b hb hab fun e' => by have := hax e'; omega
  · rw [hs]; split
    · rename_i e; rw [← e]
    · exact h.first
theorem Tp.WI.init {m : Nat} {tv : Nat → Ec.Pair} {adj : Nat → Nat → Prop} (hm : 0 < m) (hz : ∀ w, w < m → (tv w).drives ≠ 0) : Tp.WI m tv adj ((List.replicate m (⟨0, 1⟩ : Ec.Pair)).set 0 (tv 0)) [0] m 0 := by
  have hs := fun w => Tp.at_set (out := List.replicate m (⟨0, 1⟩ : Ec.Pair)) (k := 0) (p := tv 0) (by simpa using hm) w
  have hr : ∀ w, Tp.at_ (List.replicate m (⟨0, 1⟩ : Ec.Pair)) w = ⟨0, 1⟩ := fun w => by
    unfold Tp.at_
    rw [List.getD_eq_getElem?_getD, List.getElem?_replicate]
    split <;> rfl
  refine ⟨by simp, fun w hw => ?_, fun a ha => ?_, fun a ha hv => ?_, by rw [hs]; simp⟩
  · rw [hs]
    split
    · rename_i e; rw [e]; exact .inr rfl
    · exact .inl (hr w)
  · have e : a = 0 := by simpa using ha
    rw [hs, if_pos e, e]
    exact ⟨hm, rfl⟩
  · by_cases e : a = 0
    · exact .inl (by simp [e])
    · rw [hs, if_neg e, hr] at hv
      exact absurd (by rw [← hv]) (hz a ha)
theorem Tp.tvW_zero {links : List (Int × Ec.Pair)} (hok : Tp.LinksOk links) : Tp.tvW links 0 = ⟨1, 1⟩ := by
  have h := (hok.frm 0).1
  have h0 : Tp.wc links 0 = 0 := by unfold Tp.wc; rw [if_pos (by omega)]; simpa using h
  unfold Tp.tvW
  rw [h0, Tp.trainL_zero]
  simp [Tp.tvA, Tp.sg, Ec.turnsN, Ec.turnsD, Ec.turnsG, Ec.drivesP, Ec.drivenP]
theorem Tp.tvW_lim {links : List (Int × Ec.Pair)} {hands : List Int} (h : Tp.PieceAll links hands) {w : Nat} (hw : w < 2 * links.length) : ((Tp.tvW links w).drives ≠ 0 ∧ -216000 ≤ (Tp.tvW links w).drives ∧ (Tp.tvW links w).drives ≤ 216000) ∧ 1 ≤ (Tp.tvW links w).driven ∧ (Tp.tvW links w).driven ≤ 216000 := by
  refine Tp.tvA_lim (Tp.train_pairs h _ ?_)
  have := (h.ok.from_.frm (w / 2)).1
  unfold Tp.wc
  split <;> omega
theorem pl_Repeat_any (n nw b : Nat) (w : World) (h1 : 1 ≤ n) (h4 : n ≤ 4) (hnw : 2 * n = nw) (hr : Row w b 68 #[.int .i64 0, .int .i64 1]) : Calls Tryz.prog 118 #[.slice (some ⟨b, 0, none⟩) 1 1, .int .i64 (nw : Int)] w fun e w' => e = .returned (.slice (some ⟨w.heap.size, 0, none⟩) nw nw) ∧ Row w' w.heap.size 68 (Tp.pc (List.replicate nw ⟨0, 1⟩)).toArray ∧ Ext w w' := by
  subst hnw
  rcases (show n = 1 ∨ n = 2 ∨ n = 3 ∨ n = 4 by omega) with rfl | rfl | rfl | rfl
  · exact pl_Repeat_2 b w hr
  · exact pl_Repeat_4 b w hr
  · exact pl_Repeat_6 b w hr
  · exact pl_Repeat_8 b w hr
/-- What a joined wheel turns by, as the call tells it. -/
theorem pl_joined_turn (links : List (Int × Ec.Pair)) (hands : List Int) (nc nw bC cC bW cW bM cM M a b : Nat) (w : World) (hpa : Tp.PieceAll links hands) (hp : Tp.LayAt w links bC bW bM M) (hnw : 2 * links.length = nw) (ha : a < nw) (hb : b < nw) (hab : b ≠ a) (h8 : nw ≤ 8) (ht : ∀ q, q < nw → Sp.inR (Tp.wt links q) 4 50 = true) :
    ∃ P : Ec.Pair, ∃ is : Bool, (is = true → P = Tp.tvW links b) ∧ (is = true ↔ Tp.wadj links a b) ∧ ∀ W, Ext w W → Calls Tryz.prog 121 #[.agg #[.int .i64 120, .int .i64 120, .int .i64 0, .int .i64 0, .int .i64 0, .slice (some ⟨bC, 0, none⟩) nc cC, .slice (some ⟨bW, 0, none⟩) nw cW, .slice (some ⟨bM, 0, none⟩) links.length cM, .map (some M), .slice none 0 0], .int .i64 (a : Int), .int .i64 (b : Int), .agg #[.int .i64 (Tp.tvW links a).drives, .int .i64 (Tp.tvW links a).driven]] W fun e w' => e = .returned (.tuple #[.agg #[.int .i64 P.drives, .int .i64 P.driven], .bool is]) ∧ Ext W w' := by
  have hl := Tp.tvW_lim hpa (w := a) (by omega)
  by_cases hms : Tp.wmesh a b
  · refine ⟨Tp.tvW links b, true, fun _ => rfl, ⟨fun _ => ⟨fun e => hab e.symm, .inl hms.2⟩, fun _ => rfl⟩, fun W hW => ?_⟩
    refine (pl_joined_any links nc nw bC cC bW cW bM cM M a b _ _ W (hp.ext hW) hnw ha hb h8 hl.1.2 hl.2 ht).mono ?_
    rintro e w' ⟨p, is, rfl, ⟨_, rfl, rfl⟩ | ⟨h, _⟩, hE⟩
    · rw [Tp.joined_right hpa (by omega) hms]
      exact ⟨rfl, hE⟩
    · exact absurd hms h
  · refine ⟨Tp.tvW links a, ((Tp.wc links a : Int) == (Tp.wc links b : Int)), fun h => ?_, ⟨fun h => ⟨fun e => hab e.symm, .inr (by have := beq_iff_eq.1 h; omega)⟩, fun h => ?_⟩, fun W hW => ?_⟩
    · have := beq_iff_eq.1 h
      unfold Tp.tvW
      rw [show Tp.wc links a = Tp.wc links b by omega]
    · rcases h.2 with h2 | h2
      · exact absurd ⟨h.1, h2⟩ hms
      · rw [h2]; simp
    · refine (pl_joined_any links nc nw bC cC bW cW bM cM M a b _ _ W (hp.ext hW) hnw ha hb h8 hl.1.2 hl.2 ht).mono ?_
      rintro e w' ⟨p, is, rfl, ⟨h, _⟩ | ⟨_, rfl, rfl⟩, hE⟩
      · exact absurd h hms
      · exact ⟨rfl, hE⟩
end Go.Proofs.YtimkmokomohgjaaGreat
