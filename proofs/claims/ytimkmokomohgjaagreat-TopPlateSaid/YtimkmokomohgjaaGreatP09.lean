/- Volume 9: TpFirstP TpFirst: walks of the program's functions, and plain laws. -/
import Derived.Carry
import Derived.BigQuiet
import Derived.Laws.EntriesVeiled
import Derived.Test.YtimkmokomohgjaaGreatP02
import Derived.Test.YtimkmokomohgjaaGreatP03
import Derived.Test.YtimkmokomohgjaaGreatP04
import Derived.Test.YtimkmokomohgjaaGreatP05
import Derived.Test.YtimkmokomohgjaaGreatP11
namespace Go.Proofs.YtimkmokomohgjaaGreat
open Sp (rd)
set_option maxRecDepth 100000
set_option linter.unusedVariables false
/-- What one pair of wheels leads to. -/
def Tp.tryP (can : Nat → Ec.Pair → Bool) (teeth : List Int) (m : Nat) (now : List Ec.Pair) (lft p : Ec.Pair) : Option (List Ec.Pair) :=
  if now.length ≠ 0 ∧ Tp.ord p (pd now (now.length - 1)) < 0 then none
  else if can m (Tp.red (lft.drives * p.driven) (lft.driven * p.drives)) = true then Tp.firstN can teeth m (now ++ [p]) (Tp.red (lft.drives * p.driven) (lft.driven * p.drives)) else none
/-- What one wheel that drives leads to. -/
def Tp.tryA (can : Nat → Ec.Pair → Bool) (teeth : List Int) (m : Nat) (now : List Ec.Pair) (lft : Ec.Pair) (a : Int) : Option (List Ec.Pair) := teeth.findSome? fun b => Tp.tryP can teeth m now lft ⟨a, b⟩
theorem Tp.findSome_flat {β γ : Type} (f : β → Option γ) (g : Int → List β) (l : List Int) : (l.flatMap g).findSome? f = l.findSome? fun a => (g a).findSome? f := by
  induction l with
  | nil => rfl
  | cons a l ih =>
    rw [List.flatMap_cons, List.findSome?_append, ih, List.findSome?_cons]
    cases (g a).findSome? f <;> rfl
theorem Tp.firstN_rows (can : Nat → Ec.Pair → Bool) (teeth : List Int) (m : Nat) (now : List Ec.Pair) (lft : Ec.Pair) : Tp.firstN can teeth (m + 1) now lft = teeth.findSome? (Tp.tryA can teeth m now lft) := by
  rw [Tp.firstN, Tp.findSome_flat]
  congr 1
  funext a
  rw [List.findSome?_map]
  rfl
/-- The first n have led to nothing. -/
def Tp.noneTo {α : Type} (f : Int → Option α) (l : List Int) (n : Nat) : Prop := (l.take n).findSome? f = none
theorem Tp.noneTo_zero {α : Type} (f : Int → Option α) (l : List Int) : Tp.noneTo f l 0 := rfl
theorem Tp.noneTo_succ {α : Type} {f : Int → Option α} {l : List Int} {n : Nat} (h : Tp.noneTo f l n) (hn : n < l.length) (hf : f (rd l n) = none) : Tp.noneTo f l (n + 1) := by
  unfold Tp.noneTo at h ⊢
  have e : l[n] = rd l n := by simp [rd, hn]
  rw [List.take_succ_eq_append_getElem hn, List.findSome?_append, h, e]
  simp [hf]
theorem Tp.noneTo_all {α : Type} {f : Int → Option α} {l : List Int} {n : Nat} (h : Tp.noneTo f l n) (hn : l.length ≤ n) : l.findSome? f = none := by
  unfold Tp.noneTo at h
  rwa [List.take_of_length_le hn] at h
theorem Tp.someAt {α : Type} {f : Int → Option α} {l : List Int} {n : Nat} {x : α} (h : Tp.noneTo f l n) (hn : n < l.length) (hf : f (rd l n) = some x) : l.findSome? f = some x := by
  unfold Tp.noneTo at h
  have e : l[n] = rd l n := by simp [rd, hn]
  have e2 : l = l.take n ++ l[n] :: l.drop (n + 1) := by rw [← List.drop_eq_getElem_cons hn, List.take_append_drop]
  rw [e2, List.findSome?_append, h, e]
  simp [hf]
theorem Tp.tryP_less {can : Nat → Ec.Pair → Bool} {teeth : List Int} {m : Nat} {now : List Ec.Pair} {lft p : Ec.Pair} (h0 : now.length ≠ 0) (h : Tp.ord p (pd now (now.length - 1)) < 0) : Tp.tryP can teeth m now lft p = none := by
  unfold Tp.tryP
  rw [if_pos ⟨h0, h⟩]
theorem Tp.tryP_no {can : Nat → Ec.Pair → Bool} {teeth : List Int} {m : Nat} {now : List Ec.Pair} {lft p x : Ec.Pair} (hx : Tp.red (lft.drives * p.driven) (lft.driven * p.drives) = x) (h : can m x = false) : Tp.tryP can teeth m now lft p = none := by
  unfold Tp.tryP
  rw [hx]
  split
  · rfl
  · rw [if_neg (by rw [h]; decide)]
theorem Tp.tryP_yes {can : Nat → Ec.Pair → Bool} {teeth : List Int} {m : Nat} {now : List Ec.Pair} {lft p x : Ec.Pair} (hx : Tp.red (lft.drives * p.driven) (lft.driven * p.drives) = x) (h0 : ¬ (now.length ≠ 0 ∧ Tp.ord p (pd now (now.length - 1)) < 0)) (h : can m x = true) : Tp.tryP can teeth m now lft p = Tp.firstN can teeth m (now ++ [p]) x := by
  unfold Tp.tryP
  rw [hx, if_neg h0, if_pos h]
/-- A row whose wheel drives with fewer teeth than the last one has nothing. -/
theorem Tp.tryA_less {can : Nat → Ec.Pair → Bool} {teeth : List Int} {m : Nat} {now : List Ec.Pair} {lft : Ec.Pair} {a : Int} (h0 : now.length ≠ 0) (h : ∀ b, Tp.ord ⟨a, b⟩ (pd now (now.length - 1)) < 0) : Tp.tryA can teeth m now lft a = none := by
  unfold Tp.tryA
  rw [List.findSome?_eq_none_iff]
  intro b _
  exact Tp.tryP_less h0 (h b)
def Tp.canP (teeth : List Int) (m : Nat) (x : Ec.Pair) : Bool := Tp.can (Tp.mark teeth m) (60 ^ m + 1) x.drives.toNat x.driven.toNat
end Go.Proofs.YtimkmokomohgjaaGreat
namespace Go.Proofs.YtimkmokomohgjaaGreat
open Go.RowKit
open Sp (rd)
set_option maxRecDepth 100000
set_option maxHeartbeats 4000000
set_option linter.unusedVariables false
set_option linter.unusedSimpArgs false
/-- What the search returns: a list, or nil. -/
def Tp.FirstPost (r : Option (List Ec.Pair)) (w : World) (e : Ending) (w' : World) : Prop :=
  (∀ l, r = some l → ∃ b o c, e = .returned (.slice (some ⟨b, o, none⟩) l.length c) ∧ Pairs w' (some ⟨b, o, none⟩) l) ∧ (r = none → e = .returned (.slice none 0 0)) ∧ Ext w w'
/-- What the search reads. -/
structure Tp.FirstIn (a b p s : Int) (Av : Option Addr) (nv cv : Nat) (At : Option Addr) (ct : Nat) (teeth : List Int) (As : Option Addr) (ns cs bm om nm cm P gp gw gs : Nat) (w : World) : Prop where
  wheels : Row w gw 165 #[.int .i64 a, .int .i64 b, .int .i64 p, .int .i64 s, .slice Av nv cv, .slice At teeth.length ct, .slice As ns cs, .slice (some ⟨bm, om, none⟩) nm cm]
  pairs : Row w gp 3 #[.int .i64 (P : Int)]
  self : Row w gs 251 #[.func (.func 195) #[] #[.pointer (some ⟨gp, 0, none⟩), .pointer (some ⟨gw, 0, none⟩), .pointer (some ⟨gs, 0, none⟩)]]
  wheelT : Ints w At teeth
  marks : ∀ j, j < P → j < nm ∧ ∃ A c, w.cell? ⟨bm, om + j, none⟩ = some (.slice A (60 ^ j + 1) c) ∧ Tp.Bits w A (60 ^ j + 1) (Tp.mark teeth j)
theorem Tp.FirstIn.ext {a b p s : Int} {Av : Option Addr} {nv cv : Nat} {At : Option Addr} {ct : Nat} {teeth : List Int} {As : Option Addr} {ns cs bm om nm cm P gp gw gs : Nat} {w w' : World} (h : Tp.FirstIn a b p s Av nv cv At ct teeth As ns cs bm om nm cm P gp gw gs w) (he : Ext w w') : Tp.FirstIn a b p s Av nv cv At ct teeth As ns cs bm om nm cm P gp gw gs w' :=
  ⟨h.wheels.ext he, h.pairs.ext he, h.self.ext he, h.wheelT.ext he, fun j hj => let ⟨h1, A, c, h2, h3⟩ := h.marks j hj; ⟨h1, A, c, he.cell h2, h3.ext he⟩⟩
theorem Tp.ord_less {a b c d : Int} (h : a < c) : Tp.ord ⟨a, b⟩ ⟨c, d⟩ < 0 := by
  unfold Tp.ord cmpI
  simp only
  rw [if_pos h]
  simp
theorem t_first1_any (a b p s : Int) (Av : Option Addr) (nv cv : Nat) (At : Option Addr) (ct : Nat) (teeth : List Int) (As : Option Addr) (ns cs bm om nm cm P gp gw gs : Nat) (hl : teeth.length ≤ 1000) (ht : ∀ k, k < teeth.length → 1 ≤ rd teeth k ∧ rd teeth k ≤ 16) (hnm : nm ≤ 1000) (hP : 1 ≤ P ∧ P ≤ 2) :
    ∀ (m : Nat) (now : List Ec.Pair) (x0 y0 : Int) (An : Option Addr) (cn : Nat) (w : World), now.length + m = P → (now.length = 0 → An = none ∧ cn = 0) → Pairs w An now → (1 ≤ x0 ∧ x0 ≤ 1000 * 16 ^ now.length) → (1 ≤ y0 ∧ y0 ≤ 1000 * 16 ^ now.length) → Tp.FirstIn a b p s Av nv cv At ct teeth As ns cs bm om nm cm P gp gw gs w →
      Calls Tryz.prog 195 #[.slice An now.length cn, .agg #[.int .i64 x0, .int .i64 y0], .pointer (some ⟨gp, 0, none⟩), .pointer (some ⟨gw, 0, none⟩), .pointer (some ⟨gs, 0, none⟩)] w (Tp.FirstPost (Tp.firstN (Tp.canP teeth) teeth m now ⟨x0, y0⟩) w) := by
  intro m
  have HT := Lib.hid ht
  clear ht
  induction m with
  | zero =>
    intro now x0 y0 An cn w hnP hnil hm hx hy hin
    obtain ⟨b0, o0, rfl, _⟩ := hm (by omega)
    have HM := Lib.hid hm
    have c0 := hin.pairs.cell
    have c1 := ((hin.pairs.ext ((Ext.refl w).alloc (.cells #[.int .i64 x0, .int .i64 y0] 69)))).cell
    have hbe : ((now.length : Int) == (P : Int)) = true := by rw [beq_iff_eq]; omega
    clear hm hin
    go_enter Tryz.func195, Tryz.ntmps195
    go_wp2_with fail
    go_step3
    go_wp2_with fail
    try dsimp only [Exit.noGoto]
    go_ret
    exact ⟨fun l h => by cases h; exact ⟨b0, o0, cn, rfl, HM.out.ext ((Ext.refl w).alloc _)⟩, fun h => (by cases h), (Ext.refl w).alloc _⟩
  | succ m ih =>
    intro now x0 y0 An cn w hnP hnil hm hx hy hin
    have HIH := Lib.hid ih
    rcases (show now.length = 0 ∨ now.length = 1 by omega) with hz | hz
    · obtain rfl : now = [] := List.eq_nil_of_length_eq_zero hz
      obtain ⟨rfl, rfl⟩ := hnil rfl
      simp only [List.length_nil, List.length_cons, Nat.zero_add] at hx hy hnP ⊢
      have hpw : (1000 : Int) * 16 ^ 0 ≤ 16000 := by decide
      have HBX := Lib.hid (show (1000 : Int) * 16 ^ 0 * 16 = 1000 * 16 ^ (0 + 1) by decide)
      obtain ⟨pw, hpw2⟩ : ∃ pw : Int, 1000 * 16 ^ 0 = pw := ⟨_, rfl⟩
      rw [hpw2] at hx hy hpw HBX
      have hbe : ((0 : Int) == (P : Int)) = false := by rw [beq_eq_false_iff_ne]; omega
      rw [Tp.firstN_rows]
      have HSOME := Lib.hid (fun i x h1 h2 h3 => Tp.someAt (f := Tp.tryA (Tp.canP teeth) teeth m ([] : List Ec.Pair) ⟨x0, y0⟩) (l := teeth) (n := i) (x := x) h1 h2 h3)
      have HSOMB := Lib.hid (fun aa i x h1 h2 h3 => Tp.someAt (f := fun bb => Tp.tryP (Tp.canP teeth) teeth m ([] : List Ec.Pair) ⟨x0, y0⟩ ⟨aa, bb⟩) (l := teeth) (n := i) (x := x) h1 h2 h3)
      obtain ⟨R, hR⟩ : ∃ R, teeth.findSome? (Tp.tryA (Tp.canP teeth) teeth m ([] : List Ec.Pair) ⟨x0, y0⟩) = R := ⟨_, rfl⟩
      rw [hR] at HSOME ⊢
      have HRR := Lib.hid hR
      clear hR hpw2 ih
      have hin2 := hin.ext ((Ext.refl w).alloc (.cells #[.int .i64 x0, .int .i64 y0] 69))
      have HIN := Lib.hid hin2
      have HPR := Lib.hid (hm.ext ((Ext.refl w).alloc (.cells #[.int .i64 x0, .int .i64 y0] 69)))
      have HBOX := Lib.hid (Row.new w 69 #[.int .i64 x0, .int .i64 y0])
      have HX0 := Lib.hid ((Ext.refl w).alloc (.cells #[.int .i64 x0, .int .i64 y0] 69))
      have c1 := hin2.pairs.cell
      have c2 := hin2.wheels.cell
      clear hm hin hin2
      go_enter Tryz.func195, Tryz.ntmps195
      go_wp2_with fail
      go_step3
      go_wp2_with fail
      go_step3
      go_wp2_with fail
      obtain ⟨W0, hW0⟩ : ∃ W, w.alloc (.cells #[.int .i64 x0, .int .i64 y0] 69) = W := ⟨_, rfl⟩
      rw [hW0] at HIN HPR HBOX HX0 ⊢
      obtain ⟨bL, hbL⟩ : ∃ bL, w.heap.size = bL := ⟨_, rfl⟩
      rw [hbL] at HBOX ⊢
      clear hW0 hbL c1 c2
      go_loopw [24] (fun i wr => ∃ ia : Nat, ia ≤ teeth.length ∧ i = .int .i64 (ia : Int) ∧ Tp.noneTo (Tp.tryA (Tp.canP teeth) teeth m ([] : List Ec.Pair) ⟨x0, y0⟩) teeth ia ∧ Ext W0 wr) (fun i _ => teeth.length - (intOf i).toNat)
      case atStart => exact ⟨0, Nat.zero_le _, rfl, Tp.noneTo_zero _ _, Ext.refl _⟩
      case round =>
        obtain ⟨ia, hia, rfl, hno, hX⟩ := hrel
        have HNO := Lib.hid hno
        have HX := Lib.hid hX
        by_cases hlt : ia < teeth.length
        · have hlt' : (ia : Int) < (teeth.length : Int) := by omega
          obtain ⟨bt, ot, rfl, hct⟩ := (HIN.out.wheelT.ext hX) (by omega)
          have HCT := Lib.hid hct
          have q0 := hct ia hlt
          have hta := HT.out ia hlt
          obtain ⟨ta, hta2⟩ : ∃ t, rd teeth ia = t := ⟨_, rfl⟩
          have HTA := Lib.hid hta2
          rw [hta2] at q0 hta
          have c2 := (HIN.out.ext hX).wheels.cell
          clear hno hX hct hta2
          go_wp2_with fail
          clear c2 q0
          obtain ⟨wo, hwo⟩ : ∃ wo : World, wo = wr := ⟨_, rfl⟩
          subst hwo
          go_loopw [32] (fun i wr => ∃ jb : Nat, jb ≤ teeth.length ∧ i = .int .i64 (jb : Int) ∧ Tp.noneTo (fun bb => Tp.tryP (Tp.canP teeth) teeth m ([] : List Ec.Pair) ⟨x0, y0⟩ ⟨ta, bb⟩) teeth jb ∧ Ext W0 wr) (fun i _ => teeth.length - (intOf i).toNat)
          case atStart => exact ⟨0, Nat.zero_le _, rfl, Tp.noneTo_zero _ _, HX.out⟩
          case round =>
            obtain ⟨jb, hjb, rfl, hno, hX⟩ := hrel
            have HNB := Lib.hid hno
            have HXB := Lib.hid hX
            by_cases hlb : jb < teeth.length
            · have hlb' : (jb : Int) < (teeth.length : Int) := by omega
              have q1 := (HIN.out.wheelT.ext hX) (by omega)
              obtain ⟨bt2, ot2, e2, hct⟩ := q1
              cases e2
              have q0 := hct jb hlb
              have htb := HT.out jb hlb
              obtain ⟨tb, htb2⟩ : ∃ t, rd teeth jb = t := ⟨_, rfl⟩
              have HTB := Lib.hid htb2
              rw [htb2] at q0 htb
              clear hno hX hct htb2
              go_wp2_with fail
              clear q0
              obtain ⟨Wp, hWp⟩ : ∃ W, wr.alloc (.cells #[.int .i64 ta, .int .i64 tb] 125) = W := ⟨_, rfl⟩
              obtain ⟨bP, hbP⟩ : ∃ bP, wr.heap.size = bP := ⟨_, rfl⟩
              have HRP := Lib.hid (Row.new wr 125 #[.int .i64 ta, .int .i64 tb])
              have HXP := Lib.hid (HXB.out.alloc (.cells #[.int .i64 ta, .int .i64 tb] 125))
              rw [hWp] at HRP HXP ⊢
              rw [hbP] at HRP ⊢
              clear hWp hbP
              have hm1 := mul_bounds0 (a := x0) (b := tb) (A := pw) (B := 16) (by omega) hx.2 (by omega) htb.2
              have hm2 := mul_bounds0 (a := y0) (b := ta) (A := pw) (B := 16) (by omega) hy.2 (by omega) hta.2
              have hm3 : 1 * 1 ≤ x0 * tb := Int.mul_le_mul hx.1 htb.1 (by omega) (by omega)
              have hm4 : 1 * 1 ≤ y0 * ta := Int.mul_le_mul hy.1 hta.1 (by omega) (by omega)
              have HRD := Lib.hid (fun W => t_reduced_any (x0 * tb) (y0 * ta) W (by omega) (by omega) (by omega) (by omega))
              rw [show (x0 * tb / (Int.gcd (x0 * tb) (y0 * ta) : Int)) = (Tp.red (x0 * tb) (y0 * ta)).drives from rfl, show (y0 * ta / (Int.gcd (x0 * tb) (y0 * ta) : Int)) = (Tp.red (x0 * tb) (y0 * ta)).driven from rfl] at HRD
              have hrl : (1 ≤ (Tp.red (x0 * tb) (y0 * ta)).drives ∧ (Tp.red (x0 * tb) (y0 * ta)).drives ≤ pw * 16) ∧ (1 ≤ (Tp.red (x0 * tb) (y0 * ta)).driven ∧ (Tp.red (x0 * tb) (y0 * ta)).driven ≤ pw * 16) := by
                have hg : 0 < Int.gcd (x0 * tb) (y0 * ta) := Int.gcd_pos_of_ne_zero_left _ (by omega)
                exact ⟨Tp.quot_lim2 (by omega) hm1.2 (by omega) (Int.gcd_dvd_left ..), Tp.quot_lim2 (by omega) hm2.2 (by omega) (Int.gcd_dvd_right ..)⟩
              have hv1 : 1 ≤ x0 * tb ∧ x0 * tb ≤ 256000 := by omega
              have hv2 : 1 ≤ y0 * ta ∧ y0 * ta ≤ 256000 := by omega
              clear hm1 hm2 hm3 hm4
              obtain ⟨⟨x1, y1⟩, hXX⟩ : ∃ X, Tp.red (x0 * tb) (y0 * ta) = X := ⟨_, rfl⟩
              rw [hXX] at HRD hrl
              simp only at HRD hrl
              obtain ⟨xn, rfl⟩ : ∃ n : Nat, x1 = (n : Int) := ⟨x1.toNat, by omega⟩
              obtain ⟨yn, rfl⟩ : ∃ n : Nat, y1 = (n : Int) := ⟨y1.toNat, by omega⟩
              have HXX := Lib.hid hXX
              have hmP : m < P := by omega
              obtain ⟨hmn, Am, cm2, hrowm, hbm⟩ := HIN.out.marks m hmP
              have h60 : 60 ^ m + 1 ≤ 3601 := by
                rcases (show m = 0 ∨ m = 1 by omega) with rfl | rfl <;> decide
              have HCAN := Lib.hid (fun W (he : Ext W0 W) => t_can_any a b p s (.slice Av nv cv) (.slice (some ⟨bt, ot, none⟩) teeth.length ct) (.slice As ns cs) bm om nm cm m xn yn Am (60 ^ m + 1) cm2 (Tp.mark teeth m) W hmn hnm (he.cell hrowm) (hbm.ext he) (by omega) (by omega) (by omega))
              have hmi : (m : Int) = (P : Int) - (0 : Int) - 1 := by omega
              rw [hmi] at HCAN
              have hcp : Tp.can (Tp.mark teeth m) (60 ^ m + 1) xn yn = Tp.canP teeth m ⟨(xn : Int), (yn : Int)⟩ := rfl
              rw [hcp] at HCAN
              obtain ⟨q, hq⟩ : ∃ q, Tp.canP teeth m ⟨(xn : Int), (yn : Int)⟩ = q := ⟨_, rfl⟩
              have HQ := Lib.hid hq
              rw [hq] at HCAN
              have HNOP := Lib.hid (fun h => Tp.tryP_no (can := Tp.canP teeth) (teeth := teeth) (m := m) (now := ([] : List Ec.Pair)) (lft := ⟨x0, y0⟩) (p := ⟨ta, tb⟩) (x := ⟨(xn : Int), (yn : Int)⟩) hXX h)
              have HYES := Lib.hid (fun h0 h => Tp.tryP_yes (can := Tp.canP teeth) (teeth := teeth) (m := m) (now := ([] : List Ec.Pair)) (lft := ⟨x0, y0⟩) (p := ⟨ta, tb⟩) (x := ⟨(xn : Int), (yn : Int)⟩) hXX h0 h)
              clear hq hcp hmi hrowm hbm hXX
              have HNOT : Hid (¬ (([] : List Ec.Pair).length ≠ 0 ∧ Tp.ord ⟨ta, tb⟩ (pd [] (([] : List Ec.Pair).length - 1)) < 0)) := Lib.hid (fun h => h.1 rfl)
              go_wp2_with fail
              refine wp_region_later (by kernel_rfl) (by kernel_rfl) (fun Wz hWz => ?_)
              repeat (go_big_quiet_step (fail))
              refine wpQuiet_nil ?_
              rintro ⟨W1, hE1⟩
              subst hWz
              dsimp only
              have HX1 := Lib.hid (HXP.out.trans hE1)
              have HRP1 := Lib.hid (HRP.out.ext hE1)
              have cL := (HBOX.out.ext HX1.out).cell
              clear hE1
              go_wp2_with fail
              refine (HRD.out _).mono ?_
              rintro e w2 ⟨rfl, hE2⟩
              have HX2 := Lib.hid ((HX1.out.trans hE2).alloc (.cells #[.int .i64 (xn : Int), .int .i64 (yn : Int)] 69))
              have HRP2 := Lib.hid ((HRP1.out.ext hE2).ext ((Ext.refl _).alloc (.cells #[.int .i64 (xn : Int), .int .i64 (yn : Int)] 69)))
              have HRR2 := Lib.hid (Row.new w2 69 #[.int .i64 (xn : Int), .int .i64 (yn : Int)])
              have c2 := (HIN.out.ext HX2.out).wheels.cell
              have c3 := (HIN.out.ext HX2.out).pairs.cell
              have c4 := HRR2.out.cell
              clear hE2 cL
              go_wp2_with fail
              refine (HCAN.out _ HX2.out).mono ?_
              rintro e w3 ⟨rfl, hE3⟩
              obtain ⟨bR, hbR⟩ : ∃ bR, w2.heap.size = bR := ⟨_, rfl⟩
              rw [hbR] at HRR2 ⊢
              have HX3 := Lib.hid (HX2.out.trans hE3)
              have HRP3 := Lib.hid (HRP2.out.ext hE3)
              have HRR3 := Lib.hid (HRR2.out.ext hE3)
              clear c2 c3 c4 hbR hE3
              dsimp only
              cases q
              · go_wp2_with fail
                go_roundw
                case rel => exact ⟨jb + 1, by omega, by go_num, Tp.noneTo_succ HNB.out hlb (by rw [HTB.out]; exact HNOP.out HQ.out), HX3.out⟩
                case measure => simp [intOf]; omega
              · have HY := Lib.hid (HYES.out HNOT.out HQ.out)
                obtain ⟨r, hr⟩ : ∃ r, Tp.firstN (Tp.canP teeth) teeth m [⟨ta, tb⟩] ⟨(xn : Int), (yn : Int)⟩ = r := ⟨_, rfl⟩
                have HY2 : Hid (Tp.tryP (Tp.canP teeth) teeth m [] ⟨x0, y0⟩ ⟨ta, tb⟩ = r) := Lib.hid (by rw [← hr]; exact HY.out)
                have hbb : (xn : Int) ≤ 1000 * 16 ^ ([⟨ta, tb⟩] : List Ec.Pair).length ∧ (yn : Int) ≤ 1000 * 16 ^ ([⟨ta, tb⟩] : List Ec.Pair).length := by have := HBX.out; simp only [List.length_nil, List.length_cons] at this ⊢; omega
                have HSR := Lib.hid (fun An' cn' W h1 (he : Ext W0 W) => HIH.out [⟨ta, tb⟩] (xn : Int) (yn : Int) An' cn' W (by simp only [List.length_cons, List.length_nil]; omega) (fun h => (by simp at h)) h1 ⟨by omega, hbb.1⟩ ⟨by omega, hbb.2⟩ (HIN.out.ext he))
                rw [hr] at HSR
                clear hr HY
                cases r with
                | none =>
                  have cS := (HIN.out.ext HX3.out).self.cell
                  have cP := HRP3.out.cell
                  have cR := HRR3.out.cell
                  have hsg := (HIN.out.ext HX3.out).self.lt
                  have hsp := HRP3.out.lt
                  have hsr := HRR3.out.lt
                  obtain ⟨i0, hi0, hi1, hi2, hi3⟩ := info_parts Tp.info_pair
                  go_wp2_with fail
                  refine Tp.wp_named (fun a0 ha0 => ?_)
                  refine Code.wp_mono (Q := fun e a' w' => e = .normal ∧ (∃ z80 z81 z82 z83 z84 z85 z86 z87 : Value, a' = ((((((((a0.put (some 80) z80).put (some 81) z81).put (some 82) z82).put (some 83) z83).put (some 84) z84).put (some 85) z85).put (some 86) z86).put (some 87) z87).put (some 14) (.slice none 0 0)) ∧ Ext w3 w') ?hq ?hr
                  case hr =>
                    subst ha0
                    go_region_held3 (fun w' => w'.cell? ⟨gs, 0, none⟩ = some (.func (.func 195) #[] #[.pointer (some ⟨gp, 0, none⟩), .pointer (some ⟨gw, 0, none⟩), .pointer (some ⟨gs, 0, none⟩)]) ∧ w'.cell? ⟨bP, 0, none⟩ = some (.int .i64 ta) ∧ w'.cell? ⟨bP, 1, none⟩ = some (.int .i64 tb) ∧ w'.cell? ⟨bR, 0, none⟩ = some (.int .i64 (xn : Int)) ∧ w'.cell? ⟨bR, 1, none⟩ = some (.int .i64 (yn : Int)))
                      (first | exact ⟨kk1, kk2, kk3, kk4, kk5⟩ | (go_keep; done) | (go_split_ands; refine ⟨hEc.cell ?_, hEc.cell ?_, hEc.cell ?_, hEc.cell ?_, hEc.cell ?_⟩ <;> assumption) | (go_split_ands; refine ⟨hEe.cell ?_, hEe.cell ?_, hEe.cell ?_, hEe.cell ?_, hEe.cell ?_⟩ <;> assumption) | (go_split_ands; refine ⟨(hgrow.cell_far _ ?_ ?_).trans ?_, (hgrow.cell_far _ ?_ ?_).trans ?_, (hgrow.cell_far _ ?_ ?_).trans ?_, (hgrow.cell_far _ ?_ ?_).trans ?_, (hgrow.cell_far _ ?_ ?_).trans ?_⟩ <;> first | assumption | exact hfarS | exact hfarP | exact hfarR | exact hneS | exact hneP | exact hneR))
                      (first
                        | ((go_at_call 197; refine (s_Clone_nil _).mono ?_; rintro e wc ⟨rfl, hEc⟩; have hEW : Ext w3 wc := Ext.trans (by first | exact ((Ext.refl w3).alloc _).drew | exact (Ext.refl w3).drew) hEc; have hown0 : wc.ownsRow w3.heap.size 125 2 (.slice none 0 0) 0 [] := by simp [World.ownsRow]))
                        | ((refine step_append_lies _ (by rfl) (Operand.tmp 82) (Operand.tmp 84) _ (by rfl) w3.heap.size 125 i0 _ 2 16 Tryz.underlying78 hi0 hi1 hi2 hi3 rfl (by omega) (.slice none 0 0) 0 [] (by rfl) (by first | exact hown0 | exact hown0.alloc _) _ 1 1 [.int .i64 ta, .int .i64 tb] (by rfl) (by rfl) (World.news_of_block (cs := #[.int .i64 ta, .int .i64 tb]) (t := 125) (fr := (0, 0)) (by first | exact news1 rfl | exact (hEc.block _ (by simp)).trans (news1d (by simp)) | exact (hEc.block _ (by simp)).trans (news1 (by simp)))) (by simp [Value.oneCell']) (by omega) (by unfold maxLen; omega) (by omega) (by have := hEW.size; first | exact this | (simp; omega)) _ (by rfl) ?_; intro g2 cap2 wd hown2 hgrow hat2 hlt2; have hEV : Ext w3 wd := Ext.grown (by first | exact hEW | exact hEW.alloc _) hgrow (fun g hg => ((show World.ownsRow wc w3.heap.size 125 2 (.slice none 0 0) 0 [] from hown0).lt g hg).1); have rr1 := Tp.grown_far ((HIN.out.ext HX3.out).self.ext (by first | exact hEW | exact hEW.alloc _)) hgrow (Tp.own_ne hown0 hsg); have rr2 := Tp.grown_far (HRP3.out.ext (by first | exact hEW | exact hEW.alloc _)) hgrow (Tp.own_ne hown0 hsp); have rr3 := Tp.grown_far (HRR3.out.ext (by first | exact hEW | exact hEW.alloc _)) hgrow (Tp.own_ne hown0 hsr); have kk1 := rr1.cell 0; have kk2 := rr2.cell 0; have kk3 := rr2.cell 1; have kk4 := rr3.cell 0; have kk5 := rr3.cell 1; clear rr1 rr2 rr3))
                        | ((go_at_call 195; refine (HSR.out (some ⟨g2, 0, none⟩) cap2 _ (by obtain ⟨A9, c9, he9, hp9⟩ := Tp.pairs_own (t := 125) (l := [⟨ta, tb⟩]) (base := w3.heap.size) hown2; cases he9; exact hp9) (HX3.out.trans hEV)).mono ?_; rintro e we ⟨_, hnn, hEe⟩; obtain rfl := hnn rfl)))
                    all_goals
                      exact ⟨rfl, ⟨_, _, _, _, _, _, _, _, rfl⟩, hEV.trans hEe⟩
                  case hq =>
                    rintro e a' w7 ⟨rfl, ⟨z80, z81, z82, z83, z84, z85, z86, z87, rfl⟩, hE7⟩
                    subst ha0
                    simp only [Act.put, List.setIfInBounds_toArray, List.set_cons_succ, List.set_cons_zero]
                    have hne1 := Tp.neq_nil
                    have hne2 := Tp.neq_some
                    clear cS cP cR
                    go_wp2_with fail
                    go_roundw
                    case rel => exact ⟨jb + 1, by omega, by go_num, Tp.noneTo_succ HNB.out hlb (by rw [HTB.out]; exact HY2.out), HX3.out.trans hE7⟩
                    case measure => simp [intOf]; omega
                | some l =>
                  have cS := (HIN.out.ext HX3.out).self.cell
                  have cP := HRP3.out.cell
                  have cR := HRR3.out.cell
                  have hsg := (HIN.out.ext HX3.out).self.lt
                  have hsp := HRP3.out.lt
                  have hsr := HRR3.out.lt
                  obtain ⟨i0, hi0, hi1, hi2, hi3⟩ := info_parts Tp.info_pair
                  go_wp2_with fail
                  refine Tp.wp_named (fun a0 ha0 => ?_)
                  refine Code.wp_mono (Q := fun e a' w' => e = .normal ∧ ∃ rb ro rc, (∃ z80 z81 z82 z83 z84 z85 z86 z87 : Value, a' = ((((((((a0.put (some 80) z80).put (some 81) z81).put (some 82) z82).put (some 83) z83).put (some 84) z84).put (some 85) z85).put (some 86) z86).put (some 87) z87).put (some 14) (.slice (some ⟨rb, ro, none⟩) l.length rc)) ∧ Pairs w' (some ⟨rb, ro, none⟩) l ∧ Ext w3 w') ?hq ?hr
                  case hr =>
                    subst ha0
                    go_region_held3 (fun w' => w'.cell? ⟨gs, 0, none⟩ = some (.func (.func 195) #[] #[.pointer (some ⟨gp, 0, none⟩), .pointer (some ⟨gw, 0, none⟩), .pointer (some ⟨gs, 0, none⟩)]) ∧ w'.cell? ⟨bP, 0, none⟩ = some (.int .i64 ta) ∧ w'.cell? ⟨bP, 1, none⟩ = some (.int .i64 tb) ∧ w'.cell? ⟨bR, 0, none⟩ = some (.int .i64 (xn : Int)) ∧ w'.cell? ⟨bR, 1, none⟩ = some (.int .i64 (yn : Int)))
                      (first | exact ⟨kk1, kk2, kk3, kk4, kk5⟩ | (go_keep; done) | (go_split_ands; refine ⟨hEc.cell ?_, hEc.cell ?_, hEc.cell ?_, hEc.cell ?_, hEc.cell ?_⟩ <;> assumption) | (go_split_ands; refine ⟨hEe.cell ?_, hEe.cell ?_, hEe.cell ?_, hEe.cell ?_, hEe.cell ?_⟩ <;> assumption) | (go_split_ands; refine ⟨(hgrow.cell_far _ ?_ ?_).trans ?_, (hgrow.cell_far _ ?_ ?_).trans ?_, (hgrow.cell_far _ ?_ ?_).trans ?_, (hgrow.cell_far _ ?_ ?_).trans ?_, (hgrow.cell_far _ ?_ ?_).trans ?_⟩ <;> first | assumption | exact hfarS | exact hfarP | exact hfarR | exact hneS | exact hneP | exact hneR))
                      (first
                        | ((go_at_call 197; refine (s_Clone_nil _).mono ?_; rintro e wc ⟨rfl, hEc⟩; have hEW : Ext w3 wc := Ext.trans (by first | exact ((Ext.refl w3).alloc _).drew | exact (Ext.refl w3).drew) hEc; have hown0 : wc.ownsRow w3.heap.size 125 2 (.slice none 0 0) 0 [] := by simp [World.ownsRow]))
                        | ((refine step_append_lies _ (by rfl) (Operand.tmp 82) (Operand.tmp 84) _ (by rfl) w3.heap.size 125 i0 _ 2 16 Tryz.underlying78 hi0 hi1 hi2 hi3 rfl (by omega) (.slice none 0 0) 0 [] (by rfl) (by first | exact hown0 | exact hown0.alloc _) _ 1 1 [.int .i64 ta, .int .i64 tb] (by rfl) (by rfl) (World.news_of_block (cs := #[.int .i64 ta, .int .i64 tb]) (t := 125) (fr := (0, 0)) (by first | exact news1 rfl | exact (hEc.block _ (by simp)).trans (news1d (by simp)) | exact (hEc.block _ (by simp)).trans (news1 (by simp)))) (by simp [Value.oneCell']) (by omega) (by unfold maxLen; omega) (by omega) (by have := hEW.size; first | exact this | (simp; omega)) _ (by rfl) ?_; intro g2 cap2 wd hown2 hgrow hat2 hlt2; have hEV : Ext w3 wd := Ext.grown (by first | exact hEW | exact hEW.alloc _) hgrow (fun g hg => ((show World.ownsRow wc w3.heap.size 125 2 (.slice none 0 0) 0 [] from hown0).lt g hg).1); have rr1 := Tp.grown_far ((HIN.out.ext HX3.out).self.ext (by first | exact hEW | exact hEW.alloc _)) hgrow (Tp.own_ne hown0 hsg); have rr2 := Tp.grown_far (HRP3.out.ext (by first | exact hEW | exact hEW.alloc _)) hgrow (Tp.own_ne hown0 hsp); have rr3 := Tp.grown_far (HRR3.out.ext (by first | exact hEW | exact hEW.alloc _)) hgrow (Tp.own_ne hown0 hsr); have kk1 := rr1.cell 0; have kk2 := rr2.cell 0; have kk3 := rr2.cell 1; have kk4 := rr3.cell 0; have kk5 := rr3.cell 1; clear rr1 rr2 rr3))
                        | ((go_at_call 195; refine (HSR.out (some ⟨g2, 0, none⟩) cap2 _ (by obtain ⟨A9, c9, he9, hp9⟩ := Tp.pairs_own (t := 125) (l := [⟨ta, tb⟩]) (base := w3.heap.size) hown2; cases he9; exact hp9) (HX3.out.trans hEV)).mono ?_; rintro e we ⟨hss, _, hEe⟩; obtain ⟨rb, ro, rc, rfl, hpr⟩ := hss l rfl)))
                    all_goals
                      exact ⟨rfl, rb, ro, rc, ⟨_, _, _, _, _, _, _, _, rfl⟩, hpr, hEV.trans hEe⟩
                  case hq =>
                    rintro e a' w7 ⟨rfl, rb, ro, rc, ⟨z80, z81, z82, z83, z84, z85, z86, z87, rfl⟩, hpr, hE7⟩
                    subst ha0
                    simp only [Act.put, List.setIfInBounds_toArray, List.set_cons_succ, List.set_cons_zero]
                    have hne1 := Tp.neq_nil
                    have hne2 := Tp.neq_some
                    clear cS cP cR
                    have HRL : Hid (R = some l) := Lib.hid (HSOME.out ia l HNO.out hlt (by rw [HTA.out]; exact HSOMB.out ta jb l HNB.out hlb (by rw [HTB.out]; exact HY2.out)))
                    have HPR9 := Lib.hid hpr
                    clear hpr
                    go_wp2_with fail
                    try dsimp only [Exit.noGoto]
                    go_ret
                    exact ⟨fun l9 h => (by rw [HRL.out] at h; cases h; exact ⟨rb, ro, rc, rfl, HPR9.out⟩), fun h => (by rw [HRL.out] at h; cases h), HX0.out.trans (HX3.out.trans hE7)⟩
            · obtain rfl : jb = teeth.length := by omega
              have hlb2 : ¬ ((teeth.length : Int) < (teeth.length : Int)) := by omega
              clear hno hX
              go_wp2_with fail
              go_roundw
              case rel => exact ⟨ia + 1, by omega, by go_num, Tp.noneTo_succ HNO.out hlt (by rw [HTA.out]; exact Tp.noneTo_all HNB.out (Nat.le_refl _)), HXB.out⟩
              case measure => simp [intOf]; omega
        · obtain rfl : ia = teeth.length := by omega
          have hlb2 : ¬ ((teeth.length : Int) < (teeth.length : Int)) := by omega
          have HRN : Hid (R = none) := Lib.hid (by rw [← HRR.out]; exact Tp.noneTo_all hno (Nat.le_refl _))
          clear hno hX
          go_wp2_with fail
          try dsimp only [Exit.noGoto]
          go_ret
          exact ⟨fun l h => (by rw [HRN.out] at h; cases h), fun _ => rfl, HX0.out.trans HX.out⟩
    · obtain ⟨⟨la, lb⟩, rfl⟩ : ∃ q, now = [q] := List.length_eq_one_iff.1 hz
      obtain ⟨b0, o0, rfl, hcl0⟩ := hm (by simp)
      have HCL := Lib.hid hcl0
      clear hcl0
      simp only [List.length_nil, List.length_cons, Nat.zero_add] at hx hy hnP ⊢
      have hpw : (1000 : Int) * 16 ^ 1 ≤ 16000 := by decide
      have HBX := Lib.hid (show (1000 : Int) * 16 ^ 1 * 16 = 1000 * 16 ^ (1 + 1) by decide)
      obtain ⟨pw, hpw2⟩ : ∃ pw : Int, 1000 * 16 ^ 1 = pw := ⟨_, rfl⟩
      rw [hpw2] at hx hy hpw HBX
      have hbe : ((1 : Int) == (P : Int)) = false := by rw [beq_eq_false_iff_ne]; omega
      rw [Tp.firstN_rows]
      have HSOME := Lib.hid (fun i x h1 h2 h3 => Tp.someAt (f := Tp.tryA (Tp.canP teeth) teeth m [(⟨la, lb⟩ : Ec.Pair)] ⟨x0, y0⟩) (l := teeth) (n := i) (x := x) h1 h2 h3)
      have HSOMB := Lib.hid (fun aa i x h1 h2 h3 => Tp.someAt (f := fun bb => Tp.tryP (Tp.canP teeth) teeth m [(⟨la, lb⟩ : Ec.Pair)] ⟨x0, y0⟩ ⟨aa, bb⟩) (l := teeth) (n := i) (x := x) h1 h2 h3)
      obtain ⟨R, hR⟩ : ∃ R, teeth.findSome? (Tp.tryA (Tp.canP teeth) teeth m [(⟨la, lb⟩ : Ec.Pair)] ⟨x0, y0⟩) = R := ⟨_, rfl⟩
      rw [hR] at HSOME ⊢
      have HRR := Lib.hid hR
      clear hR hpw2 ih
      have hin2 := hin.ext ((Ext.refl w).alloc (.cells #[.int .i64 x0, .int .i64 y0] 69))
      have HIN := Lib.hid hin2
      have HPR := Lib.hid (hm.ext ((Ext.refl w).alloc (.cells #[.int .i64 x0, .int .i64 y0] 69)))
      have HBOX := Lib.hid (Row.new w 69 #[.int .i64 x0, .int .i64 y0])
      have HX0 := Lib.hid ((Ext.refl w).alloc (.cells #[.int .i64 x0, .int .i64 y0] 69))
      have c1 := hin2.pairs.cell
      have c2 := hin2.wheels.cell
      clear hm hin hin2
      go_enter Tryz.func195, Tryz.ntmps195
      go_wp2_with fail
      go_step3
      go_wp2_with fail
      go_step3
      go_wp2_with fail
      obtain ⟨W0, hW0⟩ : ∃ W, w.alloc (.cells #[.int .i64 x0, .int .i64 y0] 69) = W := ⟨_, rfl⟩
      rw [hW0] at HIN HPR HBOX HX0 ⊢
      obtain ⟨bL, hbL⟩ : ∃ bL, w.heap.size = bL := ⟨_, rfl⟩
      rw [hbL] at HBOX ⊢
      clear hW0 hbL c1 c2
      go_loopw [24] (fun i wr => ∃ ia : Nat, ia ≤ teeth.length ∧ i = .int .i64 (ia : Int) ∧ Tp.noneTo (Tp.tryA (Tp.canP teeth) teeth m [(⟨la, lb⟩ : Ec.Pair)] ⟨x0, y0⟩) teeth ia ∧ Ext W0 wr) (fun i _ => teeth.length - (intOf i).toNat)
      case atStart => exact ⟨0, Nat.zero_le _, rfl, Tp.noneTo_zero _ _, Ext.refl _⟩
      case round =>
        obtain ⟨ia, hia, rfl, hno, hX⟩ := hrel
        have HNO := Lib.hid hno
        have HX := Lib.hid hX
        by_cases hlt : ia < teeth.length
        · have hlt' : (ia : Int) < (teeth.length : Int) := by omega
          obtain ⟨bt, ot, rfl, hct⟩ := (HIN.out.wheelT.ext hX) (by omega)
          have HCT := Lib.hid hct
          have q0 := hct ia hlt
          have hta := HT.out ia hlt
          obtain ⟨ta, hta2⟩ : ∃ t, rd teeth ia = t := ⟨_, rfl⟩
          have HTA := Lib.hid hta2
          rw [hta2] at q0 hta
          have c2 := (HIN.out.ext hX).wheels.cell
          clear hno hX hct hta2
          go_wp2_with fail
          clear c2 q0
          obtain ⟨wo, hwo⟩ : ∃ wo : World, wo = wr := ⟨_, rfl⟩
          subst hwo
          go_loopw [32] (fun i wr => ∃ jb : Nat, jb ≤ teeth.length ∧ i = .int .i64 (jb : Int) ∧ Tp.noneTo (fun bb => Tp.tryP (Tp.canP teeth) teeth m [(⟨la, lb⟩ : Ec.Pair)] ⟨x0, y0⟩ ⟨ta, bb⟩) teeth jb ∧ Ext W0 wr) (fun i _ => teeth.length - (intOf i).toNat)
          case atStart => exact ⟨0, Nat.zero_le _, rfl, Tp.noneTo_zero _ _, HX.out⟩
          case round =>
            obtain ⟨jb, hjb, rfl, hno, hX⟩ := hrel
            have HNB := Lib.hid hno
            have HXB := Lib.hid hX
            by_cases hlb : jb < teeth.length
            · have hlb' : (jb : Int) < (teeth.length : Int) := by omega
              have q1 := (HIN.out.wheelT.ext hX) (by omega)
              obtain ⟨bt2, ot2, e2, hct⟩ := q1
              cases e2
              have q0 := hct jb hlb
              have htb := HT.out jb hlb
              obtain ⟨tb, htb2⟩ : ∃ t, rd teeth jb = t := ⟨_, rfl⟩
              have HTB := Lib.hid htb2
              rw [htb2] at q0 htb
              clear hno hX hct htb2
              go_wp2_with fail
              clear q0
              obtain ⟨Wp, hWp⟩ : ∃ W, wr.alloc (.cells #[.int .i64 ta, .int .i64 tb] 125) = W := ⟨_, rfl⟩
              obtain ⟨bP, hbP⟩ : ∃ bP, wr.heap.size = bP := ⟨_, rfl⟩
              have HRP := Lib.hid (Row.new wr 125 #[.int .i64 ta, .int .i64 tb])
              have HXP := Lib.hid (HXB.out.alloc (.cells #[.int .i64 ta, .int .i64 tb] 125))
              rw [hWp] at HRP HXP ⊢
              rw [hbP] at HRP ⊢
              clear hWp hbP
              have hm1 := mul_bounds0 (a := x0) (b := tb) (A := pw) (B := 16) (by omega) hx.2 (by omega) htb.2
              have hm2 := mul_bounds0 (a := y0) (b := ta) (A := pw) (B := 16) (by omega) hy.2 (by omega) hta.2
              have hm3 : 1 * 1 ≤ x0 * tb := Int.mul_le_mul hx.1 htb.1 (by omega) (by omega)
              have hm4 : 1 * 1 ≤ y0 * ta := Int.mul_le_mul hy.1 hta.1 (by omega) (by omega)
              have HRD := Lib.hid (fun W => t_reduced_any (x0 * tb) (y0 * ta) W (by omega) (by omega) (by omega) (by omega))
              rw [show (x0 * tb / (Int.gcd (x0 * tb) (y0 * ta) : Int)) = (Tp.red (x0 * tb) (y0 * ta)).drives from rfl, show (y0 * ta / (Int.gcd (x0 * tb) (y0 * ta) : Int)) = (Tp.red (x0 * tb) (y0 * ta)).driven from rfl] at HRD
              have hrl : (1 ≤ (Tp.red (x0 * tb) (y0 * ta)).drives ∧ (Tp.red (x0 * tb) (y0 * ta)).drives ≤ pw * 16) ∧ (1 ≤ (Tp.red (x0 * tb) (y0 * ta)).driven ∧ (Tp.red (x0 * tb) (y0 * ta)).driven ≤ pw * 16) := by
                have hg : 0 < Int.gcd (x0 * tb) (y0 * ta) := Int.gcd_pos_of_ne_zero_left _ (by omega)
                exact ⟨Tp.quot_lim2 (by omega) hm1.2 (by omega) (Int.gcd_dvd_left ..), Tp.quot_lim2 (by omega) hm2.2 (by omega) (Int.gcd_dvd_right ..)⟩
              have hv1 : 1 ≤ x0 * tb ∧ x0 * tb ≤ 256000 := by omega
              have hv2 : 1 ≤ y0 * ta ∧ y0 * ta ≤ 256000 := by omega
              clear hm1 hm2 hm3 hm4
              obtain ⟨⟨x1, y1⟩, hXX⟩ : ∃ X, Tp.red (x0 * tb) (y0 * ta) = X := ⟨_, rfl⟩
              rw [hXX] at HRD hrl
              simp only at HRD hrl
              obtain ⟨xn, rfl⟩ : ∃ n : Nat, x1 = (n : Int) := ⟨x1.toNat, by omega⟩
              obtain ⟨yn, rfl⟩ : ∃ n : Nat, y1 = (n : Int) := ⟨y1.toNat, by omega⟩
              have HXX := Lib.hid hXX
              have hmP : m < P := by omega
              obtain ⟨hmn, Am, cm2, hrowm, hbm⟩ := HIN.out.marks m hmP
              have h60 : 60 ^ m + 1 ≤ 3601 := by
                rcases (show m = 0 ∨ m = 1 by omega) with rfl | rfl <;> decide
              have HCAN := Lib.hid (fun W (he : Ext W0 W) => t_can_any a b p s (.slice Av nv cv) (.slice (some ⟨bt, ot, none⟩) teeth.length ct) (.slice As ns cs) bm om nm cm m xn yn Am (60 ^ m + 1) cm2 (Tp.mark teeth m) W hmn hnm (he.cell hrowm) (hbm.ext he) (by omega) (by omega) (by omega))
              have hmi : (m : Int) = (P : Int) - (1 : Int) - 1 := by omega
              rw [hmi] at HCAN
              have hcp : Tp.can (Tp.mark teeth m) (60 ^ m + 1) xn yn = Tp.canP teeth m ⟨(xn : Int), (yn : Int)⟩ := rfl
              rw [hcp] at HCAN
              obtain ⟨q, hq⟩ : ∃ q, Tp.canP teeth m ⟨(xn : Int), (yn : Int)⟩ = q := ⟨_, rfl⟩
              have HQ := Lib.hid hq
              rw [hq] at HCAN
              have HNOP := Lib.hid (fun h => Tp.tryP_no (can := Tp.canP teeth) (teeth := teeth) (m := m) (now := [(⟨la, lb⟩ : Ec.Pair)]) (lft := ⟨x0, y0⟩) (p := ⟨ta, tb⟩) (x := ⟨(xn : Int), (yn : Int)⟩) hXX h)
              have HYES := Lib.hid (fun h0 h => Tp.tryP_yes (can := Tp.canP teeth) (teeth := teeth) (m := m) (now := [(⟨la, lb⟩ : Ec.Pair)]) (lft := ⟨x0, y0⟩) (p := ⟨ta, tb⟩) (x := ⟨(xn : Int), (yn : Int)⟩) hXX h0 h)
              clear hq hcp hmi hrowm hbm hXX
              obtain ⟨b9, o9, e9, hcl⟩ := HPR.out (by simp)
              cases e9
              have l0 := HXP.out.cell (hcl 0 (by simp)).1
              have l1 := HXP.out.cell (hcl 0 (by simp)).2
              simp only [Nat.zero_mul, Nat.add_zero, show pd [(⟨la, lb⟩ : Ec.Pair)] 0 = ⟨la, lb⟩ from rfl] at l0 l1
              have HL0 := Lib.hid l0
              have HORD := Lib.hid (fun W => t_inOrder_any ta tb la lb W)
              obtain ⟨oo, hoo2⟩ : ∃ oo, Tp.ord ⟨ta, tb⟩ ⟨la, lb⟩ = oo := ⟨_, rfl⟩
              rw [hoo2] at HORD
              have HOO := Lib.hid hoo2
              clear hcl hoo2
              go_wp2_with fail
              refine wp_region_later (by kernel_rfl) (by kernel_rfl) (fun Wz hWz => ?_)
              have q1 := Later.block (w := Wz) (by rw [hWz]; exact HRP.out)
              have q2 : ∀ x : Later Wz, x.world.cell? ⟨b0, o0, none⟩ = some (.int .i64 la) := fun x => x.ext.cell (by rw [hWz]; exact l0)
              have q3 : ∀ x : Later Wz, x.world.cell? ⟨b0, o0 + 1, none⟩ = some (.int .i64 lb) := fun x => x.ext.cell (by rw [hWz]; exact l1)
              repeat (go_big_quiet_step ((go_at_call 161; exact Later.call (HORD.out _))))
              refine wpQuiet_nil ?_
              rintro ⟨W1, hE1⟩
              subst hWz
              dsimp only
              clear q1 q2 q3 l1
              by_cases hoo : oo < 0
              · have l2 := hE1.cell l0
                clear l0
                have HX1 := Lib.hid (HXP.out.trans hE1)
                by_cases hla : ta < la
                · go_wp2_with fail
                  go_roundw
                  case rel => exact ⟨ia + 1, by omega, by go_num, Tp.noneTo_succ HNO.out hlt (by rw [HTA.out]; exact Tp.tryA_less (by simp) (fun b => Tp.ord_less hla)), HX1.out⟩
                  case measure => simp [intOf]; omega
                · go_wp2_with fail
                  go_roundw
                  case rel => exact ⟨jb + 1, by omega, by go_num, Tp.noneTo_succ HNB.out hlb (by rw [HTB.out]; exact Tp.tryP_less (by simp) (by rw [← HOO.out] at hoo; exact hoo)), HX1.out⟩
                  case measure => simp [intOf]; omega
              · have HNOT : Hid (¬ (([⟨la, lb⟩] : List Ec.Pair).length ≠ 0 ∧ Tp.ord ⟨ta, tb⟩ (pd [⟨la, lb⟩] (([⟨la, lb⟩] : List Ec.Pair).length - 1)) < 0)) := Lib.hid (fun h => hoo (by rw [← HOO.out]; exact h.2))
                clear l0
                have HX1 := Lib.hid (HXP.out.trans hE1)
                have HRP1 := Lib.hid (HRP.out.ext hE1)
                have cL := (HBOX.out.ext HX1.out).cell
                clear hE1
                go_wp2_with fail
                refine (HRD.out _).mono ?_
                rintro e w2 ⟨rfl, hE2⟩
                have HX2 := Lib.hid ((HX1.out.trans hE2).alloc (.cells #[.int .i64 (xn : Int), .int .i64 (yn : Int)] 69))
                have HRP2 := Lib.hid ((HRP1.out.ext hE2).ext ((Ext.refl _).alloc (.cells #[.int .i64 (xn : Int), .int .i64 (yn : Int)] 69)))
                have HRR2 := Lib.hid (Row.new w2 69 #[.int .i64 (xn : Int), .int .i64 (yn : Int)])
                have c2 := (HIN.out.ext HX2.out).wheels.cell
                have c3 := (HIN.out.ext HX2.out).pairs.cell
                have c4 := HRR2.out.cell
                clear hE2 cL
                go_wp2_with fail
                refine (HCAN.out _ HX2.out).mono ?_
                rintro e w3 ⟨rfl, hE3⟩
                obtain ⟨bR, hbR⟩ : ∃ bR, w2.heap.size = bR := ⟨_, rfl⟩
                rw [hbR] at HRR2 ⊢
                have HX3 := Lib.hid (HX2.out.trans hE3)
                have HRP3 := Lib.hid (HRP2.out.ext hE3)
                have HRR3 := Lib.hid (HRR2.out.ext hE3)
                clear c2 c3 c4 hbR hE3
                dsimp only
                cases q
                · go_wp2_with fail
                  go_roundw
                  case rel => exact ⟨jb + 1, by omega, by go_num, Tp.noneTo_succ HNB.out hlb (by rw [HTB.out]; exact HNOP.out HQ.out), HX3.out⟩
                  case measure => simp [intOf]; omega
                · have HY := Lib.hid (HYES.out HNOT.out HQ.out)
                  obtain ⟨r, hr⟩ : ∃ r, Tp.firstN (Tp.canP teeth) teeth m [⟨la, lb⟩, ⟨ta, tb⟩] ⟨(xn : Int), (yn : Int)⟩ = r := ⟨_, rfl⟩
                  have HY2 : Hid (Tp.tryP (Tp.canP teeth) teeth m [⟨la, lb⟩] ⟨x0, y0⟩ ⟨ta, tb⟩ = r) := Lib.hid (by rw [← hr]; exact HY.out)
                  have hbb : (xn : Int) ≤ 1000 * 16 ^ ([⟨la, lb⟩, ⟨ta, tb⟩] : List Ec.Pair).length ∧ (yn : Int) ≤ 1000 * 16 ^ ([⟨la, lb⟩, ⟨ta, tb⟩] : List Ec.Pair).length := by have := HBX.out; simp only [List.length_nil, List.length_cons] at this ⊢; omega
                  have HSR := Lib.hid (fun An' cn' W h1 (he : Ext W0 W) => HIH.out [⟨la, lb⟩, ⟨ta, tb⟩] (xn : Int) (yn : Int) An' cn' W (by simp only [List.length_cons, List.length_nil]; omega) (fun h => (by simp at h)) h1 ⟨by omega, hbb.1⟩ ⟨by omega, hbb.2⟩ (HIN.out.ext he))
                  rw [hr] at HSR
                  clear hr HY
                  cases r with
                  | none =>
                    have cS := (HIN.out.ext HX3.out).self.cell
                    have cP := HRP3.out.cell
                    have cR := HRR3.out.cell
                    have hsg := (HIN.out.ext HX3.out).self.lt
                    have hsp := HRP3.out.lt
                    have hsr := HRR3.out.lt
                    obtain ⟨i0, hi0, hi1, hi2, hi3⟩ := info_parts Tp.info_pair
                    go_wp2_with fail
                    refine Tp.wp_named (fun a0 ha0 => ?_)
                    refine Code.wp_mono (Q := fun e a' w' => e = .normal ∧ (∃ z80 z81 z82 z83 z84 z85 z86 z87 : Value, a' = ((((((((a0.put (some 80) z80).put (some 81) z81).put (some 82) z82).put (some 83) z83).put (some 84) z84).put (some 85) z85).put (some 86) z86).put (some 87) z87).put (some 14) (.slice none 0 0)) ∧ Ext w3 w') ?hq ?hr
                    case hr =>
                      subst ha0
                      go_region_held3 (fun w' => w'.cell? ⟨gs, 0, none⟩ = some (.func (.func 195) #[] #[.pointer (some ⟨gp, 0, none⟩), .pointer (some ⟨gw, 0, none⟩), .pointer (some ⟨gs, 0, none⟩)]) ∧ w'.cell? ⟨bP, 0, none⟩ = some (.int .i64 ta) ∧ w'.cell? ⟨bP, 1, none⟩ = some (.int .i64 tb) ∧ w'.cell? ⟨bR, 0, none⟩ = some (.int .i64 (xn : Int)) ∧ w'.cell? ⟨bR, 1, none⟩ = some (.int .i64 (yn : Int)))
                        (first | exact ⟨kk1, kk2, kk3, kk4, kk5⟩ | (go_keep; done) | (go_split_ands; refine ⟨hEc.cell ?_, hEc.cell ?_, hEc.cell ?_, hEc.cell ?_, hEc.cell ?_⟩ <;> assumption) | (go_split_ands; refine ⟨hEe.cell ?_, hEe.cell ?_, hEe.cell ?_, hEe.cell ?_, hEe.cell ?_⟩ <;> assumption) | (go_split_ands; refine ⟨(hgrow.cell_far _ ?_ ?_).trans ?_, (hgrow.cell_far _ ?_ ?_).trans ?_, (hgrow.cell_far _ ?_ ?_).trans ?_, (hgrow.cell_far _ ?_ ?_).trans ?_, (hgrow.cell_far _ ?_ ?_).trans ?_⟩ <;> first | assumption | exact hfarS | exact hfarP | exact hfarR | exact hneS | exact hneP | exact hneR))
                        (first
                          | ((go_at_call 197; refine (s_Clone_any b0 o0 _ _ [⟨la, lb⟩] _ ((HPR.out.ext HX3.out).ext (by first | exact ((Ext.refl w3).alloc _).drew | exact (Ext.refl w3).drew)) (by simp) (by simp) rfl).mono ?_; rintro e wc ⟨gc, capc, rfl, hownc, hEc⟩; have hEW : Ext w3 wc := Ext.trans (by first | exact ((Ext.refl w3).alloc _).drew | exact (Ext.refl w3).drew) hEc; have hown0 : wc.ownsRow w3.heap.size 125 2 (.slice (some ⟨gc, 0, none⟩) 1 capc) 1 (Tp.pc [⟨la, lb⟩]) := Tp.own_mono hownc (Ext.size (by first | exact ((Ext.refl w3).alloc _).drew | exact (Ext.refl w3).drew))))
                          | ((refine step_append_lies _ (by rfl) (Operand.tmp 82) (Operand.tmp 84) _ (by rfl) w3.heap.size 125 i0 _ 2 16 Tryz.underlying78 hi0 hi1 hi2 hi3 rfl (by omega) (.slice (some ⟨gc, 0, none⟩) 1 capc) 1 (Tp.pc [⟨la, lb⟩]) (by rfl) (by first | exact hown0 | exact hown0.alloc _) _ 1 1 [.int .i64 ta, .int .i64 tb] (by rfl) (by rfl) (World.news_of_block (cs := #[.int .i64 ta, .int .i64 tb]) (t := 125) (fr := (0, 0)) (by first | exact news1 rfl | exact (hEc.block _ (by simp)).trans (news1d (by simp)) | exact (hEc.block _ (by simp)).trans (news1 (by simp)))) (by simp [Value.oneCell']) (by omega) (by unfold maxLen; omega) (by omega) (by have := hEW.size; first | exact this | (simp; omega)) _ (by rfl) ?_; intro g2 cap2 wd hown2 hgrow hat2 hlt2; have hEV : Ext w3 wd := Ext.grown (by first | exact hEW | exact hEW.alloc _) hgrow (fun g hg => ((show World.ownsRow wc w3.heap.size 125 2 (.slice (some ⟨gc, 0, none⟩) 1 capc) 1 (Tp.pc [⟨la, lb⟩]) from hown0).lt g hg).1); have rr1 := Tp.grown_far ((HIN.out.ext HX3.out).self.ext (by first | exact hEW | exact hEW.alloc _)) hgrow (Tp.own_ne hown0 hsg); have rr2 := Tp.grown_far (HRP3.out.ext (by first | exact hEW | exact hEW.alloc _)) hgrow (Tp.own_ne hown0 hsp); have rr3 := Tp.grown_far (HRR3.out.ext (by first | exact hEW | exact hEW.alloc _)) hgrow (Tp.own_ne hown0 hsr); have kk1 := rr1.cell 0; have kk2 := rr2.cell 0; have kk3 := rr2.cell 1; have kk4 := rr3.cell 0; have kk5 := rr3.cell 1; clear rr1 rr2 rr3))
                          | ((go_at_call 195; refine (HSR.out (some ⟨g2, 0, none⟩) cap2 _ (by obtain ⟨A9, c9, he9, hp9⟩ := Tp.pairs_own (t := 125) (l := [⟨la, lb⟩, ⟨ta, tb⟩]) (base := w3.heap.size) hown2; cases he9; exact hp9) (HX3.out.trans hEV)).mono ?_; rintro e we ⟨_, hnn, hEe⟩; obtain rfl := hnn rfl)))
                      all_goals
                        exact ⟨rfl, ⟨_, _, _, _, _, _, _, _, rfl⟩, hEV.trans hEe⟩
                    case hq =>
                      rintro e a' w7 ⟨rfl, ⟨z80, z81, z82, z83, z84, z85, z86, z87, rfl⟩, hE7⟩
                      subst ha0
                      simp only [Act.put, List.setIfInBounds_toArray, List.set_cons_succ, List.set_cons_zero]
                      have hne1 := Tp.neq_nil
                      have hne2 := Tp.neq_some
                      clear cS cP cR
                      go_wp2_with fail
                      go_roundw
                      case rel => exact ⟨jb + 1, by omega, by go_num, Tp.noneTo_succ HNB.out hlb (by rw [HTB.out]; exact HY2.out), HX3.out.trans hE7⟩
                      case measure => simp [intOf]; omega
                  | some l =>
                    have cS := (HIN.out.ext HX3.out).self.cell
                    have cP := HRP3.out.cell
                    have cR := HRR3.out.cell
                    have hsg := (HIN.out.ext HX3.out).self.lt
                    have hsp := HRP3.out.lt
                    have hsr := HRR3.out.lt
                    obtain ⟨i0, hi0, hi1, hi2, hi3⟩ := info_parts Tp.info_pair
                    go_wp2_with fail
                    refine Tp.wp_named (fun a0 ha0 => ?_)
                    refine Code.wp_mono (Q := fun e a' w' => e = .normal ∧ ∃ rb ro rc, (∃ z80 z81 z82 z83 z84 z85 z86 z87 : Value, a' = ((((((((a0.put (some 80) z80).put (some 81) z81).put (some 82) z82).put (some 83) z83).put (some 84) z84).put (some 85) z85).put (some 86) z86).put (some 87) z87).put (some 14) (.slice (some ⟨rb, ro, none⟩) l.length rc)) ∧ Pairs w' (some ⟨rb, ro, none⟩) l ∧ Ext w3 w') ?hq ?hr
                    case hr =>
                      subst ha0
                      go_region_held3 (fun w' => w'.cell? ⟨gs, 0, none⟩ = some (.func (.func 195) #[] #[.pointer (some ⟨gp, 0, none⟩), .pointer (some ⟨gw, 0, none⟩), .pointer (some ⟨gs, 0, none⟩)]) ∧ w'.cell? ⟨bP, 0, none⟩ = some (.int .i64 ta) ∧ w'.cell? ⟨bP, 1, none⟩ = some (.int .i64 tb) ∧ w'.cell? ⟨bR, 0, none⟩ = some (.int .i64 (xn : Int)) ∧ w'.cell? ⟨bR, 1, none⟩ = some (.int .i64 (yn : Int)))
                        (first | exact ⟨kk1, kk2, kk3, kk4, kk5⟩ | (go_keep; done) | (go_split_ands; refine ⟨hEc.cell ?_, hEc.cell ?_, hEc.cell ?_, hEc.cell ?_, hEc.cell ?_⟩ <;> assumption) | (go_split_ands; refine ⟨hEe.cell ?_, hEe.cell ?_, hEe.cell ?_, hEe.cell ?_, hEe.cell ?_⟩ <;> assumption) | (go_split_ands; refine ⟨(hgrow.cell_far _ ?_ ?_).trans ?_, (hgrow.cell_far _ ?_ ?_).trans ?_, (hgrow.cell_far _ ?_ ?_).trans ?_, (hgrow.cell_far _ ?_ ?_).trans ?_, (hgrow.cell_far _ ?_ ?_).trans ?_⟩ <;> first | assumption | exact hfarS | exact hfarP | exact hfarR | exact hneS | exact hneP | exact hneR))
                        (first
                          | ((go_at_call 197; refine (s_Clone_any b0 o0 _ _ [⟨la, lb⟩] _ ((HPR.out.ext HX3.out).ext (by first | exact ((Ext.refl w3).alloc _).drew | exact (Ext.refl w3).drew)) (by simp) (by simp) rfl).mono ?_; rintro e wc ⟨gc, capc, rfl, hownc, hEc⟩; have hEW : Ext w3 wc := Ext.trans (by first | exact ((Ext.refl w3).alloc _).drew | exact (Ext.refl w3).drew) hEc; have hown0 : wc.ownsRow w3.heap.size 125 2 (.slice (some ⟨gc, 0, none⟩) 1 capc) 1 (Tp.pc [⟨la, lb⟩]) := Tp.own_mono hownc (Ext.size (by first | exact ((Ext.refl w3).alloc _).drew | exact (Ext.refl w3).drew))))
                          | ((refine step_append_lies _ (by rfl) (Operand.tmp 82) (Operand.tmp 84) _ (by rfl) w3.heap.size 125 i0 _ 2 16 Tryz.underlying78 hi0 hi1 hi2 hi3 rfl (by omega) (.slice (some ⟨gc, 0, none⟩) 1 capc) 1 (Tp.pc [⟨la, lb⟩]) (by rfl) (by first | exact hown0 | exact hown0.alloc _) _ 1 1 [.int .i64 ta, .int .i64 tb] (by rfl) (by rfl) (World.news_of_block (cs := #[.int .i64 ta, .int .i64 tb]) (t := 125) (fr := (0, 0)) (by first | exact news1 rfl | exact (hEc.block _ (by simp)).trans (news1d (by simp)) | exact (hEc.block _ (by simp)).trans (news1 (by simp)))) (by simp [Value.oneCell']) (by omega) (by unfold maxLen; omega) (by omega) (by have := hEW.size; first | exact this | (simp; omega)) _ (by rfl) ?_; intro g2 cap2 wd hown2 hgrow hat2 hlt2; have hEV : Ext w3 wd := Ext.grown (by first | exact hEW | exact hEW.alloc _) hgrow (fun g hg => ((show World.ownsRow wc w3.heap.size 125 2 (.slice (some ⟨gc, 0, none⟩) 1 capc) 1 (Tp.pc [⟨la, lb⟩]) from hown0).lt g hg).1); have rr1 := Tp.grown_far ((HIN.out.ext HX3.out).self.ext (by first | exact hEW | exact hEW.alloc _)) hgrow (Tp.own_ne hown0 hsg); have rr2 := Tp.grown_far (HRP3.out.ext (by first | exact hEW | exact hEW.alloc _)) hgrow (Tp.own_ne hown0 hsp); have rr3 := Tp.grown_far (HRR3.out.ext (by first | exact hEW | exact hEW.alloc _)) hgrow (Tp.own_ne hown0 hsr); have kk1 := rr1.cell 0; have kk2 := rr2.cell 0; have kk3 := rr2.cell 1; have kk4 := rr3.cell 0; have kk5 := rr3.cell 1; clear rr1 rr2 rr3))
                          | ((go_at_call 195; refine (HSR.out (some ⟨g2, 0, none⟩) cap2 _ (by obtain ⟨A9, c9, he9, hp9⟩ := Tp.pairs_own (t := 125) (l := [⟨la, lb⟩, ⟨ta, tb⟩]) (base := w3.heap.size) hown2; cases he9; exact hp9) (HX3.out.trans hEV)).mono ?_; rintro e we ⟨hss, _, hEe⟩; obtain ⟨rb, ro, rc, rfl, hpr⟩ := hss l rfl)))
                      all_goals
                        exact ⟨rfl, rb, ro, rc, ⟨_, _, _, _, _, _, _, _, rfl⟩, hpr, hEV.trans hEe⟩
                    case hq =>
                      rintro e a' w7 ⟨rfl, rb, ro, rc, ⟨z80, z81, z82, z83, z84, z85, z86, z87, rfl⟩, hpr, hE7⟩
                      subst ha0
                      simp only [Act.put, List.setIfInBounds_toArray, List.set_cons_succ, List.set_cons_zero]
                      have hne1 := Tp.neq_nil
                      have hne2 := Tp.neq_some
                      clear cS cP cR
                      have HRL : Hid (R = some l) := Lib.hid (HSOME.out ia l HNO.out hlt (by rw [HTA.out]; exact HSOMB.out ta jb l HNB.out hlb (by rw [HTB.out]; exact HY2.out)))
                      have HPR9 := Lib.hid hpr
                      clear hpr
                      go_wp2_with fail
                      try dsimp only [Exit.noGoto]
                      go_ret
                      exact ⟨fun l9 h => (by rw [HRL.out] at h; cases h; exact ⟨rb, ro, rc, rfl, HPR9.out⟩), fun h => (by rw [HRL.out] at h; cases h), HX0.out.trans (HX3.out.trans hE7)⟩
            · obtain rfl : jb = teeth.length := by omega
              have hlb2 : ¬ ((teeth.length : Int) < (teeth.length : Int)) := by omega
              clear hno hX
              go_wp2_with fail
              go_roundw
              case rel => exact ⟨ia + 1, by omega, by go_num, Tp.noneTo_succ HNO.out hlt (by rw [HTA.out]; exact Tp.noneTo_all HNB.out (Nat.le_refl _)), HXB.out⟩
              case measure => simp [intOf]; omega
        · obtain rfl : ia = teeth.length := by omega
          have hlb2 : ¬ ((teeth.length : Int) < (teeth.length : Int)) := by omega
          have HRN : Hid (R = none) := Lib.hid (by rw [← HRR.out]; exact Tp.noneTo_all hno (Nat.le_refl _))
          clear hno hX
          go_wp2_with fail
          try dsimp only [Exit.noGoto]
          go_ret
          exact ⟨fun l h => (by rw [HRN.out] at h; cases h), fun _ => rfl, HX0.out.trans HX.out⟩
theorem t_first_any (a b p s : Int) (Av : Option Addr) (nv cv : Nat) (At : Option Addr) (ct : Nat) (teeth : List Int) (As : Option Addr) (ns cs bm om nm cm P : Nat) (x0 y0 : Int) (w : World) (hl : teeth.length ≤ 1000) (ht : ∀ k, k < teeth.length → 1 ≤ rd teeth k ∧ rd teeth k ≤ 16) (hnm : nm ≤ 1000) (hP : 1 ≤ P ∧ P ≤ 2) (hT : Ints w At teeth)
    (hM : ∀ j, j < P → j < nm ∧ ∃ A c, w.cell? ⟨bm, om + j, none⟩ = some (.slice A (60 ^ j + 1) c) ∧ Tp.Bits w A (60 ^ j + 1) (Tp.mark teeth j)) (hx : 1 ≤ x0 ∧ x0 ≤ 1000) (hy : 1 ≤ y0 ∧ y0 ≤ 1000) :
    Calls Tryz.prog 157 #[.agg #[.int .i64 a, .int .i64 b, .int .i64 p, .int .i64 s, .slice Av nv cv, .slice At teeth.length ct, .slice As ns cs, .slice (some ⟨bm, om, none⟩) nm cm], .int .i64 (P : Int), .agg #[.int .i64 x0, .int .i64 y0]] w (Tp.FirstPost (Tp.firstN (Tp.canP teeth) teeth P [] ⟨x0, y0⟩) w) := by
  have hmf : ∀ fn first cap w, (Instr.makeFunc fn first cap).run Tryz.prog w = .ok (.func fn first cap) w := fun _ _ _ _ => rfl
  have r0 := blocks4 w (.cells #[.int .i64 a, .int .i64 b, .int .i64 p, .int .i64 s, .slice Av nv cv, .slice At teeth.length ct, .slice As ns cs, .slice (some ⟨bm, om, none⟩) nm cm] 165) (.cells #[.int .i64 (P : Int)] 3) (.cells #[.int .i64 x0, .int .i64 y0] 69) (.cells #[.func (.func 195) #[] #[.pointer (some ⟨w.heap.size + 1, 0, none⟩), .pointer (some ⟨w.heap.size, 0, none⟩), .pointer (some ⟨w.heap.size + 1 + 1 + 1, 0, none⟩)]] 251)
  have HX : Hid (Ext w ((((w.alloc (.cells #[.int .i64 a, .int .i64 b, .int .i64 p, .int .i64 s, .slice Av nv cv, .slice At teeth.length ct, .slice As ns cs, .slice (some ⟨bm, om, none⟩) nm cm] 165)).alloc (.cells #[.int .i64 (P : Int)] 3)).alloc (.cells #[.int .i64 x0, .int .i64 y0] 69)).alloc (.cells #[.func (.func 195) #[] #[.pointer (some ⟨w.heap.size + 1, 0, none⟩), .pointer (some ⟨w.heap.size, 0, none⟩), .pointer (some ⟨w.heap.size + 1 + 1 + 1, 0, none⟩)]] 251))) := Lib.hid ((((Ext.refl w).alloc _).alloc _).alloc _ |>.alloc _)
  have HIN : Hid (Tp.FirstIn a b p s Av nv cv At ct teeth As ns cs bm om nm cm P (w.heap.size + 1) w.heap.size (w.heap.size + 1 + 1 + 1) ((((w.alloc (.cells #[.int .i64 a, .int .i64 b, .int .i64 p, .int .i64 s, .slice Av nv cv, .slice At teeth.length ct, .slice As ns cs, .slice (some ⟨bm, om, none⟩) nm cm] 165)).alloc (.cells #[.int .i64 (P : Int)] 3)).alloc (.cells #[.int .i64 x0, .int .i64 y0] 69)).alloc (.cells #[.func (.func 195) #[] #[.pointer (some ⟨w.heap.size + 1, 0, none⟩), .pointer (some ⟨w.heap.size, 0, none⟩), .pointer (some ⟨w.heap.size + 1 + 1 + 1, 0, none⟩)]] 251))) := Lib.hid ⟨r0.1, r0.2.1, r0.2.2.2, hT.ext HX.out, fun j hj => let ⟨h1, A, c, h2, h3⟩ := hM j hj; ⟨h1, A, c, HX.out.cell h2, h3.ext HX.out⟩⟩
  have rF : Row ((((w.alloc (.cells #[.int .i64 a, .int .i64 b, .int .i64 p, .int .i64 s, .slice Av nv cv, .slice At teeth.length ct, .slice As ns cs, .slice (some ⟨bm, om, none⟩) nm cm] 165)).alloc (.cells #[.int .i64 (P : Int)] 3)).alloc (.cells #[.int .i64 x0, .int .i64 y0] 69)).alloc (.cells #[.func (.func 195) #[] #[.pointer (some ⟨w.heap.size + 1, 0, none⟩), .pointer (some ⟨w.heap.size, 0, none⟩), .pointer (some ⟨w.heap.size + 1 + 1 + 1, 0, none⟩)]] 251)) (w.heap.size + 1 + 1) 69 #[.int .i64 x0, .int .i64 y0] := r0.2.2.1
  have c0 := rF.cell
  have c1 := HIN.out.self.cell
  clear r0 rF hT hM
  have HIH := Lib.hid (fun W h => t_first1_any a b p s Av nv cv At ct teeth As ns cs bm om nm cm P (w.heap.size + 1) w.heap.size (w.heap.size + 1 + 1 + 1) hl ht hnm hP P [] x0 y0 none 0 W (by simp) (fun _ => ⟨rfl, rfl⟩) (fun h => by simp at h) (by simpa using hx) (by simpa using hy) h)
  obtain ⟨r, hr⟩ : ∃ r, Tp.firstN (Tp.canP teeth) teeth P [] ⟨x0, y0⟩ = r := ⟨_, rfl⟩
  rw [hr] at HIH ⊢
  clear hr
  go_enter Tryz.func157, Tryz.ntmps157
  go_wp2_with fail
  refine (HIH.out _ HIN.out).mono ?_
  rintro e w5 ⟨h1, h2, hE⟩
  have H1 := Lib.hid h1
  have H2 := Lib.hid h2
  have HE := Lib.hid (HX.out.trans hE)
  clear h1 h2 hE c0 c1
  cases r with
  | none =>
    obtain rfl := H2.out rfl
    go_wp2_with fail
    go_ret
    exact ⟨fun l h => (by cases h), fun _ => rfl, HE.out⟩
  | some l =>
    obtain ⟨rb, ro, rc, rfl, hpr⟩ := H1.out l rfl
    have HP := Lib.hid hpr
    clear hpr
    go_wp2_with fail
    go_ret
    exact ⟨fun l9 h => (by cases h; exact ⟨rb, ro, rc, rfl, HP.out⟩), fun h => (by cases h), HE.out⟩
end Go.Proofs.YtimkmokomohgjaaGreat
