/- Volume 11 of the texts that the laws of this seat use: TpFirstP TpFirst TpBest TpNearest: walks of the program's functions, and plain laws. -/
import Derived.Carry
import Derived.BigQuiet
import Derived.Laws.EntriesVeiled
import Derived.Test.YtimkmokomohgjaaGreatR06
import Derived.Test.YtimkmokomohgjaaGreatR08
import Derived.Test.YtimkmokomohgjaaGreatR09
import Derived.Test.YtimkmokomohgjaaGreatR10
namespace Go.Proofs.YtimkmokomohgjaaGreat
open Sp (rd)
set_option maxRecDepth 100000
set_option linter.unusedVariables false
/-- What one pair of wheels leads to. -/
def Tp.tryP (can : Nat → Ec.Pair → Bool) (teeth : List Int) (m : Nat) (now : List Ec.Pair) (lft p : Ec.Pair) : Option (List Ec.Pair) :=
  if now.length ≠ 0 ∧ Tp.ord p (pd now (now.length - 1)) < 0 then none
  else if can m (Tp.red (lft.drives * p.driven) (lft.driven * p.drives)) = true then Tp.firstN can teeth m (now ++ [p]) (Tp.red (lft.drives * p.driven) (lft.driven * p.drives)) else none
/-- What one wheel that drives leads to. -/
def Tp.tryA (can : Nat → Ec.Pair → Bool) (teeth : List Int) (m : Nat) (now : List Ec.Pair) (lft : Ec.Pair) (a : Int) : Option (List Ec.Pair) := teeth.findSome? fun b => Tp.tryP can teeth m now lft ⟨a, b⟩
theorem Tp.findSome_flat {β γ : Type} (f : β → Option γ) (g : Int → List β) (l : List Int) : (l.flatMap g).findSome? f = l.findSome? fun a => (g a).findSome? f := by
  induction l with
  | nil => rfl
  | cons a l ih =>
    rw [List.flatMap_cons, List.findSome?_append, ih, List.findSome?_cons]
    cases (g a).findSome? f <;> rfl
theorem Tp.firstN_rows (can : Nat → Ec.Pair → Bool) (teeth : List Int) (m : Nat) (now : List Ec.Pair) (lft : Ec.Pair) : Tp.firstN can teeth (m + 1) now lft = teeth.findSome? (Tp.tryA can teeth m now lft) := by
  rw [Tp.firstN, Tp.findSome_flat]
  congr 1
  funext a
  rw [List.findSome?_map]
  rfl
/-- The first n have led to nothing. -/
def Tp.noneTo {α : Type} (f : Int → Option α) (l : List Int) (n : Nat) : Prop := (l.take n).findSome? f = none
theorem Tp.noneTo_zero {α : Type} (f : Int → Option α) (l : List Int) : Tp.noneTo f l 0 := rfl
theorem Tp.noneTo_succ {α : Type} {f : Int → Option α} {l : List Int} {n : Nat} (h : Tp.noneTo f l n) (hn : n < l.length) (hf : f (rd l n) = none) : Tp.noneTo f l (n + 1) := by
  unfold Tp.noneTo at h ⊢
  have e : l[n] = rd l n := by simp [rd, hn]
  rw [List.take_succ_eq_append_getElem hn, List.findSome?_append, h, e]
  simp [hf]
theorem Tp.noneTo_all {α : Type} {f : Int → Option α} {l : List Int} {n : Nat} (h : Tp.noneTo f l n) (hn : l.length ≤ n) : l.findSome? f = none := by
  unfold Tp.noneTo at h
  rwa [List.take_of_length_le hn] at h
theorem Tp.someAt {α : Type} {f : Int → Option α} {l : List Int} {n : Nat} {x : α} (h : Tp.noneTo f l n) (hn : n < l.length) (hf : f (rd l n) = some x) : l.findSome? f = some x := by
  unfold Tp.noneTo at h
  have e : l[n] = rd l n := by simp [rd, hn]
  have e2 : l = l.take n ++ l[n] :: l.drop (n + 1) := by rw [← List.drop_eq_getElem_cons hn, List.take_append_drop]
  rw [e2, List.findSome?_append, h, e]
  simp [hf]
theorem Tp.tryP_less {can : Nat → Ec.Pair → Bool} {teeth : List Int} {m : Nat} {now : List Ec.Pair} {lft p : Ec.Pair} (h0 : now.length ≠ 0) (h : Tp.ord p (pd now (now.length - 1)) < 0) : Tp.tryP can teeth m now lft p = none := by
  unfold Tp.tryP
  rw [if_pos ⟨h0, h⟩]
theorem Tp.tryP_no {can : Nat → Ec.Pair → Bool} {teeth : List Int} {m : Nat} {now : List Ec.Pair} {lft p x : Ec.Pair} (hx : Tp.red (lft.drives * p.driven) (lft.driven * p.drives) = x) (h : can m x = false) : Tp.tryP can teeth m now lft p = none := by
  unfold Tp.tryP
  rw [hx]
  split
  · rfl
  · rw [if_neg (by rw [h]; decide)]
theorem Tp.tryP_yes {can : Nat → Ec.Pair → Bool} {teeth : List Int} {m : Nat} {now : List Ec.Pair} {lft p x : Ec.Pair} (hx : Tp.red (lft.drives * p.driven) (lft.driven * p.drives) = x) (h0 : ¬ (now.length ≠ 0 ∧ Tp.ord p (pd now (now.length - 1)) < 0)) (h : can m x = true) : Tp.tryP can teeth m now lft p = Tp.firstN can teeth m (now ++ [p]) x := by
  unfold Tp.tryP
  rw [hx, if_neg h0, if_pos h]
/-- A row whose wheel drives with fewer teeth than the last one has nothing. -/
theorem Tp.tryA_less {can : Nat → Ec.Pair → Bool} {teeth : List Int} {m : Nat} {now : List Ec.Pair} {lft : Ec.Pair} {a : Int} (h0 : now.length ≠ 0) (h : ∀ b, Tp.ord ⟨a, b⟩ (pd now (now.length - 1)) < 0) : Tp.tryA can teeth m now lft a = none := by
  unfold Tp.tryA
  rw [List.findSome?_eq_none_iff]
  intro b _
  exact Tp.tryP_less h0 (h b)
def Tp.canP (teeth : List Int) (m : Nat) (x : Ec.Pair) : Bool := Tp.can (Tp.mark teeth m) (60 ^ m + 1) x.drives.toNat x.driven.toNat
end Go.Proofs.YtimkmokomohgjaaGreat
namespace Go.Proofs.YtimkmokomohgjaaGreat
open Go.RowKit
open Sp (rd)
set_option maxRecDepth 100000
set_option maxHeartbeats 4000000
set_option linter.unusedVariables false
set_option linter.unusedSimpArgs false
/-- What the search returns: a list, or nil. -/
def Tp.FirstPost (r : Option (List Ec.Pair)) (w : World) (e : Ending) (w' : World) : Prop :=
  (∀ l, r = some l → ∃ b o c, e = .returned (.slice (some ⟨b, o, none⟩) l.length c) ∧ Pairs w' (some ⟨b, o, none⟩) l) ∧ (r = none → e = .returned (.slice none 0 0)) ∧ Ext w w'
/-- What the search reads. -/
structure Tp.FirstIn (a b p s : Int) (Av : Option Addr) (nv cv : Nat) (At : Option Addr) (ct : Nat) (teeth : List Int) (As : Option Addr) (ns cs bm om nm cm P gp gw gs : Nat) (w : World) : Prop where
  wheels : Row w gw 165 #[.int .i64 a, .int .i64 b, .int .i64 p, .int .i64 s, .slice Av nv cv, .slice At teeth.length ct, .slice As ns cs, .slice (some ⟨bm, om, none⟩) nm cm]
  pairs : Row w gp 3 #[.int .i64 (P : Int)]
  self : Row w gs 251 #[.func (.func 195) #[] #[.pointer (some ⟨gp, 0, none⟩), .pointer (some ⟨gw, 0, none⟩), .pointer (some ⟨gs, 0, none⟩)]]
  wheelT : Ints w At teeth
  marks : ∀ j, j < P → j < nm ∧ ∃ A c, w.cell? ⟨bm, om + j, none⟩ = some (.slice A (60 ^ j + 1) c) ∧ Tp.Bits w A (60 ^ j + 1) (Tp.mark teeth j)
theorem Tp.FirstIn.ext {a b p s : Int} {Av : Option Addr} {nv cv : Nat} {At : Option Addr} {ct : Nat} {teeth : List Int} {As : Option Addr} {ns cs bm om nm cm P gp gw gs : Nat} {w w' : World} (h : Tp.FirstIn a b p s Av nv cv At ct teeth As ns cs bm om nm cm P gp gw gs w) (he : Ext w w') : Tp.FirstIn a b p s Av nv cv At ct teeth As ns cs bm om nm cm P gp gw gs w' :=
  ⟨h.wheels.ext he, h.pairs.ext he, h.self.ext he, h.wheelT.ext he, fun j hj => let ⟨h1, A, c, h2, h3⟩ := h.marks j hj; ⟨h1, A, c, he.cell h2, h3.ext he⟩⟩
theorem Tp.ord_less {a b c d : Int} (h : a < c) : Tp.ord ⟨a, b⟩ ⟨c, d⟩ < 0 := by
  unfold Tp.ord cmpI
  simp only
  rw [if_pos h]
  simp
theorem t_first1_any (a b p s : Int) (Av : Option Addr) (nv cv : Nat) (At : Option Addr) (ct : Nat) (teeth : List Int) (As : Option Addr) (ns cs bm om nm cm P gp gw gs : Nat) (hl : teeth.length ≤ 1000) (ht : ∀ k, k < teeth.length → 1 ≤ rd teeth k ∧ rd teeth k ≤ 16) (hnm : nm ≤ 1000) (hP : 1 ≤ P ∧ P ≤ 2) :
    ∀ (m : Nat) (now : List Ec.Pair) (x0 y0 : Int) (An : Option Addr) (cn : Nat) (w : World), now.length + m = P → (now.length = 0 → An = none ∧ cn = 0) → Pairs w An now → (1 ≤ x0 ∧ x0 ≤ 1000 * 16 ^ now.length) → (1 ≤ y0 ∧ y0 ≤ 1000 * 16 ^ now.length) → Tp.FirstIn a b p s Av nv cv At ct teeth As ns cs bm om nm cm P gp gw gs w →
      Calls Tryz.prog 195 #[.slice An now.length cn, .agg #[.int .i64 x0, .int .i64 y0], .pointer (some ⟨gp, 0, none⟩), .pointer (some ⟨gw, 0, none⟩), .pointer (some ⟨gs, 0, none⟩)] w (Tp.FirstPost (Tp.firstN (Tp.canP teeth) teeth m now ⟨x0, y0⟩) w) := by
  intro m
  have HT := Lib.hid ht
  clear ht
  induction m with
  | zero =>
    intro now x0 y0 An cn w hnP hnil hm hx hy hin
    obtain ⟨b0, o0, rfl, _⟩ := hm (by omega)
    have HM := Lib.hid hm
    have c0 := hin.pairs.cell
    have c1 := ((hin.pairs.ext ((Ext.refl w).alloc (.cells #[.int .i64 x0, .int .i64 y0] 69)))).cell
    have hbe : ((now.length : Int) == (P : Int)) = true := by rw [beq_iff_eq]; omega
    clear hm hin
    go_enter Tryz.func195, Tryz.ntmps195
    go_wp2_with fail
    go_step3
    go_wp2_with fail
    try dsimp only [Exit.noGoto]
    go_ret
    exact ⟨fun l h => by cases h; exact ⟨b0, o0, cn, rfl, HM.out.ext ((Ext.refl w).alloc _)⟩, fun h => (by cases h), (Ext.refl w).alloc _⟩
  | succ m ih =>
    intro now x0 y0 An cn w hnP hnil hm hx hy hin
    have HIH := Lib.hid ih
    rcases (show now.length = 0 ∨ now.length = 1 by omega) with hz | hz
    · obtain rfl : now = [] := List.eq_nil_of_length_eq_zero hz
      obtain ⟨rfl, rfl⟩ := hnil rfl
      simp only [List.length_nil, List.length_cons, Nat.zero_add] at hx hy hnP ⊢
      have hpw : (1000 : Int) * 16 ^ 0 ≤ 16000 := by decide
      have HBX := Lib.hid (show (1000 : Int) * 16 ^ 0 * 16 = 1000 * 16 ^ (0 + 1) by decide)
      obtain ⟨pw, hpw2⟩ : ∃ pw : Int, 1000 * 16 ^ 0 = pw := ⟨_, rfl⟩
      rw [hpw2] at hx hy hpw HBX
      have hbe : ((0 : Int) == (P : Int)) = false := by rw [beq_eq_false_iff_ne]; omega
      rw [Tp.firstN_rows]
      have HSOME := Lib.hid (fun i x h1 h2 h3 => Tp.someAt (f := Tp.tryA (Tp.canP teeth) teeth m ([] : List Ec.Pair) ⟨x0, y0⟩) (l := teeth) (n := i) (x := x) h1 h2 h3)
      have HSOMB := Lib.hid (fun aa i x h1 h2 h3 => Tp.someAt (f := fun bb => Tp.tryP (Tp.canP teeth) teeth m ([] : List Ec.Pair) ⟨x0, y0⟩ ⟨aa, bb⟩) (l := teeth) (n := i) (x := x) h1 h2 h3)
      obtain ⟨R, hR⟩ : ∃ R, teeth.findSome? (Tp.tryA (Tp.canP teeth) teeth m ([] : List Ec.Pair) ⟨x0, y0⟩) = R := ⟨_, rfl⟩
      rw [hR] at HSOME ⊢
      have HRR := Lib.hid hR
      clear hR hpw2 ih
      have hin2 := hin.ext ((Ext.refl w).alloc (.cells #[.int .i64 x0, .int .i64 y0] 69))
      have HIN := Lib.hid hin2
      have HPR := Lib.hid (hm.ext ((Ext.refl w).alloc (.cells #[.int .i64 x0, .int .i64 y0] 69)))
      have HBOX := Lib.hid (Row.new w 69 #[.int .i64 x0, .int .i64 y0])
      have HX0 := Lib.hid ((Ext.refl w).alloc (.cells #[.int .i64 x0, .int .i64 y0] 69))
      have c1 := hin2.pairs.cell
      have c2 := hin2.wheels.cell
      clear hm hin hin2
      go_enter Tryz.func195, Tryz.ntmps195
      go_wp2_with fail
      go_step3
      go_wp2_with fail
      go_step3
      go_wp2_with fail
      obtain ⟨W0, hW0⟩ : ∃ W, w.alloc (.cells #[.int .i64 x0, .int .i64 y0] 69) = W := ⟨_, rfl⟩
      rw [hW0] at HIN HPR HBOX HX0 ⊢
      obtain ⟨bL, hbL⟩ : ∃ bL, w.heap.size = bL := ⟨_, rfl⟩
      rw [hbL] at HBOX ⊢
      clear hW0 hbL c1 c2
      go_loopw [24] (fun i wr => ∃ ia : Nat, ia ≤ teeth.length ∧ i = .int .i64 (ia : Int) ∧ Tp.noneTo (Tp.tryA (Tp.canP teeth) teeth m ([] : List Ec.Pair) ⟨x0, y0⟩) teeth ia ∧ Ext W0 wr) (fun i _ => teeth.length - (intOf i).toNat)
      case atStart => exact ⟨0, Nat.zero_le _, rfl, Tp.noneTo_zero _ _, Ext.refl _⟩
      case round =>
        obtain ⟨ia, hia, rfl, hno, hX⟩ := hrel
        have HNO := Lib.hid hno
        have HX := Lib.hid hX
        by_cases hlt : ia < teeth.length
        · have hlt' : (ia : Int) < (teeth.length : Int) := by omega
          obtain ⟨bt, ot, rfl, hct⟩ := (HIN.out.wheelT.ext hX) (by omega)
          have HCT := Lib.hid hct
          have q0 := hct ia hlt
          have hta := HT.out ia hlt
          obtain ⟨ta, hta2⟩ : ∃ t, rd teeth ia = t := ⟨_, rfl⟩
          have HTA := Lib.hid hta2
          rw [hta2] at q0 hta
          have c2 := (HIN.out.ext hX).wheels.cell
          clear hno hX hct hta2
          go_wp2_with fail
          clear c2 q0
          obtain ⟨wo, hwo⟩ : ∃ wo : World, wo = wr := ⟨_, rfl⟩
          subst hwo
          go_loopw [32] (fun i wr => ∃ jb : Nat, jb ≤ teeth.length ∧ i = .int .i64 (jb : Int) ∧ Tp.noneTo (fun bb => Tp.tryP (Tp.canP teeth) teeth m ([] : List Ec.Pair) ⟨x0, y0⟩ ⟨ta, bb⟩) teeth jb ∧ Ext W0 wr) (fun i _ => teeth.length - (intOf i).toNat)
          case atStart => exact ⟨0, Nat.zero_le _, rfl, Tp.noneTo_zero _ _, HX.out⟩
          case round =>
            obtain ⟨jb, hjb, rfl, hno, hX⟩ := hrel
            have HNB := Lib.hid hno
            have HXB := Lib.hid hX
            by_cases hlb : jb < teeth.length
            · have hlb' : (jb : Int) < (teeth.length : Int) := by omega
              have q1 := (HIN.out.wheelT.ext hX) (by omega)
              obtain ⟨bt2, ot2, e2, hct⟩ := q1
              cases e2
              have q0 := hct jb hlb
              have htb := HT.out jb hlb
              obtain ⟨tb, htb2⟩ : ∃ t, rd teeth jb = t := ⟨_, rfl⟩
              have HTB := Lib.hid htb2
              rw [htb2] at q0 htb
              clear hno hX hct htb2
              go_wp2_with fail
              clear q0
              obtain ⟨Wp, hWp⟩ : ∃ W, wr.alloc (.cells #[.int .i64 ta, .int .i64 tb] 125) = W := ⟨_, rfl⟩
              obtain ⟨bP, hbP⟩ : ∃ bP, wr.heap.size = bP := ⟨_, rfl⟩
              have HRP := Lib.hid (Row.new wr 125 #[.int .i64 ta, .int .i64 tb])
              have HXP := Lib.hid (HXB.out.alloc (.cells #[.int .i64 ta, .int .i64 tb] 125))
              rw [hWp] at HRP HXP ⊢
              rw [hbP] at HRP ⊢
              clear hWp hbP
              have hm1 := mul_bounds0 (a := x0) (b := tb) (A := pw) (B := 16) (by omega) hx.2 (by omega) htb.2
              have hm2 := mul_bounds0 (a := y0) (b := ta) (A := pw) (B := 16) (by omega) hy.2 (by omega) hta.2
              have hm3 : 1 * 1 ≤ x0 * tb := Int.mul_le_mul hx.1 htb.1 (by omega) (by omega)
              have hm4 : 1 * 1 ≤ y0 * ta := Int.mul_le_mul hy.1 hta.1 (by omega) (by omega)
              have HRD := Lib.hid (fun W => t_reduced_any (x0 * tb) (y0 * ta) W (by omega) (by omega) (by omega) (by omega))
              rw [show (x0 * tb / (Int.gcd (x0 * tb) (y0 * ta) : Int)) = (Tp.red (x0 * tb) (y0 * ta)).drives from rfl, show (y0 * ta / (Int.gcd (x0 * tb) (y0 * ta) : Int)) = (Tp.red (x0 * tb) (y0 * ta)).driven from rfl] at HRD
              have hrl : (1 ≤ (Tp.red (x0 * tb) (y0 * ta)).drives ∧ (Tp.red (x0 * tb) (y0 * ta)).drives ≤ pw * 16) ∧ (1 ≤ (Tp.red (x0 * tb) (y0 * ta)).driven ∧ (Tp.red (x0 * tb) (y0 * ta)).driven ≤ pw * 16) := by
                have hg : 0 < Int.gcd (x0 * tb) (y0 * ta) := Int.gcd_pos_of_ne_zero_left _ (by omega)
                exact ⟨Tp.quot_lim2 (by omega) hm1.2 (by omega) (Int.gcd_dvd_left ..), Tp.quot_lim2 (by omega) hm2.2 (by omega) (Int.gcd_dvd_right ..)⟩
              have hv1 : 1 ≤ x0 * tb ∧ x0 * tb ≤ 256000 := by omega
              have hv2 : 1 ≤ y0 * ta ∧ y0 * ta ≤ 256000 := by omega
              clear hm1 hm2 hm3 hm4
              obtain ⟨⟨x1, y1⟩, hXX⟩ : ∃ X, Tp.red (x0 * tb) (y0 * ta) = X := ⟨_, rfl⟩
              rw [hXX] at HRD hrl
              simp only at HRD hrl
              obtain ⟨xn, rfl⟩ : ∃ n : Nat, x1 = (n : Int) := ⟨x1.toNat, by omega⟩
              obtain ⟨yn, rfl⟩ : ∃ n : Nat, y1 = (n : Int) := ⟨y1.toNat, by omega⟩
              have HXX := Lib.hid hXX
              have hmP : m < P := by omega
              obtain ⟨hmn, Am, cm2, hrowm, hbm⟩ := HIN.out.marks m hmP
              have h60 : 60 ^ m + 1 ≤ 3601 := by
                rcases (show m = 0 ∨ m = 1 by omega) with rfl | rfl <;> decide
              have HCAN := Lib.hid (fun W (he : Ext W0 W) => t_can_any a b p s (.slice Av nv cv) (.slice (some ⟨bt, ot, none⟩) teeth.length ct) (.slice As ns cs) bm om nm cm m xn yn Am (60 ^ m + 1) cm2 (Tp.mark teeth m) W hmn hnm (he.cell hrowm) (hbm.ext he) (by omega) (by omega) (by omega))
              have hmi : (m : Int) = (P : Int) - (0 : Int) - 1 := by omega
              rw [hmi] at HCAN
              have hcp : Tp.can (Tp.mark teeth m) (60 ^ m + 1) xn yn = Tp.canP teeth m ⟨(xn : Int), (yn : Int)⟩ := rfl
              rw [hcp] at HCAN
              obtain ⟨q, hq⟩ : ∃ q, Tp.canP teeth m ⟨(xn : Int), (yn : Int)⟩ = q := ⟨_, rfl⟩
              have HQ := Lib.hid hq
              rw [hq] at HCAN
              have HNOP := Lib.hid (fun h => Tp.tryP_no (can := Tp.canP teeth) (teeth := teeth) (m := m) (now := ([] : List Ec.Pair)) (lft := ⟨x0, y0⟩) (p := ⟨ta, tb⟩) (x := ⟨(xn : Int), (yn : Int)⟩) hXX h)
              have HYES := Lib.hid (fun h0 h => Tp.tryP_yes (can := Tp.canP teeth) (teeth := teeth) (m := m) (now := ([] : List Ec.Pair)) (lft := ⟨x0, y0⟩) (p := ⟨ta, tb⟩) (x := ⟨(xn : Int), (yn : Int)⟩) hXX h0 h)
              clear hq hcp hmi hrowm hbm hXX
              have HNOT : Hid (¬ (([] : List Ec.Pair).length ≠ 0 ∧ Tp.ord ⟨ta, tb⟩ (pd [] (([] : List Ec.Pair).length - 1)) < 0)) := Lib.hid (fun h => h.1 rfl)
              go_wp2_with fail
              refine wp_region_later (by kernel_rfl) (by kernel_rfl) (fun Wz hWz => ?_)
              repeat (go_big_quiet_step (fail))
              refine wpQuiet_nil ?_
              rintro ⟨W1, hE1⟩
              subst hWz
              dsimp only
              have HX1 := Lib.hid (HXP.out.trans hE1)
              have HRP1 := Lib.hid (HRP.out.ext hE1)
              have cL := (HBOX.out.ext HX1.out).cell
              clear hE1
              go_wp2_with fail
              refine (HRD.out _).mono ?_
              rintro e w2 ⟨rfl, hE2⟩
              have HX2 := Lib.hid ((HX1.out.trans hE2).alloc (.cells #[.int .i64 (xn : Int), .int .i64 (yn : Int)] 69))
              have HRP2 := Lib.hid ((HRP1.out.ext hE2).ext ((Ext.refl _).alloc (.cells #[.int .i64 (xn : Int), .int .i64 (yn : Int)] 69)))
              have HRR2 := Lib.hid (Row.new w2 69 #[.int .i64 (xn : Int), .int .i64 (yn : Int)])
              have c2 := (HIN.out.ext HX2.out).wheels.cell
              have c3 := (HIN.out.ext HX2.out).pairs.cell
              have c4 := HRR2.out.cell
              clear hE2 cL
              go_wp2_with fail
              refine (HCAN.out _ HX2.out).mono ?_
              rintro e w3 ⟨rfl, hE3⟩
              obtain ⟨bR, hbR⟩ : ∃ bR, w2.heap.size = bR := ⟨_, rfl⟩
              rw [hbR] at HRR2 ⊢
              have HX3 := Lib.hid (HX2.out.trans hE3)
              have HRP3 := Lib.hid (HRP2.out.ext hE3)
              have HRR3 := Lib.hid (HRR2.out.ext hE3)
              clear c2 c3 c4 hbR hE3
              dsimp only
              cases q
              · go_wp2_with fail
                go_roundw
                case rel => exact ⟨jb + 1, by omega, by go_num, Tp.noneTo_succ HNB.out hlb (by rw [HTB.out]; exact HNOP.out HQ.out), HX3.out⟩
                case measure => simp [intOf]; omega
              · have HY := Lib.hid (HYES.out HNOT.out HQ.out)
                obtain ⟨r, hr⟩ : ∃ r, Tp.firstN (Tp.canP teeth) teeth m [⟨ta, tb⟩] ⟨(xn : Int), (yn : Int)⟩ = r := ⟨_, rfl⟩
                have HY2 : Hid (Tp.tryP (Tp.canP teeth) teeth m [] ⟨x0, y0⟩ ⟨ta, tb⟩ = r) := Lib.hid (by rw [← hr]; exact HY.out)
                have hbb : (xn : Int) ≤ 1000 * 16 ^ ([⟨ta, tb⟩] : List Ec.Pair).length ∧ (yn : Int) ≤ 1000 * 16 ^ ([⟨ta, tb⟩] : List Ec.Pair).length := by have := HBX.out; simp only [List.length_nil, List.length_cons] at this ⊢; omega
                have HSR := Lib.hid (fun An' cn' W h1 (he : Ext W0 W) => HIH.out [⟨ta, tb⟩] (xn : Int) (yn : Int) An' cn' W (by simp only [List.length_cons, List.length_nil]; omega) (fun h => (by simp at h)) h1 ⟨by omega, hbb.1⟩ ⟨by omega, hbb.2⟩ (HIN.out.ext he))
                rw [hr] at HSR
                clear hr HY
                cases r with
                | none =>
                  have cS := (HIN.out.ext HX3.out).self.cell
                  have cP := HRP3.out.cell
                  have cR := HRR3.out.cell
                  have hsg := (HIN.out.ext HX3.out).self.lt
                  have hsp := HRP3.out.lt
                  have hsr := HRR3.out.lt
                  obtain ⟨i0, hi0, hi1, hi2, hi3⟩ := info_parts Tp.info_pair
                  go_wp2_with fail
                  refine Tp.wp_named (fun a0 ha0 => ?_)
                  refine Code.wp_mono (Q := fun e a' w' => e = .normal ∧ (∃ z80 z81 z82 z83 z84 z85 z86 z87 : Value, a' = ((((((((a0.put (some 80) z80).put (some 81) z81).put (some 82) z82).put (some 83) z83).put (some 84) z84).put (some 85) z85).put (some 86) z86).put (some 87) z87).put (some 14) (.slice none 0 0)) ∧ Ext w3 w') ?hq ?hr
                  case hr =>
                    subst ha0
                    go_region_held3 (fun w' => w'.cell? ⟨gs, 0, none⟩ = some (.func (.func 195) #[] #[.pointer (some ⟨gp, 0, none⟩), .pointer (some ⟨gw, 0, none⟩), .pointer (some ⟨gs, 0, none⟩)]) ∧ w'.cell? ⟨bP, 0, none⟩ = some (.int .i64 ta) ∧ w'.cell? ⟨bP, 1, none⟩ = some (.int .i64 tb) ∧ w'.cell? ⟨bR, 0, none⟩ = some (.int .i64 (xn : Int)) ∧ w'.cell? ⟨bR, 1, none⟩ = some (.int .i64 (yn : Int)))
                      (first | exact ⟨kk1, kk2, kk3, kk4, kk5⟩ | (go_keep; done) | (go_split_ands; refine ⟨hEc.cell ?_, hEc.cell ?_, hEc.cell ?_, hEc.cell ?_, hEc.cell ?_⟩ <;> assumption) | (go_split_ands; refine ⟨hEe.cell ?_, hEe.cell ?_, hEe.cell ?_, hEe.cell ?_, hEe.cell ?_⟩ <;> assumption) | (go_split_ands; refine ⟨(hgrow.cell_far _ ?_ ?_).trans ?_, (hgrow.cell_far _ ?_ ?_).trans ?_, (hgrow.cell_far _ ?_ ?_).trans ?_, (hgrow.cell_far _ ?_ ?_).trans ?_, (hgrow.cell_far _ ?_ ?_).trans ?_⟩ <;> first | assumption | exact hfarS | exact hfarP | exact hfarR | exact hneS | exact hneP | exact hneR))
                      (first
                        | ((go_at_call 197; refine (s_Clone_nil _).mono ?_; rintro e wc ⟨rfl, hEc⟩; have hEW : Ext w3 wc := Ext.trans (by first | exact ((Ext.refl w3).alloc _).drew | exact (Ext.refl w3).drew) hEc; have hown0 : wc.ownsRow w3.heap.size 125 2 (.slice none 0 0) 0 [] := by simp [World.ownsRow]))
                        | ((refine step_append_lies _ (by rfl) (Operand.tmp 82) (Operand.tmp 84) _ (by rfl) w3.heap.size 125 i0 _ 2 16 Tryz.underlying78 hi0 hi1 hi2 hi3 rfl (by omega) (.slice none 0 0) 0 [] (by rfl) (by first | exact hown0 | exact hown0.alloc _) _ 1 1 [.int .i64 ta, .int .i64 tb] (by rfl) (by rfl) (World.news_of_block (cs := #[.int .i64 ta, .int .i64 tb]) (t := 125) (fr := (0, 0)) (by first | exact news1 rfl | exact (hEc.block _ (by simp)).trans (news1d (by simp)) | exact (hEc.block _ (by simp)).trans (news1 (by simp)))) (by simp [Value.oneCell']) (by omega) (by unfold maxLen; omega) (by omega) (by have := hEW.size; first | exact this | (simp; omega)) _ (by rfl) ?_; intro g2 cap2 wd hown2 hgrow hat2 hlt2; have hEV : Ext w3 wd := Ext.grown (by first | exact hEW | exact hEW.alloc _) hgrow (fun g hg => ((show World.ownsRow wc w3.heap.size 125 2 (.slice none 0 0) 0 [] from hown0).lt g hg).1); have rr1 := Tp.grown_far ((HIN.out.ext HX3.out).self.ext (by first | exact hEW | exact hEW.alloc _)) hgrow (Tp.own_ne hown0 hsg); have rr2 := Tp.grown_far (HRP3.out.ext (by first | exact hEW | exact hEW.alloc _)) hgrow (Tp.own_ne hown0 hsp); have rr3 := Tp.grown_far (HRR3.out.ext (by first | exact hEW | exact hEW.alloc _)) hgrow (Tp.own_ne hown0 hsr); have kk1 := rr1.cell 0; have kk2 := rr2.cell 0; have kk3 := rr2.cell 1; have kk4 := rr3.cell 0; have kk5 := rr3.cell 1; clear rr1 rr2 rr3))
                        | ((go_at_call 195; refine (HSR.out (some ⟨g2, 0, none⟩) cap2 _ (by obtain ⟨A9, c9, he9, hp9⟩ := Tp.pairs_own (t := 125) (l := [⟨ta, tb⟩]) (base := w3.heap.size) hown2; cases he9; exact hp9) (HX3.out.trans hEV)).mono ?_; rintro e we ⟨_, hnn, hEe⟩; obtain rfl := hnn rfl)))
                    all_goals
                      exact ⟨rfl, ⟨_, _, _, _, _, _, _, _, rfl⟩, hEV.trans hEe⟩
                  case hq =>
                    rintro e a' w7 ⟨rfl, ⟨z80, z81, z82, z83, z84, z85, z86, z87, rfl⟩, hE7⟩
                    subst ha0
                    simp only [Act.put, List.setIfInBounds_toArray, List.set_cons_succ, List.set_cons_zero]
                    have hne1 := Tp.neq_nil
                    have hne2 := Tp.neq_some
                    clear cS cP cR
                    go_wp2_with fail
                    go_roundw
                    case rel => exact ⟨jb + 1, by omega, by go_num, Tp.noneTo_succ HNB.out hlb (by rw [HTB.out]; exact HY2.out), HX3.out.trans hE7⟩
                    case measure => simp [intOf]; omega
                | some l =>
                  have cS := (HIN.out.ext HX3.out).self.cell
                  have cP := HRP3.out.cell
                  have cR := HRR3.out.cell
                  have hsg := (HIN.out.ext HX3.out).self.lt
                  have hsp := HRP3.out.lt
                  have hsr := HRR3.out.lt
                  obtain ⟨i0, hi0, hi1, hi2, hi3⟩ := info_parts Tp.info_pair
                  go_wp2_with fail
                  refine Tp.wp_named (fun a0 ha0 => ?_)
                  refine Code.wp_mono (Q := fun e a' w' => e = .normal ∧ ∃ rb ro rc, (∃ z80 z81 z82 z83 z84 z85 z86 z87 : Value, a' = ((((((((a0.put (some 80) z80).put (some 81) z81).put (some 82) z82).put (some 83) z83).put (some 84) z84).put (some 85) z85).put (some 86) z86).put (some 87) z87).put (some 14) (.slice (some ⟨rb, ro, none⟩) l.length rc)) ∧ Pairs w' (some ⟨rb, ro, none⟩) l ∧ Ext w3 w') ?hq ?hr
                  case hr =>
                    subst ha0
                    go_region_held3 (fun w' => w'.cell? ⟨gs, 0, none⟩ = some (.func (.func 195) #[] #[.pointer (some ⟨gp, 0, none⟩), .pointer (some ⟨gw, 0, none⟩), .pointer (some ⟨gs, 0, none⟩)]) ∧ w'.cell? ⟨bP, 0, none⟩ = some (.int .i64 ta) ∧ w'.cell? ⟨bP, 1, none⟩ = some (.int .i64 tb) ∧ w'.cell? ⟨bR, 0, none⟩ = some (.int .i64 (xn : Int)) ∧ w'.cell? ⟨bR, 1, none⟩ = some (.int .i64 (yn : Int)))
                      (first | exact ⟨kk1, kk2, kk3, kk4, kk5⟩ | (go_keep; done) | (go_split_ands; refine ⟨hEc.cell ?_, hEc.cell ?_, hEc.cell ?_, hEc.cell ?_, hEc.cell ?_⟩ <;> assumption) | (go_split_ands; refine ⟨hEe.cell ?_, hEe.cell ?_, hEe.cell ?_, hEe.cell ?_, hEe.cell ?_⟩ <;> assumption) | (go_split_ands; refine ⟨(hgrow.cell_far _ ?_ ?_).trans ?_, (hgrow.cell_far _ ?_ ?_).trans ?_, (hgrow.cell_far _ ?_ ?_).trans ?_, (hgrow.cell_far _ ?_ ?_).trans ?_, (hgrow.cell_far _ ?_ ?_).trans ?_⟩ <;> first | assumption | exact hfarS | exact hfarP | exact hfarR | exact hneS | exact hneP | exact hneR))
                      (first
                        | ((go_at_call 197; refine (s_Clone_nil _).mono ?_; rintro e wc ⟨rfl, hEc⟩; have hEW : Ext w3 wc := Ext.trans (by first | exact ((Ext.refl w3).alloc _).drew | exact (Ext.refl w3).drew) hEc; have hown0 : wc.ownsRow w3.heap.size 125 2 (.slice none 0 0) 0 [] := by simp [World.ownsRow]))
                        | ((refine step_append_lies _ (by rfl) (Operand.tmp 82) (Operand.tmp 84) _ (by rfl) w3.heap.size 125 i0 _ 2 16 Tryz.underlying78 hi0 hi1 hi2 hi3 rfl (by omega) (.slice none 0 0) 0 [] (by rfl) (by first | exact hown0 | exact hown0.alloc _) _ 1 1 [.int .i64 ta, .int .i64 tb] (by rfl) (by rfl) (World.news_of_block (cs := #[.int .i64 ta, .int .i64 tb]) (t := 125) (fr := (0, 0)) (by first | exact news1 rfl | exact (hEc.block _ (by simp)).trans (news1d (by simp)) | exact (hEc.block _ (by simp)).trans (news1 (by simp)))) (by simp [Value.oneCell']) (by omega) (by unfold maxLen; omega) (by omega) (by have := hEW.size; first | exact this | (simp; omega)) _ (by rfl) ?_; intro g2 cap2 wd hown2 hgrow hat2 hlt2; have hEV : Ext w3 wd := Ext.grown (by first | exact hEW | exact hEW.alloc _) hgrow (fun g hg => ((show World.ownsRow wc w3.heap.size 125 2 (.slice none 0 0) 0 [] from hown0).lt g hg).1); have rr1 := Tp.grown_far ((HIN.out.ext HX3.out).self.ext (by first | exact hEW | exact hEW.alloc _)) hgrow (Tp.own_ne hown0 hsg); have rr2 := Tp.grown_far (HRP3.out.ext (by first | exact hEW | exact hEW.alloc _)) hgrow (Tp.own_ne hown0 hsp); have rr3 := Tp.grown_far (HRR3.out.ext (by first | exact hEW | exact hEW.alloc _)) hgrow (Tp.own_ne hown0 hsr); have kk1 := rr1.cell 0; have kk2 := rr2.cell 0; have kk3 := rr2.cell 1; have kk4 := rr3.cell 0; have kk5 := rr3.cell 1; clear rr1 rr2 rr3))
                        | ((go_at_call 195; refine (HSR.out (some ⟨g2, 0, none⟩) cap2 _ (by obtain ⟨A9, c9, he9, hp9⟩ := Tp.pairs_own (t := 125) (l := [⟨ta, tb⟩]) (base := w3.heap.size) hown2; cases he9; exact hp9) (HX3.out.trans hEV)).mono ?_; rintro e we ⟨hss, _, hEe⟩; obtain ⟨rb, ro, rc, rfl, hpr⟩ := hss l rfl)))
                    all_goals
                      exact ⟨rfl, rb, ro, rc, ⟨_, _, _, _, _, _, _, _, rfl⟩, hpr, hEV.trans hEe⟩
                  case hq =>
                    rintro e a' w7 ⟨rfl, rb, ro, rc, ⟨z80, z81, z82, z83, z84, z85, z86, z87, rfl⟩, hpr, hE7⟩
                    subst ha0
                    simp only [Act.put, List.setIfInBounds_toArray, List.set_cons_succ, List.set_cons_zero]
                    have hne1 := Tp.neq_nil
                    have hne2 := Tp.neq_some
                    clear cS cP cR
                    have HRL : Hid (R = some l) := Lib.hid (HSOME.out ia l HNO.out hlt (by rw [HTA.out]; exact HSOMB.out ta jb l HNB.out hlb (by rw [HTB.out]; exact HY2.out)))
                    have HPR9 := Lib.hid hpr
                    clear hpr
                    go_wp2_with fail
                    try dsimp only [Exit.noGoto]
                    go_ret
                    exact ⟨fun l9 h => (by rw [HRL.out] at h; cases h; exact ⟨rb, ro, rc, rfl, HPR9.out⟩), fun h => (by rw [HRL.out] at h; cases h), HX0.out.trans (HX3.out.trans hE7)⟩
            · obtain rfl : jb = teeth.length := by omega
              have hlb2 : ¬ ((teeth.length : Int) < (teeth.length : Int)) := by omega
              clear hno hX
              go_wp2_with fail
              go_roundw
              case rel => exact ⟨ia + 1, by omega, by go_num, Tp.noneTo_succ HNO.out hlt (by rw [HTA.out]; exact Tp.noneTo_all HNB.out (Nat.le_refl _)), HXB.out⟩
              case measure => simp [intOf]; omega
        · obtain rfl : ia = teeth.length := by omega
          have hlb2 : ¬ ((teeth.length : Int) < (teeth.length : Int)) := by omega
          have HRN : Hid (R = none) := Lib.hid (by rw [← HRR.out]; exact Tp.noneTo_all hno (Nat.le_refl _))
          clear hno hX
          go_wp2_with fail
          try dsimp only [Exit.noGoto]
          go_ret
          exact ⟨fun l h => (by rw [HRN.out] at h; cases h), fun _ => rfl, HX0.out.trans HX.out⟩
    · obtain ⟨⟨la, lb⟩, rfl⟩ : ∃ q, now = [q] := List.length_eq_one_iff.1 hz
      obtain ⟨b0, o0, rfl, hcl0⟩ := hm (by simp)
      have HCL := Lib.hid hcl0
      clear hcl0
      simp only [List.length_nil, List.length_cons, Nat.zero_add] at hx hy hnP ⊢
      have hpw : (1000 : Int) * 16 ^ 1 ≤ 16000 := by decide
      have HBX := Lib.hid (show (1000 : Int) * 16 ^ 1 * 16 = 1000 * 16 ^ (1 + 1) by decide)
      obtain ⟨pw, hpw2⟩ : ∃ pw : Int, 1000 * 16 ^ 1 = pw := ⟨_, rfl⟩
      rw [hpw2] at hx hy hpw HBX
      have hbe : ((1 : Int) == (P : Int)) = false := by rw [beq_eq_false_iff_ne]; omega
      rw [Tp.firstN_rows]
      have HSOME := Lib.hid (fun i x h1 h2 h3 => Tp.someAt (f := Tp.tryA (Tp.canP teeth) teeth m [(⟨la, lb⟩ : Ec.Pair)] ⟨x0, y0⟩) (l := teeth) (n := i) (x := x) h1 h2 h3)
      have HSOMB := Lib.hid (fun aa i x h1 h2 h3 => Tp.someAt (f := fun bb => Tp.tryP (Tp.canP teeth) teeth m [(⟨la, lb⟩ : Ec.Pair)] ⟨x0, y0⟩ ⟨aa, bb⟩) (l := teeth) (n := i) (x := x) h1 h2 h3)
      obtain ⟨R, hR⟩ : ∃ R, teeth.findSome? (Tp.tryA (Tp.canP teeth) teeth m [(⟨la, lb⟩ : Ec.Pair)] ⟨x0, y0⟩) = R := ⟨_, rfl⟩
      rw [hR] at HSOME ⊢
      have HRR := Lib.hid hR
      clear hR hpw2 ih
      have hin2 := hin.ext ((Ext.refl w).alloc (.cells #[.int .i64 x0, .int .i64 y0] 69))
      have HIN := Lib.hid hin2
      have HPR := Lib.hid (hm.ext ((Ext.refl w).alloc (.cells #[.int .i64 x0, .int .i64 y0] 69)))
      have HBOX := Lib.hid (Row.new w 69 #[.int .i64 x0, .int .i64 y0])
      have HX0 := Lib.hid ((Ext.refl w).alloc (.cells #[.int .i64 x0, .int .i64 y0] 69))
      have c1 := hin2.pairs.cell
      have c2 := hin2.wheels.cell
      clear hm hin hin2
      go_enter Tryz.func195, Tryz.ntmps195
      go_wp2_with fail
      go_step3
      go_wp2_with fail
      go_step3
      go_wp2_with fail
      obtain ⟨W0, hW0⟩ : ∃ W, w.alloc (.cells #[.int .i64 x0, .int .i64 y0] 69) = W := ⟨_, rfl⟩
      rw [hW0] at HIN HPR HBOX HX0 ⊢
      obtain ⟨bL, hbL⟩ : ∃ bL, w.heap.size = bL := ⟨_, rfl⟩
      rw [hbL] at HBOX ⊢
      clear hW0 hbL c1 c2
      go_loopw [24] (fun i wr => ∃ ia : Nat, ia ≤ teeth.length ∧ i = .int .i64 (ia : Int) ∧ Tp.noneTo (Tp.tryA (Tp.canP teeth) teeth m [(⟨la, lb⟩ : Ec.Pair)] ⟨x0, y0⟩) teeth ia ∧ Ext W0 wr) (fun i _ => teeth.length - (intOf i).toNat)
      case atStart => exact ⟨0, Nat.zero_le _, rfl, Tp.noneTo_zero _ _, Ext.refl _⟩
      case round =>
        obtain ⟨ia, hia, rfl, hno, hX⟩ := hrel
        have HNO := Lib.hid hno
        have HX := Lib.hid hX
        by_cases hlt : ia < teeth.length
        · have hlt' : (ia : Int) < (teeth.length : Int) := by omega
          obtain ⟨bt, ot, rfl, hct⟩ := (HIN.out.wheelT.ext hX) (by omega)
          have HCT := Lib.hid hct
          have q0 := hct ia hlt
          have hta := HT.out ia hlt
          obtain ⟨ta, hta2⟩ : ∃ t, rd teeth ia = t := ⟨_, rfl⟩
          have HTA := Lib.hid hta2
          rw [hta2] at q0 hta
          have c2 := (HIN.out.ext hX).wheels.cell
          clear hno hX hct hta2
          go_wp2_with fail
          clear c2 q0
          obtain ⟨wo, hwo⟩ : ∃ wo : World, wo = wr := ⟨_, rfl⟩
          subst hwo
          go_loopw [32] (fun i wr => ∃ jb : Nat, jb ≤ teeth.length ∧ i = .int .i64 (jb : Int) ∧ Tp.noneTo (fun bb => Tp.tryP (Tp.canP teeth) teeth m [(⟨la, lb⟩ : Ec.Pair)] ⟨x0, y0⟩ ⟨ta, bb⟩) teeth jb ∧ Ext W0 wr) (fun i _ => teeth.length - (intOf i).toNat)
          case atStart => exact ⟨0, Nat.zero_le _, rfl, Tp.noneTo_zero _ _, HX.out⟩
          case round =>
            obtain ⟨jb, hjb, rfl, hno, hX⟩ := hrel
            have HNB := Lib.hid hno
            have HXB := Lib.hid hX
            by_cases hlb : jb < teeth.length
            · have hlb' : (jb : Int) < (teeth.length : Int) := by omega
              have q1 := (HIN.out.wheelT.ext hX) (by omega)
              obtain ⟨bt2, ot2, e2, hct⟩ := q1
              cases e2
              have q0 := hct jb hlb
              have htb := HT.out jb hlb
              obtain ⟨tb, htb2⟩ : ∃ t, rd teeth jb = t := ⟨_, rfl⟩
              have HTB := Lib.hid htb2
              rw [htb2] at q0 htb
              clear hno hX hct htb2
              go_wp2_with fail
              clear q0
              obtain ⟨Wp, hWp⟩ : ∃ W, wr.alloc (.cells #[.int .i64 ta, .int .i64 tb] 125) = W := ⟨_, rfl⟩
              obtain ⟨bP, hbP⟩ : ∃ bP, wr.heap.size = bP := ⟨_, rfl⟩
              have HRP := Lib.hid (Row.new wr 125 #[.int .i64 ta, .int .i64 tb])
              have HXP := Lib.hid (HXB.out.alloc (.cells #[.int .i64 ta, .int .i64 tb] 125))
              rw [hWp] at HRP HXP ⊢
              rw [hbP] at HRP ⊢
              clear hWp hbP
              have hm1 := mul_bounds0 (a := x0) (b := tb) (A := pw) (B := 16) (by omega) hx.2 (by omega) htb.2
              have hm2 := mul_bounds0 (a := y0) (b := ta) (A := pw) (B := 16) (by omega) hy.2 (by omega) hta.2
              have hm3 : 1 * 1 ≤ x0 * tb := Int.mul_le_mul hx.1 htb.1 (by omega) (by omega)
              have hm4 : 1 * 1 ≤ y0 * ta := Int.mul_le_mul hy.1 hta.1 (by omega) (by omega)
              have HRD := Lib.hid (fun W => t_reduced_any (x0 * tb) (y0 * ta) W (by omega) (by omega) (by omega) (by omega))
              rw [show (x0 * tb / (Int.gcd (x0 * tb) (y0 * ta) : Int)) = (Tp.red (x0 * tb) (y0 * ta)).drives from rfl, show (y0 * ta / (Int.gcd (x0 * tb) (y0 * ta) : Int)) = (Tp.red (x0 * tb) (y0 * ta)).driven from rfl] at HRD
              have hrl : (1 ≤ (Tp.red (x0 * tb) (y0 * ta)).drives ∧ (Tp.red (x0 * tb) (y0 * ta)).drives ≤ pw * 16) ∧ (1 ≤ (Tp.red (x0 * tb) (y0 * ta)).driven ∧ (Tp.red (x0 * tb) (y0 * ta)).driven ≤ pw * 16) := by
                have hg : 0 < Int.gcd (x0 * tb) (y0 * ta) := Int.gcd_pos_of_ne_zero_left _ (by omega)
                exact ⟨Tp.quot_lim2 (by omega) hm1.2 (by omega) (Int.gcd_dvd_left ..), Tp.quot_lim2 (by omega) hm2.2 (by omega) (Int.gcd_dvd_right ..)⟩
              have hv1 : 1 ≤ x0 * tb ∧ x0 * tb ≤ 256000 := by omega
              have hv2 : 1 ≤ y0 * ta ∧ y0 * ta ≤ 256000 := by omega
              clear hm1 hm2 hm3 hm4
              obtain ⟨⟨x1, y1⟩, hXX⟩ : ∃ X, Tp.red (x0 * tb) (y0 * ta) = X := ⟨_, rfl⟩
              rw [hXX] at HRD hrl
              simp only at HRD hrl
              obtain ⟨xn, rfl⟩ : ∃ n : Nat, x1 = (n : Int) := ⟨x1.toNat, by omega⟩
              obtain ⟨yn, rfl⟩ : ∃ n : Nat, y1 = (n : Int) := ⟨y1.toNat, by omega⟩
              have HXX := Lib.hid hXX
              have hmP : m < P := by omega
              obtain ⟨hmn, Am, cm2, hrowm, hbm⟩ := HIN.out.marks m hmP
              have h60 : 60 ^ m + 1 ≤ 3601 := by
                rcases (show m = 0 ∨ m = 1 by omega) with rfl | rfl <;> decide
              have HCAN := Lib.hid (fun W (he : Ext W0 W) => t_can_any a b p s (.slice Av nv cv) (.slice (some ⟨bt, ot, none⟩) teeth.length ct) (.slice As ns cs) bm om nm cm m xn yn Am (60 ^ m + 1) cm2 (Tp.mark teeth m) W hmn hnm (he.cell hrowm) (hbm.ext he) (by omega) (by omega) (by omega))
              have hmi : (m : Int) = (P : Int) - (1 : Int) - 1 := by omega
              rw [hmi] at HCAN
              have hcp : Tp.can (Tp.mark teeth m) (60 ^ m + 1) xn yn = Tp.canP teeth m ⟨(xn : Int), (yn : Int)⟩ := rfl
              rw [hcp] at HCAN
              obtain ⟨q, hq⟩ : ∃ q, Tp.canP teeth m ⟨(xn : Int), (yn : Int)⟩ = q := ⟨_, rfl⟩
              have HQ := Lib.hid hq
              rw [hq] at HCAN
              have HNOP := Lib.hid (fun h => Tp.tryP_no (can := Tp.canP teeth) (teeth := teeth) (m := m) (now := [(⟨la, lb⟩ : Ec.Pair)]) (lft := ⟨x0, y0⟩) (p := ⟨ta, tb⟩) (x := ⟨(xn : Int), (yn : Int)⟩) hXX h)
              have HYES := Lib.hid (fun h0 h => Tp.tryP_yes (can := Tp.canP teeth) (teeth := teeth) (m := m) (now := [(⟨la, lb⟩ : Ec.Pair)]) (lft := ⟨x0, y0⟩) (p := ⟨ta, tb⟩) (x := ⟨(xn : Int), (yn : Int)⟩) hXX h0 h)
              clear hq hcp hmi hrowm hbm hXX
              obtain ⟨b9, o9, e9, hcl⟩ := HPR.out (by simp)
              cases e9
              have l0 := HXP.out.cell (hcl 0 (by simp)).1
              have l1 := HXP.out.cell (hcl 0 (by simp)).2
              simp only [Nat.zero_mul, Nat.add_zero, show pd [(⟨la, lb⟩ : Ec.Pair)] 0 = ⟨la, lb⟩ from rfl] at l0 l1
              have HL0 := Lib.hid l0
              have HORD := Lib.hid (fun W => t_inOrder_any ta tb la lb W)
              obtain ⟨oo, hoo2⟩ : ∃ oo, Tp.ord ⟨ta, tb⟩ ⟨la, lb⟩ = oo := ⟨_, rfl⟩
              rw [hoo2] at HORD
              have HOO := Lib.hid hoo2
              clear hcl hoo2
              go_wp2_with fail
              refine wp_region_later (by kernel_rfl) (by kernel_rfl) (fun Wz hWz => ?_)
              have q1 := Later.block (w := Wz) (by rw [hWz]; exact HRP.out)
              have q2 : ∀ x : Later Wz, x.world.cell? ⟨b0, o0, none⟩ = some (.int .i64 la) := fun x => x.ext.cell (by rw [hWz]; exact l0)
              have q3 : ∀ x : Later Wz, x.world.cell? ⟨b0, o0 + 1, none⟩ = some (.int .i64 lb) := fun x => x.ext.cell (by rw [hWz]; exact l1)
              repeat (go_big_quiet_step ((go_at_call 161; exact Later.call (HORD.out _))))
              refine wpQuiet_nil ?_
              rintro ⟨W1, hE1⟩
              subst hWz
              dsimp only
              clear q1 q2 q3 l1
              by_cases hoo : oo < 0
              · have l2 := hE1.cell l0
                clear l0
                have HX1 := Lib.hid (HXP.out.trans hE1)
                by_cases hla : ta < la
                · go_wp2_with fail
                  go_roundw
                  case rel => exact ⟨ia + 1, by omega, by go_num, Tp.noneTo_succ HNO.out hlt (by rw [HTA.out]; exact Tp.tryA_less (by simp) (fun b => Tp.ord_less hla)), HX1.out⟩
                  case measure => simp [intOf]; omega
                · go_wp2_with fail
                  go_roundw
                  case rel => exact ⟨jb + 1, by omega, by go_num, Tp.noneTo_succ HNB.out hlb (by rw [HTB.out]; exact Tp.tryP_less (by simp) (by rw [← HOO.out] at hoo; exact hoo)), HX1.out⟩
                  case measure => simp [intOf]; omega
              · have HNOT : Hid (¬ (([⟨la, lb⟩] : List Ec.Pair).length ≠ 0 ∧ Tp.ord ⟨ta, tb⟩ (pd [⟨la, lb⟩] (([⟨la, lb⟩] : List Ec.Pair).length - 1)) < 0)) := Lib.hid (fun h => hoo (by rw [← HOO.out]; exact h.2))
                clear l0
                have HX1 := Lib.hid (HXP.out.trans hE1)
                have HRP1 := Lib.hid (HRP.out.ext hE1)
                have cL := (HBOX.out.ext HX1.out).cell
                clear hE1
                go_wp2_with fail
                refine (HRD.out _).mono ?_
                rintro e w2 ⟨rfl, hE2⟩
                have HX2 := Lib.hid ((HX1.out.trans hE2).alloc (.cells #[.int .i64 (xn : Int), .int .i64 (yn : Int)] 69))
                have HRP2 := Lib.hid ((HRP1.out.ext hE2).ext ((Ext.refl _).alloc (.cells #[.int .i64 (xn : Int), .int .i64 (yn : Int)] 69)))
                have HRR2 := Lib.hid (Row.new w2 69 #[.int .i64 (xn : Int), .int .i64 (yn : Int)])
                have c2 := (HIN.out.ext HX2.out).wheels.cell
                have c3 := (HIN.out.ext HX2.out).pairs.cell
                have c4 := HRR2.out.cell
                clear hE2 cL
                go_wp2_with fail
                refine (HCAN.out _ HX2.out).mono ?_
                rintro e w3 ⟨rfl, hE3⟩
                obtain ⟨bR, hbR⟩ : ∃ bR, w2.heap.size = bR := ⟨_, rfl⟩
                rw [hbR] at HRR2 ⊢
                have HX3 := Lib.hid (HX2.out.trans hE3)
                have HRP3 := Lib.hid (HRP2.out.ext hE3)
                have HRR3 := Lib.hid (HRR2.out.ext hE3)
                clear c2 c3 c4 hbR hE3
                dsimp only
                cases q
                · go_wp2_with fail
                  go_roundw
                  case rel => exact ⟨jb + 1, by omega, by go_num, Tp.noneTo_succ HNB.out hlb (by rw [HTB.out]; exact HNOP.out HQ.out), HX3.out⟩
                  case measure => simp [intOf]; omega
                · have HY := Lib.hid (HYES.out HNOT.out HQ.out)
                  obtain ⟨r, hr⟩ : ∃ r, Tp.firstN (Tp.canP teeth) teeth m [⟨la, lb⟩, ⟨ta, tb⟩] ⟨(xn : Int), (yn : Int)⟩ = r := ⟨_, rfl⟩
                  have HY2 : Hid (Tp.tryP (Tp.canP teeth) teeth m [⟨la, lb⟩] ⟨x0, y0⟩ ⟨ta, tb⟩ = r) := Lib.hid (by rw [← hr]; exact HY.out)
                  have hbb : (xn : Int) ≤ 1000 * 16 ^ ([⟨la, lb⟩, ⟨ta, tb⟩] : List Ec.Pair).length ∧ (yn : Int) ≤ 1000 * 16 ^ ([⟨la, lb⟩, ⟨ta, tb⟩] : List Ec.Pair).length := by have := HBX.out; simp only [List.length_nil, List.length_cons] at this ⊢; omega
                  have HSR := Lib.hid (fun An' cn' W h1 (he : Ext W0 W) => HIH.out [⟨la, lb⟩, ⟨ta, tb⟩] (xn : Int) (yn : Int) An' cn' W (by simp only [List.length_cons, List.length_nil]; omega) (fun h => (by simp at h)) h1 ⟨by omega, hbb.1⟩ ⟨by omega, hbb.2⟩ (HIN.out.ext he))
                  rw [hr] at HSR
                  clear hr HY
                  cases r with
                  | none =>
                    have cS := (HIN.out.ext HX3.out).self.cell
                    have cP := HRP3.out.cell
                    have cR := HRR3.out.cell
                    have hsg := (HIN.out.ext HX3.out).self.lt
                    have hsp := HRP3.out.lt
                    have hsr := HRR3.out.lt
                    obtain ⟨i0, hi0, hi1, hi2, hi3⟩ := info_parts Tp.info_pair
                    go_wp2_with fail
                    refine Tp.wp_named (fun a0 ha0 => ?_)
                    refine Code.wp_mono (Q := fun e a' w' => e = .normal ∧ (∃ z80 z81 z82 z83 z84 z85 z86 z87 : Value, a' = ((((((((a0.put (some 80) z80).put (some 81) z81).put (some 82) z82).put (some 83) z83).put (some 84) z84).put (some 85) z85).put (some 86) z86).put (some 87) z87).put (some 14) (.slice none 0 0)) ∧ Ext w3 w') ?hq ?hr
                    case hr =>
                      subst ha0
                      go_region_held3 (fun w' => w'.cell? ⟨gs, 0, none⟩ = some (.func (.func 195) #[] #[.pointer (some ⟨gp, 0, none⟩), .pointer (some ⟨gw, 0, none⟩), .pointer (some ⟨gs, 0, none⟩)]) ∧ w'.cell? ⟨bP, 0, none⟩ = some (.int .i64 ta) ∧ w'.cell? ⟨bP, 1, none⟩ = some (.int .i64 tb) ∧ w'.cell? ⟨bR, 0, none⟩ = some (.int .i64 (xn : Int)) ∧ w'.cell? ⟨bR, 1, none⟩ = some (.int .i64 (yn : Int)))
                        (first | exact ⟨kk1, kk2, kk3, kk4, kk5⟩ | (go_keep; done) | (go_split_ands; refine ⟨hEc.cell ?_, hEc.cell ?_, hEc.cell ?_, hEc.cell ?_, hEc.cell ?_⟩ <;> assumption) | (go_split_ands; refine ⟨hEe.cell ?_, hEe.cell ?_, hEe.cell ?_, hEe.cell ?_, hEe.cell ?_⟩ <;> assumption) | (go_split_ands; refine ⟨(hgrow.cell_far _ ?_ ?_).trans ?_, (hgrow.cell_far _ ?_ ?_).trans ?_, (hgrow.cell_far _ ?_ ?_).trans ?_, (hgrow.cell_far _ ?_ ?_).trans ?_, (hgrow.cell_far _ ?_ ?_).trans ?_⟩ <;> first | assumption | exact hfarS | exact hfarP | exact hfarR | exact hneS | exact hneP | exact hneR))
                        (first
                          | ((go_at_call 197; refine (s_Clone_any b0 o0 _ _ [⟨la, lb⟩] _ ((HPR.out.ext HX3.out).ext (by first | exact ((Ext.refl w3).alloc _).drew | exact (Ext.refl w3).drew)) (by simp) (by simp) rfl).mono ?_; rintro e wc ⟨gc, capc, rfl, hownc, hEc⟩; have hEW : Ext w3 wc := Ext.trans (by first | exact ((Ext.refl w3).alloc _).drew | exact (Ext.refl w3).drew) hEc; have hown0 : wc.ownsRow w3.heap.size 125 2 (.slice (some ⟨gc, 0, none⟩) 1 capc) 1 (Tp.pc [⟨la, lb⟩]) := Tp.own_mono hownc (Ext.size (by first | exact ((Ext.refl w3).alloc _).drew | exact (Ext.refl w3).drew))))
                          | ((refine step_append_lies _ (by rfl) (Operand.tmp 82) (Operand.tmp 84) _ (by rfl) w3.heap.size 125 i0 _ 2 16 Tryz.underlying78 hi0 hi1 hi2 hi3 rfl (by omega) (.slice (some ⟨gc, 0, none⟩) 1 capc) 1 (Tp.pc [⟨la, lb⟩]) (by rfl) (by first | exact hown0 | exact hown0.alloc _) _ 1 1 [.int .i64 ta, .int .i64 tb] (by rfl) (by rfl) (World.news_of_block (cs := #[.int .i64 ta, .int .i64 tb]) (t := 125) (fr := (0, 0)) (by first | exact news1 rfl | exact (hEc.block _ (by simp)).trans (news1d (by simp)) | exact (hEc.block _ (by simp)).trans (news1 (by simp)))) (by simp [Value.oneCell']) (by omega) (by unfold maxLen; omega) (by omega) (by have := hEW.size; first | exact this | (simp; omega)) _ (by rfl) ?_; intro g2 cap2 wd hown2 hgrow hat2 hlt2; have hEV : Ext w3 wd := Ext.grown (by first | exact hEW | exact hEW.alloc _) hgrow (fun g hg => ((show World.ownsRow wc w3.heap.size 125 2 (.slice (some ⟨gc, 0, none⟩) 1 capc) 1 (Tp.pc [⟨la, lb⟩]) from hown0).lt g hg).1); have rr1 := Tp.grown_far ((HIN.out.ext HX3.out).self.ext (by first | exact hEW | exact hEW.alloc _)) hgrow (Tp.own_ne hown0 hsg); have rr2 := Tp.grown_far (HRP3.out.ext (by first | exact hEW | exact hEW.alloc _)) hgrow (Tp.own_ne hown0 hsp); have rr3 := Tp.grown_far (HRR3.out.ext (by first | exact hEW | exact hEW.alloc _)) hgrow (Tp.own_ne hown0 hsr); have kk1 := rr1.cell 0; have kk2 := rr2.cell 0; have kk3 := rr2.cell 1; have kk4 := rr3.cell 0; have kk5 := rr3.cell 1; clear rr1 rr2 rr3))
                          | ((go_at_call 195; refine (HSR.out (some ⟨g2, 0, none⟩) cap2 _ (by obtain ⟨A9, c9, he9, hp9⟩ := Tp.pairs_own (t := 125) (l := [⟨la, lb⟩, ⟨ta, tb⟩]) (base := w3.heap.size) hown2; cases he9; exact hp9) (HX3.out.trans hEV)).mono ?_; rintro e we ⟨_, hnn, hEe⟩; obtain rfl := hnn rfl)))
                      all_goals
                        exact ⟨rfl, ⟨_, _, _, _, _, _, _, _, rfl⟩, hEV.trans hEe⟩
                    case hq =>
                      rintro e a' w7 ⟨rfl, ⟨z80, z81, z82, z83, z84, z85, z86, z87, rfl⟩, hE7⟩
                      subst ha0
                      simp only [Act.put, List.setIfInBounds_toArray, List.set_cons_succ, List.set_cons_zero]
                      have hne1 := Tp.neq_nil
                      have hne2 := Tp.neq_some
                      clear cS cP cR
                      go_wp2_with fail
                      go_roundw
                      case rel => exact ⟨jb + 1, by omega, by go_num, Tp.noneTo_succ HNB.out hlb (by rw [HTB.out]; exact HY2.out), HX3.out.trans hE7⟩
                      case measure => simp [intOf]; omega
                  | some l =>
                    have cS := (HIN.out.ext HX3.out).self.cell
                    have cP := HRP3.out.cell
                    have cR := HRR3.out.cell
                    have hsg := (HIN.out.ext HX3.out).self.lt
                    have hsp := HRP3.out.lt
                    have hsr := HRR3.out.lt
                    obtain ⟨i0, hi0, hi1, hi2, hi3⟩ := info_parts Tp.info_pair
                    go_wp2_with fail
                    refine Tp.wp_named (fun a0 ha0 => ?_)
                    refine Code.wp_mono (Q := fun e a' w' => e = .normal ∧ ∃ rb ro rc, (∃ z80 z81 z82 z83 z84 z85 z86 z87 : Value, a' = ((((((((a0.put (some 80) z80).put (some 81) z81).put (some 82) z82).put (some 83) z83).put (some 84) z84).put (some 85) z85).put (some 86) z86).put (some 87) z87).put (some 14) (.slice (some ⟨rb, ro, none⟩) l.length rc)) ∧ Pairs w' (some ⟨rb, ro, none⟩) l ∧ Ext w3 w') ?hq ?hr
                    case hr =>
                      subst ha0
                      go_region_held3 (fun w' => w'.cell? ⟨gs, 0, none⟩ = some (.func (.func 195) #[] #[.pointer (some ⟨gp, 0, none⟩), .pointer (some ⟨gw, 0, none⟩), .pointer (some ⟨gs, 0, none⟩)]) ∧ w'.cell? ⟨bP, 0, none⟩ = some (.int .i64 ta) ∧ w'.cell? ⟨bP, 1, none⟩ = some (.int .i64 tb) ∧ w'.cell? ⟨bR, 0, none⟩ = some (.int .i64 (xn : Int)) ∧ w'.cell? ⟨bR, 1, none⟩ = some (.int .i64 (yn : Int)))
                        (first | exact ⟨kk1, kk2, kk3, kk4, kk5⟩ | (go_keep; done) | (go_split_ands; refine ⟨hEc.cell ?_, hEc.cell ?_, hEc.cell ?_, hEc.cell ?_, hEc.cell ?_⟩ <;> assumption) | (go_split_ands; refine ⟨hEe.cell ?_, hEe.cell ?_, hEe.cell ?_, hEe.cell ?_, hEe.cell ?_⟩ <;> assumption) | (go_split_ands; refine ⟨(hgrow.cell_far _ ?_ ?_).trans ?_, (hgrow.cell_far _ ?_ ?_).trans ?_, (hgrow.cell_far _ ?_ ?_).trans ?_, (hgrow.cell_far _ ?_ ?_).trans ?_, (hgrow.cell_far _ ?_ ?_).trans ?_⟩ <;> first | assumption | exact hfarS | exact hfarP | exact hfarR | exact hneS | exact hneP | exact hneR))
                        (first
                          | ((go_at_call 197; refine (s_Clone_any b0 o0 _ _ [⟨la, lb⟩] _ ((HPR.out.ext HX3.out).ext (by first | exact ((Ext.refl w3).alloc _).drew | exact (Ext.refl w3).drew)) (by simp) (by simp) rfl).mono ?_; rintro e wc ⟨gc, capc, rfl, hownc, hEc⟩; have hEW : Ext w3 wc := Ext.trans (by first | exact ((Ext.refl w3).alloc _).drew | exact (Ext.refl w3).drew) hEc; have hown0 : wc.ownsRow w3.heap.size 125 2 (.slice (some ⟨gc, 0, none⟩) 1 capc) 1 (Tp.pc [⟨la, lb⟩]) := Tp.own_mono hownc (Ext.size (by first | exact ((Ext.refl w3).alloc _).drew | exact (Ext.refl w3).drew))))
                          | ((refine step_append_lies _ (by rfl) (Operand.tmp 82) (Operand.tmp 84) _ (by rfl) w3.heap.size 125 i0 _ 2 16 Tryz.underlying78 hi0 hi1 hi2 hi3 rfl (by omega) (.slice (some ⟨gc, 0, none⟩) 1 capc) 1 (Tp.pc [⟨la, lb⟩]) (by rfl) (by first | exact hown0 | exact hown0.alloc _) _ 1 1 [.int .i64 ta, .int .i64 tb] (by rfl) (by rfl) (World.news_of_block (cs := #[.int .i64 ta, .int .i64 tb]) (t := 125) (fr := (0, 0)) (by first | exact news1 rfl | exact (hEc.block _ (by simp)).trans (news1d (by simp)) | exact (hEc.block _ (by simp)).trans (news1 (by simp)))) (by simp [Value.oneCell']) (by omega) (by unfold maxLen; omega) (by omega) (by have := hEW.size; first | exact this | (simp; omega)) _ (by rfl) ?_; intro g2 cap2 wd hown2 hgrow hat2 hlt2; have hEV : Ext w3 wd := Ext.grown (by first | exact hEW | exact hEW.alloc _) hgrow (fun g hg => ((show World.ownsRow wc w3.heap.size 125 2 (.slice (some ⟨gc, 0, none⟩) 1 capc) 1 (Tp.pc [⟨la, lb⟩]) from hown0).lt g hg).1); have rr1 := Tp.grown_far ((HIN.out.ext HX3.out).self.ext (by first | exact hEW | exact hEW.alloc _)) hgrow (Tp.own_ne hown0 hsg); have rr2 := Tp.grown_far (HRP3.out.ext (by first | exact hEW | exact hEW.alloc _)) hgrow (Tp.own_ne hown0 hsp); have rr3 := Tp.grown_far (HRR3.out.ext (by first | exact hEW | exact hEW.alloc _)) hgrow (Tp.own_ne hown0 hsr); have kk1 := rr1.cell 0; have kk2 := rr2.cell 0; have kk3 := rr2.cell 1; have kk4 := rr3.cell 0; have kk5 := rr3.cell 1; clear rr1 rr2 rr3))
                          | ((go_at_call 195; refine (HSR.out (some ⟨g2, 0, none⟩) cap2 _ (by obtain ⟨A9, c9, he9, hp9⟩ := Tp.pairs_own (t := 125) (l := [⟨la, lb⟩, ⟨ta, tb⟩]) (base := w3.heap.size) hown2; cases he9; exact hp9) (HX3.out.trans hEV)).mono ?_; rintro e we ⟨hss, _, hEe⟩; obtain ⟨rb, ro, rc, rfl, hpr⟩ := hss l rfl)))
                      all_goals
                        exact ⟨rfl, rb, ro, rc, ⟨_, _, _, _, _, _, _, _, rfl⟩, hpr, hEV.trans hEe⟩
                    case hq =>
                      rintro e a' w7 ⟨rfl, rb, ro, rc, ⟨z80, z81, z82, z83, z84, z85, z86, z87, rfl⟩, hpr, hE7⟩
                      subst ha0
                      simp only [Act.put, List.setIfInBounds_toArray, List.set_cons_succ, List.set_cons_zero]
                      have hne1 := Tp.neq_nil
                      have hne2 := Tp.neq_some
                      clear cS cP cR
                      have HRL : Hid (R = some l) := Lib.hid (HSOME.out ia l HNO.out hlt (by rw [HTA.out]; exact HSOMB.out ta jb l HNB.out hlb (by rw [HTB.out]; exact HY2.out)))
                      have HPR9 := Lib.hid hpr
                      clear hpr
                      go_wp2_with fail
                      try dsimp only [Exit.noGoto]
                      go_ret
                      exact ⟨fun l9 h => (by rw [HRL.out] at h; cases h; exact ⟨rb, ro, rc, rfl, HPR9.out⟩), fun h => (by rw [HRL.out] at h; cases h), HX0.out.trans (HX3.out.trans hE7)⟩
            · obtain rfl : jb = teeth.length := by omega
              have hlb2 : ¬ ((teeth.length : Int) < (teeth.length : Int)) := by omega
              clear hno hX
              go_wp2_with fail
              go_roundw
              case rel => exact ⟨ia + 1, by omega, by go_num, Tp.noneTo_succ HNO.out hlt (by rw [HTA.out]; exact Tp.noneTo_all HNB.out (Nat.le_refl _)), HXB.out⟩
              case measure => simp [intOf]; omega
        · obtain rfl : ia = teeth.length := by omega
          have hlb2 : ¬ ((teeth.length : Int) < (teeth.length : Int)) := by omega
          have HRN : Hid (R = none) := Lib.hid (by rw [← HRR.out]; exact Tp.noneTo_all hno (Nat.le_refl _))
          clear hno hX
          go_wp2_with fail
          try dsimp only [Exit.noGoto]
          go_ret
          exact ⟨fun l h => (by rw [HRN.out] at h; cases h), fun _ => rfl, HX0.out.trans HX.out⟩
theorem t_first_any (a b p s : Int) (Av : Option Addr) (nv cv : Nat) (At : Option Addr) (ct : Nat) (teeth : List Int) (As : Option Addr) (ns cs bm om nm cm P : Nat) (x0 y0 : Int) (w : World) (hl : teeth.length ≤ 1000) (ht : ∀ k, k < teeth.length → 1 ≤ rd teeth k ∧ rd teeth k ≤ 16) (hnm : nm ≤ 1000) (hP : 1 ≤ P ∧ P ≤ 2) (hT : Ints w At teeth)
    (hM : ∀ j, j < P → j < nm ∧ ∃ A c, w.cell? ⟨bm, om + j, none⟩ = some (.slice A (60 ^ j + 1) c) ∧ Tp.Bits w A (60 ^ j + 1) (Tp.mark teeth j)) (hx : 1 ≤ x0 ∧ x0 ≤ 1000) (hy : 1 ≤ y0 ∧ y0 ≤ 1000) :
    Calls Tryz.prog 157 #[.agg #[.int .i64 a, .int .i64 b, .int .i64 p, .int .i64 s, .slice Av nv cv, .slice At teeth.length ct, .slice As ns cs, .slice (some ⟨bm, om, none⟩) nm cm], .int .i64 (P : Int), .agg #[.int .i64 x0, .int .i64 y0]] w (Tp.FirstPost (Tp.firstN (Tp.canP teeth) teeth P [] ⟨x0, y0⟩) w) := by
  have hmf : ∀ fn first cap w, (Instr.makeFunc fn first cap).run Tryz.prog w = .ok (.func fn first cap) w := fun _ _ _ _ => rfl
  have r0 := blocks4 w (.cells #[.int .i64 a, .int .i64 b, .int .i64 p, .int .i64 s, .slice Av nv cv, .slice At teeth.length ct, .slice As ns cs, .slice (some ⟨bm, om, none⟩) nm cm] 165) (.cells #[.int .i64 (P : Int)] 3) (.cells #[.int .i64 x0, .int .i64 y0] 69) (.cells #[.func (.func 195) #[] #[.pointer (some ⟨w.heap.size + 1, 0, none⟩), .pointer (some ⟨w.heap.size, 0, none⟩), .pointer (some ⟨w.heap.size + 1 + 1 + 1, 0, none⟩)]] 251)
  have HX : Hid (Ext w ((((w.alloc (.cells #[.int .i64 a, .int .i64 b, .int .i64 p, .int .i64 s, .slice Av nv cv, .slice At teeth.length ct, .slice As ns cs, .slice (some ⟨bm, om, none⟩) nm cm] 165)).alloc (.cells #[.int .i64 (P : Int)] 3)).alloc (.cells #[.int .i64 x0, .int .i64 y0] 69)).alloc (.cells #[.func (.func 195) #[] #[.pointer (some ⟨w.heap.size + 1, 0, none⟩), .pointer (some ⟨w.heap.size, 0, none⟩), .pointer (some ⟨w.heap.size + 1 + 1 + 1, 0, none⟩)]] 251))) := Lib.hid ((((Ext.refl w).alloc _).alloc _).alloc _ |>.alloc _)
  have HIN : Hid (Tp.FirstIn a b p s Av nv cv At ct teeth As ns cs bm om nm cm P (w.heap.size + 1) w.heap.size (w.heap.size + 1 + 1 + 1) ((((w.alloc (.cells #[.int .i64 a, .int .i64 b, .int .i64 p, .int .i64 s, .slice Av nv cv, .slice At teeth.length ct, .slice As ns cs, .slice (some ⟨bm, om, none⟩) nm cm] 165)).alloc (.cells #[.int .i64 (P : Int)] 3)).alloc (.cells #[.int .i64 x0, .int .i64 y0] 69)).alloc (.cells #[.func (.func 195) #[] #[.pointer (some ⟨w.heap.size + 1, 0, none⟩), .pointer (some ⟨w.heap.size, 0, none⟩), .pointer (some ⟨w.heap.size + 1 + 1 + 1, 0, none⟩)]] 251))) := Lib.hid ⟨r0.1, r0.2.1, r0.2.2.2, hT.ext HX.out, fun j hj => let ⟨h1, A, c, h2, h3⟩ := hM j hj; ⟨h1, A, c, HX.out.cell h2, h3.ext HX.out⟩⟩
  have rF : Row ((((w.alloc (.cells #[.int .i64 a, .int .i64 b, .int .i64 p, .int .i64 s, .slice Av nv cv, .slice At teeth.length ct, .slice As ns cs, .slice (some ⟨bm, om, none⟩) nm cm] 165)).alloc (.cells #[.int .i64 (P : Int)] 3)).alloc (.cells #[.int .i64 x0, .int .i64 y0] 69)).alloc (.cells #[.func (.func 195) #[] #[.pointer (some ⟨w.heap.size + 1, 0, none⟩), .pointer (some ⟨w.heap.size, 0, none⟩), .pointer (some ⟨w.heap.size + 1 + 1 + 1, 0, none⟩)]] 251)) (w.heap.size + 1 + 1) 69 #[.int .i64 x0, .int .i64 y0] := r0.2.2.1
  have c0 := rF.cell
  have c1 := HIN.out.self.cell
  clear r0 rF hT hM
  have HIH := Lib.hid (fun W h => t_first1_any a b p s Av nv cv At ct teeth As ns cs bm om nm cm P (w.heap.size + 1) w.heap.size (w.heap.size + 1 + 1 + 1) hl ht hnm hP P [] x0 y0 none 0 W (by simp) (fun _ => ⟨rfl, rfl⟩) (fun h => by simp at h) (by simpa using hx) (by simpa using hy) h)
  obtain ⟨r, hr⟩ : ∃ r, Tp.firstN (Tp.canP teeth) teeth P [] ⟨x0, y0⟩ = r := ⟨_, rfl⟩
  rw [hr] at HIH ⊢
  clear hr
  go_enter Tryz.func157, Tryz.ntmps157
  go_wp2_with fail
  refine (HIH.out _ HIN.out).mono ?_
  rintro e w5 ⟨h1, h2, hE⟩
  have H1 := Lib.hid h1
  have H2 := Lib.hid h2
  have HE := Lib.hid (HX.out.trans hE)
  clear h1 h2 hE c0 c1
  cases r with
  | none =>
    obtain rfl := H2.out rfl
    go_wp2_with fail
    go_ret
    exact ⟨fun l h => (by cases h), fun _ => rfl, HE.out⟩
  | some l =>
    obtain ⟨rb, ro, rc, rfl, hpr⟩ := H1.out l rfl
    have HP := Lib.hid hpr
    clear hpr
    go_wp2_with fail
    go_ret
    exact ⟨fun l9 h => (by cases h; exact ⟨rb, ro, rc, rfl, HP.out⟩), fun h => (by cases h), HE.out⟩
end Go.Proofs.YtimkmokomohgjaaGreat
namespace Go.Proofs.YtimkmokomohgjaaGreat
open Go.RowKit
open Sp (rd)
set_option maxRecDepth 100000
set_option maxHeartbeats 4000000
set_option linter.unusedVariables false
theorem t_bestT_one (b o c : Nat) (V F : Value) (w : World) (h : w.cell? ⟨b, o, none⟩ = some V) :
    Calls Tryz.prog 158 #[.slice (some ⟨b, o, none⟩) 1 c, F] w fun e w' => e = .returned (.tuple #[V, .bool true]) ∧ Ext w w' := by
  go_enter Tryz.func158, Tryz.ntmps158
  go_wp2_with fail
  go_loop [6, 11] (fun v i => (i = .int .i64 0) ∨ (i = .int .i64 1 ∧ v = V)) (fun _ i => 1 - (intOf i).toNat)
  case atStart => exact .inl rfl
  case round =>
    rcases hrel with rfl | ⟨rfl, rfl⟩
    · go_wp2_with fail
      go_round
      case rel => exact .inr ⟨rfl, rfl⟩
      case measure => simp [intOf]
    · go_wp2_with fail
      go_ret2
      exact ⟨rfl, Ext.refl _⟩
theorem t_nearest1_any (p1 n1 d1 p2 n2 d2 : Int) (V1 V2 : Value) (w : World) (h1 : -1000000000 ≤ n1 ∧ n1 ≤ 1000000000) (h2 : -1000000000 ≤ d1 ∧ d1 ≤ 1000000000) (h3 : -1000000000 ≤ n2 ∧ n2 ≤ 1000000000) (h4 : -1000000000 ≤ d2 ∧ d2 ≤ 1000000000) :
    Calls Tryz.prog 155 #[.agg #[.int .i64 p1, .int .i64 n1, .int .i64 d1, V1], .agg #[.int .i64 p2, .int .i64 n2, .int .i64 d2, V2]] w fun e w' => e = .returned (.bool (decide (Tp.cmpF ⟨n1, d1⟩ ⟨n2, d2⟩ < 0))) ∧ Ext w w' := by
  have HC := Lib.hid (fun W => t_compare_any n1 d1 n2 d2 W h1 h2 h3 h4)
  obtain ⟨n, hn⟩ : ∃ n, Tp.cmpF ⟨n1, d1⟩ ⟨n2, d2⟩ = n := ⟨_, rfl⟩
  rw [hn] at HC ⊢
  clear hn
  have HRA : Hid (Row ((w.alloc (.cells #[.int .i64 p1, .int .i64 n1, .int .i64 d1, V1] 221)).alloc (.cells #[.int .i64 p2, .int .i64 n2, .int .i64 d2, V2] 221)) w.heap.size 221 #[.int .i64 p1, .int .i64 n1, .int .i64 d1, V1]) := Lib.hid (blocks2 w _ _).1
  have HRB : Hid (Row ((w.alloc (.cells #[.int .i64 p1, .int .i64 n1, .int .i64 d1, V1] 221)).alloc (.cells #[.int .i64 p2, .int .i64 n2, .int .i64 d2, V2] 221)) (w.heap.size + 1) 221 #[.int .i64 p2, .int .i64 n2, .int .i64 d2, V2]) := Lib.hid (blocks2 w _ _).2
  have HE0 : Hid (Ext w ((w.alloc (.cells #[.int .i64 p1, .int .i64 n1, .int .i64 d1, V1] 221)).alloc (.cells #[.int .i64 p2, .int .i64 n2, .int .i64 d2, V2] 221))) := Lib.hid (((Ext.refl w).alloc _).alloc _)
  have a0 := HRA.out.cell
  have a1 := HRB.out.cell
  go_enter Tryz.func155, Tryz.ntmps155
  go_wp2_with fail
  refine (HC.out _).mono ?_
  rintro e w1 ⟨rfl, hE1⟩
  have HE1 := Lib.hid (HE0.out.trans hE1)
  clear hE1
  dsimp only
  go_wp2_with fail
  go_ret
  exact ⟨rfl, HE1.out⟩
theorem Tp.set4 {w : World} {g : Nat} {t : TypeId} {a b c d : Value} (h : Row w g t #[a, b, c, d]) (x y z v : Value) :
    Row ((((w.setCell ⟨g, 0, none⟩ x).setCell ⟨g, 1, none⟩ y).setCell ⟨g, 2, none⟩ z).setCell ⟨g, 3, none⟩ v) g t #[x, y, z, v] := by
  have := (((h.set_ 0 x).set_ 1 y).set_ 2 z).set_ 3 v
  simpa using this
theorem Tp.far4 {w : World} {g h : Nat} {t : TypeId} {cs : Array Value} (hr : Row w h t cs) (hne : h ≠ g) (x y z v : Value) :
    Row ((((w.setCell ⟨g, 0, none⟩ x).setCell ⟨g, 1, none⟩ y).setCell ⟨g, 2, none⟩ z).setCell ⟨g, 3, none⟩ v) h t cs :=
  (((hr.far (p := ⟨g, 0, none⟩) hne x).far (p := ⟨g, 1, none⟩) hne y).far (p := ⟨g, 2, none⟩) hne z).far (p := ⟨g, 3, none⟩) hne v
theorem Tp.ext4 {w0 w : World} {g : Nat} (h : Ext w0 w) (hg : w0.heap.size ≤ g) (x y z v : Value) :
    Ext w0 ((((w.setCell ⟨g, 0, none⟩ x).setCell ⟨g, 1, none⟩ y).setCell ⟨g, 2, none⟩ z).setCell ⟨g, 3, none⟩ v) :=
  (((h.setCell (p := ⟨g, 0, none⟩) hg x).setCell (p := ⟨g, 1, none⟩) hg y).setCell (p := ⟨g, 2, none⟩) hg z).setCell (p := ⟨g, 3, none⟩) hg v
theorem t_bestF_two (b o c : Nat) (p1 n1 d1 p2 n2 d2 : Int) (A1 A2 : Option Addr) (m1 k1 m2 k2 : Nat) (w : World) (h1 : -1000000000 ≤ n1 ∧ n1 ≤ 1000000000) (h2 : -1000000000 ≤ d1 ∧ d1 ≤ 1000000000) (h3 : -1000000000 ≤ n2 ∧ n2 ≤ 1000000000) (h4 : -1000000000 ≤ d2 ∧ d2 ≤ 1000000000) (hlt : Tp.cmpF ⟨n2, d2⟩ ⟨n1, d1⟩ < 0)
    (c0 : w.cell? ⟨b, o, none⟩ = some (.int .i64 p1) ∧ w.cell? ⟨b, o + 1, none⟩ = some (.int .i64 n1) ∧ w.cell? ⟨b, o + 2, none⟩ = some (.int .i64 d1) ∧ w.cell? ⟨b, o + 3, none⟩ = some (.slice A1 m1 k1))
    (c1 : w.cell? ⟨b, o + 4, none⟩ = some (.int .i64 p2) ∧ w.cell? ⟨b, o + 4 + 1, none⟩ = some (.int .i64 n2) ∧ w.cell? ⟨b, o + 4 + 2, none⟩ = some (.int .i64 d2) ∧ w.cell? ⟨b, o + 4 + 3, none⟩ = some (.slice A2 m2 k2)) :
    Calls Tryz.prog 154 #[.slice (some ⟨b, o, none⟩) 2 c, .func (.func 155) #[] #[]] w fun e w' => e = .returned (.tuple #[.agg #[.int .i64 p2, .int .i64 n2, .int .i64 d2, (.slice A2 m2 k2)], .bool true]) ∧ Ext w w' := by
  have HB := Lib.hid (fun W => t_nearest1_any p2 n2 d2 p1 n1 d1 (.slice A2 m2 k2) (.slice A1 m1 k1) W h3 h4 h1 h2)
  rw [decide_eq_true hlt] at HB
  have HC0 := Lib.hid c0
  have HC1 := Lib.hid c1
  clear c0 c1 hlt
  have HRA : Hid (Row ((w.alloc (.cells #[.int .i64 0, .int .i64 0, .int .i64 0, .slice none 0 0] 221)).alloc (.cells #[.int .i64 0, .int .i64 0, .int .i64 0, .slice none 0 0] 221)) w.heap.size 221 #[.int .i64 0, .int .i64 0, .int .i64 0, .slice none 0 0]) := Lib.hid (blocks2 w _ _).1
  have HRB : Hid (Row ((w.alloc (.cells #[.int .i64 0, .int .i64 0, .int .i64 0, .slice none 0 0] 221)).alloc (.cells #[.int .i64 0, .int .i64 0, .int .i64 0, .slice none 0 0] 221)) (w.heap.size + 1) 221 #[.int .i64 0, .int .i64 0, .int .i64 0, .slice none 0 0]) := Lib.hid (blocks2 w _ _).2
  have HE0 : Hid (Ext w ((w.alloc (.cells #[.int .i64 0, .int .i64 0, .int .i64 0, .slice none 0 0] 221)).alloc (.cells #[.int .i64 0, .int .i64 0, .int .i64 0, .slice none 0 0] 221))) := Lib.hid (((Ext.refl w).alloc _).alloc _)
  go_enter Tryz.func154, Tryz.ntmps154
  go_wp2_with fail
  obtain ⟨W0, hW0⟩ : ∃ W, (w.alloc (.cells #[.int .i64 0, .int .i64 0, .int .i64 0, .slice none 0 0] 221)).alloc (.cells #[.int .i64 0, .int .i64 0, .int .i64 0, .slice none 0 0] 221) = W := ⟨_, rfl⟩
  rw [hW0] at HRA HRB HE0 ⊢
  clear hW0
  go_loopw [11] (fun i wr => ((i = .int .i64 0 ∧ Row wr (w.heap.size + 1) 221 #[.int .i64 0, .int .i64 0, .int .i64 0, .slice none 0 0]) ∨ (i = .int .i64 1 ∧ Row wr (w.heap.size + 1) 221 #[.int .i64 p1, .int .i64 n1, .int .i64 d1, (.slice A1 m1 k1)]) ∨ (i = .int .i64 2 ∧ Row wr (w.heap.size + 1) 221 #[.int .i64 p2, .int .i64 n2, .int .i64 d2, (.slice A2 m2 k2)])) ∧ Row wr w.heap.size 221 #[.int .i64 0, .int .i64 0, .int .i64 0, .slice none 0 0] ∧ Ext w wr) (fun i _ => 2 - (intOf i).toNat)
  case atStart => exact ⟨.inl ⟨rfl, HRB.out⟩, HRA.out, HE0.out⟩
  case round =>
    obtain ⟨hway, hA, hX⟩ := hrel
    have HA := Lib.hid hA
    have HX := Lib.hid hX
    have hz := hX.size
    clear hA hX
    rcases hway with ⟨rfl, hB⟩ | ⟨rfl, hB⟩ | ⟨rfl, hB⟩
    · have HBR := Lib.hid hB
      have q0 := HX.out.cell HC0.out.1
      have q1 := HX.out.cell HC0.out.2.1
      have q2 := HX.out.cell HC0.out.2.2.1
      have q3 := HX.out.cell HC0.out.2.2.2
      have e0 := hB.cell
      have f0 := hB.free
      have j0 := lts hB.lt
      clear hB
      go_wp2_with fail
      go_roundw
      case rel => exact ⟨.inr (.inl ⟨rfl, (Tp.set4 HBR.out _ _ _ _).alloc _⟩), (Tp.far4 HA.out (by omega) _ _ _ _).alloc _, (Tp.ext4 HX.out (by omega) _ _ _ _).alloc _⟩
      case measure => simp [intOf]
    · have HBR := Lib.hid hB
      have q0 := HX.out.cell HC1.out.1
      have q1 := HX.out.cell HC1.out.2.1
      have q2 := HX.out.cell HC1.out.2.2.1
      have q3 := HX.out.cell HC1.out.2.2.2
      have e0 := hB.cell
      have f0 := hB.free
      have j0 := lts hB.lt
      have hN := Row.new wr 221 #[.int .i64 p2, .int .i64 n2, .int .i64 d2, (.slice A2 m2 k2)]
      have HN := Lib.hid hN
      clear hB hN
      go_wp2_with fail
      refine (HB.out _).mono ?_
      rintro e w1 ⟨rfl, hE1⟩
      dsimp only
      have HB1 := Lib.hid ((HBR.out.alloc _).ext hE1)
      have HA1 := Lib.hid ((HA.out.alloc _).ext hE1)
      have HX1 := Lib.hid ((HX.out.alloc _).trans hE1)
      have HN1 := Lib.hid (HN.out.ext hE1)
      clear q0 q1 q2 q3 e0 f0 j0 hE1
      have e1 := HB1.out.cell
      have f1 := HB1.out.free
      have j1 := lts HB1.out.lt
      have e2 := HN1.out.cell
      go_wp2_with fail
      go_roundw
      case rel => exact ⟨.inr (.inr ⟨rfl, Tp.set4 HB1.out _ _ _ _⟩), Tp.far4 HA1.out (by omega) _ _ _ _, Tp.ext4 HX1.out (by omega) _ _ _ _⟩
      case measure => simp [intOf]
    · have HBR := Lib.hid hB
      have e0 := hB.cell
      have a0 := HA.out.cell
      have f0 := HA.out.free
      have j0 := lts HA.out.lt
      clear hB
      go_wp2_with fail
      have r2 := Tp.set4 HA.out (.int .i64 p2) (.int .i64 n2) (.int .i64 d2) (.slice A2 m2 k2)
      have r3 := r2.cell
      exact bodyPost_ret (v := .tuple #[.agg #[.int .i64 p2, .int .i64 n2, .int .i64 d2, (.slice A2 m2 k2)], .bool true]) (by simp [results, Tryz.results154, go_sem, r3]) rfl ⟨rfl, Tp.ext4 HX.out (by omega) _ _ _ _⟩
end Go.Proofs.YtimkmokomohgjaaGreat
namespace Go.Proofs.YtimkmokomohgjaaGreat
open Go.RowKit
open Sp (rd)
set_option maxRecDepth 100000
set_option maxHeartbeats 4000000
set_option linter.unusedVariables false
set_option linter.unusedSimpArgs false
theorem Tp.info_found : (Tryz.prog.info? 221).map (fun i => (i.zero, i.size, i.bytes)) = some (some (.agg #[.int .i64 0, .int .i64 0, .int .i64 0, .slice none 0 0]), 4, 48) := by kernel_rfl
theorem Tp.info_lpair : (Tryz.prog.info? 78).map (fun i => (i.zero, i.size, i.bytes)) = some (some (.slice none 0 0), 1, 24) := by kernel_rfl
/-- What nearest reads. -/
structure Tp.NearestIn (At : Option Addr) (teeth : List Int) (bs os ns bm om nm : Nat) (all1 all2 : List Int) (w : World) : Prop where
  hT : Ints w At teeth
  s1 : ∃ A c, w.cell? ⟨bs, os + 1, none⟩ = some (.slice A all1.length c) ∧ Ints w A all1
  s2 : ∃ A c, w.cell? ⟨bs, os + 2, none⟩ = some (.slice A all2.length c) ∧ Ints w A all2
  marks : ∀ j, j < 2 → j < nm ∧ ∃ A c, w.cell? ⟨bm, om + j, none⟩ = some (.slice A (60 ^ j + 1) c) ∧ Tp.Bits w A (60 ^ j + 1) (Tp.mark teeth j)
theorem Tp.NearestIn.ext {At : Option Addr} {teeth : List Int} {bs os ns bm om nm : Nat} {all1 all2 : List Int} {w w' : World} (h : Tp.NearestIn At teeth bs os ns bm om nm all1 all2 w) (he : Ext w w') : Tp.NearestIn At teeth bs os ns bm om nm all1 all2 w' :=
  ⟨h.hT.ext he, let ⟨A, c, h1, h2⟩ := h.s1; ⟨A, c, he.cell h1, h2.ext he⟩, let ⟨A, c, h1, h2⟩ := h.s2; ⟨A, c, he.cell h1, h2.ext he⟩, fun j hj => let ⟨h1, A, c, h2, h3⟩ := h.marks j hj; ⟨h1, A, c, he.cell h2, h3.ext he⟩⟩
theorem t_nearest_any (a b s : Int) (Av : Option Addr) (nv cv : Nat) (At : Option Addr) (ct : Nat) (teeth : List Int) (bs os ns cs bm om nm cm : Nat) (all1 all2 : List Int) (x1n x1d yn yd n1 e1 n2 e2 fn fd : Int) (l : List Ec.Pair) (w : World)
    (hl : teeth.length ≤ 1000) (ht : ∀ k, k < teeth.length → 1 ≤ rd teeth k ∧ rd teeth k ≤ 16) (hns : 3 ≤ ns ∧ ns ≤ 1000) (hnm : nm ≤ 1000) (hin : Tp.NearestIn At teeth bs os ns bm om nm all1 all2 w) (hll : all1.length ≤ 1000 ∧ all2.length ≤ 1000)
    (ha1 : ∀ k, k < all1.length → 1 ≤ rd all1 k ∧ rd all1 k ≤ 1000000) (ha2 : ∀ k, k < all2.length → 1 ≤ rd all2 k ∧ rd all2 k ≤ 1000000) (hf : (1 ≤ fn ∧ fn ≤ 1000) ∧ (1 ≤ fd ∧ fd ≤ 1000))
    (hN1 : Tp.near all1 ⟨fn, fd⟩ = ([⟨x1n, x1d⟩], ⟨n1, e1⟩)) (hN2 : Tp.near all2 ⟨fn, fd⟩ = ([⟨yn, yd⟩], ⟨n2, e2⟩)) (hb1 : -1000000000 ≤ n1 ∧ n1 ≤ 1000000000) (hb2 : -1000000000 ≤ e1 ∧ e1 ≤ 1000000000) (hb3 : -1000000000 ≤ n2 ∧ n2 ≤ 1000000000) (hb4 : -1000000000 ≤ e2 ∧ e2 ≤ 1000000000) (hlt : Tp.cmpF ⟨n2, e2⟩ ⟨n1, e1⟩ < 0)
    (hs : 1 ≤ s ∧ s ≤ 3) (hl1 : Tp.lets s 1 = true) (hl2 : Tp.lets s 2 = true) (hy1 : 1 ≤ yn ∧ yn ≤ 1000) (hy2 : 1 ≤ yd ∧ yd ≤ 1000) (hF : Tp.firstN (Tp.canP teeth) teeth 2 [] ⟨yn, yd⟩ = some l) :
    Calls Tryz.prog 93 #[.agg #[.int .i64 a, .int .i64 b, .int .i64 2, .int .i64 s, .slice Av nv cv, .slice At teeth.length ct, .slice (some ⟨bs, os, none⟩) ns cs, .slice (some ⟨bm, om, none⟩) nm cm], .agg #[.int .i64 fn, .int .i64 fd]] w fun e w' => ∃ rb ro rc, e = .returned (.tuple #[.slice (some ⟨rb, ro, none⟩) l.length rc, .bool true]) ∧ Pairs w' (some ⟨rb, ro, none⟩) l ∧ Ext w w' := by
  have HIN := Lib.hid hin
  have HNE1 := Lib.hid (fun W (he : Ext w W) => by obtain ⟨A1, c1, h1, h2⟩ := hin.s1; have := t_near_any a b 2 s (.slice Av nv cv) (.slice At teeth.length ct) bs os ns cs (.slice (some ⟨bm, om, none⟩) nm cm) 1 A1 c1 all1 fn fd W (by omega) hns.2 (he.cell h1) (h2.ext he) hll.1 ha1 hf; rw [hN1] at this; exact this)
  have HNE2 := Lib.hid (fun W (he : Ext w W) => by obtain ⟨A1, c1, h1, h2⟩ := hin.s2; have := t_near_any a b 2 s (.slice Av nv cv) (.slice At teeth.length ct) bs os ns cs (.slice (some ⟨bm, om, none⟩) nm cm) 2 A1 c1 all2 fn fd W (by omega) hns.2 (he.cell h1) (h2.ext he) hll.2 ha2 hf; rw [hN2] at this; exact this)
  have HLE := Lib.hid (fun n W (hn : 0 ≤ n ∧ n ≤ 100) => t_lets_any a b 2 s n (.slice Av nv cv) (.slice At teeth.length ct) W hs hn)
  have HL1 := Lib.hid hl1
  have HL2 := Lib.hid hl2
  have HFI := Lib.hid (fun W (he : Ext w W) => by have := t_first_any a b 2 s Av nv cv At ct teeth (some ⟨bs, os, none⟩) ns cs bm om nm cm 2 yn yd W hl ht hnm (by omega) (hin.ext he).hT (hin.ext he).marks hy1 hy2; rw [hF] at this; exact this)
  have HLT := Lib.hid hlt
  obtain ⟨i0, hi0, hi1, hi2, hi3⟩ := info_parts Tp.info_found
  obtain ⟨j0, hj0, hj1, hj2, hj3⟩ := info_parts Tp.info_lpair
  clear hin ht hll ha1 ha2 hf hN1 hN2 hlt hl1 hl2 hF
  have HW0 := Lib.hid (blocks2 w (.cells #[.int .i64 a, .int .i64 b, .int .i64 2, .int .i64 s, .slice Av nv cv, .slice At teeth.length ct, .slice (some ⟨bs, os, none⟩) ns cs, .slice (some ⟨bm, om, none⟩) nm cm] 165) (.cells #[.int .i64 fn, .int .i64 fd] 69)).1
  have HF0 := Lib.hid (blocks2 w (.cells #[.int .i64 a, .int .i64 b, .int .i64 2, .int .i64 s, .slice Av nv cv, .slice At teeth.length ct, .slice (some ⟨bs, os, none⟩) ns cs, .slice (some ⟨bm, om, none⟩) nm cm] 165) (.cells #[.int .i64 fn, .int .i64 fd] 69)).2
  have HX0 : Hid (Ext w ((w.alloc (.cells #[.int .i64 a, .int .i64 b, .int .i64 2, .int .i64 s, .slice Av nv cv, .slice At teeth.length ct, .slice (some ⟨bs, os, none⟩) ns cs, .slice (some ⟨bm, om, none⟩) nm cm] 165)).alloc (.cells #[.int .i64 fn, .int .i64 fd] 69))) := Lib.hid (((Ext.refl w).alloc _).alloc _)
  go_enter Tryz.func93, Tryz.ntmps93
  go_wp2_with fail
  obtain ⟨W0, hW0⟩ : ∃ W, (w.alloc (.cells #[.int .i64 a, .int .i64 b, .int .i64 2, .int .i64 s, .slice Av nv cv, .slice At teeth.length ct, .slice (some ⟨bs, os, none⟩) ns cs, .slice (some ⟨bm, om, none⟩) nm cm] 165)).alloc (.cells #[.int .i64 fn, .int .i64 fd] 69) = W := ⟨_, rfl⟩
  rw [hW0] at HW0 HF0 HX0 ⊢
  have HWR : Hid (Row W0 w.heap.size 165 #[.int .i64 a, .int .i64 b, .int .i64 2, .int .i64 s, .slice Av nv cv, .slice At teeth.length ct, .slice (some ⟨bs, os, none⟩) ns cs, .slice (some ⟨bm, om, none⟩) nm cm]) := HW0
  have HFR : Hid (Row W0 (w.heap.size + 1) 69 #[.int .i64 fn, .int .i64 fd]) := HF0
  clear hW0 HW0 HF0
  go_loopw [6, 7] (fun v i wr => Ext W0 wr ∧ ((i = .int .i64 1 ∧ wr.ownsRow W0.heap.size 221 4 v 0 []) ∨ (i = .int .i64 2 ∧ ∃ A1 c1, wr.ownsRow W0.heap.size 221 4 v 1 [.int .i64 1, .int .i64 n1, .int .i64 e1, .slice A1 1 c1]) ∨ (i = .int .i64 3 ∧ ∃ A1 c1 A2 c2, (∃ b2, wr.ownsRow b2 69 2 (.slice A2 1 c2) 1 (Tp.pc [⟨yn, yd⟩])) ∧ wr.ownsRow W0.heap.size 221 4 v 2 ([.int .i64 1, .int .i64 n1, .int .i64 e1, .slice A1 1 c1] ++ [.int .i64 2, .int .i64 n2, .int .i64 e2, .slice A2 1 c2])))) (fun _ i _ => 3 - (intOf i).toNat)
  case atStart => exact ⟨Ext.refl _, .inl ⟨rfl, by simp [World.ownsRow]⟩⟩
  case round =>
    obtain ⟨hX, hway⟩ := hrel
    have HX := Lib.hid hX
    have hz := hX.size
    have hz2 := HFR.out.lt
    have cW := (HWR.out.ext hX).cell
    have cF := (HFR.out.ext hX).cell
    clear hX
    rcases hway with ⟨rfl, hO⟩ | ⟨rfl, A1, c1, hO⟩ | ⟨rfl, A1, c1, A2, c2, hP2, hO⟩
    · have HO := Lib.hid hO
      obtain ⟨Bo, do_, rfl⟩ := Tp.own_slice hO
      clear hO
      go_wp2_with fail
      refine (HNE1.out _ (HX0.out.trans HX.out)).mono ?_
      rintro e w1 ⟨B3, d3, rfl, hp3, hE1⟩
      simp only [List.length_cons, List.length_nil, Nat.zero_add]
      have HX1 := Lib.hid ((HX.out.trans hE1).alloc (.cells #[.int .i64 n1, .int .i64 e1] 69))
      have HO1 := Lib.hid (own_ext (own_ext HO.out hE1) ((Ext.refl _).alloc (.cells #[.int .i64 n1, .int .i64 e1] 69)))
      have HP1 := Lib.hid (own_ext hp3 ((Ext.refl _).alloc (.cells #[.int .i64 n1, .int .i64 e1] 69)))
      have HR1 := Lib.hid (Row.new w1 69 #[.int .i64 n1, .int .i64 e1])
      have cW1 := (HWR.out.ext HX1.out).cell
      clear cW cF hE1 hp3
      go_wp2_with fail
      refine (HLE.out 1 _ (by omega)).mono ?_
      rintro e w2 ⟨rfl, hE2⟩
      rw [HL1.out]
      have HX2 := Lib.hid (HX1.out.trans hE2)
      have HO2 := Lib.hid (own_ext HO1.out hE2)
      have HP2 := Lib.hid (own_ext HP1.out hE2)
      have cR := (HR1.out.ext hE2).cell
      have hz3 := HX2.out.size
      clear cW1 hE2
      have HOW := Lib.hid (HO2.out.alloc (.cells #[.int .i64 1, .int .i64 n1, .int .i64 e1, .slice B3 1 d3] 221))
      go_wp2_with (at_builtin; refine wpList_append_lies _ rfl _ _ 217 rfl W0.heap.size 221 i0 _ 4 48 Tryz.underlying217 hi0 hi1 hi2 hi3 rfl (by decide) _ 0 [] rfl HOW.out ⟨_, 0, none⟩ 1 1 [.int .i64 1, .int .i64 n1, .int .i64 e1, .slice B3 1 d3] rfl rfl (World.news_of_block (cs := #[.int .i64 1, .int .i64 n1, .int .i64 e1, .slice B3 1 d3]) (t := 221) (fr := (0, 0)) (heap_alloc_new _ _)) (by simp [Value.oneCell']) (by omega) (by simp only [maxLen]; omega) (by omega) (by simp; omega) _ rfl ?_; intro gg cap w5 hown5 hgrow hat hlt5; have HO5 := Lib.hid hown5; have HX5 := Lib.hid ((HX2.out.alloc (.cells #[.int .i64 1, .int .i64 n1, .int .i64 e1, .slice B3 1 d3] 221)).grown hgrow (fun g hg => (by have := (HOW.out.lt g hg).1; omega))); have HP5 := Lib.hid (Tp.own_grown (HP2.out.alloc (.cells #[.int .i64 1, .int .i64 n1, .int .i64 e1, .slice B3 1 d3] 221)) hgrow (Tp.rowOf HOW.out) (by decide)); clear hown5 hgrow hat)
      go_roundw
      case rel => exact ⟨HX5.out, .inr (.inl ⟨rfl, B3, d3, HO5.out⟩)⟩
      case measure => simp [intOf]
    · have HO := Lib.hid hO
      obtain ⟨Bo, do_, rfl⟩ := Tp.own_slice hO
      clear hO
      go_wp2_with fail
      refine (HNE2.out _ (HX0.out.trans HX.out)).mono ?_
      rintro e w1 ⟨B3, d3, rfl, hp3, hE1⟩
      simp only [List.length_cons, List.length_nil, Nat.zero_add]
      have HX1 := Lib.hid ((HX.out.trans hE1).alloc (.cells #[.int .i64 n2, .int .i64 e2] 69))
      have HO1 := Lib.hid (own_ext (own_ext HO.out hE1) ((Ext.refl _).alloc (.cells #[.int .i64 n2, .int .i64 e2] 69)))
      have HP1 := Lib.hid (own_ext hp3 ((Ext.refl _).alloc (.cells #[.int .i64 n2, .int .i64 e2] 69)))
      have HR1 := Lib.hid (Row.new w1 69 #[.int .i64 n2, .int .i64 e2])
      have cW1 := (HWR.out.ext HX1.out).cell
      clear cW cF hE1 hp3
      go_wp2_with fail
      refine (HLE.out 2 _ (by omega)).mono ?_
      rintro e w2 ⟨rfl, hE2⟩
      rw [HL2.out]
      have HX2 := Lib.hid (HX1.out.trans hE2)
      have HO2 := Lib.hid (own_ext HO1.out hE2)
      have HP2 := Lib.hid (own_ext HP1.out hE2)
      have cR := (HR1.out.ext hE2).cell
      have hz3 := HX2.out.size
      clear cW1 hE2
      have HOW := Lib.hid (HO2.out.alloc (.cells #[.int .i64 2, .int .i64 n2, .int .i64 e2, .slice B3 1 d3] 221))
      go_wp2_with (at_builtin; refine wpList_append_lies _ rfl _ _ 217 rfl W0.heap.size 221 i0 _ 4 48 Tryz.underlying217 hi0 hi1 hi2 hi3 rfl (by decide) _ 1 [.int .i64 1, .int .i64 n1, .int .i64 e1, .slice A1 1 c1] rfl HOW.out ⟨_, 0, none⟩ 1 1 [.int .i64 2, .int .i64 n2, .int .i64 e2, .slice B3 1 d3] rfl rfl (World.news_of_block (cs := #[.int .i64 2, .int .i64 n2, .int .i64 e2, .slice B3 1 d3]) (t := 221) (fr := (0, 0)) (heap_alloc_new _ _)) (by simp [Value.oneCell']) (by omega) (by simp only [maxLen]; omega) (by omega) (by simp; omega) _ rfl ?_; intro gg cap w5 hown5 hgrow hat hlt5; have HO5 := Lib.hid hown5; have HX5 := Lib.hid ((HX2.out.alloc (.cells #[.int .i64 2, .int .i64 n2, .int .i64 e2, .slice B3 1 d3] 221)).grown hgrow (fun g hg => (by have := (HOW.out.lt g hg).1; omega))); have HP5 := Lib.hid (Tp.own_grown (HP2.out.alloc (.cells #[.int .i64 2, .int .i64 n2, .int .i64 e2, .slice B3 1 d3] 221)) hgrow (Tp.rowOf HOW.out) (by decide)); clear hown5 hgrow hat)
      go_roundw
      case rel => exact ⟨HX5.out, .inr (.inr ⟨rfl, A1, c1, B3, d3, ⟨_, HP5.out⟩, HO5.out⟩)⟩
      case measure => simp [intOf]
    · obtain ⟨b2, hP2⟩ := hP2
      have hO9 := hO
      obtain ⟨Bo, do_, rfl⟩ := Tp.own_slice hO
      obtain ⟨go, rfl⟩ : ∃ go, Bo = some ⟨go, 0, none⟩ := by
        rcases hO9.2 with ⟨h0, _⟩ | ⟨g, cap, cur, hv, _⟩
        · cases h0
        · cases hv; exact ⟨g, rfl⟩
      have hc := hO9.cells (g := go) rfl
      have hc0 := hc 0 _ rfl; have hc1 := hc 1 _ rfl; have hc2 := hc 2 _ rfl; have hc3 := hc 3 _ rfl; have hc4 := hc 4 _ rfl; have hc5 := hc 5 _ rfl; have hc6 := hc 6 _ rfl; have hc7 := hc 7 _ rfl
      simp only [Nat.add_zero, Nat.zero_add, add0] at hc0 hc1 hc2 hc3 hc4 hc5 hc6 hc7
      obtain ⟨A9, c9, he9, hp9⟩ := Tp.pairs_own (l := [⟨yn, yd⟩]) hP2
      cases he9
      have HP9 := Lib.hid hp9
      have HBF := Lib.hid (t_bestF_two go 0 do_ 1 n1 e1 2 n2 e2 A1 A2 1 c1 1 c2 wr hb1 hb2 hb3 hb4 HLT.out ⟨hc0, hc1, hc2, hc3⟩ ⟨hc4, hc5, hc6, hc7⟩)
      clear hO hO9 hc hc0 hc1 hc2 hc3 hc4 hc5 hc6 hc7 hP2 hp9
      go_wp2_with fail
      refine HBF.out.mono ?_
      rintro e w1 ⟨rfl, hE1⟩
      have HX1 := Lib.hid ((HX.out.trans hE1).alloc (.cells #[.int .i64 2, .int .i64 n2, .int .i64 e2, .slice A2 1 c2] 221))
      have HP1 := Lib.hid ((HP9.out.ext hE1).ext ((Ext.refl _).alloc (.cells #[.int .i64 2, .int .i64 n2, .int .i64 e2, .slice A2 1 c2] 221)))
      have HR1 := Lib.hid (Row.new w1 221 #[.int .i64 2, .int .i64 n2, .int .i64 e2, .slice A2 1 c2])
      have cR := HR1.out.cell
      clear cW cF hE1
      go_wp2_with fail
      obtain ⟨W2, hW2⟩ : ∃ W, w1.alloc (.cells #[.int .i64 2, .int .i64 n2, .int .i64 e2, .slice A2 1 c2] 221) = W := ⟨_, rfl⟩
      obtain ⟨bb, hbb⟩ : ∃ bb, w1.heap.size = bb := ⟨_, rfl⟩
      rw [hW2] at HX1 HP1 HR1 ⊢
      rw [hbb] at HR1 ⊢
      clear cR hW2 hbb
      obtain ⟨wo, hwo⟩ : ∃ wo : World, wo = wr := ⟨_, rfl⟩
      subst hwo
      go_loopw [12, 56] (fun v i wr => Ext W2 wr ∧ ((i = .int .i64 0 ∧ v = .slice none 0 0) ∨ (i = .int .i64 1 ∧ ∃ rb ro rc, Pairs wr (some ⟨rb, ro, none⟩) l ∧ wr.ownsRow W2.heap.size 78 1 v 1 [.slice (some ⟨rb, ro, none⟩) l.length rc]))) (fun _ i _ => 1 - (intOf i).toNat)
      case atStart => exact ⟨Ext.refl _, .inl ⟨rfl, rfl⟩⟩
      case round =>
        obtain ⟨hX3, hway⟩ := hrel
        have HX3 := Lib.hid hX3
        have HXW := Lib.hid (HX1.out.trans hX3)
        rcases hway with ⟨rfl, rfl⟩ | ⟨rfl, rb, ro, rc, hpl, hO⟩
        · have HO : Hid (wr.ownsRow W2.heap.size 78 1 (.slice none 0 0) 0 []) := Lib.hid (by simp [World.ownsRow])
          obtain ⟨b9, o9, rfl, hc9⟩ := (HP1.out.ext hX3) (by simp)
          have y1 := (hc9 0 (by simp)).1
          have y2 := (hc9 0 (by simp)).2
          simp only [Nat.zero_mul, Nat.add_zero, show pd [(⟨yn, yd⟩ : Ec.Pair)] 0 = ⟨yn, yd⟩ from rfl] at y1 y2
          have cW := (HWR.out.ext HXW.out).cell
          have cR := (HR1.out.ext hX3).cell
          have rN := Row.new wr 69 #[.int .i64 yn, .int .i64 yd]
          have HRN := Lib.hid rN
          have HXN := Lib.hid (hX3.alloc (.cells #[.int .i64 yn, .int .i64 yd] 69))
          have HON := Lib.hid (HO.out.alloc (.cells #[.int .i64 yn, .int .i64 yd] 69))
          have cW2 := (HWR.out.ext (HX1.out.trans HXN.out)).cell
          have cR2 := (HR1.out.ext HXN.out).cell
          have cN := rN.cell
          clear hc9 hX3 rN cW cR
          go_wp2_with fail
          refine (HFI.out _ (HX0.out.trans (HX1.out.trans HXN.out))).mono ?_
          rintro e w4 ⟨h4, _, hE4⟩
          obtain ⟨rb, ro, rc, rfl, hpl⟩ := h4 l rfl
          have HX4 := Lib.hid (HXN.out.trans hE4)
          have HPL := Lib.hid hpl
          have HOW := Lib.hid ((own_ext HON.out hE4).alloc (.cells #[.slice (some ⟨rb, ro, none⟩) l.length rc] 78))
          have hz4 := HX4.out.size
          clear h4 hpl hE4 y1 y2 cW2 cR2 cN
          go_wp2_with (at_builtin; refine wpList_append_lies _ rfl _ _ 73 rfl W2.heap.size 78 j0 _ 1 24 Tryz.underlying73 hj0 hj1 hj2 hj3 rfl (by decide) _ 0 [] rfl HOW.out ⟨_, 0, none⟩ 1 1 [.slice (some ⟨rb, ro, none⟩) l.length rc] rfl rfl (World.news_of_block (cs := #[.slice (some ⟨rb, ro, none⟩) l.length rc]) (t := 78) (fr := (0, 0)) (heap_alloc_new _ _)) (by simp [Value.oneCell']) (by omega) (by simp only [maxLen]; omega) (by omega) (by simp; omega) _ rfl ?_; intro gg cap w5 hown5 hgrow hat hlt5; have HO5 := Lib.hid hown5; have HX5 := Lib.hid ((HX4.out.alloc (.cells #[.slice (some ⟨rb, ro, none⟩) l.length rc] 78)).grown hgrow (fun g hg => (HOW.out.lt g hg).1)); have HP5 := Lib.hid (HPL.out.ext (((Ext.refl w4).alloc (.cells #[.slice (some ⟨rb, ro, none⟩) l.length rc] 78)).grown hgrow (fun g hg => (by cases hg)))); clear hown5 hgrow hat)
          go_roundw
          case rel => exact ⟨HX5.out, .inr ⟨rfl, rb, ro, rc, HP5.out, HO5.out⟩⟩
          case measure => simp [intOf]
        · have hO9 := hO
          obtain ⟨Bo, do2, rfl⟩ := Tp.own_slice hO
          obtain ⟨go2, rfl⟩ : ∃ go, Bo = some ⟨go, 0, none⟩ := by
            rcases hO9.2 with ⟨h0, _⟩ | ⟨g, cap, cur, hv, _⟩
            · cases h0
            · cases hv; exact ⟨g, rfl⟩
          have hc0 := hO9.cells (g := go2) rfl 0 _ rfl
          simp only [Nat.add_zero, Nat.zero_add, add0] at hc0
          have HPL := Lib.hid hpl
          have HBT := Lib.hid (fun F => t_bestT_one go2 0 do2 (.slice (some ⟨rb, ro, none⟩) l.length rc) F wr hc0)
          clear hO hO9 hX3 hpl hc0
          go_wp2_with fail
          refine (HBT.out _).mono ?_
          rintro e w4 ⟨rfl, hE4⟩
          have HE := Lib.hid (HX0.out.trans (HXW.out.trans hE4))
          have HPL2 := Lib.hid (HPL.out.ext hE4)
          clear hE4
          go_wp2_with fail
          go_ret2
          exact ⟨rb, ro, rc, rfl, HPL2.out, HE.out⟩
end Go.Proofs.YtimkmokomohgjaaGreat
