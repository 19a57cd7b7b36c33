/- Volume 5 of the texts that the laws of this seat use: TpCmp TpOrder TpCan TpSearch TpNearP TpProdP TpProd TpPrepP TpFar TpPrepS TpTrainOf: walks of the program's functions, and plain laws. -/
import Derived.Carry
import Derived.BigQuiet
import Derived.Lib.MinMax
import Derived.Laws.EntriesVeiled
import Derived.RangeFuncLeaves
import Derived.RangeFuncCalls
import Derived.Test.YtimkmokomohgjaaGreatP02
import Derived.Test.YtimkmokomohgjaaGreatP03
namespace Go.Proofs.YtimkmokomohgjaaGreat
open Go.RowKit
open Sp (rd)
set_option maxRecDepth 100000
set_option maxHeartbeats 4000000
set_option linter.unusedVariables false
theorem mul_lims {x y A B : Int} (h1 : -A ≤ x) (h2 : x ≤ A) (h3 : -B ≤ y) (h4 : y ≤ B) : -(A * B) ≤ x * y ∧ x * y ≤ A * B := by
  rcases Int.le_total 0 y with h | h
  · exact mul_bounds h1 h2 h h4
  · have := mul_bounds (a := x) (b := -y) (A := A) (B := B) h1 h2 (by omega) (by omega)
    rw [Int.mul_neg] at this
    omega
/-- A fraction's numbers (as a pair: num, den): how far from another one, not reduced. -/
def Tp.cmpF (a b : Ec.Pair) : Int := a.drives * b.driven - b.drives * a.driven
def Tp.dist (x f : Ec.Pair) : Ec.Pair := ⟨max (Tp.cmpF x f) (-(Tp.cmpF x f)), x.driven⟩
theorem t_compare_any (a b c d : Int) (w : World) (h1 : -1000000000 ≤ a ∧ a ≤ 1000000000) (h2 : -1000000000 ≤ b ∧ b ≤ 1000000000) (h3 : -1000000000 ≤ c ∧ c ≤ 1000000000) (h4 : -1000000000 ≤ d ∧ d ≤ 1000000000) :
    Calls Tryz.prog 156 #[.agg #[.int .i64 a, .int .i64 b], .agg #[.int .i64 c, .int .i64 d]] w fun e w' => e = .returned (.int .i64 (Tp.cmpF ⟨a, b⟩ ⟨c, d⟩)) ∧ Ext w w' := by
  have p1 := mul_lims h1.1 h1.2 h4.1 h4.2
  have p2 := mul_lims h3.1 h3.2 h2.1 h2.2
  have HRA : Hid (Row ((w.alloc (.cells #[.int .i64 a, .int .i64 b] 69)).alloc (.cells #[.int .i64 c, .int .i64 d] 69)) w.heap.size 69 #[.int .i64 a, .int .i64 b]) := Lib.hid (blocks2 w _ _).1
  have HRB : Hid (Row ((w.alloc (.cells #[.int .i64 a, .int .i64 b] 69)).alloc (.cells #[.int .i64 c, .int .i64 d] 69)) (w.heap.size + 1) 69 #[.int .i64 c, .int .i64 d]) := Lib.hid (blocks2 w _ _).2
  have HE0 : Hid (Ext w ((w.alloc (.cells #[.int .i64 a, .int .i64 b] 69)).alloc (.cells #[.int .i64 c, .int .i64 d] 69))) := Lib.hid (((Ext.refl w).alloc _).alloc _)
  have a0 := HRA.out.cell
  have a1 := HRB.out.cell
  go_enter Tryz.func156, Tryz.ntmps156
  go_wp2_with fail
  go_ret
  exact ⟨rfl, HE0.out⟩
theorem t_distance_any (a b c d : Int) (w : World) (h1 : -1000000000 ≤ a ∧ a ≤ 1000000000) (h2 : -1000000000 ≤ b ∧ b ≤ 1000000000) (h3 : -1000000000 ≤ c ∧ c ≤ 1000000000) (h4 : -1000000000 ≤ d ∧ d ≤ 1000000000) :
    Calls Tryz.prog 193 #[.agg #[.int .i64 a, .int .i64 b], .agg #[.int .i64 c, .int .i64 d]] w fun e w' => e = .returned (.agg #[.int .i64 (max (Tp.cmpF ⟨a, b⟩ ⟨c, d⟩) (-(Tp.cmpF ⟨a, b⟩ ⟨c, d⟩))), .int .i64 b]) ∧ Ext w w' := by
  have p1 := mul_lims h1.1 h1.2 h4.1 h4.2
  have p2 := mul_lims h3.1 h3.2 h2.1 h2.2
  have hcd : Tp.cmpF ⟨a, b⟩ ⟨c, d⟩ = a * d - c * b := rfl
  have HCM := Lib.hid (fun W => t_compare_any a b c d W h1 h2 h3 h4)
  obtain ⟨n, hn⟩ : ∃ n, Tp.cmpF ⟨a, b⟩ ⟨c, d⟩ = n := ⟨_, rfl⟩
  rw [hn] at HCM hcd ⊢
  have n1 : -3000000000000000000 ≤ n ∧ n ≤ 3000000000000000000 := by omega
  clear hn hcd p1 p2
  have HRA : Hid (Row (((w.alloc (.cells #[.int .i64 a, .int .i64 b] 69)).alloc (.cells #[.int .i64 c, .int .i64 d] 69)).alloc (.cells #[.int .i64 0, .int .i64 0] 69)) w.heap.size 69 #[.int .i64 a, .int .i64 b]) := Lib.hid (blocks3 w _ _ _).1
  have HRB : Hid (Row (((w.alloc (.cells #[.int .i64 a, .int .i64 b] 69)).alloc (.cells #[.int .i64 c, .int .i64 d] 69)).alloc (.cells #[.int .i64 0, .int .i64 0] 69)) (w.heap.size + 1) 69 #[.int .i64 c, .int .i64 d]) := Lib.hid (blocks3 w _ _ _).2.1
  have HRC : Hid (Row (((w.alloc (.cells #[.int .i64 a, .int .i64 b] 69)).alloc (.cells #[.int .i64 c, .int .i64 d] 69)).alloc (.cells #[.int .i64 0, .int .i64 0] 69)) (w.heap.size + 2) 69 #[.int .i64 0, .int .i64 0]) := Lib.hid (blocks3 w _ _ _).2.2
  have HE0 : Hid (Ext w (((w.alloc (.cells #[.int .i64 a, .int .i64 b] 69)).alloc (.cells #[.int .i64 c, .int .i64 d] 69)).alloc (.cells #[.int .i64 0, .int .i64 0] 69))) := Lib.hid ((((Ext.refl w).alloc _).alloc _).alloc _)
  have a0 := HRA.out.cell
  have a1 := HRB.out.cell
  go_enter Tryz.func193, Tryz.ntmps193
  go_wp2_with fail
  refine (HCM.out _).mono ?_
  rintro e w1 ⟨rfl, hE1⟩
  have HA := Lib.hid (HRA.out.ext hE1)
  have HC := Lib.hid (HRC.out.ext hE1)
  have HE1 := Lib.hid (HE0.out.trans hE1)
  clear a0 a1 hE1
  have a0 := HA.out.cell
  have b0 := HC.out.cell
  have f0 := HC.out.free
  have j0 := lts HC.out.lt
  go_wp2_with fail
  have r2 := ((HC.out.set_ 0 (.int .i64 (max n (-n)))).set_ 1 (.int .i64 b))
  have c2 := r2.cell
  exact bodyPost_ret (v := .agg #[.int .i64 (max n (-n)), .int .i64 b]) (by simp [results, Tryz.results193, go_sem, b0]) rfl ⟨rfl, (HE1.out.setCell (p := ⟨w.heap.size + 2, 0, none⟩) (by simp) _).setCell (p := ⟨w.heap.size + 2, 1, none⟩) (by simp) _⟩
theorem t_near1_any (x y n d : Int) (bf : Nat) (w : World) (hr : Row w bf 69 #[.int .i64 n, .int .i64 d]) (h1 : -1000000000 ≤ x ∧ x ≤ 1000000000) (h2 : -1000000000 ≤ n ∧ n ≤ 1000000000) :
    Calls Tryz.prog 191 #[.int .i64 x, .int .i64 y, .pointer (some ⟨bf, 0, none⟩)] w fun e w' => e = .returned (.int .i64 (cmpI (x * n) y)) ∧ w = w' := by
  have p1 := mul_lims h1.1 h1.2 h2.1 h2.2
  have a0 := hr.cell
  clear hr
  go_enter Tryz.func191, Tryz.ntmps191
  go_wp2_with fail
  refine (c_Compare_any _ _ _).mono ?_
  rintro e w1 ⟨rfl, rfl⟩
  go_wp2_with fail
  go_ret
  exact ⟨rfl, rfl⟩
/-- The program's binary search: the least index in [i, j) at which P does not hold. -/
def Tp.bs (P : Nat → Bool) : Nat → Nat → Nat → Nat
  | 0, i, _ => i
  | m + 1, i, j => if i < j then (if P ((i + j) / 2) then Tp.bs P m ((i + j) / 2 + 1) j else Tp.bs P m i ((i + j) / 2)) else i
theorem Tp.bs_fuel (P : Nat → Bool) : ∀ (m m' i j : Nat), j - i ≤ m → j - i ≤ m' → Tp.bs P m i j = Tp.bs P m' i j := by
  intro m
  induction m with
  | zero =>
    intro m' i j h h'
    cases m' with
    | zero => rfl
    | succ m' => rw [Tp.bs, Tp.bs, if_neg (by omega)]
  | succ m ih =>
    intro m' i j h h'
    cases m' with
    | zero => rw [Tp.bs, Tp.bs, if_neg (by omega)]
    | succ m' =>
      rw [Tp.bs, Tp.bs]
      split
      · split
        · exact ih m' _ _ (by omega) (by omega)
        · exact ih m' _ _ (by omega) (by omega)
      · rfl
def Tp.bsL (l : List Int) (n y : Int) : Nat := Tp.bs (fun k => decide (rd l k * n < y)) l.length 0 l.length
theorem Tp.bs_le (P : Nat → Bool) : ∀ (m i j : Nat), i ≤ j → Tp.bs P m i j ≤ j ∧ i ≤ Tp.bs P m i j := by
  intro m
  induction m with
  | zero => intro i j h; exact ⟨h, Nat.le_refl _⟩
  | succ m ih =>
    intro i j h
    rw [Tp.bs]
    split
    · split
      · have := ih ((i + j) / 2 + 1) j (by omega); omega
      · have := ih i ((i + j) / 2) (by omega); omega
    · omega
end Go.Proofs.YtimkmokomohgjaaGreat
namespace Go.Proofs.YtimkmokomohgjaaGreat
open Go.RowKit
open Sp (rd)
set_option maxRecDepth 100000
set_option maxHeartbeats 2000000
set_option linter.unusedVariables false
theorem c_Or_two (b : Nat) (x y : Int) (w : World) (hr : Row w b 3 #[.int .i64 x, .int .i64 y]) :
    Calls Tryz.prog 198 #[.slice (some ⟨b, 0, none⟩) 2 2] w fun e w' => e = .returned (.int .i64 (if x = 0 then y else x)) ∧ w = w' := by
  have c0 := hr.cell
  clear hr
  go_enter Tryz.func198, Tryz.ntmps198
  go_wp2_with fail
  go_loop [8] (fun i => i = .int .i64 0 ∨ (i = .int .i64 1 ∧ x = 0) ∨ (i = .int .i64 2 ∧ x = 0 ∧ y = 0)) (fun i => 2 - (intOf i).toNat)
  case atStart => exact .inl rfl
  case round =>
    rcases hrel with rfl | ⟨rfl, hx⟩ | ⟨rfl, hx, hy⟩
    · by_cases hx : x = 0
      · go_wp2_with fail
        go_round
        case rel => exact .inr (.inl ⟨rfl, hx⟩)
        case measure => simp [intOf]
      · have hx1 : (x != 0) = true := by simpa using hx
        go_wp2_with fail
        go_ret
        exact ⟨rfl, rfl⟩
    · by_cases hy : y = 0
      · go_wp2_with fail
        go_round
        case rel => exact .inr (.inr ⟨rfl, hx, hy⟩)
        case measure => simp [intOf]
      · have hy1 : (y != 0) = true := by simpa using hy
        go_wp2_with fail
        go_ret
        exact ⟨rfl, rfl⟩
    · go_wp2_with fail
      go_ret
      exact ⟨rfl, rfl⟩
/-- How pairs are ordered: by what drives, then by what is driven. -/
def Tp.ord (a b : Ec.Pair) : Int := if cmpI a.drives b.drives = 0 then cmpI a.driven b.driven else cmpI a.drives b.drives
def ordΦ (ax ay bx by_ N M Z : Int) (pa pb : Nat) (w0 : World) (i : Nat) (v : Value) (w : World) : Prop :=
  match i with
  | 0 => v = .pointer (some ⟨pa, 0, none⟩)
  | 1 => v = .int .i64 ax
  | 2 => v = .pointer (some ⟨pb, 0, none⟩)
  | 3 => v = .int .i64 bx
  | 4 => v = .int .i64 N
  | 5 => v = .pointer (some ⟨pa, 1, none⟩)
  | 6 => v = .int .i64 ay
  | 7 => v = .pointer (some ⟨pb, 1, none⟩)
  | 8 => v = .int .i64 by_
  | 9 => v = .int .i64 M
  | 10 => MkAt w0 v w 3 2 #[.int .i64 N, .int .i64 M]
  | 11 => v = .int .i64 Z
  | _ => v = .int .i64 Z
theorem ordΦ_mono {ax ay bx by_ N M Z : Int} {pa pb : Nat} {w0 : World} (i : Nat) (v : Value) (w w' : World) (h : ordΦ ax ay bx by_ N M Z pa pb w0 i v w) (he : Ext w w') : ordΦ ax ay bx by_ N M Z pa pb w0 i v w' := by
  unfold ordΦ at h ⊢
  split at h <;> first
    | exact h
    | exact MkAt.ext h he
    | exact fun hg => MkAt.ext (h hg) he
theorem t_inOrder_any (ax ay bx by_ : Int) (w : World) :
    Calls Tryz.prog 161 #[.agg #[.int .i64 ax, .int .i64 ay], .agg #[.int .i64 bx, .int .i64 by_]] w fun e w' => e = .returned (.int .i64 (Tp.ord ⟨ax, ay⟩ ⟨bx, by_⟩)) ∧ Ext w w' := by
  have HN := Lib.hid (fun W => c_Compare_any ax bx W)
  have HM := Lib.hid (fun W => c_Compare_any ay by_ W)
  have hx : Tp.ord ⟨ax, ay⟩ ⟨bx, by_⟩ = if cmpI ax bx = 0 then cmpI ay by_ else cmpI ax bx := rfl
  rw [hx]
  clear hx
  obtain ⟨N, hN⟩ : ∃ N, cmpI ax bx = N := ⟨_, rfl⟩
  obtain ⟨M, hM⟩ : ∃ M, cmpI ay by_ = M := ⟨_, rfl⟩
  rw [hN] at HN ⊢
  rw [hM] at HM ⊢
  have HZ := Lib.hid (fun b W h => c_Or_two b N M W h)
  obtain ⟨Z, hZ⟩ : ∃ Z, (if N = 0 then M else N) = Z := ⟨_, rfl⟩
  rw [hZ] at HZ ⊢
  clear hN hM hZ
  have HRA : Hid (Row ((w.alloc (.cells #[.int .i64 ax, .int .i64 ay] 125)).alloc (.cells #[.int .i64 bx, .int .i64 by_] 125)) w.heap.size 125 #[.int .i64 ax, .int .i64 ay]) := Lib.hid (blocks2 w _ _).1
  have HRB : Hid (Row ((w.alloc (.cells #[.int .i64 ax, .int .i64 ay] 125)).alloc (.cells #[.int .i64 bx, .int .i64 by_] 125)) (w.heap.size + 1) 125 #[.int .i64 bx, .int .i64 by_]) := Lib.hid (blocks2 w _ _).2
  have HE0 : Hid (Ext w ((w.alloc (.cells #[.int .i64 ax, .int .i64 ay] 125)).alloc (.cells #[.int .i64 bx, .int .i64 by_] 125))) := Lib.hid (((Ext.refl w).alloc _).alloc _)
  go_enter Tryz.func161, Tryz.ntmps161
  go_wp2_with fail
  obtain ⟨W, hW⟩ : ∃ W, (w.alloc (.cells #[.int .i64 ax, .int .i64 ay] 125)).alloc (.cells #[.int .i64 bx, .int .i64 by_] 125) = W := ⟨_, rfl⟩
  obtain ⟨pa, hpa⟩ : ∃ pa, w.heap.size = pa := ⟨_, rfl⟩
  obtain ⟨pb, hpb⟩ : ∃ pb, pa + 1 = pb := ⟨_, rfl⟩
  rw [hW, hpa] at HRA HRB
  rw [hW] at HE0
  rw [hpb] at HRB
  rw [hW, hpa, hpb]
  clear hW hpa hpb
  refine wp_region_free_tail 13 13 (ordΦ ax ay bx by_ N M Z pa pb W) (by kernel_rfl) (by simp) (by kernel_rfl) (by kernel_rfl) (by kernel_rfl) (by kernel_rfl) ordΦ_mono ?hob ?hQ (fun h => absurd h (by omega))
  case hob =>
    intro i o hin ho a wa hE hF
    match i, hin with
    | 0, _ =>
      obtain rfl := Option.some.inj ho
      have h0 : a.tmps[2]?.getD undef = .pointer (some ⟨pa, 0, none⟩) := evalD (hF.old 2 (by decide))
      refine Ran.value rfl (v := .pointer (some ⟨pa, 0, none⟩)) (w1 := wa) ?_ ⟨rfl, Ext.refl _⟩
      go_simp
    | 1, _ =>
      obtain rfl := Option.some.inj ho
      have h0 : a.tmps[5]?.getD undef = .pointer (some ⟨pa, 0, none⟩) := evalD ((hF.from_ 0 5 rfl (by decide)))
      have q := (Row.ext (HRA.out) hE).cell
      refine Ran.value rfl (v := .int .i64 ax) (w1 := wa) ?_ ⟨rfl, Ext.refl _⟩
      go_simp
    | 2, _ =>
      obtain rfl := Option.some.inj ho
      have h0 : a.tmps[3]?.getD undef = .pointer (some ⟨pb, 0, none⟩) := evalD (hF.old 3 (by decide))
      refine Ran.value rfl (v := .pointer (some ⟨pb, 0, none⟩)) (w1 := wa) ?_ ⟨rfl, Ext.refl _⟩
      go_simp
    | 3, _ =>
      obtain rfl := Option.some.inj ho
      have h0 : a.tmps[7]?.getD undef = .pointer (some ⟨pb, 0, none⟩) := evalD ((hF.from_ 2 7 rfl (by decide)))
      have q := (Row.ext (HRB.out) hE).cell
      refine Ran.value rfl (v := .int .i64 bx) (w1 := wa) ?_ ⟨rfl, Ext.refl _⟩
      go_simp
    | 4, _ =>
      obtain rfl := Option.some.inj ho
      have h0 : a.tmps[6]?.getD undef = .int .i64 ax := evalD ((hF.from_ 1 6 rfl (by decide)))
      have h1 : a.tmps[8]?.getD undef = .int .i64 bx := evalD ((hF.from_ 3 8 rfl (by decide)))
      refine Ran.enter rfl (f := 192) (args := #[.int .i64 ax, .int .i64 bx]) (w1 := wa) ?_ ?_
      · go_simp
      · refine (HN.out _).mono ?_
        rintro r w1 ⟨rfl, hX⟩
        exact ⟨_, rfl, rfl, hX ▸ Ext.refl _⟩
    | 5, _ =>
      obtain rfl := Option.some.inj ho
      have h0 : a.tmps[2]?.getD undef = .pointer (some ⟨pa, 0, none⟩) := evalD (hF.old 2 (by decide))
      refine Ran.value rfl (v := .pointer (some ⟨pa, 1, none⟩)) (w1 := wa) ?_ ⟨rfl, Ext.refl _⟩
      go_simp
    | 6, _ =>
      obtain rfl := Option.some.inj ho
      have h0 : a.tmps[10]?.getD undef = .pointer (some ⟨pa, 1, none⟩) := evalD ((hF.from_ 5 10 rfl (by decide)))
      have q := (Row.ext (HRA.out) hE).cell
      refine Ran.value rfl (v := .int .i64 ay) (w1 := wa) ?_ ⟨rfl, Ext.refl _⟩
      go_simp
    | 7, _ =>
      obtain rfl := Option.some.inj ho
      have h0 : a.tmps[3]?.getD undef = .pointer (some ⟨pb, 0, none⟩) := evalD (hF.old 3 (by decide))
      refine Ran.value rfl (v := .pointer (some ⟨pb, 1, none⟩)) (w1 := wa) ?_ ⟨rfl, Ext.refl _⟩
      go_simp
    | 8, _ =>
      obtain rfl := Option.some.inj ho
      have h0 : a.tmps[12]?.getD undef = .pointer (some ⟨pb, 1, none⟩) := evalD ((hF.from_ 7 12 rfl (by decide)))
      have q := (Row.ext (HRB.out) hE).cell
      refine Ran.value rfl (v := .int .i64 by_) (w1 := wa) ?_ ⟨rfl, Ext.refl _⟩
      go_simp
    | 9, _ =>
      obtain rfl := Option.some.inj ho
      have h0 : a.tmps[11]?.getD undef = .int .i64 ay := evalD ((hF.from_ 6 11 rfl (by decide)))
      have h1 : a.tmps[13]?.getD undef = .int .i64 by_ := evalD ((hF.from_ 8 13 rfl (by decide)))
      refine Ran.enter rfl (f := 192) (args := #[.int .i64 ay, .int .i64 by_]) (w1 := wa) ?_ ?_
      · go_simp
      · refine (HM.out _).mono ?_
        rintro r w1 ⟨rfl, hX⟩
        exact ⟨_, rfl, rfl, hX ▸ Ext.refl _⟩
    | 10, _ =>
      obtain rfl := Option.some.inj ho
      have h0 : a.tmps[9]?.getD undef = .int .i64 N := evalD ((hF.from_ 4 9 rfl (by decide)))
      have h1 : a.tmps[14]?.getD undef = .int .i64 M := evalD ((hF.from_ 9 14 rfl (by decide)))
      refine Ran.value rfl (v := .slice (some ⟨wa.heap.size, 0, none⟩) 2 2) (w1 := wa.alloc (.cells #[.int .i64 N, .int .i64 M] 3)) ?_ ⟨⟨wa.heap.size, rfl, hE.size, Row.new _ _ _⟩, (Ext.refl _).alloc _⟩
      go_simp
    | 11, _ =>
      obtain rfl := Option.some.inj ho
      obtain ⟨b_h0, h0, hb_h0, hr_h0⟩ : MkAt W (a.eval (.tmp 15)) wa 3 2 #[.int .i64 N, .int .i64 M] := (hF.from_ 10 15 rfl (by decide))
      replace h0 := evalD h0
      refine Ran.enter rfl (f := 198) (args := #[.slice (some ⟨b_h0, 0, none⟩) 2 2]) (w1 := wa) ?_ ?_
      · go_simp
      · refine (HZ.out b_h0 _ hr_h0).mono ?_
        rintro r w1 ⟨rfl, hX⟩
        exact ⟨_, rfl, rfl, hX ▸ Ext.refl _⟩
    | 12, _ =>
      obtain rfl := Option.some.inj ho
      have h0 : a.tmps[16]?.getD undef = .int .i64 Z := evalD ((hF.from_ 11 16 rfl (by decide)))
      refine Ran.value rfl (v := .int .i64 Z) (w1 := wa) ?_ ⟨rfl, Ext.refl _⟩
      go_simp
    | k + 13, hin => omega
  case hQ =>
    intro vs w2 hE hΦ
    have f0 : vs 0 = .pointer (some ⟨pa, 0, none⟩) := hΦ 0 (by omega)
    have f1 : vs 1 = .int .i64 ax := hΦ 1 (by omega)
    have f2 : vs 2 = .pointer (some ⟨pb, 0, none⟩) := hΦ 2 (by omega)
    have f3 : vs 3 = .int .i64 bx := hΦ 3 (by omega)
    have f4 : vs 4 = .int .i64 N := hΦ 4 (by omega)
    have f5 : vs 5 = .pointer (some ⟨pa, 1, none⟩) := hΦ 5 (by omega)
    have f6 : vs 6 = .int .i64 ay := hΦ 6 (by omega)
    have f7 : vs 7 = .pointer (some ⟨pb, 1, none⟩) := hΦ 7 (by omega)
    have f8 : vs 8 = .int .i64 by_ := hΦ 8 (by omega)
    have f9 : vs 9 = .int .i64 M := hΦ 9 (by omega)
    obtain ⟨b10, f10, hb10, hr10⟩ : MkAt W (vs 10) w2 3 2 #[.int .i64 N, .int .i64 M] := hΦ 10 (by omega)
    have f11 : vs 11 = .int .i64 Z := hΦ 11 (by omega)
    have f12 : vs 12 = .int .i64 Z := hΦ 12 (by omega)
    have hrg : List.range 13 = [0, 1, 2, 3, 4, 5, 6, 7, 8, 9, 10, 11, 12] := rfl
    unfold putAll putS
    simp only [List.length_cons, List.length_nil, List.take_succ_cons, List.take_zero, List.drop_succ_cons, List.drop_zero, Nat.reduceAdd, hrg, List.foldl_cons, List.foldl_nil, dstOf, List.getElem?_cons_succ, List.getElem?_cons_zero, Option.bind_some]
    clear hrg
    rw [f0, f1, f2, f3, f4, f5, f6, f7, f8, f9, f10, f11, f12]
    simp only [Act.put, List.setIfInBounds_toArray, List.set_cons_succ, List.set_cons_zero]
    go_wp2_with fail
    go_ret
    exact ⟨rfl, HE0.out.trans hE⟩
/-- Which numbers of pairs the Sense s lets in. -/
def Tp.lets (s n : Int) : Bool := if s = 2 then decide (n % 2 = 0) else if s = 3 then decide (n % 2 = 1) else true
theorem t_lets_any (a b p s n : Int) (V T : Value) (w : World) (hs : 1 ≤ s ∧ s ≤ 3) (hn : 0 ≤ n ∧ n ≤ 100) :
    Calls Tryz.prog 153 #[.agg #[.int .i64 a, .int .i64 b, .int .i64 p, .int .i64 s, V, T], .int .i64 n] w fun e w' => e = .returned (.bool (Tp.lets s n)) ∧ Ext w w' := by
  have HR : Hid (Row (w.alloc (.cells #[.int .i64 a, .int .i64 b, .int .i64 p, .int .i64 s, V, T] 161)) w.heap.size 161 #[.int .i64 a, .int .i64 b, .int .i64 p, .int .i64 s, V, T]) := Lib.hid (Row.new w 161 _)
  have HE : Hid (Ext w (w.alloc (.cells #[.int .i64 a, .int .i64 b, .int .i64 p, .int .i64 s, V, T] 161))) := Lib.hid ((Ext.refl w).alloc _)
  have a0 := HR.out.cell
  have e0 : n.tmod 2 = n % 2 := Int.tmod_eq_emod_of_nonneg hn.1
  have HL : Hid (Tp.lets s n = if s = 2 then decide (n % 2 = 0) else if s = 3 then decide (n % 2 = 1) else true) := Lib.hid rfl
  obtain ⟨q, hq⟩ : ∃ q, n % 2 = q := ⟨_, rfl⟩
  rw [hq] at e0 HL
  clear hq
  by_cases h2 : s = 2
  · subst h2
    go_enter Tryz.func153, Tryz.ntmps153
    go_wp2
    go_ret
    exact ⟨by rw [HL.out]; simp <;> rfl, HE.out⟩
  · by_cases h3 : s = 3
    · subst h3
      go_enter Tryz.func153, Tryz.ntmps153
      go_wp2
      go_ret
      exact ⟨by rw [HL.out]; simp <;> rfl, HE.out⟩
    · obtain rfl : s = 1 := by omega
      go_enter Tryz.func153, Tryz.ntmps153
      go_wp2
      go_ret
      exact ⟨by rw [HL.out]; simp, HE.out⟩
end Go.Proofs.YtimkmokomohgjaaGreat
namespace Go.Proofs.YtimkmokomohgjaaGreat
open Go.RowKit
open Sp (rd)
set_option maxRecDepth 100000
set_option maxHeartbeats 4000000
set_option linter.unusedVariables false
/-- Marks: the slice of L cells at A holds M's values. -/
def Tp.Bits (w : World) (A : Option Addr) (L : Nat) (M : Nat → Bool) : Prop := 0 < L → ∃ b o, A = some ⟨b, o, none⟩ ∧ ∀ k, k < L → w.cell? ⟨b, o + k, none⟩ = some (.bool (M k))
theorem Tp.Bits.ext {w w' : World} {A : Option Addr} {L : Nat} {M : Nat → Bool} (h : Tp.Bits w A L M) (he : Ext w w') : Tp.Bits w' A L M := fun hL =>
  let ⟨b, o, e, hc⟩ := h hL
  ⟨b, o, e, fun k hk => he.cell (hc k hk)⟩
/-- Whether some multiple of both numbers is marked, from n on. -/
def Tp.canF (M : Nat → Bool) (L x y : Nat) : Nat → Nat → Bool
  | 0, _ => false
  | m + 1, n => if n * max x y < L then (M (n * x) && M (n * y)) || Tp.canF M L x y m (n + 1) else false
def Tp.can (M : Nat → Bool) (L x y : Nat) : Bool := Tp.canF M L x y L 1
theorem Tp.canF_end {M : Nat → Bool} {L x y n : Nat} (h : ¬ n * max x y < L) : ∀ m, Tp.canF M L x y m n = false
  | 0 => rfl
  | m + 1 => by rw [Tp.canF, if_neg h]
theorem Tp.canF_step {M : Nat → Bool} {L x y n : Nat} (h : n * max x y < L) (h1 : 1 ≤ x) : Tp.canF M L x y (L + 1 - n) n = ((M (n * x) && M (n * y)) || Tp.canF M L x y (L + 1 - (n + 1)) (n + 1)) := by
  have h2 : n * 1 ≤ n * max x y := Nat.mul_le_mul_left n (by omega)
  obtain ⟨m, hm⟩ : ∃ m, L + 1 - n = m + 1 := ⟨L - n, by omega⟩
  have hm2 : L + 1 - (n + 1) = m := by omega
  rw [hm, hm2, Tp.canF, if_pos h]
theorem t_can_any (a b p s : Int) (V T S : Value) (bm om nm cm k : Nat) (x y : Nat) (A : Option Addr) (L c : Nat) (M : Nat → Bool) (w : World) (hk : k < nm) (hnm : nm ≤ 1000) (hrow : w.cell? ⟨bm, om + k, none⟩ = some (.slice A L c)) (hB : Tp.Bits w A L M) (hL : L ≤ 100000) (hx : 1 ≤ x ∧ x ≤ 1000000000) (hy : 1 ≤ y ∧ y ≤ 1000000000) :
    Calls Tryz.prog 196 #[.agg #[.int .i64 a, .int .i64 b, .int .i64 p, .int .i64 s, V, T, S, .slice (some ⟨bm, om, none⟩) nm cm], .int .i64 (k : Int), .agg #[.int .i64 (x : Int), .int .i64 (y : Int)]] w fun e w' => e = .returned (.bool (Tp.can M L x y)) ∧ Ext w w' := by
  have HRA := Lib.hid (blocks2 w (.cells #[.int .i64 a, .int .i64 b, .int .i64 p, .int .i64 s, V, T, S, .slice (some ⟨bm, om, none⟩) nm cm] 165) (.cells #[.int .i64 (x : Int), .int .i64 (y : Int)] 69)).1
  have HRB : Hid (Row ((w.alloc (.cells #[.int .i64 a, .int .i64 b, .int .i64 p, .int .i64 s, V, T, S, .slice (some ⟨bm, om, none⟩) nm cm] 165)).alloc (.cells #[.int .i64 (x : Int), .int .i64 (y : Int)] 69)) (w.heap.size + 1) 69 #[.int .i64 (x : Int), .int .i64 (y : Int)]) := Lib.hid (blocks2 w _ _).2
  have HRA : Hid (Row ((w.alloc (.cells #[.int .i64 a, .int .i64 b, .int .i64 p, .int .i64 s, V, T, S, .slice (some ⟨bm, om, none⟩) nm cm] 165)).alloc (.cells #[.int .i64 (x : Int), .int .i64 (y : Int)] 69)) w.heap.size 165 #[.int .i64 a, .int .i64 b, .int .i64 p, .int .i64 s, V, T, S, .slice (some ⟨bm, om, none⟩) nm cm]) := HRA
  have HE : Hid (Ext w ((w.alloc (.cells #[.int .i64 a, .int .i64 b, .int .i64 p, .int .i64 s, V, T, S, .slice (some ⟨bm, om, none⟩) nm cm] 165)).alloc (.cells #[.int .i64 (x : Int), .int .i64 (y : Int)] 69))) := Lib.hid (((Ext.refl w).alloc _).alloc _)
  have HROW := Lib.hid (HE.out.cell hrow)
  have HBT := Lib.hid (hB.ext HE.out)
  clear hrow hB
  go_enter Tryz.func196, Tryz.ntmps196
  obtain ⟨W, hW⟩ : ∃ W, (w.alloc (.cells #[.int .i64 a, .int .i64 b, .int .i64 p, .int .i64 s, V, T, S, .slice (some ⟨bm, om, none⟩) nm cm] 165)).alloc (.cells #[.int .i64 (x : Int), .int .i64 (y : Int)] 69) = W := ⟨_, rfl⟩
  obtain ⟨pa, hpa⟩ : ∃ pa, w.heap.size = pa := ⟨_, rfl⟩
  obtain ⟨pb, hpb⟩ : ∃ pb, pa + 1 = pb := ⟨_, rfl⟩
  have HWE := Lib.hid hW
  rw [hW, hpa] at HRA HRB
  rw [hW] at HE HROW HBT
  rw [hpb] at HRB
  have hk1 : (k : Int) < (nm : Int) := by omega
  have a0 := HRA.out.cell
  have b0 := HRB.out.cell
  have r0 := HROW.out
  go_wp2_with fail
  obtain ⟨mx, hmx⟩ : ∃ m : Nat, max x y = m := ⟨_, rfl⟩
  have hmi : max (x : Int) (y : Int) = (mx : Int) := by omega
  have hm2 : x ≤ mx ∧ y ≤ mx ∧ mx ≤ 1000000000 := by omega
  have HCE := Lib.hid (fun n m (h : ¬ n * mx < L) => Tp.canF_end (M := M) (L := L) (x := x) (y := y) (n := n) (by rw [hmx]; exact h) m)
  have HCS := Lib.hid (fun n (h : n * mx < L) => Tp.canF_step (M := M) (L := L) (x := x) (y := y) (n := n) (by rw [hmx]; exact h) hx.1)
  clear hmx
  go_loop [8] (fun i => ∃ n : Nat, 1 ≤ n ∧ n ≤ L + 1 ∧ i = .int .i64 (n : Int) ∧ Tp.can M L x y = Tp.canF M L x y (L + 1 - n) n) (fun i => L + 1 - (intOf i).toNat)
  case atStart => exact ⟨1, Nat.le_refl _, by omega, rfl, rfl⟩
  case round =>
    obtain ⟨n, hn1, hn2, rfl, hq⟩ := hrel
    have HQ := Lib.hid hq
    clear hq
    obtain ⟨q, hq⟩ : ∃ q : Nat, n * mx = q := ⟨_, rfl⟩
    have hqi : (n : Int) * (mx : Int) = (q : Int) := by rw [← hq]; simp
    have hq1 := Nat.mul_le_mul hn2 hm2.2.2
    have hn3 := Nat.mul_le_mul_left n (show 1 ≤ mx by omega)
    have hqx := Nat.mul_le_mul_left n hm2.1
    have hqy := Nat.mul_le_mul_left n hm2.2.1
    obtain ⟨px, hpx⟩ : ∃ q : Nat, n * x = q := ⟨_, rfl⟩
    have hpxi : (n : Int) * (x : Int) = (px : Int) := by rw [← hpx]; simp
    obtain ⟨py, hpy⟩ : ∃ q : Nat, n * y = q := ⟨_, rfl⟩
    have hpyi : (n : Int) * (y : Int) = (py : Int) := by rw [← hpy]; simp
    rw [hq] at hqx hqy hq1 hn3
    rw [hpx] at hqx
    rw [hpy] at hqy
    by_cases hlt : q < L
    · have HS := Lib.hid (HCS.out n (by rw [hq]; exact hlt))
      rw [hpx, hpy] at HS
      obtain ⟨bb, o, rfl, hc⟩ := HBT.out (by omega)
      have cx := hc px (by omega)
      have cy := hc py (by omega)
      have hlt' : (q : Int) < (L : Int) := by omega
      have hx' : (px : Int) < (L : Int) := by omega
      have hy' : (py : Int) < (L : Int) := by omega
      obtain ⟨mxv, hmxv⟩ : ∃ v, M px = v := ⟨_, rfl⟩
      obtain ⟨myv, hmyv⟩ : ∃ v, M py = v := ⟨_, rfl⟩
      rw [hmxv] at cx HS
      rw [hmyv] at cy HS
      clear hc hq hpx hpy hmxv hmyv hqx hqy
      cases mxv
      · go_wp2_with fail
        go_round
        case rel => exact ⟨n + 1, by omega, by omega, by go_num, by rw [HQ.out, HS.out] <;> rfl⟩
        case measure => simp [intOf]; omega
      · cases myv
        · go_wp2_with fail
          go_round
          case rel => exact ⟨n + 1, by omega, by omega, by go_num, by rw [HQ.out, HS.out] <;> rfl⟩
          case measure => simp [intOf]; omega
        · go_wp2_with fail
          go_ret
          exact ⟨by rw [HQ.out, HS.out] <;> rfl, HE.out⟩
    · have HC := Lib.hid (HCE.out n (L + 1 - n) (by rw [hq]; exact hlt))
      have hlt' : ¬ (q : Int) < (L : Int) := by omega
      clear hq hpx hpy hqx hqy
      go_wp2_with fail
      go_ret
      exact ⟨by rw [HQ.out, HC.out] <;> rfl, HE.out⟩
end Go.Proofs.YtimkmokomohgjaaGreat
namespace Go.Proofs.YtimkmokomohgjaaGreat
open Go.RowKit
open Sp (rd)
set_option maxRecDepth 100000
set_option maxHeartbeats 4000000
set_option linter.unusedVariables false
theorem t_search_any (A : Option Addr) (c : Nat) (l : List Int) (y n d : Int) (bf : Nat) (w : World) (hm : Ints w A l) (hr : Row w bf 69 #[.int .i64 n, .int .i64 d]) (hl : l.length ≤ 100000) (hn : -1000000000 ≤ n ∧ n ≤ 1000000000)
    (hb : ∀ k, k < l.length → -1000000000 ≤ rd l k ∧ rd l k ≤ 1000000000) :
    Calls Tryz.prog 190 #[.slice A l.length c, .int .i64 y, .func (.func 191) #[] #[.pointer (some ⟨bf, 0, none⟩)]] w fun e w' => (∃ b, e = .returned (.tuple #[.int .i64 ((Tp.bsL l n y : Nat) : Int), .bool b])) ∧ w = w' := by
  have HM := Lib.hid hm
  have HR := Lib.hid hr
  have HB := Lib.hid hb
  have HN := Lib.hid (fun x (hx : -1000000000 ≤ x ∧ x ≤ 1000000000) W h => t_near1_any x y n d bf W h hx hn)
  obtain ⟨P, hP⟩ : ∃ P : Nat → Bool, (fun k => decide (rd l k * n < y)) = P := ⟨_, rfl⟩
  have HP : Hid (∀ k, P k = decide (rd l k * n < y)) := Lib.hid fun k => by rw [← hP]
  obtain ⟨R, hR⟩ : ∃ R, Tp.bsL l n y = R := ⟨_, rfl⟩
  have HF : Hid (∀ m, l.length ≤ m → Tp.bs P m 0 l.length = R) := Lib.hid fun m h => by
    rw [← hR, ← hP]
    exact Tp.bs_fuel _ _ _ _ _ (by omega) (by omega)
  rw [hR]
  clear hm hr hb hP hR
  go_enter Tryz.func190, Tryz.ntmps190
  go_wp2_with fail
  go_loop [9, 10] (fun vi vj => ∃ i j : Nat, i ≤ j ∧ j ≤ l.length ∧ vi = .int .i64 i ∧ vj = .int .i64 j ∧ ∀ m, j - i ≤ m → Tp.bs P m i j = R) (fun vi vj => (intOf vj).toNat - (intOf vi).toNat)
  case atStart => exact ⟨0, l.length, Nat.zero_le _, Nat.le_refl _, rfl, rfl, fun m h => HF.out m (by omega)⟩
  case round =>
    obtain ⟨i, j, hij, hj, rfl, rfl, hres⟩ := hrel
    have HRS := Lib.hid hres
    clear hres
    by_cases hlt : i < j
    · obtain ⟨h, hh⟩ : ∃ h, (i + j) / 2 = h := ⟨_, rfl⟩
      have h1 : i ≤ h := by omega
      have h2 : h < j := by omega
      have h3 : ((i : Int) + (j : Int)) / 2 = (h : Int) := by omega
      have h4 : (h : Int) < (l.length : Int) := by omega
      have HST : Hid (∀ m, Tp.bs P (m + 1) i j = if P h then Tp.bs P m (h + 1) j else Tp.bs P m i h) := Lib.hid fun m => by rw [Tp.bs, if_pos hlt, hh]
      obtain ⟨b, o, rfl, p⟩ := HM.out (by omega)
      have q := p h (by omega)
      have hx := HB.out h (by omega)
      have HPH := Lib.hid (HP.out h)
      obtain ⟨x, hx'⟩ : ∃ x, rd l h = x := ⟨_, rfl⟩
      rw [hx'] at q hx HPH
      clear hx' p hh
      go_wp2_with fail
      refine (HN.out x hx _ HR.out).mono ?_
      rintro e w1 ⟨rfl, rfl⟩
      cases hph : P h with
      | true =>
        have hlt2 : x * n < y := by rw [hph] at HPH; exact of_decide_eq_true HPH.out.symm
        have hc : cmpI (x * n) y = -1 := if_pos hlt2
        rw [hc]
        clear hlt2 hc
        go_wp2_with fail
        go_round
        case rel =>
          refine ⟨h + 1, j, by omega, hj, by go_num, rfl, fun m hm => ?_⟩
          rw [Tp.bs_fuel P m (m + (j - i)) (h + 1) j hm (by omega), ← HRS.out (m + (j - i) + 1) (by omega), HST.out, if_pos hph]
        case measure => simp [intOf]; omega
      | false =>
        have hlt2 : ¬ x * n < y := by rw [hph] at HPH; exact of_decide_eq_false HPH.out.symm
        have hc : (cmpI (x * n) y < 0) = False := by
          unfold cmpI
          rw [if_neg hlt2]
          split <;> simp
        obtain ⟨z, hz⟩ : ∃ z, cmpI (x * n) y = z := ⟨_, rfl⟩
        rw [hz] at hc ⊢
        have hz0 : ¬ z < 0 := by rw [hc]; exact fun h => h
        clear hlt2 hc hz
        go_wp2_with fail
        go_round
        case rel =>
          refine ⟨i, h, h1, by omega, rfl, rfl, fun m hm => ?_⟩
          rw [Tp.bs_fuel P m (m + (j - i)) i h hm (by omega), ← HRS.out (m + (j - i) + 1) (by omega), HST.out, if_neg (by rw [hph]; decide)]
        case measure => simp [intOf]; omega
    · obtain rfl : i = j := by omega
      have hres : i = R := by
        have := HRS.out 0 (by omega)
        simpa [Tp.bs] using this
      subst hres
      by_cases hin : i < l.length
      · obtain ⟨b, o, rfl, p⟩ := HM.out (by omega)
        have q := p i hin
        have hx := HB.out i hin
        have hin' : (i : Int) < (l.length : Int) := by omega
        obtain ⟨x, hx'⟩ : ∃ x, rd l i = x := ⟨_, rfl⟩
        rw [hx'] at q hx
        clear hx' p
        go_wp2_with fail
        refine (HN.out x hx _ HR.out).mono ?_
        rintro e w1 ⟨rfl, rfl⟩
        go_wp2_with fail
        go_ret2
        exact ⟨⟨_, rfl⟩, rfl⟩
      · have hin' : ¬ (i : Int) < (l.length : Int) := by omega
        go_wp2_with fail
        go_ret2
        exact ⟨.inl rfl, rfl⟩
theorem Tp.map_two {α β : Type} {g : α → β} {l : List α} {a b : β} (h : l.map g = [a, b]) : ∃ x y, l = [x, y] ∧ g x = a ∧ g y = b := by
  match l, h with
  | [x, y], h =>
    simp at h
    exact ⟨x, y, rfl, h.1, h.2⟩
theorem Tp.field_parts {f : Field} {a : String} {b : TypeId} {c : Nat} (h : (fun f : Field => (f.name, f.type, f.offset)) f = (a, b, c)) : f.name = a ∧ f.type = b ∧ f.offset = c := by
  simp at h
  exact h
theorem Tp.eql_fr (a b c d : Int) (w : World) : (binOp .eql 69 (.agg #[.int .i64 a, .int .i64 b]) (.agg #[.int .i64 c, .int .i64 d])).run Tryz.prog w = .ok (.bool ((a == c) && (b == d))) w := by
  have hf : (Tryz.prog.fieldsOf 69).toList.map (fun f => (f.name, f.type, f.offset)) = [("Num", 3, 0), ("Den", 3, 1)] := by kernel_rfl
  obtain ⟨f1, f2, hfs, p1, p2⟩ := Tp.map_two hf
  obtain ⟨n1, t1, o1⟩ := Tp.field_parts p1
  obtain ⟨n2, t2, o2⟩ := Tp.field_parts p2
  rw [run_eql_struct, run_equalIn_agg w 9999 _ _ _ (by kernel_rfl) (by kernel_rfl), hfs]
  simp [Op.eqFields, n1, t1, o1, n2, t2, o2, part, go_sem]
  by_cases h : a = c <;> by_cases h2 : b = d <;> simp [h, h2]
def Tp.frIs (l : List Ec.Pair) (x : Ec.Pair) : Bool := l.any fun y => (x.drives == y.drives) && (x.driven == y.driven)
theorem t_index_fr (A : Option Addr) (c : Nat) (l : List Ec.Pair) (x y : Int) (w : World) (hm : Pairs w A l) (hl : l.length ≤ 100000) :
    Calls Tryz.prog 206 #[.slice A l.length c, .agg #[.int .i64 x, .int .i64 y]] w (FoundInt (Tp.frIs l ⟨x, y⟩) w) := by
  have HM := Lib.hid hm
  have HR0 := Lib.hid (Row.new w 69 #[.int .i64 x, .int .i64 y])
  have HE0 := Lib.hid ((Ext.refl w).alloc (.cells #[.int .i64 x, .int .i64 y] 69))
  have HFR : Hid (Tp.frIs l ⟨x, y⟩ = l.any fun z => (x == z.drives) && (y == z.driven)) := Lib.hid rfl
  clear hm
  go_enter Tryz.func206, Tryz.ntmps206
  go_wp2_with fail
  obtain ⟨B, hB⟩ : ∃ B, w.heap.size = B := ⟨_, rfl⟩
  have HBB := Lib.hid hB
  rw [hB] at HR0 ⊢
  clear hB
  go_loopw [8] (fun i wr => ∃ k : Nat, k ≤ l.length ∧ i = .int .i64 k ∧ (l.take k).any (fun z => (x == z.drives) && (y == z.driven)) = false ∧ Ext (w.alloc (.cells #[.int .i64 x, .int .i64 y] 69)) wr) (fun i _ => l.length - (intOf i).toNat)
  case atStart => exact ⟨0, Nat.zero_le _, rfl, rfl, Ext.refl _⟩
  case round =>
    obtain ⟨k, hk, rfl, hq, hE⟩ := hrel
    have HQ := Lib.hid hq
    have HX := Lib.hid hE
    have HR := Lib.hid (HR0.out.ext hE)
    have HE := Lib.hid (HE0.out.trans hE)
    clear hq
    by_cases hlt : k < l.length
    · obtain ⟨b, o, rfl, hc⟩ := (HM.out.ext HE.out) (by omega)
      have HC := Lib.hid (hc k hlt)
      have HS := Lib.hid (any_take_succ l Ec.noPair (fun z => (x == z.drives) && (y == z.driven)) k hlt)
      have HT := Lib.hid (any_of_take l Ec.noPair (fun z => (x == z.drives) && (y == z.driven)) k hlt)
      have hlt' : (k : Int) < (l.length : Int) := by omega
      obtain ⟨z, hz⟩ : ∃ z, pd l k = z := ⟨_, rfl⟩
      have hz2 : l.getD k Ec.noPair = z := hz
      rw [hz] at HC
      rw [hz2] at HS HT
      obtain ⟨zx, zy⟩ := z
      have heq := fun w => Tp.eql_fr x y zx zy w
      obtain ⟨v, hv⟩ : ∃ v, ((x == zx) && (y == zy)) = v := ⟨_, rfl⟩
      rw [hv] at heq
      simp only at HC HS HT
      rw [hv] at HS HT
      clear hc hE hz hz2 hv
      go_wp2_with fail
      refine wp_region_later (by kernel_rfl) (by kernel_rfl) (fun W hW => ?_)
      have hX0 : Ext wr W := by rw [hW]; exact Ext.refl _
      clear hW
      have HX0 := Lib.hid hX0
      clear hX0
      have u0 := fun X : Later W => (HR.out.ext (HX0.out.trans X.ext)).cell
      have u1 := fun X : Later W => (HX0.out.trans X.ext).cell HC.out.1
      have u2 := fun X : Later W => (HX0.out.trans X.ext).cell HC.out.2
      repeat (go_big_quiet_step (fail))
      refine wpQuiet_nil ?_
      rintro ⟨wz, hEz⟩
      dsimp only
      have HEz := Lib.hid (HX0.out.trans hEz)
      clear u0 u1 u2 hEz
      cases v
      · go_wp2_with fail
        go_roundw
        case rel => exact ⟨k + 1, by omega, by go_num, by rw [HS.out, HQ.out] <;> rfl, HX.out.trans HEz.out⟩
        case measure => simp [intOf]; omega
      · go_wp2_with fail
        go_ret
        exact ⟨_, rfl, by rw [HFR.out, HT.out (by first | trivial | rfl)]; simp, HE.out.trans HEz.out⟩
    · have hlt' : ¬ (k : Int) < (l.length : Int) := by omega
      clear hE
      go_wp2_with fail
      go_ret
      have e : l.take k = l := List.take_of_length_le (by omega)
      have h := HQ.out
      rw [e] at h
      exact ⟨_, rfl, by rw [HFR.out, h]; rfl, HE.out⟩
theorem t_hasFr_any (A : Option Addr) (c : Nat) (l : List Ec.Pair) (x y : Int) (w : World) (hm : Pairs w A l) (hl : l.length ≤ 100000) :
    Calls Tryz.prog 194 #[.slice A l.length c, .agg #[.int .i64 x, .int .i64 y]] w fun e w' => e = .returned (.bool (Tp.frIs l ⟨x, y⟩)) ∧ Ext w w' := by
  have HR0 := Lib.hid (Row.new w 69 #[.int .i64 x, .int .i64 y])
  have HE0 := Lib.hid ((Ext.refl w).alloc (.cells #[.int .i64 x, .int .i64 y] 69))
  have HM := Lib.hid (hm.ext HE0.out)
  clear hm
  have a0 := HR0.out.cell
  go_enter Tryz.func194, Tryz.ntmps194
  go_wp2_with fail
  refine (t_index_fr A c l x y _ HM.out hl).mono ?_
  rintro e w1 ⟨r, rfl, hr, hE⟩
  have HR := Lib.hid hr
  have HE := Lib.hid (HE0.out.trans hE)
  clear hr hE a0
  go_wp2_with fail
  go_ret
  exact ⟨ret_bool HR.out, HE.out⟩
end Go.Proofs.YtimkmokomohgjaaGreat
namespace Go.Proofs.YtimkmokomohgjaaGreat
open Sp (rd)
set_option maxRecDepth 100000
set_option linter.unusedVariables false
deriving instance DecidableEq for Ec.Pair
/-- A fraction in lowest terms. -/
def Tp.red (a b : Int) : Ec.Pair := ⟨a / Int.gcd a b, b / Int.gcd a b⟩
/-- One fraction is looked at: what is nearest so far, and how far it is. -/
def Tp.nearOne (all : List Int) (f : Ec.Pair) (drives i : Int) (st : List Ec.Pair × Ec.Pair) : List Ec.Pair × Ec.Pair :=
  if Sp.inR i 0 (all.length - 1) = true then
    let x := Tp.red drives (rd all i.toNat)
    let d := Tp.dist x f
    let s1 := if st.1.length = 0 ∨ Tp.cmpF d st.2 < 0 then ([], d) else st
    if Tp.cmpF d s1.2 = 0 ∧ Tp.frIs s1.1 x = false then (s1.1 ++ [x], s1.2) else s1
  else st
/-- The two fractions that one product drives with. -/
def Tp.nearAt (all : List Int) (f : Ec.Pair) (k : Nat) (st : List Ec.Pair × Ec.Pair) : List Ec.Pair × Ec.Pair :=
  let at_ : Int := Tp.bsL all f.drives (rd all k * f.driven)
  Tp.nearOne all f (rd all k) at_ (Tp.nearOne all f (rd all k) (at_ - 1) st)
def Tp.nearN (all : List Int) (f : Ec.Pair) : Nat → List Ec.Pair × Ec.Pair
  | 0 => ([], ⟨0, 0⟩)
  | k + 1 => Tp.nearAt all f k (Tp.nearN all f k)
def Tp.near (all : List Int) (f : Ec.Pair) : List Ec.Pair × Ec.Pair := Tp.nearN all f all.length
/-- The first train of m more pairs behind now that turns by what is left. -/
def Tp.firstN (can : Nat → Ec.Pair → Bool) (teeth : List Int) : Nat → List Ec.Pair → Ec.Pair → Option (List Ec.Pair)
  | 0, now, _ => some now
  | m + 1, now, lft => (teeth.flatMap fun a => teeth.map fun b => (⟨a, b⟩ : Ec.Pair)).findSome? fun p =>
    if now.length ≠ 0 ∧ Tp.ord p (pd now (now.length - 1)) < 0 then none
    else
      let rest := Tp.red (lft.drives * p.driven) (lft.driven * p.drives)
      if can m rest = true then Tp.firstN can teeth m (now ++ [p]) rest else none
/-- The products of n wheels, some more than once, in the order in which the program finds them. -/
def Tp.prods (teeth : List Int) : Nat → Nat → Int → List Int
  | 0, _, now => [now]
  | n + 1, from_, now => (List.range (teeth.length - from_)).flatMap fun i => Tp.prods teeth n (from_ + i) (now * rd teeth (from_ + i))
/-- The marks of n wheels' products, and these in increasing order. -/
def Tp.mark (teeth : List Int) (n : Nat) (x : Nat) : Bool := (Tp.prods teeth n 0 1).any fun p => p == (x : Int)
def Tp.sorted (teeth : List Int) (n : Nat) : List Int := ((List.range (60 ^ n + 1)).filter (Tp.mark teeth n)).map fun (x : Nat) => (x : Int)
theorem Tp.teeth_R : Tp.teethN 6 [7] 7 = [6, 8, 9, 10, 11, 12] := by decide +kernel
theorem Tp.sorted_1 : Tp.sorted [6, 8, 9, 10, 11, 12] 1 = [6, 8, 9, 10, 11, 12] := by decide +kernel
theorem Tp.sorted_2 : Tp.sorted [6, 8, 9, 10, 11, 12] 2 = [36, 48, 54, 60, 64, 66, 72, 80, 81, 88, 90, 96, 99, 100, 108, 110, 120, 121, 132, 144] := by decide +kernel
theorem Tp.near_1 : Tp.near [6, 8, 9, 10, 11, 12] ⟨43, 30⟩ = ([⟨11, 8⟩], ⟨14, 8⟩) := by decide +kernel
theorem Tp.near_2 : Tp.near [36, 48, 54, 60, 64, 66, 72, 80, 81, 88, 90, 96, 99, 100, 108, 110, 120, 121, 132, 144] ⟨43, 30⟩ = ([⟨36, 25⟩], ⟨5, 25⟩) := by decide +kernel
/-- Whether a fraction can be one of m pairs, by the marks. -/
def Tp.canR (m : Nat) (x : Ec.Pair) : Bool := Tp.can (Tp.mark [6, 8, 9, 10, 11, 12] m) (60 ^ m + 1) x.drives.toNat x.driven.toNat
theorem Tp.first_R : Tp.firstN Tp.canR [6, 8, 9, 10, 11, 12] 2 [] ⟨36, 25⟩ = some [⟨12, 10⟩, ⟨12, 10⟩] := by decide +kernel
end Go.Proofs.YtimkmokomohgjaaGreat
namespace Go.Proofs.YtimkmokomohgjaaGreat
open Sp (rd)
set_option linter.unusedVariables false
/-- What the loop over the first k wheels has handed out. -/
def Tp.prodsUp (teeth : List Int) (n from_ : Nat) (now : Int) (k : Nat) : List Int := (List.range k).flatMap fun i => Tp.prods teeth n (from_ + i) (now * rd teeth (from_ + i))
theorem Tp.prods_succ (teeth : List Int) (n from_ : Nat) (now : Int) : Tp.prods teeth (n + 1) from_ now = Tp.prodsUp teeth n from_ now (teeth.length - from_) := rfl
theorem Tp.prodsUp_succ (teeth : List Int) (n from_ : Nat) (now : Int) (k : Nat) : Tp.prodsUp teeth n from_ now (k + 1) = Tp.prodsUp teeth n from_ now k ++ Tp.prods teeth n (from_ + k) (now * rd teeth (from_ + k)) := by
  unfold Tp.prodsUp
  rw [List.range_succ, List.flatMap_append]
  simp
theorem Tp.prodsUp_le (teeth : List Int) (n from_ : Nat) (now : Int) {k m : Nat} (h : k ≤ m) : (Tp.prodsUp teeth n from_ now k).length ≤ (Tp.prodsUp teeth n from_ now m).length := by
  induction m with
  | zero =>
    obtain rfl : k = 0 := by omega
    exact Nat.le_refl _
  | succ m ih =>
    rcases Nat.lt_or_ge m k with h' | h'
    · obtain rfl : k = m + 1 := by omega
      exact Nat.le_refl _
    · have := ih h'
      rw [Tp.prodsUp_succ, List.length_append]
      omega
/-- A product among a loop's. -/
abbrev Tp.Prod (M : Int) := { x : Int // 0 ≤ x ∧ x < M }
theorem Tp.step_lim {now t M : Int} {n : Nat} (h1 : 1 ≤ now) (h2 : now * 60 ^ (n + 1) < M) (t1 : 1 ≤ t) (t2 : t ≤ 60) : 1 ≤ now * t ∧ now * t * 60 ^ n < M ∧ now * t < M := by
  have hp : (1 : Int) ≤ 60 ^ n := by
    have : 0 < (60 : Int) ^ n := Int.pow_pos (by decide)
    omega
  have a1 : now * 1 ≤ now * t := Int.mul_le_mul_of_nonneg_left t1 (by omega)
  have a2 : now * t ≤ now * 60 := Int.mul_le_mul_of_nonneg_left t2 (by omega)
  have a3 : now * t * 60 ^ n ≤ now * 60 * 60 ^ n := Int.mul_le_mul_of_nonneg_right a2 (by omega)
  have a4 : now * 60 * 60 ^ n = now * 60 ^ (n + 1) := by rw [Int.pow_succ, Int.mul_assoc, Int.mul_comm 60]
  have a5 : now * t * 1 ≤ now * t * 60 ^ n := Int.mul_le_mul_of_nonneg_left hp (by omega)
  omega
end Go.Proofs.YtimkmokomohgjaaGreat
namespace Go.Proofs.YtimkmokomohgjaaGreat
open Go.RowKit Go.Shelf
open Sp (rd)
attribute [local go_sem] Oper.semAt_some
set_option maxRecDepth 100000
set_option maxHeartbeats 4000000
set_option linter.unusedVariables false
/-- How a search for products ends: all that are asked have come; or a round has said no more. -/
def Tp.Come (n₀ : Nat) (M : Int) (L : List Int) (J Jx : List (Tp.Prod M) → World → Prop) (pre : List (Tp.Prod M)) (W : World) : Ending → World → Prop := fun e W' =>
  (e = .returned (.bool true) ∧ (∃ q : List (Tp.Prod M), q.map Subtype.val = L ∧ J (pre ++ q) W') ∧ Tp.KP n₀ 4 4 W W') ∨ (e = .returned (.bool false) ∧ ∃ q, Jx q W')
theorem Tp.only {Q : Exit → Act → World → Prop} {a : Act} {w : World} (h : Q .normal a w) : OnlyEnd Q .normal a w := h
theorem t_prods2_any (n₀ l : Nat) (gy gr gs : Nat) (a b p s : Int) (V : Value) (At : Option Addr) (ct : Nat) (teeth : List Int) (M : Int) (N : Nat) (J Jx : List (Tp.Prod M) → World → Prop) (w0 : World) (hw0 : w0.heap.size = n₀) (hm : Ints w0 At teeth) (hl : teeth.length ≤ 1000) (ht : ∀ k, k < teeth.length → 1 ≤ rd teeth k ∧ rd teeth k ≤ 60) (hM : M ≤ 1000000)
    (hJ : ∀ s A B, J s A → Ext A B → J s B)
    (hY : ∀ m pre x A, J pre A → pre.length < N → YieldAt Fence.wide m Tryz.prog l #[.int .i64 x.1] A fun r B =>
      (r = .returned (.bool true) ∧ J (pre ++ [x]) B ∧ Tp.KP n₀ 4 4 A B) ∨ (r = .returned (.bool false) ∧ Jx (pre ++ [x]) B)) :
    ∀ (lf : Nat) (li : Int) (from_ : Nat) (now : Int) (n : Nat) (pre : List (Tp.Prod M)) (W : World), li = (lf : Int) → lf ≤ 1000 → from_ ≤ teeth.length → 1 ≤ now → now * 60 ^ lf < M → pre.length + (Tp.prods teeth lf from_ now).length ≤ N → Ext w0 W →
      Row W gy 86 #[.func (.yield l) #[] #[]] → Row W gr 161 #[.int .i64 a, .int .i64 b, .int .i64 p, .int .i64 s, V, .slice At teeth.length ct] → Row W gs 97 #[.func (.func 188) #[] #[.pointer (some ⟨gy, 0, none⟩), .pointer (some ⟨gr, 0, none⟩), .pointer (some ⟨gs, 0, none⟩)]] → J pre W →
      CallsIn Fence.wide n Tryz.prog 188 #[.int .i64 (from_ : Int), .int .i64 li, .int .i64 now, .pointer (some ⟨gy, 0, none⟩), .pointer (some ⟨gr, 0, none⟩), .pointer (some ⟨gs, 0, none⟩)] W (Tp.Come n₀ M (Tp.prods teeth lf from_ now) J Jx pre W) := by
  intro lf
  have HM := Lib.hid hm
  have HJ := Lib.hid hJ
  have HY := Lib.hid hY
  have HT := Lib.hid ht
  clear hm hJ hY ht
  induction lf with
  | zero =>
    intro li from_ now n pre W hli hlf hfrom hnow hM2 hN hE hy hr hs hJ0
    have hl0b : (li == 0) = true := by simpa using hli
    have hM3 : now < M := by simpa using hM2
    obtain ⟨fn, tmps, assign, body, hyv, hR⟩ := HY.out (n - 1) pre ⟨now, by omega, hM3⟩ W hJ0 (by simp [Tp.prods] at hN; omega)
    dsimp only at hyv
    have HR := Lib.hid hR
    have c0 := hy.cell
    clear hR hJ0 hr hs hE hM2 hN
    refine callsIn_of_wp Tryz.func188 rfl trivial ?_ rfl
    simp only [Tryz.ntmps188, List.size_toArray, List.length_cons, List.length_nil, Nat.reduceAdd, Nat.reduceSub, Array.replicate_succ, Array.replicate_zero, List.push_toArray, List.append_toArray, List.nil_append, List.cons_append]
    gi_wp2
    refine ⟨fun hh => by simp [Fence.wide] at hh, HR.out.mono ?_⟩
    rintro e W' (⟨rfl, hJ', hk'⟩ | ⟨rfl, hJx'⟩)
    · gi_wp2
      go_ret
      exact .inl ⟨rfl, ⟨[⟨now, by omega, hM3⟩], rfl, hJ'⟩, hk'⟩
    · gi_wp2
      go_ret
      exact .inr ⟨rfl, _, hJx'⟩
  | succ lf ih =>
    intro li from_ now n pre W hli hlf hfrom hnow hM2 hN hE hy hr hs hJ0
    have hl0 : ¬ li = 0 := by omega
    have hl0b : (li == 0) = false := by simpa using hl0
    have hl1 : li - 1 = (lf : Int) := by omega
    have hl2 : 1 ≤ li ∧ li ≤ 1000 := by omega
    have HL1 := Lib.hid hl1
    have HIH := Lib.hid ih
    have HN := Lib.hid hN
    have HYR := Lib.hid hy
    have HRR := Lib.hid hr
    have HSR := Lib.hid hs
    have HE := Lib.hid hE
    have HPL := Lib.hid (fun k => Tp.prodsUp_le teeth lf from_ now (k := k + 1) (m := teeth.length - from_))
    rw [Tp.prods_succ] at HN ⊢
    have HPS := Lib.hid (Tp.prodsUp_succ teeth lf from_ now)
    have HST := Lib.hid (fun t (t1 : 1 ≤ t) (t2 : t ≤ 60) => Tp.step_lim hnow hM2 t1 t2)
    have hn1 : n₀ ≤ W.heap.size := by rw [← hw0]; exact hE.size
    clear hli hl1 ih hN hy hr hs hE hM2
    refine callsIn_of_wp Tryz.func188 rfl trivial ?_ rfl
    simp only [Tryz.ntmps188, List.size_toArray, List.length_cons, List.length_nil, Nat.reduceAdd, Nat.reduceSub, Array.replicate_succ, Array.replicate_zero, List.push_toArray, List.append_toArray, List.nil_append, List.cons_append]
    gi_wp2
    gi_loopw [10] (fun i wr => ∃ (k : Nat) (q : List (Tp.Prod M)), k ≤ teeth.length - from_ ∧ i = .int .i64 ((from_ + k : Nat) : Int) ∧ q.map Subtype.val = Tp.prodsUp teeth lf from_ now k ∧ J (pre ++ q) wr ∧ Tp.KP n₀ 4 4 W wr) (fun i _ => teeth.length - (intOf i).toNat)
    case atStart => exact ⟨0, [], Nat.zero_le _, rfl, rfl, by rw [List.append_nil]; exact hJ0, Tp.KP.refl _ _ _ _⟩
    case round =>
      obtain ⟨k, q, hk, rfl, hq, hJk, hK⟩ := hrel
      have HK := Lib.hid hK
      have HQ := Lib.hid hq
      have HJK := Lib.hid hJk
      have hr2 := hK.2 _ _ _ (by decide) (by decide) HRR.out
      have HS2 := Lib.hid (hK.2 _ _ _ (by decide) (by decide) HSR.out)
      have HR2 := Lib.hid hr2
      have HY2 := Lib.hid (hK.2 _ _ _ (by decide) (by decide) HYR.out)
      have HE2 := Lib.hid (hK.ext (by omega) HE.out)
      have c0 := hr2.cell
      obtain ⟨ix, hix⟩ : ∃ ix, from_ + k = ix := ⟨_, rfl⟩
      have HIX := Lib.hid hix
      rw [hix]
      clear hK hq hJk hr2
      by_cases hlt : ix < teeth.length
      · have hlt' : (ix : Int) < (teeth.length : Int) := by omega
        obtain ⟨bb, o, rfl, hc⟩ := (HM.out.ext HE2.out) (by omega)
        have hcx := hc ix hlt
        have hte := HT.out ix hlt
        have HPK := Lib.hid (HPS.out k)
        have HPE := Lib.hid (HPL.out k (by omega))
        rw [hix] at HPK
        obtain ⟨t, ht2⟩ : ∃ t, rd teeth ix = t := ⟨_, rfl⟩
        rw [ht2] at hcx hte HPK
        have hst := HST.out t hte.1 hte.2
        have h6 : t ≤ 60 ∧ now * t ≤ 1000000 := by omega
        have c5 := HS2.out.cell
        clear hc ht2
        gi_wp2
        refine wpIn_region_later_tail 11 (by kernel_rfl) (by kernel_rfl) (fun Wz hWz => ?_)
        have q1 := Later.block (w := Wz) (by rw [hWz]; exact HR2.out)
        have q2 := Later.block (w := Wz) (by rw [hWz]; exact HS2.out)
        have q3 : ∀ x : Later Wz, x.world.cell? ⟨bb, o + ix, none⟩ = some (.int .i64 t) := fun x => x.ext.cell (by rw [hWz]; exact hcx)
        simp only [List.take_succ_cons, List.take_zero, List.drop_succ_cons, List.drop_zero]
        repeat (go_big_quiet_step (fail))
        refine wpQuiet_nil ?_
        intro x
        subst hWz
        have HX := Lib.hid x.ext
        have HJX := Lib.hid (HJ.out _ _ _ HJK.out x.ext)
        have HIC := Lib.hid (HIH.out (li - 1) ix (now * t) (n - 1) (pre ++ q) x.world HL1.out (by omega) (by omega) hst.1 hst.2.1 (by
          have h1 := HN.out
          have h2 := HPE.out
          rw [HPK.out, List.length_append] at h2
          have h3 : q.length = (Tp.prodsUp teeth lf from_ now k).length := by rw [← HQ.out, List.length_map]
          rw [List.length_append, h3]
          omega) (HE2.out.trans x.ext) (HY2.out.ext x.ext) (HR2.out.ext x.ext) (HS2.out.ext x.ext) HJX.out)
        clear q1 q2 q3 c0 c5
        gi_wp2
        refine ⟨trivial, fun hh => by simp [Fence.wide] at hh, HIC.out.mono ?_⟩
        rintro e W' (⟨rfl, ⟨q', hq', hJ'⟩, hk'⟩ | ⟨rfl, q', hJx'⟩)
        · have HK2 := Lib.hid ((HK.out.trans (Tp.KP.of_ext HX.out (by have := HK.out.1.size; omega))).trans hk')
          have HQ2 := Lib.hid hq'
          have HJ2 := Lib.hid hJ'
          clear hq' hJ' hk'
          gi_wp2
          refine Tp.only ?_
          gi_wp2
          go_roundw
          case rel => exact ⟨k + 1, q ++ q', by omega, by rw [← hix]; go_num, by rw [List.map_append, HQ.out, HQ2.out, HPK.out], by rw [← List.append_assoc]; exact HJ2.out, HK2.out⟩
          case measure => simp [intOf]; omega
        · gi_wp2
          refine Tp.only ?_
          gi_wp2
          go_ret
          exact .inr ⟨rfl, _, hJx'⟩
      · have hlt' : ¬ (ix : Int) < (teeth.length : Int) := by omega
        have hke : k = teeth.length - from_ := by omega
        clear hix
        gi_wp2
        go_ret
        exact .inl ⟨rfl, ⟨q, by rw [HQ.out, hke], HJK.out⟩, HK.out⟩
/-- What a call of the sequence does with a round: all products have come, or a round has said no more. -/
theorem t_prods1_any (n : Nat) (l gr gw : Nat) (a b p s : Int) (V : Value) (At : Option Addr) (ct : Nat) (teeth : List Int) (k : Nat) (M : Int) (J Jx : List (Tp.Prod M) → World → Prop) (w0 : World) (hm : Ints w0 At teeth) (hl : teeth.length ≤ 1000) (ht : ∀ k, k < teeth.length → 1 ≤ rd teeth k ∧ rd teeth k ≤ 60) (hM : M ≤ 1000000) (hk : (1 : Int) * 60 ^ k < M) (hk2 : k ≤ 1000)
    (hJ : ∀ s A B, J s A → Ext A B → J s B)
    (hY : ∀ pre x A, J pre A → pre.length < (Tp.prods teeth k 0 1).length → YieldAt Fence.wide (n - 1) Tryz.prog l #[.int .i64 x.1] A fun r B =>
      (r = .returned (.bool true) ∧ J (pre ++ [x]) B ∧ Tp.KP w0.heap.size 4 4 A B) ∨ (r = .returned (.bool false) ∧ Jx (pre ++ [x]) B))
    (W : World) (hE : Ext w0 W) (hr : Row W gr 161 #[.int .i64 a, .int .i64 b, .int .i64 p, .int .i64 s, V, .slice At teeth.length ct]) (hw : Row W gw 3 #[.int .i64 (k : Int)]) (h0 : J [] W) :
    CallsIn Fence.wide n Tryz.prog 187 #[.func (.yield l) #[] #[], .pointer (some ⟨gr, 0, none⟩), .pointer (some ⟨gw, 0, none⟩)] W fun e B => (∃ v, e = .returned v) ∧ ((∃ xs : List (Tp.Prod M), xs.map Subtype.val = Tp.prods teeth k 0 1 ∧ J xs B) ∨ (∃ pre, True ∧ Jx pre B)) := by
  have hmf : ∀ fn first cap w, (Instr.makeFunc fn first cap).run Tryz.prog w = .ok (.func fn first cap) w := fun _ _ _ _ => rfl
  have HS := Lib.hid (t_prods2_any w0.heap.size l W.heap.size gr (W.heap.size + 1) a b p s V At ct teeth M (Tp.prods teeth k 0 1).length J Jx w0 rfl hm hl ht hM hJ (fun m pre x A h1 h2 => Tp.yieldAny rfl m (hY pre x A h1 h2)) k)
  have HJ := Lib.hid hJ
  have H0 := Lib.hid h0
  have HE := Lib.hid hE
  have HR := Lib.hid hr
  have cw := hw.cell
  clear hm ht hJ hY h0 hE
  refine callsIn_of_wp Tryz.func187 rfl trivial ?_ rfl
  simp only [Tryz.ntmps187, List.size_toArray, List.length_cons, List.length_nil, Nat.reduceAdd, Nat.reduceSub, Array.replicate_succ, Array.replicate_zero, List.push_toArray, List.append_toArray, List.nil_append, List.cons_append]
  have r0 := blocks2 W (.cells #[.func (.yield l) #[] #[]] 86) (.cells #[.func (.func 188) #[] #[.pointer (some ⟨W.heap.size, 0, none⟩), .pointer (some ⟨gr, 0, none⟩), .pointer (some ⟨W.heap.size + 1, 0, none⟩)]] 97)
  have HRY := Lib.hid (show Row _ _ _ _ from r0.1)
  have HRF := Lib.hid (show Row _ _ _ _ from r0.2)
  have HX0 : Hid (Ext W ((W.alloc (.cells #[.func (.yield l) #[] #[]] 86)).alloc (.cells #[.func (.func 188) #[] #[.pointer (some ⟨W.heap.size, 0, none⟩), .pointer (some ⟨gr, 0, none⟩), .pointer (some ⟨W.heap.size + 1, 0, none⟩)]] 97))) := Lib.hid (((Ext.refl W).alloc _).alloc _)
  have c0 := HRF.out.cell
  have cw2 := (hw.ext HX0.out).cell
  clear r0 cw
  gi_wp2
  refine ⟨trivial, fun hh => by simp [Fence.wide] at hh, (HS.out (k : Int) 0 1 (n - 1) [] _ rfl hk2 (Nat.zero_le _) (Int.le_refl _) hk (by simp) (HE.out.trans HX0.out) HRY.out (HR.out.ext HX0.out) HRF.out (HJ.out _ _ _ H0.out HX0.out)).mono ?_⟩
  rintro e W' (⟨rfl, ⟨q, hq, hJ'⟩, hk'⟩ | ⟨rfl, q, hJx'⟩)
  · gi_wp2
    go_end0
    exact ⟨⟨_, rfl⟩, .inl ⟨q, hq, by simpa using hJ'⟩⟩
  · gi_wp2
    go_end0
    exact ⟨⟨_, rfl⟩, .inr ⟨q, trivial, hJx'⟩⟩
theorem t_prods_seq (n : Nat) (gr gw : Nat) (a b p s : Int) (V : Value) (At : Option Addr) (ct : Nat) (teeth : List Int) (k : Nat) (M : Int) (w0 : World) (hm : Ints w0 At teeth) (hl : teeth.length ≤ 1000) (ht : ∀ k, k < teeth.length → 1 ≤ rd teeth k ∧ rd teeth k ≤ 60) (hM : M ≤ 1000000) (hk : (1 : Int) * 60 ^ k < M) (hk2 : k ≤ 1000)
    (W : World) (hE : Ext w0 W) (hr : Row W gr 161 #[.int .i64 a, .int .i64 b, .int .i64 p, .int .i64 s, V, .slice At teeth.length ct]) (hw : Row W gw 3 #[.int .i64 (k : Int)]) (W' : World) (hX : Ext W W') :
    SeqStep Fence.wide n Tryz.prog 187 #[.pointer (some ⟨gr, 0, none⟩), .pointer (some ⟨gw, 0, none⟩)] (fun x : Tp.Prod M => #[.int .i64 x.1]) (Tp.KP w0.heap.size 4 4) Ext
      (fun xs => xs.map Subtype.val = Tp.prods teeth k 0 1) (fun _ => True) (Tp.prods teeth k 0 1).length W' := fun l J Jx hJ hY h0 =>
  t_prods1_any n l gr gw a b p s V At ct teeth k M J Jx w0 hm hl ht hM hk hk2 hJ hY W' (hE.trans hX) (hr.ext hX) (hw.ext hX) h0
end Go.Proofs.YtimkmokomohgjaaGreat
namespace Go.Proofs.YtimkmokomohgjaaGreat
open Go.RowKit
open Sp (rd)
set_option maxRecDepth 100000
set_option linter.unusedVariables false
/-- What a shut block for deferred calls leaves as it was. -/
structure Tp.Shut (B : Nat) (w w' : World) : Prop where
  below : Below B w w'
  cells : ∀ (k : Nat) (o : Obj), w.heap[k]? = some o → o.isCells = true → w'.heap[k]? = some o
theorem Tp.Shut.refl (B : Nat) (w : World) : Tp.Shut B w w := ⟨Below.refl _ _, fun _ _ h _ => h⟩
theorem Tp.Shut.put {B : Nat} {w w' : World} (h : Tp.Shut B w w') {D : Nat} (hD : B ≤ D) {o : Obj} (ho : w'.heap[D]? = some o) (hc : o.isCells = false) (o' : Obj) : Tp.Shut B w (w'.putObj D o') :=
  ⟨h.below.grown (grownBy_putObj' w' D o') (by have := (Array.getElem?_eq_some_iff.1 ho).1; omega) (fun k e => by cases e; omega), fun k o1 h1 hc1 => by
    have h2 := h.cells k o1 h1 hc1
    have hne : k ≠ D := by
      rintro rfl
      rw [ho] at h2; cases h2; rw [hc] at hc1; cases hc1
    rw [World.putObj_heap_other hne]; exact h2⟩
theorem Tp.Shut.row {B : Nat} {w w' : World} (h : Tp.Shut B w w') {g : Nat} {t : TypeId} {cs : Array Value} (hr : Row w g t cs) : Row w' g t cs := h.cells g _ hr rfl
theorem Tp.Shut.own {B : Nat} {w w' : World} (h : Tp.Shut B w w') {base : Nat} {e : TypeId} {size : Nat} {v : Value} {n : Nat} {xs : List Value} (ho : w.ownsRow base e size v n xs) : w'.ownsRow base e size v n xs :=
  ownsRow_of_block ho fun k hk => by
    rcases ho.2 with ⟨rfl, _⟩ | ⟨g, cap, cur, rfl, _, hh, _⟩
    · cases hk
    · simp only [Value.ownBlock, Option.some.injEq] at hk
      subst hk
      rw [hh]; exact h.cells _ _ hh rfl
def Tp.mk (D : Nat) : Deferred := { target := .collected D, args := #[] }
theorem Tp.leaves_marks {F : Fence} {n : Nat} {P : Program} {fn : Func} {tmps : Array Value} {R : Ending → World → Prop} (B : Nat) : ∀ (Ds : List Nat) (w : World), Ds.Nodup → (∀ D ∈ Ds, B ≤ D ∧ w.heap[D]? = some (.deferred (some []))) →
    (∀ w', Tp.Shut B w w' → LeavesInM F n P fn tmps R [] .returning w') → LeavesInM F n P fn tmps R (Ds.map Tp.mk) .returning w
  | [], w, _, _, h => h w (Tp.Shut.refl _ _)
  | D :: Ds, w, hn, hD, h => by
    obtain ⟨hB, hk⟩ := hD D (by simp)
    refine ⟨by simp, .inl ⟨D, _, rfl, run_takeDeferred hk, ?_⟩⟩
    refine Tp.leaves_marks B Ds _ (List.nodup_cons.1 hn).2 (fun D' h' => ?_) (fun w' hs => h w' ?_)
    · have hne : D' ≠ D := fun e => (List.nodup_cons.1 hn).1 (e ▸ h')
      exact ⟨(hD D' (by simp [h'])).1, (World.putObj_heap_other hne).trans (hD D' (by simp [h'])).2⟩
    · have h1 : Tp.Shut B w (w.putObj D (.deferred none)) := (Tp.Shut.refl B w).put hB hk rfl _
      exact ⟨h1.below.trans hs.below, fun k o a b => hs.cells k o (h1.cells k o a b) b⟩
/-- Numbers below n that are marked. -/
def Tp.upTo (M : Nat → Bool) (n : Nat) : List Int := ((List.range n).filter M).map fun (x : Nat) => (x : Int)
theorem Tp.upTo_yes {M : Nat → Bool} {n : Nat} (h : M n = true) : Tp.upTo M (n + 1) = Tp.upTo M n ++ [(n : Int)] := by
  unfold Tp.upTo
  rw [List.range_succ, List.filter_append, List.map_append]
  simp [h]
theorem Tp.upTo_no {M : Nat → Bool} {n : Nat} (h : M n = false) : Tp.upTo M (n + 1) = Tp.upTo M n := by
  unfold Tp.upTo
  rw [List.range_succ, List.filter_append, List.map_append]
  simp [h]
theorem Tp.upTo_len (M : Nat → Bool) (n : Nat) : (Tp.upTo M n).length ≤ n := by
  unfold Tp.upTo
  rw [List.length_map]
  exact Nat.le_trans (List.length_filter_le _ _) (by simp)
/-- A block of marks. -/
def Tp.Mks (w : World) (g L : Nat) (M : Nat → Bool) : Prop := ∃ cs : Array Value, Row w g 4 cs ∧ cs.size = L ∧ ∀ i, i < L → cs[i]? = some (.bool (M i))
theorem Tp.Mks.ext {w w' : World} {g L : Nat} {M : Nat → Bool} (h : Tp.Mks w g L M) (he : Ext w w') : Tp.Mks w' g L M := let ⟨cs, h1, h2⟩ := h; ⟨cs, h1.ext he, h2⟩
theorem Tp.Mks.bits {w : World} {g L : Nat} {M : Nat → Bool} (h : Tp.Mks w g L M) : Tp.Bits w (some ⟨g, 0, none⟩) L M := fun _ =>
  let ⟨cs, h1, _, h3⟩ := h
  ⟨g, 0, rfl, fun k hk => by rw [Nat.zero_add]; exact (h1.cell k).trans (h3 k hk)⟩
theorem Tp.Mks.set {w : World} {g L : Nat} {M : Nat → Bool} (h : Tp.Mks w g L M) (n : Nat) : Tp.Mks (w.setCell ⟨g, n, none⟩ (.bool true)) g L (fun i => M i || (i == n)) := by
  obtain ⟨cs, h1, h2, h3⟩ := h
  refine ⟨_, h1.set_ n (.bool true), by simp [h2], fun i hi => ?_⟩
  by_cases e : i = n
  · subst e
    simp [h2, hi]
  · rw [Array.getElem?_setIfInBounds_ne (by omega), h3 i hi]
    simp [e]
theorem Tp.Mks.new (w : World) (L : Nat) : Tp.Mks (w.alloc (.cells (madeCells #[.bool false] L) 4)) w.heap.size L (fun _ => false) := by
  refine ⟨_, Row.new w _ _, size_madeCells _ _, fun i hi => ?_⟩
  simp [madeCells, hi, Nat.mod_one]
theorem Tp.Mks.congr {w : World} {g L : Nat} {M M' : Nat → Bool} (h : Tp.Mks w g L M) (e : ∀ i, M i = M' i) : Tp.Mks w g L M' := let ⟨cs, h1, h2, h3⟩ := h; ⟨cs, h1, h2, fun i hi => by rw [h3 i hi, e]⟩
/-- What one round lays: the products in increasing order, and as marks. -/
structure Tp.One (B : Nat) (teeth : List Int) (W : World) (v u : Value) (j : Nat) : Prop where
  srt : W.ownsRow B 3 1 v (Tp.sorted teeth j).length ((Tp.sorted teeth j).map fun x => .int .i64 x)
  mrk : ∃ g, B ≤ g ∧ u = .slice (some ⟨g, 0, none⟩) (60 ^ j + 1) (60 ^ j + 1) ∧ Tp.Mks W g (60 ^ j + 1) (Tp.mark teeth j)
theorem Tp.One.ext {B : Nat} {teeth : List Int} {W W' : World} {v u : Value} {j : Nat} (h : Tp.One B teeth W v u j) (he : Ext W W') : Tp.One B teeth W' v u j :=
  ⟨own_ext h.srt he, let ⟨g, h1, h2, h3⟩ := h.mrk; ⟨g, h1, h2, h3.ext he⟩⟩
theorem Tp.own_type {W : World} {base : Nat} {e : TypeId} {size : Nat} {v : Value} {n : Nat} {xs : List Value} (h : W.ownsRow base e size v n xs) {g : Nat} (hg : v.ownBlock = some g) : ∃ cs fr, W.heap[g]? = some (.cells cs e fr) := by
  rcases h.2 with ⟨rfl, _⟩ | ⟨g', cap, cur, rfl, _, hh, _⟩
  · cases hg
  · simp only [Value.ownBlock, Option.some.injEq] at hg
    subst hg
    exact ⟨_, _, hh⟩
/-- A step that turns only a block of another type leaves the rows. -/
theorem Tp.own_grown {W W' : World} {base : Nat} {e e' : TypeId} {size : Nat} {v : Value} {n : Nat} {xs : List Value} (h : W.ownsRow base e size v n xs) {row : Option Nat} (hg : W.grownBy W' row) (hrow : ∀ g, row = some g → ∃ cs fr, W.heap[g]? = some (.cells cs e' fr)) (hne : e ≠ e') : W'.ownsRow base e size v n xs :=
  ownsRow_of_block h fun k hk => hg.block k (h.lt k hk).2 (fun er => by
    obtain ⟨cs, fr, h1⟩ := Tp.own_type h hk
    obtain ⟨cs', fr', h2⟩ := hrow k er.symm
    rw [h1] at h2; cases h2; exact hne rfl)
theorem Tp.row_grown {W W' : World} {g : Nat} {t e' : TypeId} {cs : Array Value} (h : Row W g t cs) {row : Option Nat} (hg : W.grownBy W' row) (hrow : ∀ g, row = some g → ∃ cs fr, W.heap[g]? = some (.cells cs e' fr)) (hne : t ≠ e') : Row W' g t cs :=
  (hg.block g h.lt (fun er => by
    obtain ⟨cs', fr', h2⟩ := hrow g er.symm
    unfold Row at h
    rw [h] at h2; cases h2; exact hne rfl)).trans h
theorem Tp.One.grown {B : Nat} {teeth : List Int} {W W' : World} {v u : Value} {j : Nat} (h : Tp.One B teeth W v u j) {e' : TypeId} {row : Option Nat} (hg : W.grownBy W' row) (hrow : ∀ g, row = some g → ∃ cs fr, W.heap[g]? = some (.cells cs e' fr)) (h1 : 3 ≠ e') (h2 : 4 ≠ e') : Tp.One B teeth W' v u j :=
  ⟨Tp.own_grown h.srt hg hrow h1, let ⟨g, a1, a2, cs, a3, a4⟩ := h.mrk; ⟨g, a1, a2, cs, Tp.row_grown a3 hg hrow h2, a4⟩⟩
theorem Tp.One.set {B : Nat} {teeth : List Int} {W : World} {v u : Value} {j : Nat} (h : Tp.One B teeth W v u j) {p : Addr} (hp : p.block < B) (x : Value) : Tp.One B teeth (W.setCell p x) v u j :=
  ⟨ownsRow_setCell_below h.srt hp x, let ⟨g, a1, a2, cs, a3, a4⟩ := h.mrk; ⟨g, a1, a2, cs, a3.far (by omega) x, a4⟩⟩
/-- What the loop over the numbers of pairs holds. -/
structure Tp.PrepR (w : World) (cr cz : Array Value) (teeth : List Int) (a b p s : Int) (V T vs vm : Value) (xs ys : List Value) (k : Nat) (W : World) : Prop where
  rule : Row W w.heap.size 161 cr
  res : Row W (w.heap.size + 1) 165 cz
  out : Row W (w.heap.size + 1 + 1) 165 #[.int .i64 a, .int .i64 b, .int .i64 p, .int .i64 s, V, T, vs, vm]
  os : W.ownsRow (w.heap.size + 3) 48 1 vs k xs
  om : W.ownsRow (w.heap.size + 3) 63 1 vm k ys
  len : xs.length = k ∧ ys.length = k
  all : ∀ j, j < k → Tp.One (w.heap.size + 3) teeth W (xs.getD j undef) (ys.getD j undef) j
  ext : Ext w W
theorem Tp.PrepR.to {w : World} {cr cz : Array Value} {teeth : List Int} {a b p s : Int} {V T vs vm : Value} {xs ys : List Value} {k : Nat} {W W' : World} (h : Tp.PrepR w cr cz teeth a b p s V T vs vm xs ys k W) (he : Ext W W') : Tp.PrepR w cr cz teeth a b p s V T vs vm xs ys k W' :=
  ⟨h.rule.ext he, h.res.ext he, h.out.ext he, own_ext h.os he, own_ext h.om he, h.len, fun j hj => (h.all j hj).ext he, h.ext.trans he⟩
theorem Tp.grown_then {W0 A B : World} {g : Nat} {row : Option Nat} (h : W0.grownBy A (some g)) (k : A.grownBy B row) (hr : ∀ r, row = some r → W0.heap.size ≤ r) : W0.grownBy B (some g) :=
  ⟨k.os.trans h.os, k.tape.trans h.tape, k.output.trans h.output, Nat.le_trans h.size k.size, fun i hi hne => (k.block i (Nat.lt_of_lt_of_le hi h.size) (fun e => by have := hr i e.symm; omega)).trans (h.block i hi hne)⟩
theorem Tp.grown_ext {W0 A B : World} {g : Nat} (h : W0.grownBy A (some g)) (k : Ext A B) : W0.grownBy B (some g) :=
  ⟨k.os.trans h.os, k.tape.trans h.tape, k.output.trans h.output, Nat.le_trans h.size k.size, fun i hi hne => (k.block i (Nat.lt_of_lt_of_le hi h.size)).trans (h.block i hi hne)⟩
theorem Tp.grown_refl (W0 : World) (g : Nat) : W0.grownBy W0 (some g) := ⟨rfl, rfl, rfl, Nat.le_refl _, fun _ _ _ => rfl⟩
/-- What the loop over the products holds: only the marks' block turns. -/
def Tp.MarksI (M : Int) (g L : Nat) (W0 : World) (pre : List (Tp.Prod M)) (W : World) : Prop := W0.grownBy W (some g) ∧ Tp.Mks W g L (fun i => (pre.map Subtype.val).any fun p => p == (i : Int))
theorem Tp.marksI_own (M : Int) (g L : Nat) (W0 : World) : OwnFrom W0.heap.size (Tp.MarksI M g L W0) := fun _ _ _ _ hs hg hr =>
  ⟨Tp.grown_then hs.1 hg (fun r e => (hr r e).1), let ⟨cs, h1, h2⟩ := hs.2; ⟨cs, h1.kept hg (fun r e => (hr r e).2), h2⟩⟩
theorem Tp.marksI_ext {M : Int} {g L : Nat} {W0 : World} {s : List (Tp.Prod M)} {A B : World} (h : Tp.MarksI M g L W0 s A) (k : Ext A B) : Tp.MarksI M g L W0 s B := ⟨Tp.grown_ext h.1 k, h.2.ext k⟩
theorem Tp.Mks.start {M : Int} {W : World} {g L : Nat} (h : Tp.Mks W g L (fun _ => false)) : Tp.MarksI M g L W [] W := ⟨Tp.grown_refl W g, h.congr fun i => rfl⟩
theorem Tp.marksI_set {M : Int} {g L : Nat} {W0 W : World} {pre : List (Tp.Prod M)} (h : Tp.MarksI M g L W0 pre W) (x : Tp.Prod M) (n : Nat) (hx : x.1 = (n : Int)) : Tp.MarksI M g L W0 (pre ++ [x]) (W.setCell ⟨g, n, none⟩ (.bool true)) := by
  refine ⟨⟨h.1.os, h.1.tape, h.1.output, by have := h.1.size; simpa using this, fun i hi hne => (Below.heap_setCell W ⟨g, n, none⟩ _ i (fun e => hne (by rw [e]))).trans (h.1.block i hi hne)⟩, (h.2.set n).congr fun i => ?_⟩
  rw [List.map_append, List.any_append]
  simp only [List.map_cons, List.map_nil, List.any_cons, List.any_nil, Bool.or_false, hx]
  have e2 : (i == n) = ((n : Int) == (i : Int)) := by
    by_cases e : i = n
    · rw [e, beq_self_eq_true, beq_self_eq_true]
    · rw [beq_eq_false_iff_ne.2 e, eq_comm, beq_eq_false_iff_ne]
      omega
  rw [e2]
end Go.Proofs.YtimkmokomohgjaaGreat
namespace Go.Proofs.YtimkmokomohgjaaGreat
open Go.RowKit Go.Shelf
open Sp (rd)
attribute [local go_sem] Oper.semAt_some
set_option maxRecDepth 100000
set_option maxHeartbeats 4000000
set_option linter.unusedVariables false
set_option linter.unusedSimpArgs false
theorem Tp.pathF_len {fr : Nat → Nat} (hf : ∀ i, fr i ≤ i) : ∀ (k a : Nat), (Tp.pathF fr k a).length ≤ a
  | 0, a => by simp [Tp.pathF]
  | k + 1, a => by
    rw [Tp.pathF]
    split
    · simp
    · have h1 := Tp.pathF_len hf k (fr (a - 1))
      have h2 := hf (a - 1)
      simp only [List.length_append, List.length_cons, List.length_nil]
      omega
theorem Tp.path_len {fr : Nat → Nat} (hf : ∀ i, fr i ≤ i) (a : Nat) : (Tp.path fr a).length ≤ a := Tp.pathF_len hf a a
theorem Tp.wpIn_call {c : Code} {F : Fence} {n : Nat} {P : Program} {Q : Exit → Act → World → Prop} {a : Act} {w : World} (h : ∀ a0, a0 = a → c.wpIn F n P Q a0 w) : c.wpIn F n P Q a w := h a rfl
theorem Tp.keepsOf {B : Nat} {A C : World} (h : Ext A C) : KeepsFrom B A C := ⟨h.size, fun k o _ hk _ => (h.block k (Array.getElem?_eq_some_iff.1 hk).1).trans hk⟩
/-- What far's loop holds: the counter. -/
def Tp.FarI (n g : Nat) (W0 : World) (pre : List (Tp.Idx n)) (W : World) : Prop := W0.grownBy W (some g) ∧ Row W g 3 #[.int .i64 (pre.length : Int)]
theorem Tp.farI_own (n g : Nat) (W0 : World) : OwnFrom W0.heap.size (Tp.FarI n g W0) := fun _ _ _ _ hs hg hr =>
  ⟨Tp.grown_then hs.1 hg (fun r e => (hr r e).1), hs.2.kept hg (fun r e => (hr r e).2)⟩
theorem Tp.farI_ext {n g : Nat} {W0 : World} {s : List (Tp.Idx n)} {A B : World} (h : Tp.FarI n g W0 s A) (k : Ext A B) : Tp.FarI n g W0 s B := ⟨Tp.grown_ext h.1 k, h.2.ext k⟩
theorem Tp.farI_set {n g : Nat} {W0 W : World} {pre : List (Tp.Idx n)} (h : Tp.FarI n g W0 pre W) (x : Tp.Idx n) : Tp.FarI n g W0 (pre ++ [x]) (W.setCell ⟨g, 0, none⟩ (.int .i64 ((pre.length : Int) + 1))) := by
  refine ⟨⟨h.1.os, h.1.tape, h.1.output, by have := h.1.size; simpa using this, fun i hi hne => (Below.heap_setCell W ⟨g, 0, none⟩ _ i (fun e => hne (by rw [e]))).trans (h.1.block i hi hne)⟩, ?_⟩
  have := h.2.set_ 0 (.int .i64 ((pre.length : Int) + 1))
  simpa using this
theorem sh_far_in (A : Option Addr) (c : Nat) (links : List (Int × Ec.Pair)) (a : Nat) (w : World) (hm : Tp.Links w A links) (hok : Tp.LinksOk links) (hl : links.length ≤ 1000) (ha : a ≤ links.length) :
    CallsIn Fence.wide 9 Tryz.prog 123 #[.slice A links.length c, .int .i64 (a : Int)] w fun e w' => e = .returned (.int .i64 ((Tp.path (Tp.frm links) a).length : Int)) ∧ Ext w w' := by
  have HM := Lib.hid hm
  have HB0 := Lib.hid (Row.new w 3 #[.int .i64 0])
  have HX0 := Lib.hid ((Ext.refl w).alloc (.cells #[.int .i64 0] 3))
  obtain ⟨N, hN⟩ : ∃ N, (Tp.path (Tp.frm links) a).length = N := ⟨_, rfl⟩
  have HN := Lib.hid hN
  have hN9 : N ≤ 1000 := by rw [← hN]; have := Tp.path_len (fun i => (hok.frm i).1) a; omega
  rw [hN]
  clear hm hN
  refine callsIn_of_wp_marks Tryz.func123 rfl trivial ?_ rfl
  simp only [Tryz.ntmps123, List.size_toArray, List.length_cons, List.length_nil, Nat.reduceAdd, Nat.reduceSub, Array.replicate_succ, Array.replicate_zero, List.push_toArray, List.append_toArray, List.nil_append, List.cons_append]
  gi_wp2
  refine ⟨trivial, (callsIn_wide.2 (sh_path_any A links.length c (a : Int) _)).mono ?_⟩
  rintro e W3 ⟨g, h, rfl, hg1, hgh, hrg, hrh, hE3⟩
  have HB3 := Lib.hid (HB0.out.ext hE3)
  have HX3 := Lib.hid (HX0.out.trans hE3)
  have hz3 : w.heap.size ≤ W3.heap.size := HX3.out.size
  obtain ⟨gB, hgB⟩ : ∃ gB, w.heap.size = gB := ⟨_, rfl⟩
  have HGB := Lib.hid hgB
  rw [hgB] at HB3 ⊢
  clear hgB HB0 HX0 hE3 hg1
  gi_wp2
  refine Tp.wpIn_call (fun a0 ha0 => ?_)
  refine Tp.range_all rfl (by omega) (gf := 178) (lb := #[.pointer (some ⟨g, 0, none⟩), .pointer (some ⟨h, 0, none⟩)]) (by rw [ha0]; rfl) trivial (enters_of Tryz.func178 (by kernel_rfl) rfl)
    (fun W' hW' => sh_path_seq 3 3 (by decide) (9 - 1) g h A c links a w HM.out hok hl ha W3 HX3.out hrg hrh W' hW')
    (fun h k => h.trans k) (fun W l o o' h1 h2 h3 h4 => Tp.KP.book hz3 W l o o' h1 h2 h3 h4)
    (fun A B h => Tp.keepsOf h) (fun _ => rfl)
    (Tp.FarI links.length gB W3) (Tp.farI_own _ _ _) (fun _ _ _ h k => Tp.farI_ext h k) ⟨Tp.grown_refl _ _, HB3.out⟩
    (fun x a' _ => ∃ z, a' = (⟨a0.tmps.setIfInBounds 9 z, []⟩ : Act)) (fun x a' _ X Y row hs hg hr => hs)
    ?assign ?body ?done
  case assign =>
    rintro l pre x W K hi' hK'
    subst ha0
    gi_wp2
    exact hK' _ _ (KeepsFrom.refl _ _) (Tp.KP.refl _ _ _ _) hi' ⟨_, rfl⟩
  case body =>
    rintro l pre x a' W hl' hi' ⟨z, rfl⟩ hlt2
    subst ha0
    rw [HN.out] at hlt2
    have hp9 : pre.length < 1000000 := by omega
    have cb := hi'.2.cell
    have fb := hi'.2.free
    have jb := lts hi'.2.lt
    have HI := Lib.hid hi'
    clear hi'
    gi_wp2
    exact ⟨(KeepsOthers.setCell _ _ _).from _, (Tp.KP.refl _ _ _ _).store HI.out.2 (by rw [← HGB.out] <;> exact Nat.le_refl _) _ _, Tp.farI_set HI.out x⟩
  case done =>
    rintro D ps W hD hS hi' hKD
    subst ha0
    have hpl : ps.length = N := by rw [← HN.out, ← hS, List.length_map]
    have cb := hi'.2.cell
    have HEW : Hid (Ext w W) := Lib.hid (HX3.out.grown hi'.1 (fun k e => by cases e; rw [HGB.out] <;> exact Nat.le_refl _))
    clear hi'
    rw [hpl] at cb
    gi_wp2
    refine ⟨by simp, .inl ⟨_, _, rfl, run_takeDeferred hKD, ?_⟩⟩
    exact ⟨_, results_tmp rfl _ _ _, rfl, Ext.grown HEW.out (grownBy_putObj' W D (.deferred none)) (fun k e => by cases e; omega)⟩
theorem sh_far_any (A : Option Addr) (c : Nat) (links : List (Int × Ec.Pair)) (a : Nat) (w : World) (hm : Tp.Links w A links) (hok : Tp.LinksOk links) (hl : links.length ≤ 1000) (ha : a ≤ links.length) :
    Calls Tryz.prog 123 #[.slice A links.length c, .int .i64 (a : Int)] w fun e w' => e = .returned (.int .i64 ((Tp.path (Tp.frm links) a).length : Int)) ∧ Ext w w' :=
  callsIn_wide.1 (sh_far_in A c links a w hm hok hl ha)
end Go.Proofs.YtimkmokomohgjaaGreat
namespace Go.Proofs.YtimkmokomohgjaaGreat
open Go.RowKit
open Sp (rd)
set_option maxRecDepth 100000
set_option linter.unusedVariables false
theorem Tp.info_lint : (Tryz.prog.info? 48).map (fun i => (i.zero, i.size, i.bytes)) = some (some (.slice none 0 0), 1, 24) := by kernel_rfl
theorem Tp.info_lbool : (Tryz.prog.info? 63).map (fun i => (i.zero, i.size, i.bytes)) = some (some (.slice none 0 0), 1, 24) := by kernel_rfl
theorem Tp.own_mono {W : World} {base base' : Nat} {e : TypeId} {size : Nat} {v : Value} {n : Nat} {xs : List Value} (h : W.ownsRow base e size v n xs) (hb : base' ≤ base) : W.ownsRow base' e size v n xs :=
  ⟨h.1, h.2.imp id fun ⟨g, cap, cur, e, h2, h3⟩ => ⟨g, cap, cur, e, Nat.le_trans hb h2, h3⟩⟩
theorem Tp.rowOf {W : World} {base : Nat} {e : TypeId} {size : Nat} {v : Value} {n : Nat} {xs : List Value} (h : W.ownsRow base e size v n xs) : ∀ g, v.ownBlock = some g → ∃ cs fr, W.heap[g]? = some (.cells cs e fr) := fun g hg => Tp.own_type h hg
theorem Tp.far_own {W W' : World} {base : Nat} {e : TypeId} {size : Nat} {v : Value} {n : Nat} {xs : List Value} (h : W.ownsRow base e size v n xs) (hg : W.grownBy W' v.ownBlock) {g : Nat} {t : TypeId} {cs : Array Value} (hr : Row W g t cs) (hb : g < base) : Row W' g t cs := Tp.grown_far hr hg (Tp.own_ne h hb)
theorem Tp.PrepR.step {w : World} {cr cz : Array Value} {teeth : List Int} {a b p s : Int} {V T vs vm vs' vm' v u : Value} {xs ys : List Value} {k : Nat} {W4 Wa Wb Wc Wd : World}
    (h : Tp.PrepR w cr cz teeth a b p s V T vs vm xs ys k W4) (h1 : Tp.One (w.heap.size + 3) teeth W4 v u k) (e1 : Ext W4 Wa) (g1 : Wa.grownBy Wb vs.ownBlock) (o1 : Wb.ownsRow (w.heap.size + 3) 48 1 vs' (k + 1) (xs ++ [v]))
    (e2 : Ext Wb Wc) (g2 : Wc.grownBy Wd vm.ownBlock) (o2 : Wd.ownsRow (w.heap.size + 3) 63 1 vm' (k + 1) (ys ++ [u])) :
    Tp.PrepR w cr cz teeth a b p s V T vs' vm' (xs ++ [v]) (ys ++ [u]) (k + 1) ((Wd.setCell ⟨w.heap.size + 1 + 1, 6, none⟩ vs').setCell ⟨w.heap.size + 1 + 1, 7, none⟩ vm') ∧ KeepsOthers W4 ((Wd.setCell ⟨w.heap.size + 1 + 1, 6, none⟩ vs').setCell ⟨w.heap.size + 1 + 1, 7, none⟩ vm') := by
  have a1 := h.to e1
  have r1 := Tp.rowOf a1.os
  have m1 := Tp.own_grown a1.om g1 r1 (by decide)
  have m2 := own_ext m1 e2
  have r2 := Tp.rowOf m2
  have s2 := Tp.own_grown (own_ext o1 e2) g2 r2 (by decide)
  have row : ∀ {g : Nat} {t : TypeId} {cs : Array Value}, Row W4 g t cs → g < w.heap.size + 3 → Row Wd g t cs := fun hr hb => Tp.far_own m2 g2 ((Tp.far_own a1.os g1 (hr.ext e1) hb).ext e2) hb
  have one : ∀ {v u : Value} {j : Nat}, Tp.One (w.heap.size + 3) teeth W4 v u j → Tp.One (w.heap.size + 3) teeth Wd v u j := fun ho => (((ho.ext e1).grown g1 r1 (by decide) (by decide)).ext e2).grown g2 r2 (by decide) (by decide)
  have hE : Ext w Wd := ((h.ext.trans e1).grown g1 (fun g hg => by have := (a1.os.lt g hg).1; omega)).trans e2 |>.grown g2 (fun g hg => by have := (m2.lt g hg).1; omega)
  refine ⟨⟨?_, ?_, ?_, ?_, ?_, ?_, ?_, ?_⟩, ?_⟩
  · exact ((row h.rule (by omega)).far (p := ⟨w.heap.size + 1 + 1, 6, none⟩) (by simp; omega) _).far (p := ⟨w.heap.size + 1 + 1, 7, none⟩) (by simp; omega) _
  · exact ((row h.res (by omega)).far (p := ⟨w.heap.size + 1 + 1, 6, none⟩) (by simp) _).far (p := ⟨w.heap.size + 1 + 1, 7, none⟩) (by simp) _
  · have := ((row h.out (by omega)).set_ 6 vs').set_ 7 vm'
    simpa using this
  · exact ownsRow_setCell_below (ownsRow_setCell_below s2 (a := ⟨w.heap.size + 1 + 1, 6, none⟩) (by simp) _) (a := ⟨w.heap.size + 1 + 1, 7, none⟩) (by simp) _
  · exact ownsRow_setCell_below (ownsRow_setCell_below o2 (a := ⟨w.heap.size + 1 + 1, 6, none⟩) (by simp) _) (a := ⟨w.heap.size + 1 + 1, 7, none⟩) (by simp) _
  · have h1 := h.len.1
    have h2 := h.len.2
    exact ⟨by simp [h1], by simp [h2]⟩
  · intro j hj
    refine Tp.One.set (Tp.One.set ?_ (by simp) _) (by simp) _
    have l1 := h.len.1
    have l2 := h.len.2
    by_cases hjk : j < k
    · have x1 : (xs ++ [v]).getD j undef = xs.getD j undef := by simp [List.getD_eq_getElem?_getD, List.getElem?_append_left (show j < xs.length by omega)]
      have x2 : (ys ++ [u]).getD j undef = ys.getD j undef := by simp [List.getD_eq_getElem?_getD, List.getElem?_append_left (show j < ys.length by omega)]
      rw [x1, x2]
      exact one (h.all j hjk)
    · obtain rfl : j = k := by omega
      have x1 : (xs ++ [v]).getD j undef = v := by simp [List.getD_eq_getElem?_getD, ← l1]
      have x2 : (ys ++ [u]).getD j undef = u := by simp [List.getD_eq_getElem?_getD, ← l2]
      rw [x1, x2]
      exact one h1
  · exact (hE.setCell (p := ⟨w.heap.size + 1 + 1, 6, none⟩) (by simp; omega) _).setCell (p := ⟨w.heap.size + 1 + 1, 7, none⟩) (by simp; omega) _
  · have ko : ∀ {X Y : World}, Ext X Y → KeepsOthers X Y := fun h => ⟨h.size, fun k o hk _ => (h.block k (Array.getElem?_eq_some_iff.1 hk).1).trans hk⟩
    have kg : ∀ {X Y : World} {row : Option Nat} {t : TypeId}, X.grownBy Y row → (∀ g, row = some g → ∃ cs fr, X.heap[g]? = some (.cells cs t fr)) → KeepsOthers X Y := fun hg hr => ⟨hg.size, fun k o hk hc => (hg.block k (Array.getElem?_eq_some_iff.1 hk).1 (fun e => by obtain ⟨cs, fr, h2⟩ := hr k e.symm; rw [h2] at hk; cases hk; cases hc)).trans hk⟩
    exact ((((ko e1).trans (kg g1 r1)).trans (ko e2)).trans (kg g2 r2)).trans ((KeepsOthers.setCell _ _ _).trans (KeepsOthers.setCell _ _ _))
theorem Tp.set8 {w : World} {g : Nat} {t : TypeId} {z0 z1 z2 z3 z4 z5 z6 z7 : Value} (h : Row w g t #[z0, z1, z2, z3, z4, z5, z6, z7]) (x0 x1 x2 x3 x4 x5 x6 x7 : Value) :
    Row ((((((((w.setCell ⟨g, 0, none⟩ x0).setCell ⟨g, 1, none⟩ x1).setCell ⟨g, 2, none⟩ x2).setCell ⟨g, 3, none⟩ x3).setCell ⟨g, 4, none⟩ x4).setCell ⟨g, 5, none⟩ x5).setCell ⟨g, 6, none⟩ x6).setCell ⟨g, 7, none⟩ x7) g t #[x0, x1, x2, x3, x4, x5, x6, x7] := by
  have := (((((((h.set_ 0 x0).set_ 1 x1).set_ 2 x2).set_ 3 x3).set_ 4 x4).set_ 5 x5).set_ 6 x6).set_ 7 x7
  simpa using this
/-- Whatever holds through stores into one block holds behind eight of them. -/
theorem Tp.through8 {C : World → Prop} {g : Nat} (hC : ∀ (W : World) (i : Nat) (v : Value), C W → C (W.setCell ⟨g, i, none⟩ v)) {w : World} (h : C w) (x0 x1 x2 x3 x4 x5 x6 x7 : Value) :
    C ((((((((w.setCell ⟨g, 0, none⟩ x0).setCell ⟨g, 1, none⟩ x1).setCell ⟨g, 2, none⟩ x2).setCell ⟨g, 3, none⟩ x3).setCell ⟨g, 4, none⟩ x4).setCell ⟨g, 5, none⟩ x5).setCell ⟨g, 6, none⟩ x6).setCell ⟨g, 7, none⟩ x7) :=
  hC _ _ _ (hC _ _ _ (hC _ _ _ (hC _ _ _ (hC _ _ _ (hC _ _ _ (hC _ _ _ (hC _ _ _ h)))))))
theorem Tp.One.cells {B : Nat} {teeth : List Int} {W W' : World} {v u : Value} {j : Nat} (h : Tp.One B teeth W v u j) {C : Nat} (hs : Tp.Shut C W W') : Tp.One B teeth W' v u j :=
  ⟨hs.own h.srt, let ⟨g, a1, a2, cs, a3, a4⟩ := h.mrk; ⟨g, a1, a2, cs, hs.row a3, a4⟩⟩
end Go.Proofs.YtimkmokomohgjaaGreat
namespace Go.Proofs.YtimkmokomohgjaaGreat
open Go.RowKit Go.Shelf
open Sp (rd)
attribute [local go_sem] Oper.semAt_some
set_option maxRecDepth 100000
set_option maxHeartbeats 4000000
set_option linter.unusedVariables false
set_option linter.unusedSimpArgs false
/-- An append, at the operation, inside of a fence. -/
theorem Tp.wpIn_append {F : Fence} {n9 : Nat} {P : Program} (w : World) (hF : ∀ f, F.fn f) {o : Oper} {a : Act} {K : Act → World → Prop} {Q : Exit → Act → World → Prop} (s x : Operand) (t : TypeId)
    (ho : o.op = .call { callee := .builtin .append, args := #[s, x], argTypes := #[t, t] })
    (base : Nat) (e : TypeId) (i : TypeInfo) (z : Value) (size bytes : Nat) (ht : P.underlying t = some (.slice e)) (hi : P.info? e = some i) (hz : i.zero = some z)
    (hsize : i.size = size) (hby : i.bytes = bytes) (hzs : z.cells.size = size) (hsz : 0 < size)
    (v : Value) (n : Nat) (xs : List Value) (hs : a.eval s = v) (hown : w.ownsRow base e size v n xs)
    (ad : Addr) (m c : Nat) (news : List Value) (hx : a.eval x = .slice (some ad) m c) (hl : news.length = m * size) (hnews : ∀ j u, news[j]? = some u → w.cell? (ad.add j) = some u) (h1 : ∀ u ∈ news, u.oneCell' = true)
    (hm : 0 < m) (h63 : n + m ≤ maxLen) (hbytes : (n + m) * bytes ≤ 140737488355328) (hbase : base ≤ w.heap.size) (H : Nat) (hH : w.heap.size = H)
    (h : ∀ g cap w', w'.ownsRow base e size (.slice (some ⟨g, 0, none⟩) (n + m) cap) (n + m) (xs ++ news) → w.grownBy w' v.ownBlock → (v.ownBlock = some g ∨ g = H) → g < w'.heap.size → K (a.put o.dst (.slice (some ⟨g, 0, none⟩) (n + m) cap)) w') : o.wpIn F n9 P a w K Q := by
  obtain ⟨g, cap, w', hr, h2, h3, h4, h5⟩ := run_append_lies (P := P) w t o.type base e i z size bytes ht hi hz hsize hby hzs hsz v n xs hown ad m c news hl hnews h1 hm h63 hbytes hbase H hH
  refine ⟨fun f _ => hF f, ?_⟩
  rw [Oper.semAt_eq _ _ _ (fun c e => by rw [ho] at e; cases e)]
  unfold execOp
  simp only [ho, resolve, invoke, builtin, Sem.run_bind, Sem.run_pure, Result.andThen_ok, List.map_toArray, List.map_cons, List.map_nil, hs, hx, hr]
  exact h g cap w' h2 h3 h4 h5
theorem Tp.KP.grown {n : Nat} {x y : TypeId} {A B C : World} {row : Option Nat} (h : Tp.KP n x y A B) (hn : n ≤ B.heap.size) (hg : B.grownBy C row) (hr : ∀ g, row = some g → n ≤ g ∧ ∃ cs fr, B.heap[g]? = some (.cells cs y fr)) : Tp.KP n x y A C :=
  ⟨h.1.grown hg hn (fun k e => (hr k e).1), fun g t cs h1 h2 hrow => Tp.row_grown (h.2 g t cs h1 h2 hrow) hg (fun g' e => (hr g' e).2) h2⟩
/-- The pair of a link. -/
def Tp.pr (links : List (Int × Ec.Pair)) (i : Nat) : Ec.Pair := (links.getD i (0, Ec.noPair)).2
/-- The train of an arbor. -/
def Tp.trainL (links : List (Int × Ec.Pair)) (a : Nat) : List Ec.Pair := (Tp.path (Tp.frm links) a).map (Tp.pr links)
/-- What trainOf's loop holds. -/
def Tp.TrI (links : List (Int × Ec.Pair)) (g : Nat) (W0 : World) (pre : List (Tp.Idx links.length)) (W : World) : Prop :=
  W0.grownBy W (some g) ∧ ∃ v, Row W g 78 #[v] ∧ W.ownsRow W0.heap.size 125 2 v pre.length (Tp.pc (pre.map fun x => Tp.pr links x.1))
theorem Tp.trI_own (links : List (Int × Ec.Pair)) (g : Nat) (W0 : World) : OwnFrom W0.heap.size (Tp.TrI links g W0) := fun _ _ _ _ hs hg hr => by
  obtain ⟨h1, v, h2, h3⟩ := hs
  exact ⟨Tp.grown_then h1 hg (fun r e => (hr r e).1), v, h2.kept hg (fun r e => (hr r e).2), ownsRow_of_block h3 fun k hk => hg.block k (h3.lt k hk).2 (own_ne_of_other h3 (fun r e => (hr r e).2) hk)⟩
theorem Tp.trI_ext {links : List (Int × Ec.Pair)} {g : Nat} {W0 : World} {s : List (Tp.Idx links.length)} {A B : World} (h : Tp.TrI links g W0 s A) (k : Ext A B) : Tp.TrI links g W0 s B :=
  let ⟨h1, v, h2, h3⟩ := h; ⟨Tp.grown_ext h1 k, v, h2.ext k, own_ext h3 k⟩
/-- One round: the link's pair is appended. -/
theorem Tp.trI_step {links : List (Int × Ec.Pair)} {g n0 : Nat} {W0 W Wa Wb : World} {pre : List (Tp.Idx links.length)} {v : Value} {gg cap : Nat} (hn : n0 ≤ g) (hg0 : g < W0.heap.size) (h1 : W0.grownBy W (some g)) (h2 : Row W g 78 #[v]) (h3 : W.ownsRow W0.heap.size 125 2 v pre.length (Tp.pc (pre.map fun x => Tp.pr links x.1))) (x : Tp.Idx links.length)
    (e1 : Ext W Wa) (hg : Wa.grownBy Wb v.ownBlock) (ho : Wb.ownsRow W0.heap.size 125 2 (.slice (some ⟨gg, 0, none⟩) (pre.length + 1) cap) (pre.length + 1) (Tp.pc (pre.map fun x => Tp.pr links x.1) ++ [.int .i64 (Tp.pr links x.1).drives, .int .i64 (Tp.pr links x.1).driven])) (B : Nat) :
    KeepsFrom B W (Wb.setCell ⟨g, 0, none⟩ (.slice (some ⟨gg, 0, none⟩) (pre.length + 1) cap)) ∧ Tp.KP n0 78 125 W (Wb.setCell ⟨g, 0, none⟩ (.slice (some ⟨gg, 0, none⟩) (pre.length + 1) cap)) ∧ Tp.TrI links g W0 (pre ++ [x]) (Wb.setCell ⟨g, 0, none⟩ (.slice (some ⟨gg, 0, none⟩) (pre.length + 1) cap)) := by
  have o1 := own_ext h3 e1
  have r1 := Tp.rowOf o1
  have rg := Tp.grown_far (h2.ext e1) hg (Tp.own_ne o1 hg0)
  have hz := h1.size
  have hz1 := e1.size
  have k1 : Tp.KP n0 78 125 W Wb := (Tp.KP.of_ext e1 (by omega)).grown (by omega) hg (fun k e => ⟨by have := (o1.lt k e).1; omega, r1 k e⟩)
  refine ⟨?_, k1.store rg hn 0 _, ⟨?_, .slice (some ⟨gg, 0, none⟩) (pre.length + 1) cap, ?_, ?_⟩⟩
  · have ko : KeepsOthers W Wa := ⟨hz1, fun k o hk _ => (e1.block k (Array.getElem?_eq_some_iff.1 hk).1).trans hk⟩
    have kg : KeepsOthers Wa Wb := ⟨hg.size, fun k o hk hc => (hg.block k (Array.getElem?_eq_some_iff.1 hk).1 (fun e => by obtain ⟨cs, fr, h9⟩ := r1 k e.symm; rw [h9] at hk; cases hk; cases hc)).trans hk⟩
    exact ((ko.trans kg).trans (KeepsOthers.setCell _ _ _)).from B
  · refine ⟨(hg.os.trans e1.os).trans h1.os, (hg.tape.trans e1.tape).trans h1.tape, (hg.output.trans e1.output).trans h1.output, by have := hg.size; simp; omega, fun i hi hne => ?_⟩
    have hne2 : i ≠ g := fun e => hne (by rw [e])
    rw [Below.heap_setCell Wb ⟨g, 0, none⟩ _ i (by simpa using hne2), hg.block i (by omega) (fun e => by have := (o1.lt i e.symm).1; omega), e1.block i (by omega)]
    exact h1.block i hi hne
  · have := rg.set_ 0 (.slice (some ⟨gg, 0, none⟩) (pre.length + 1) cap)
    simpa using this
  · refine ownsRow_setCell_below ?_ (by simpa using hg0) _
    rw [List.map_append, Tp.pc_append, List.length_append]
    exact ho
theorem sh_trainOf_in (A : Option Addr) (c : Nat) (Bb : Option Addr) (mb cb : Nat) (links : List (Int × Ec.Pair)) (a : Nat) (w : World) (hm : Tp.Links w A links) (hok : Tp.LinksOk links) (hl : links.length ≤ 1000) (ha : a ≤ links.length) :
    CallsIn Fence.wide 9 Tryz.prog 67 #[.agg #[.slice A links.length c, .slice Bb mb cb], .int .i64 (a : Int)] w fun e w' => ∃ v, e = .returned v ∧ w'.ownsRow w.heap.size 125 2 v (Tp.trainL links a).length (Tp.pc (Tp.trainL links a)) ∧ Ext w w' := by
  have HM := Lib.hid hm
  have HB0 := Lib.hid (Row.new w 50 #[.slice A links.length c, .slice Bb mb cb])
  have HX0 := Lib.hid ((Ext.refl w).alloc (.cells #[.slice A links.length c, .slice Bb mb cb] 50))
  have HT0 := Lib.hid (Row.new (w.alloc (.cells #[.slice A links.length c, .slice Bb mb cb] 50)) 78 #[.slice none 0 0])
  have HB1 := Lib.hid (HB0.out.alloc (.cells #[.slice none 0 0] 78))
  have HX1 := Lib.hid (HX0.out.alloc (.cells #[.slice none 0 0] 78))
  have cB0 := HB0.out.cell
  have cB1 := HB1.out.cell
  obtain ⟨N, hN⟩ : ∃ N, (Tp.trainL links a).length = N := ⟨_, rfl⟩
  have HN := Lib.hid hN
  have hN9 : N ≤ 1000 := by rw [← hN]; have := Tp.path_len (fun i => (hok.frm i).1) a; simp only [Tp.trainL, List.length_map]; omega
  rw [hN]
  clear hm hN
  refine callsIn_of_wp_marks Tryz.func67 rfl trivial ?_ rfl
  simp only [Tryz.ntmps67, List.size_toArray, List.length_cons, List.length_nil, Nat.reduceAdd, Nat.reduceSub, Array.replicate_succ, Array.replicate_zero, List.push_toArray, List.append_toArray, List.nil_append, List.cons_append]
  gi_wp2
  refine ⟨trivial, (callsIn_wide.2 (sh_path_any A links.length c (a : Int) _)).mono ?_⟩
  rintro e W3 ⟨g, h, rfl, hg1, hgh, hrg, hrh, hE3⟩
  have HB3 := Lib.hid (HB1.out.ext hE3)
  have HT3 := Lib.hid (HT0.out.ext hE3)
  have HX3 := Lib.hid (HX1.out.trans hE3)
  have hz3 : w.heap.size + 1 < W3.heap.size := by have := HT3.out.lt; simpa using this
  obtain ⟨gO, hgO⟩ : ∃ gO, w.heap.size + 1 = gO := ⟨_, rfl⟩
  have HGO := Lib.hid hgO
  have hsz : (w.alloc (.cells #[.slice A links.length c, .slice Bb mb cb] 50)).heap.size = gO := by rw [← hgO]; simp
  rw [hsz] at HT3
  rw [hgO]
  have cT3 := HT3.out.cell
  have cB3 := HB3.out.cell
  have hgO3 : gO < W3.heap.size := by omega
  clear hgO HB0 HX0 HT0 HB1 HX1 cB0 cB1 hE3 hg1 hsz
  gi_wp2
  refine Tp.wpIn_call (fun a0 ha0 => ?_)
  refine Tp.range_all rfl (by omega) (gf := 178) (lb := #[.pointer (some ⟨g, 0, none⟩), .pointer (some ⟨h, 0, none⟩)]) (by rw [ha0]; rfl) trivial (enters_of Tryz.func178 (by kernel_rfl) rfl)
    (fun W' hW' => sh_path_seq 78 125 (by decide) (9 - 1) g h A c links a w HM.out hok hl ha W3 HX3.out hrg hrh W' hW')
    (fun h k => h.trans k) (fun W l o o' h1 h2 h3 h4 => Tp.KP.book (by omega) W l o o' h1 h2 h3 h4)
    (fun A B h => Tp.keepsOf h) (fun _ => rfl)
    (Tp.TrI links gO W3) (Tp.trI_own _ _ _) (fun _ _ _ h k => Tp.trI_ext h k) ⟨Tp.grown_refl _ _, .slice none 0 0, HT3.out, by simp [World.ownsRow, Tp.pc]⟩
    (fun x a' _ => a' = (⟨(a0.tmps.setIfInBounds 11 (.int .i64 ((x : Nat) : Int))).setIfInBounds 6 (.int .i64 ((x : Nat) : Int)), []⟩ : Act)) (fun x a' _ X Y row hs hg hr => hs)
    ?assign ?body ?done
  case assign =>
    rintro l pre x W K hi' hK'
    subst ha0
    gi_wp2
    exact hK' _ _ (KeepsFrom.refl _ _) (Tp.KP.refl _ _ _ _) hi' rfl
  case body =>
    rintro l pre x a' W hl' hi' rfl hlt2
    subst ha0
    obtain ⟨hI1, v, hI2, hI3⟩ := hi'
    have hXW : Ext w W := HX3.out.grown hI1 (fun k e => by cases e; have := HGO.out; omega)
    have cp := (Tp.grown_far HB3.out hI1 (fun e => by cases e; have := HGO.out; omega)).cell
    have cv := hI2.cell
    clear cT3 cB3
    obtain ⟨i, hi⟩ := x
    dsimp only at *
    obtain ⟨bb, o, hA, hcl⟩ := HM.out (by omega)
    subst hA
    have y1 : w.cell? ⟨bb, o + i * 3 + 1, none⟩ = some (.int .i64 (Tp.pr links i).drives) := (hcl i hi).2.1
    have y2 : w.cell? ⟨bb, o + i * 3 + 1 + 1, none⟩ = some (.int .i64 (Tp.pr links i).driven) := (hcl i hi).2.2
    have HSA : Hid (∀ Wx, Row Wx w.heap.size 50 #[.slice (some ⟨bb, o, none⟩) links.length c, .slice Bb mb cb] → Ext w Wx → Wx.cell? ⟨w.heap.size, 0, none⟩ = some (.slice (some ⟨bb, o, none⟩) links.length c) ∧ Wx.cell? ⟨bb, o + i * 3 + 1, none⟩ = some (.int .i64 (Tp.pr links i).drives) ∧ Wx.cell? ⟨bb, o + i * 3 + 1 + 1, none⟩ = some (.int .i64 (Tp.pr links i).driven)) := Lib.hid (fun Wx h1 h2 => ⟨h1.cell 0, h2.cell y1, h2.cell y2⟩)
    have HBW := Lib.hid (Tp.grown_far HB3.out hI1 (fun e => by cases e; have := HGO.out; omega))
    have hS0 := HSA.out W.drew HBW.out.drew hXW.drew
    have HI1 := Lib.hid hI1
    have HI2 := Lib.hid hI2
    have HI3 := Lib.hid hI3
    have HXW := Lib.hid hXW
    have HQ9 : pre.length ≤ 1000 := by have := HN.out; simp only [Tp.trainL, List.length_map] at this; omega
    have hFn : ∀ f, (Fence.wide.inRound l).fn f := fun _ => trivial
    obtain ⟨d1, hd1⟩ : ∃ d, (Tp.pr links i).drives = d := ⟨_, rfl⟩
    obtain ⟨d2, hd2⟩ : ∃ d, (Tp.pr links i).driven = d := ⟨_, rfl⟩
    have HD1 := Lib.hid hd1
    have HD2 := Lib.hid hd2
    rw [hd1, hd2] at hS0 HSA
    clear cp cv hcl y1 y2 hI1 hI2 hI3 hXW hd1 hd2
    gi_wp2
    refine Tp.region_fence (fun w' => w'.cell? ⟨w.heap.size, 0, none⟩ = some (.slice (some ⟨bb, o, none⟩) links.length c) ∧ w'.cell? ⟨bb, o + i * 3 + 1, none⟩ = some (.int .i64 d1) ∧ w'.cell? ⟨bb, o + i * 3 + 1 + 1, none⟩ = some (.int .i64 d2)) (by kernel_rfl) ?_
    refine Tp.anyF_take hFn (by kernel_rfl) (i := 1) (v := (.pointer (some ⟨w.heap.size, 0, none⟩))) rfl (by kernel_rfl) (by kernel_rfl) (by kernel_rfl) (fun _ _ _ h => h) (Or.inl ⟨by rfl, fun w' hw => ?_⟩) hS0 ?_
    · obtain ⟨e1, e2, e3⟩ := hw
      go_simp
      all_goals (first | (rw [IntKind.wrap_i64]; omega) | rfl)
    try simp only [Act.put, List.getElem_toArray, List.getElem_cons_succ, List.getElem_cons_zero, List.setIfInBounds_toArray, List.set_cons_zero, List.set_cons_succ]
    refine Tp.anyF_take hFn (by kernel_rfl) (i := 2) (v := (.slice (some ⟨bb, o, none⟩) links.length c)) rfl (by kernel_rfl) (by kernel_rfl) (by kernel_rfl) (fun _ _ _ h => h) (Or.inl ⟨by rfl, fun w' hw => ?_⟩) hS0 ?_
    · obtain ⟨e1, e2, e3⟩ := hw
      go_simp
      all_goals (first | (rw [IntKind.wrap_i64]; omega) | rfl)
    try simp only [Act.put, List.getElem_toArray, List.getElem_cons_succ, List.getElem_cons_zero, List.setIfInBounds_toArray, List.set_cons_zero, List.set_cons_succ]
    refine Tp.anyF_take hFn (by kernel_rfl) (i := 3) (v := (.int .i64 (i : Int))) rfl (by kernel_rfl) (by kernel_rfl) (by kernel_rfl) (fun _ _ _ h => h) (Or.inl ⟨by rfl, fun w' hw => ?_⟩) hS0 ?_
    · obtain ⟨e1, e2, e3⟩ := hw
      go_simp
      all_goals (first | (rw [IntKind.wrap_i64]; omega) | rfl)
    try simp only [Act.put, List.getElem_toArray, List.getElem_cons_succ, List.getElem_cons_zero, List.setIfInBounds_toArray, List.set_cons_zero, List.set_cons_succ]
    refine Tp.anyF_take hFn (by kernel_rfl) (i := 4) (v := (.pointer (some ⟨bb, o + i * 3, none⟩))) rfl (by kernel_rfl) (by kernel_rfl) (by kernel_rfl) (fun _ _ _ h => h) (Or.inl ⟨by rfl, fun w' hw => ?_⟩) hS0 ?_
    · obtain ⟨e1, e2, e3⟩ := hw
      go_simp
      all_goals (first | (rw [IntKind.wrap_i64]; omega) | rfl)
    try simp only [Act.put, List.getElem_toArray, List.getElem_cons_succ, List.getElem_cons_zero, List.setIfInBounds_toArray, List.set_cons_zero, List.set_cons_succ]
    refine Tp.anyF_take hFn (by kernel_rfl) (i := 5) (v := (.pointer (some ⟨bb, o + i * 3 + 1, none⟩))) rfl (by kernel_rfl) (by kernel_rfl) (by kernel_rfl) (fun _ _ _ h => h) (Or.inl ⟨by rfl, fun w' hw => ?_⟩) hS0 ?_
    · obtain ⟨e1, e2, e3⟩ := hw
      go_simp
      all_goals (first | (rw [IntKind.wrap_i64]; omega) | rfl)
    try simp only [Act.put, List.getElem_toArray, List.getElem_cons_succ, List.getElem_cons_zero, List.setIfInBounds_toArray, List.set_cons_zero, List.set_cons_succ]
    refine Tp.anyF_take hFn (by kernel_rfl) (i := 6) (v := (.agg #[.int .i64 d1, .int .i64 d2])) rfl (by kernel_rfl) (by kernel_rfl) (by kernel_rfl) (fun _ _ _ h => h) (Or.inl ⟨by rfl, fun w' hw => ?_⟩) hS0 ?_
    · obtain ⟨e1, e2, e3⟩ := hw
      go_simp
      all_goals (first | (rw [IntKind.wrap_i64]; omega) | rfl)
    try simp only [Act.put, List.getElem_toArray, List.getElem_cons_succ, List.getElem_cons_zero, List.setIfInBounds_toArray, List.set_cons_zero, List.set_cons_succ]
    have cv : W.drew.cell? ⟨gO, 0, none⟩ = some v := HI2.out.cell 0
    have HAN : Ext W (W.drew.alloc (.cells #[.int .i64 d1, .int .i64 d2] 125)) := (Ext.refl W).drew.alloc _
    have HSN := HSA.out _ (HBW.out.ext HAN) (HXW.out.trans HAN)
    have cv2 : (W.drew.alloc (.cells #[.int .i64 d1, .int .i64 d2] 125)).cell? ⟨gO, 0, none⟩ = some v := (HI2.out.ext HAN).cell 0
    have cv3 : (W.alloc (.cells #[.int .i64 d1, .int .i64 d2] 125)).drew.cell? ⟨gO, 0, none⟩ = some v := cv2
    refine Tp.anyF_two (i := 0) (j := 7) (by kernel_rfl) rfl rfl (fun K hK => ?_) (fun K hK => ?_)
    · rw [if_pos (by rfl)]
      gi_wp2
      refine hK.out _ _ hS0 ?_
      clear hK K
      try simp only [Act.put, List.getElem_toArray, List.getElem_cons_succ, List.getElem_cons_zero, List.setIfInBounds_toArray, List.set_cons_zero, List.set_cons_succ]
      refine Tp.anyF_one (i := 7) (by kernel_rfl) rfl (fun K hK => ?_)
      rw [if_pos (by rfl)]
      gi_wp2
      refine hK.out _ _ HSN ?_
      clear hK K
      try simp only [Act.put, List.getElem_toArray, List.getElem_cons_succ, List.getElem_cons_zero, List.setIfInBounds_toArray, List.set_cons_zero, List.set_cons_succ]
      refine Tp.anyF_one (i := 8) (by kernel_rfl) rfl (fun K hK => ?_)
      rw [if_pos (by rfl)]
      obtain ⟨j0, hj0, hj1, hj2, hj3⟩ := info_parts Tp.info_pair
      refine Tp.wpIn_append _ hFn (.tmp 12) (.tmp 19) 78 rfl W3.heap.size 125 j0 _ 2 16 Tryz.underlying78 hj0 hj1 hj2 hj3 rfl (by omega) v pre.length (Tp.pc (pre.map fun x => Tp.pr links x.1)) (by rfl) (own_ext HI3.out HAN) ⟨_, 0, none⟩ 1 1 [.int .i64 d1, .int .i64 d2] (by rfl) (by rfl) (World.news_of_block (cs := #[.int .i64 d1, .int .i64 d2]) (t := 125) (fr := (0, 0)) (heap_alloc_new _ _)) (by simp [Value.oneCell']) (by omega) (by simp only [maxLen]; omega) (by omega) (by have := HI1.out.size; simp; omega) _ rfl ?_
      intro gg cap w5 hown5 hgrow hat hlt5
      have HTS := fun B => Tp.trI_step (n0 := w.heap.size) (by have := HGO.out; omega) hgO3 HI1.out HI2.out HI3.out ⟨i, hi⟩ HAN hgrow (by rw [HD1.out, HD2.out]; exact hown5) B
      have o5 := own_ext HI3.out HAN
      have HR5 := Lib.hid (Tp.grown_far (HBW.out.ext HAN) hgrow (Tp.own_ne o5 (by omega)))
      have HG5 := Lib.hid (Tp.grown_far (HI2.out.ext HAN) hgrow (Tp.own_ne o5 hgO3))
      have HX5 := Lib.hid ((HXW.out.trans HAN).grown hgrow (fun k e => by have := (o5.lt k e).1; omega))
      have HTS := Lib.hid HTS
      refine hK.out _ _ (HSA.out _ HR5.out HX5.out) ?_
      clear hK K hown5 hat o5
      try simp only [Act.put, List.getElem_toArray, List.getElem_cons_succ, List.getElem_cons_zero, List.setIfInBounds_toArray, List.set_cons_zero, List.set_cons_succ]
      refine Tp.anyF_one (i := 9) (by kernel_rfl) rfl (fun K hK => ?_)
      rw [if_pos (by rfl)]
      have c5 := HG5.out.cell
      have f5 := HG5.out.free
      have j5 := lts HG5.out.lt
      have HX6 := Lib.hid (HX3.out.grown (HTS.out 0).2.2.1 (fun k e => by cases e; have := HGO.out; omega))
      have HR6 := Lib.hid (HR5.out.far (p := ⟨gO, 0, none⟩) (by have := HGO.out; show w.heap.size ≠ gO; omega) (.slice (some ⟨gg, 0, none⟩) (pre.length + 1) cap))
      gi_wp2
      refine hK.out _ _ (HSA.out _ HR6.out HX6.out) ?_
      clear hK K
      try simp only [Act.put, List.getElem_toArray, List.getElem_cons_succ, List.getElem_cons_zero, List.setIfInBounds_toArray, List.set_cons_zero, List.set_cons_succ]
      refine ⟨by kernel_rfl, ?_⟩
      gi_wp2
      exact HTS.out _
    · rw [if_pos (by rfl)]
      gi_wp2
      refine hK.out _ _ HSN ?_
      clear hK K
      try simp only [Act.put, List.getElem_toArray, List.getElem_cons_succ, List.getElem_cons_zero, List.setIfInBounds_toArray, List.set_cons_zero, List.set_cons_succ]
      refine Tp.anyF_one (i := 0) (by kernel_rfl) rfl (fun K hK => ?_)
      rw [if_pos (by rfl)]
      gi_wp2
      refine hK.out _ _ HSN ?_
      clear hK K
      try simp only [Act.put, List.getElem_toArray, List.getElem_cons_succ, List.getElem_cons_zero, List.setIfInBounds_toArray, List.set_cons_zero, List.set_cons_succ]
      refine Tp.anyF_one (i := 8) (by kernel_rfl) rfl (fun K hK => ?_)
      rw [if_pos (by rfl)]
      obtain ⟨j0, hj0, hj1, hj2, hj3⟩ := info_parts Tp.info_pair
      refine Tp.wpIn_append _ hFn (.tmp 12) (.tmp 19) 78 rfl W3.heap.size 125 j0 _ 2 16 Tryz.underlying78 hj0 hj1 hj2 hj3 rfl (by omega) v pre.length (Tp.pc (pre.map fun x => Tp.pr links x.1)) (by rfl) (own_ext HI3.out HAN) ⟨_, 0, none⟩ 1 1 [.int .i64 d1, .int .i64 d2] (by rfl) (by rfl) (World.news_of_block (cs := #[.int .i64 d1, .int .i64 d2]) (t := 125) (fr := (0, 0)) (heap_alloc_new _ _)) (by simp [Value.oneCell']) (by omega) (by simp only [maxLen]; omega) (by omega) (by have := HI1.out.size; simp; omega) _ rfl ?_
      intro gg cap w5 hown5 hgrow hat hlt5
      have HTS := fun B => Tp.trI_step (n0 := w.heap.size) (by have := HGO.out; omega) hgO3 HI1.out HI2.out HI3.out ⟨i, hi⟩ HAN hgrow (by rw [HD1.out, HD2.out]; exact hown5) B
      have o5 := own_ext HI3.out HAN
      have HR5 := Lib.hid (Tp.grown_far (HBW.out.ext HAN) hgrow (Tp.own_ne o5 (by omega)))
      have HG5 := Lib.hid (Tp.grown_far (HI2.out.ext HAN) hgrow (Tp.own_ne o5 hgO3))
      have HX5 := Lib.hid ((HXW.out.trans HAN).grown hgrow (fun k e => by have := (o5.lt k e).1; omega))
      have HTS := Lib.hid HTS
      refine hK.out _ _ (HSA.out _ HR5.out HX5.out) ?_
      clear hK K hown5 hat o5
      try simp only [Act.put, List.getElem_toArray, List.getElem_cons_succ, List.getElem_cons_zero, List.setIfInBounds_toArray, List.set_cons_zero, List.set_cons_succ]
      refine Tp.anyF_one (i := 9) (by kernel_rfl) rfl (fun K hK => ?_)
      rw [if_pos (by rfl)]
      have c5 := HG5.out.cell
      have f5 := HG5.out.free
      have j5 := lts HG5.out.lt
      have HX6 := Lib.hid (HX3.out.grown (HTS.out 0).2.2.1 (fun k e => by cases e; have := HGO.out; omega))
      have HR6 := Lib.hid (HR5.out.far (p := ⟨gO, 0, none⟩) (by have := HGO.out; show w.heap.size ≠ gO; omega) (.slice (some ⟨gg, 0, none⟩) (pre.length + 1) cap))
      gi_wp2
      refine hK.out _ _ (HSA.out _ HR6.out HX6.out) ?_
      clear hK K
      try simp only [Act.put, List.getElem_toArray, List.getElem_cons_succ, List.getElem_cons_zero, List.setIfInBounds_toArray, List.set_cons_zero, List.set_cons_succ]
      refine ⟨by kernel_rfl, ?_⟩
      gi_wp2
      exact HTS.out _
  case done =>
    rintro D ps W hD hS hi' hKD
    subst ha0
    obtain ⟨hI1, v, hI2, hI3⟩ := hi'
    have hpl : ps.map (fun x => Tp.pr links x.1) = Tp.trainL links a := by
      have h8 : (ps.map Subtype.val).map (Tp.pr links) = (Tp.path (Tp.frm links) a).map (Tp.pr links) := by rw [hS]
      rw [List.map_map] at h8
      exact h8
    have hpn : ps.length = N := by rw [← HN.out, ← hpl, List.length_map]
    have cv := hI2.cell
    have HEW : Hid (Ext w W) := Lib.hid (HX3.out.grown hI1 (fun k e => by cases e; have := HGO.out; omega))
    have HO := Lib.hid (Tp.own_mono hI3 (show w.heap.size ≤ W3.heap.size by omega))
    rw [hpl, hpn] at HO
    have HRO := Lib.hid (Tp.rowOf hI3)
    clear hI1 hI2 hI3 hpl hpn cT3 cB3
    gi_wp2
    refine ⟨by simp, .inl ⟨_, _, rfl, run_takeDeferred hKD, ?_⟩⟩
    exact ⟨_, results_tmp rfl _ _ _, v, rfl, ownsRow_of_block HO.out fun k hk => (grownBy_putObj' W D (.deferred none)).block k (HO.out.lt k hk).2 (fun e => by obtain ⟨cs, fr, h9⟩ := HRO.out k hk; cases e; rw [hKD] at h9; cases h9), Ext.grown HEW.out (grownBy_putObj' W D (.deferred none)) (fun k e => by cases e; omega)⟩
theorem sh_trainOf_any (A : Option Addr) (c : Nat) (Bb : Option Addr) (mb cb : Nat) (links : List (Int × Ec.Pair)) (a : Nat) (w : World) (hm : Tp.Links w A links) (hok : Tp.LinksOk links) (hl : links.length ≤ 1000) (ha : a ≤ links.length) :
    Calls Tryz.prog 67 #[.agg #[.slice A links.length c, .slice Bb mb cb], .int .i64 (a : Int)] w fun e w' => ∃ v, e = .returned v ∧ w'.ownsRow w.heap.size 125 2 v (Tp.trainL links a).length (Tp.pc (Tp.trainL links a)) ∧ Ext w w' :=
  callsIn_wide.1 (sh_trainOf_in A c Bb mb cb links a w hm hok hl ha)
end Go.Proofs.YtimkmokomohgjaaGreat
