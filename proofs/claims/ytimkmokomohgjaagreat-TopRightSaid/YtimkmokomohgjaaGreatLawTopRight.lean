/- The walk of the law TopRight, over whatever known20 is. (Printed by wip/mktopright.py.) -/
import Derived.Carry
import Derived.BigQuiet
import Derived.Test.YtimkmokomohgjaaGreatR10
import Derived.Test.YtimkmokomohgjaaGreatR06
import Derived.Test.YtimkmokomohgjaaGreatR07
import Derived.Test.YtimkmokomohgjaaGreatR08
import Derived.Test.YtimkmokomohgjaaGreatR09
namespace Go.Proofs.YtimkmokomohgjaaGreat
open Go.RowKit
open Sp (rd)
set_option linter.unusedSimpArgs false
set_option linter.unusedVariables false

theorem Tp.neq_fr (a b c d : Int) (w : World) : (binOp .neq 69 (.agg #[.int .i64 a, .int .i64 b]) (.agg #[.int .i64 c, .int .i64 d])).run Tryz.prog w = .ok (.bool (!((a == c) && (b == d)))) w := by
  have hf : (Tryz.prog.fieldsOf 69).toList.map (fun f => (f.name, f.type, f.offset)) = [("Num", 3, 0), ("Den", 3, 1)] := by kernel_rfl
  obtain ⟨f1, f2, hfs, p1, p2⟩ := Tp.map_two hf
  obtain ⟨n1, t1, o1⟩ := Tp.field_parts p1
  obtain ⟨n2, t2, o2⟩ := Tp.field_parts p2
  rw [run_neq_struct, run_equalIn_agg w 9999 _ _ _ (by kernel_rfl) (by kernel_rfl), hfs]
  simp [Op.eqFields, n1, t1, o1, n2, t2, o2, part, go_sem]
  by_cases h : a = c <;> by_cases h2 : b = d <;> simp [h, h2]
theorem Tp.neq_hands0 (w : World) : (binOp .neq 89 (.agg #[.int .i64 0, .int .i64 0, .int .i64 0]) (.agg #[.int .i64 0, .int .i64 0, .int .i64 0])).run Tryz.prog w = .ok (.bool false) w := by kernel_rfl
/-- The arbors and the periods that are asked for. -/
def Tp.arb (a0 a1 a2 : Int) (j : Nat) : Int := if j = 0 then a0 else if j = 1 then a1 else a2
def Tp.perN (s : Sp.Sky) (j : Nat) : Int := if j = 0 then (bd s.bodies 0).num else if j = 1 then (bd s.bodies 1).num else s.nnum
def Tp.perD (s : Sp.Sky) (j : Nat) : Int := if j = 0 then (bd s.bodies 0).den else if j = 1 then (bd s.bodies 1).den else s.nden
theorem Tp.per_lim {s : Sp.Sky} (h : Sp.skyOk s = true) (j : Nat) : (1 ≤ Tp.perN s j ∧ Tp.perN s j ≤ 10000) ∧ 1 ≤ Tp.perD s j ∧ Tp.perD s j ≤ 10000 := by
  have hk := skyOk_iff.1 h
  have h2 := hk.n2
  have h0 := hk.all 0 (by omega)
  have h1 := hk.all 1 (by omega)
  obtain ⟨u1, u2, u3, u4, _⟩ := h0
  obtain ⟨v1, v2, v3, v4, _⟩ := h1
  have x1 := hk.num1
  have x2 := hk.num2
  have x3 := hk.den1
  have x4 := hk.den2
  unfold Tp.perN Tp.perD
  split
  · exact ⟨⟨u1, u2⟩, u3, u4⟩
  · split
    · exact ⟨⟨v1, v2⟩, v3, v4⟩
    · exact ⟨⟨x1, x2⟩, x3, x4⟩
/-- What the loop over the three hands knows of those that are done. -/
def Tp.Got (links : List (Int × Ec.Pair)) (a0 a1 a2 : Int) (s : Sp.Sky) (j : Nat) (l : List Ec.Pair) : Prop :=
  ∃ a : Nat, (a : Int) = Tp.arb a0 a1 a2 j ∧ 1 ≤ a ∧ a ≤ links.length ∧ l = Tp.trainL links a ∧ Ec.Just l (Tp.perD s j) (Tp.perN s j)
def Tp.Trains (B : Nat) (links : List (Int × Ec.Pair)) (a0 a1 a2 : Int) (s : Sp.Sky) (W : World) (t : Value) (k : Nat) : Prop :=
  ∃ xs, W.ownsRow B 78 1 t k xs ∧ ∀ j, j < k → ∃ x l, xs[j]? = some x ∧ W.ownsRow B 125 2 x l.length (Tp.pc l) ∧ Tp.Got links a0 a1 a2 s j l
theorem Tp.info_tp : (Tryz.prog.info? 78).map (fun i => (i.zero, i.size, i.bytes)) = some (some (.slice none 0 0), 1, 24) := by kernel_rfl
theorem Tp.own_keeps {w w' : World} {base size n base' size' n' : Nat} {e e' : TypeId} {x v : Value} {xs ys : List Value} (h : w.ownsRow base e size x n xs) (hv : w.ownsRow base' e' size' v n' ys) (hg : w.grownBy w' v.ownBlock) (ht : e ≠ e') : w'.ownsRow base e size x n xs :=
  Tp.own_grown h hg (fun g hg' => Tp.own_type hv hg') ht
theorem Tp.Trains.snoc {B : Nat} {links : List (Int × Ec.Pair)} {a0 a1 a2 : Int} {s : Sp.Sky} {w w' : World} {t t' x : Value} {k : Nat} {l : List Ec.Pair} {xs : List Value} (ho : w.ownsRow B 78 1 t k xs) (h : ∀ j, j < k → ∃ x l, xs[j]? = some x ∧ w.ownsRow B 125 2 x l.length (Tp.pc l) ∧ Tp.Got links a0 a1 a2 s j l)
    (hx : w.ownsRow B 125 2 x l.length (Tp.pc l)) (hgot : Tp.Got links a0 a1 a2 s k l) (hg : w.grownBy w' t.ownBlock) (ho' : w'.ownsRow B 78 1 t' (k + 1) (xs ++ [x])) : Tp.Trains B links a0 a1 a2 s w' t' (k + 1) := by
  have hlen : xs.length = k := by simpa using ho.1
  have hne : 125 ≠ 78 := by decide
  refine ⟨xs ++ [x], ho', fun j hj => ?_⟩
  rcases Nat.lt_or_eq_of_le (Nat.le_of_lt_succ hj) with h9 | rfl
  · obtain ⟨y, m, e, p, q⟩ := h j h9
    exact ⟨y, m, by rw [List.getElem?_append_left (by omega)]; exact e, Tp.own_keeps p ho hg hne, q⟩
  · exact ⟨x, l, by rw [List.getElem?_append_right (by omega), hlen, Nat.sub_self]; rfl, Tp.own_keeps hx ho hg hne, hgot⟩
theorem Tp.rate_at {links : List (Int × Ec.Pair)} {a : Nat} (h1 : 1 ≤ a) (h2 : a ≤ links.length) : pd (Tp.rateL links links.length) a = ⟨Ec.turnsN (Tp.trainL links a), Ec.turnsD (Tp.trainL links a)⟩ := by
  obtain ⟨a, rfl⟩ : ∃ b, a = b + 1 := ⟨a - 1, by omega⟩
  unfold pd Tp.rateL
  rw [List.getD_eq_getElem?_getD, List.getElem?_cons_succ, List.getElem?_map, List.getElem?_range (by omega)]
  rfl
theorem Tp.just_of {l : List Ec.Pair} {N D : Nat} (hD : 1 ≤ D) (h1 : Ec.turnsN l = ((N / Nat.gcd N D : Nat) : Int)) (h2 : Ec.turnsD l = ((D / Nat.gcd N D : Nat) : Int)) : Ec.Just l (N : Int) (D : Int) := by
  unfold Ec.Just
  rw [h1, h2]
  have a := Nat.div_mul_cancel (Nat.gcd_dvd_left N D)
  have b := Nat.div_mul_cancel (Nat.gcd_dvd_right N D)
  have : N / Nat.gcd N D * D = N * (D / Nat.gcd N D) := by
    obtain ⟨g, hg⟩ : ∃ g, Nat.gcd N D = g := ⟨_, rfl⟩
    rw [hg] at a b ⊢
    obtain ⟨p, hp⟩ : ∃ p, N / g = p := ⟨_, rfl⟩
    obtain ⟨q, hq⟩ : ∃ q, D / g = q := ⟨_, rfl⟩
    rw [hp] at a ⊢
    rw [hq] at b ⊢
    rw [← a, ← b]
    simp only [Nat.mul_assoc, Nat.mul_comm, Nat.mul_left_comm]
  exact_mod_cast this
/-- What the operations of 'l, f := shop.Train(p, arbors[i])' yield. -/
def Tp.tnΦ (V : Value) (gA k a n0 : Nat) (l : List Ec.Pair) (i : Nat) (v : Value) (w : World) : Prop :=
  match i with
  | 0 => v = V
  | 1 => v = .int .i64 (k : Int)
  | 2 => v = .pointer (some ⟨gA, k, none⟩)
  | 3 => v = .int .i64 (a : Int)
  | 4 => ∃ u, v = .tuple #[u, .int .i64 0] ∧ w.ownsRow n0 125 2 u l.length (Tp.pc l)
  | 5 => ∃ u, v = .tuple #[u, .int .i64 0] ∧ w.ownsRow n0 125 2 u l.length (Tp.pc l)
  | 6 => w.ownsRow n0 125 2 v l.length (Tp.pc l)
  | 7 => v = .int .i64 0
  | 8 => w.ownsRow n0 125 2 v l.length (Tp.pc l)
  | _ => v = .int .i64 0
theorem Tp.tnΦ_mono {V : Value} {gA k a n0 : Nat} {l : List Ec.Pair} (i : Nat) (v : Value) (w w' : World) (h : Tp.tnΦ V gA k a n0 l i v w) (he : Ext w w') : Tp.tnΦ V gA k a n0 l i v w' := by
  unfold Tp.tnΦ at h ⊢
  split at h <;> first
    | exact h
    | exact own_ext h he
    | exact (let ⟨u, h1, h2⟩ := h; ⟨u, h1, own_ext h2 he⟩)
theorem Tp.Trains.ext {B : Nat} {links : List (Int × Ec.Pair)} {a0 a1 a2 : Int} {s : Sp.Sky} {w w' : World} {t : Value} {k : Nat} (h : Tp.Trains B links a0 a1 a2 s w t k) (he : Ext w w') : Tp.Trains B links a0 a1 a2 s w' t k :=
  let ⟨xs, h1, h2⟩ := h
  ⟨xs, own_ext h1 he, fun j hj => let ⟨x, l, a, b, c⟩ := h2 j hj; ⟨x, l, a, own_ext b he, c⟩⟩
theorem Tp.right_of {links : List (Int × Ec.Pair)} {a0 a1 a2 : Int} {s : Sp.Sky} {l0 l1 l2 : List Ec.Pair} {feasts : List Int} {new full : Int} (q0 : Tp.Got links a0 a1 a2 s 0 l0) (q1 : Tp.Got links a0 a1 a2 s 1 l1) (q2 : Tp.Got links a0 a1 a2 s 2 l2) : Ec.RightE ⟨s, l0, l1, l2, feasts, new, full, 0⟩ := by
  obtain ⟨_, _, _, _, _, h0⟩ := q0
  obtain ⟨_, _, _, _, _, h1⟩ := q1
  obtain ⟨_, _, _, _, _, h2⟩ := q2
  exact ⟨h0, h1, h2⟩
theorem Tp.got_len {links : List (Int × Ec.Pair)} {a0 a1 a2 : Int} {s : Sp.Sky} {l : List Ec.Pair} {j : Nat} (hok : Tp.LinksOk links) (h5 : links.length ≤ 5) (q : Tp.Got links a0 a1 a2 s j l) : l.length ≤ 100000 := by
  obtain ⟨a, _, _, h, rfl, _⟩ := q
  have := Tp.trainL_len hok a
  omega
theorem Tp.even_of {s : Sp.Sky} (h : ∀ q, q < 2 → ∀ x, x < (bd s.bodies q).road.length → rd (bd s.bodies q).road x = 0) : Ec.evenB s = true := by
  have k : ∀ q, q < 2 → ((bd s.bodies q).road.all fun n => n == 0) = true := fun q hq => by
    rw [List.all_eq_true]
    intro y hy
    obtain ⟨x, hx, rfl⟩ := List.mem_iff_getElem.1 hy
    have := h q hq x hx
    unfold Sp.rd at this
    rw [List.getD_eq_getElem?_getD, List.getElem?_eq_getElem hx] at this
    simpa using this
  unfold Ec.evenB
  rw [Bool.and_eq_true]
  exact ⟨k 0 (by omega), k 1 (by omega)⟩
set_option maxRecDepth 100000 in
set_option maxHeartbeats 64000000 in
theorem law_TopRight (A : Option Addr) (c : Nat) (Bb : Option Addr) (cb : Nat) (links : List (Int × Ec.Pair)) (hands : List Int) (a0 a1 a2 : Int) (s : Sp.Sky) (As : Option Addr) (cs : Nat) (feasts : List Int) (Af : Option Addr) (cf : Nat) (set : List Int) (At : Option Addr) (ct : Nat) (day new full lo hi : Int) (w : World)
    (hK : ∀ W, Ext w W → Calls Tryz.prog 8 #[] W fun e w' => e = .returned (.bool true) ∧ Ext W w') (hm : Tp.Links w A links) (hh : Ints w Bb hands) (hcap : links.length ≤ c) (hb : Bodies w As s.bodies) (hf : Ints w Af feasts) (ht : Ints w At set) :
    Calls Tryz.prog 5 #[.agg #[.slice A links.length c, .slice Bb hands.length cb], .agg #[.int .i64 a0, .int .i64 a1, .int .i64 a2], .agg #[.slice As s.bodies.length cs, .int .i64 s.nnum, .int .i64 s.nden, .int .i64 s.nstart], .slice Af feasts.length cf, .slice At set.length ct, .int .i64 day, .int .i64 new, .int .i64 full, .int .i64 lo, .int .i64 hi] w fun e w' => e = .returned (.bool true) ∧ Ext w w' := by
  have HK := Lib.hid hK
  have HML := Lib.hid hm
  have HMH := Lib.hid hh
  have HMB := Lib.hid hb
  have HMF := Lib.hid hf
  have HMT := Lib.hid ht
  have HPC := Lib.hid (fun W h1 h2 => top_piece20_any A c Bb cb links hands W h1 h2)
  have HAR := Lib.hid (fun x W => r9_Arbor_any A links.length c (.slice Bb hands.length cb) x W)
  have HRT : Hid (Tp.PieceAll links hands → ∀ W, Tp.Links W A links → Ints W Bb hands → Calls Tryz.prog 18 #[.agg #[.slice A links.length c, .slice Bb hands.length cb]] W fun e w' => ∃ Ar cr u, e = .returned (.tuple #[.slice Ar (links.length + 1) cr, u, .int .i64 0]) ∧ Pairs w' Ar (Tp.rateL links links.length) ∧ Ext W w') := Lib.hid (fun hp W h1 h2 => by
    refine (sh_Rates_over A c Bb hands.length cb links W h1 hp.ok.from_ (by have := hp.ok.n5; omega) hp.train (fun W' h => sh_isPiece_yes A c Bb cb links hands W' (h1.ext h) (h2.ext h) hp.ok hcap)).mono ?_
    rintro e w' ⟨v, u, rfl, hv, _, hE⟩
    have hv' : w'.ownsRow W.heap.size 69 2 v (Tp.rateL links links.length).length (Tp.pc (Tp.rateL links links.length)) := by rw [Tp.rateL_len]; exact hv
    obtain ⟨Ar, cr, rfl, hp2⟩ := Tp.pairs_own hv'
    rw [Tp.rateL_len]
    exact ⟨Ar, cr, u, rfl, hp2, hE⟩)
  have HTN : Hid (Tp.PieceAll links hands → ∀ (a : Nat) W, 1 ≤ a → a ≤ links.length → Tp.Links W A links → Ints W Bb hands → Calls Tryz.prog 22 #[.agg #[.slice A links.length c, .slice Bb hands.length cb], .int .i64 (a : Int)] W fun e w' => ∃ v, e = .returned (.tuple #[v, .int .i64 0]) ∧ w'.ownsRow W.heap.size 125 2 v (Tp.trainL links a).length (Tp.pc (Tp.trainL links a)) ∧ Ext W w') := Lib.hid (fun hp a W h1 h2 h3 h4 => sh_Train_ok A c Bb cb links hands a W h3 h4 hp.ok hcap h1 h2)
  obtain ⟨n, hn⟩ : ∃ n, links.length = n := ⟨_, rfl⟩
  obtain ⟨m, hmm⟩ : ∃ m, hands.length = m := ⟨_, rfl⟩
  have HN := Lib.hid hn
  rw [hn, hmm] at HPC HAR HRT HTN ⊢
  clear hn hmm hm hh hb hf ht hcap hK
  have HRP : Hid (Row (((w.alloc (.cells #[.slice A n c, .slice Bb m cb] 50)).alloc (.cells #[.int .i64 a0, .int .i64 a1, .int .i64 a2] 70)).alloc (.cells #[.slice As s.bodies.length cs, .int .i64 s.nnum, .int .i64 s.nden, .int .i64 s.nstart] 28)) w.heap.size 50 #[.slice A n c, .slice Bb m cb]) := Lib.hid (blocks3 w _ _ _).1
  have HRA : Hid (Row (((w.alloc (.cells #[.slice A n c, .slice Bb m cb] 50)).alloc (.cells #[.int .i64 a0, .int .i64 a1, .int .i64 a2] 70)).alloc (.cells #[.slice As s.bodies.length cs, .int .i64 s.nnum, .int .i64 s.nden, .int .i64 s.nstart] 28)) (w.heap.size + 1) 70 #[.int .i64 a0, .int .i64 a1, .int .i64 a2]) := Lib.hid (blocks3 w _ _ _).2.1
  have HRS : Hid (Row (((w.alloc (.cells #[.slice A n c, .slice Bb m cb] 50)).alloc (.cells #[.int .i64 a0, .int .i64 a1, .int .i64 a2] 70)).alloc (.cells #[.slice As s.bodies.length cs, .int .i64 s.nnum, .int .i64 s.nden, .int .i64 s.nstart] 28)) (w.heap.size + 1 + 1) 28 #[.slice As s.bodies.length cs, .int .i64 s.nnum, .int .i64 s.nden, .int .i64 s.nstart]) := Lib.hid (blocks3 w _ _ _).2.2
  have hE0 : Ext w (((w.alloc (.cells #[.slice A n c, .slice Bb m cb] 50)).alloc (.cells #[.int .i64 a0, .int .i64 a1, .int .i64 a2] 70)).alloc (.cells #[.slice As s.bodies.length cs, .int .i64 s.nnum, .int .i64 s.nden, .int .i64 s.nstart] 28)) := (((Ext.refl w).alloc _).alloc _).alloc _
  have HE0 := Lib.hid hE0
  replace HML := Lib.hid (HML.out.ext hE0)
  replace HMH := Lib.hid (HMH.out.ext hE0)
  replace HMB := Lib.hid (HMB.out.ext hE0)
  replace HMF := Lib.hid (HMF.out.ext hE0)
  replace HMT := Lib.hid (HMT.out.ext hE0)
  clear hE0
  have bRP := HRP.out.cell
  have bRA := HRA.out.cell
  have bRS := HRS.out.cell
  go_enter Tryz.func5, Tryz.ntmps5
  go_wp2_with fail
  generalize ((w.alloc (.cells #[.slice A n c, .slice Bb m cb] 50)).alloc (.cells #[.int .i64 a0, .int .i64 a1, .int .i64 a2] 70)).alloc (.cells #[.slice As s.bodies.length cs, .int .i64 s.nnum, .int .i64 s.nden, .int .i64 s.nstart] 28) = w0 at *
  refine (HPC.out w0 HML.out HMH.out).mono ?_
  rintro e w1 ⟨bp, rfl, hp, hE1⟩
  have HE1 := Lib.hid (HE0.out.trans hE1)
  replace HML := Lib.hid (HML.out.ext hE1)
  replace HMH := Lib.hid (HMH.out.ext hE1)
  replace HMB := Lib.hid (HMB.out.ext hE1)
  replace HMF := Lib.hid (HMF.out.ext hE1)
  replace HMT := Lib.hid (HMT.out.ext hE1)
  replace HRP := Lib.hid (HRP.out.ext hE1)
  clear bRP
  have bRP := HRP.out.cell
  replace HRA := Lib.hid (HRA.out.ext hE1)
  clear bRA
  have bRA := HRA.out.cell
  replace HRS := Lib.hid (HRS.out.ext hE1)
  clear bRS
  have bRS := HRS.out.cell
  clear hE1
  cases cp : bp with
  | false =>
    go_wp2_with fail
    refine (HK.out w1 HE1.out).mono ?_
    rintro e w2 ⟨rfl, hE2⟩
    dsimp only
    go_wp2_with fail
    go_ret
    exact ⟨rfl, HE1.out.trans hE2⟩
  | true =>
    subst cp
    have HPA := Lib.hid (hp rfl)
    clear hp HPC
    have hn5 : n ≤ 5 := by rw [← HN.out]; exact HPA.out.ok.n5
    have hn1 : 1 ≤ n := by rw [← HN.out]; exact HPA.out.ok.n1
    replace HRT := Lib.hid (HRT.out HPA.out)
    replace HTN := Lib.hid (HTN.out HPA.out)
    by_cases d1 : (4 : Int) < (s.bodies.length : Int)
    case pos =>
      go_wp2_with fail
      refine (HK.out w1 HE1.out).mono ?_
      rintro e w2 ⟨rfl, hE2⟩
      dsimp only
      go_wp2_with fail
      go_ret
      exact ⟨rfl, HE1.out.trans hE2⟩
    case neg =>
      have ed1 : decide ((4 : Int) < (s.bodies.length : Int)) = false := decide_eq_false d1
      by_cases d2 : (8 : Int) < (feasts.length : Int)
      case pos =>
        go_wp2_with fail
        refine (HK.out w1 HE1.out).mono ?_
        rintro e w2 ⟨rfl, hE2⟩
        dsimp only
        go_wp2_with fail
        go_ret
        exact ⟨rfl, HE1.out.trans hE2⟩
      case neg =>
        have ed2 : decide ((8 : Int) < (feasts.length : Int)) = false := decide_eq_false d2
        by_cases d3 : (8 : Int) < (set.length : Int)
        case pos =>
          go_wp2_with fail
          refine (HK.out w1 HE1.out).mono ?_
          rintro e w2 ⟨rfl, hE2⟩
          dsimp only
          go_wp2_with fail
          go_ret
          exact ⟨rfl, HE1.out.trans hE2⟩
        case neg =>
          have ed3 : decide ((8 : Int) < (set.length : Int)) = false := decide_eq_false d3
          go_wp2_with fail
          go_loopw [21] (fun i wr => ∃ k : Nat, k ≤ s.bodies.length ∧ i = .int .i64 (k : Int) ∧ (∀ q, q < k → (bd s.bodies q).road.length ≤ 8) ∧ Ext w1 wr) (fun i _ => s.bodies.length - (intOf i).toNat)
          case atStart => exact ⟨0, Nat.zero_le _, rfl, fun q hq => absurd hq (by omega), Ext.refl _⟩
          case round =>
            obtain ⟨k, hk, rfl, hF, hE2⟩ := hrel
            generalize wr = w2 at *
            have HF := Lib.hid hF
            have HEL := Lib.hid hE2
            clear hF
            have HE2 := Lib.hid (HE1.out.trans hE2)
            replace HML := Lib.hid (HML.out.ext hE2)
            replace HMH := Lib.hid (HMH.out.ext hE2)
            replace HMB := Lib.hid (HMB.out.ext hE2)
            replace HMF := Lib.hid (HMF.out.ext hE2)
            replace HMT := Lib.hid (HMT.out.ext hE2)
            replace HRP := Lib.hid (HRP.out.ext hE2)
            clear bRP
            have bRP := HRP.out.cell
            replace HRA := Lib.hid (HRA.out.ext hE2)
            clear bRA
            have bRA := HRA.out.cell
            replace HRS := Lib.hid (HRS.out.ext hE2)
            clear bRS
            have bRS := HRS.out.cell
            clear hE2
            rcases Nat.lt_or_eq_of_le hk with h9 | h9
            · have h9' : (k : Int) < (s.bodies.length : Int) := by omega
              obtain ⟨b, o, rfl, hc⟩ := HMB.out (by omega)
              obtain ⟨Ar, cr, c3, _⟩ := (hc k h9).road
              have HF8 : Hid (∀ l, (bd s.bodies k).road.length = l → l ≤ 8 → ∀ q, q < k + 1 → (bd s.bodies q).road.length ≤ 8) := Lib.hid (fun l hl h8 q hq => by rcases Nat.lt_or_eq_of_le (Nat.le_of_lt_succ hq) with h | rfl; exact HF.out q h; rw [hl]; exact h8)
              obtain ⟨l8, hl8⟩ : ∃ l, (bd s.bodies k).road.length = l := ⟨_, rfl⟩
              rw [hl8] at c3
              replace HF8 := Lib.hid (HF8.out l8 hl8)
              clear hc hl8
              by_cases d4 : (8 : Int) < (l8 : Int)
              case pos =>
                go_wp2_with fail
                refine (HK.out w2 HE2.out).mono ?_
                rintro e w3 ⟨rfl, hE3⟩
                dsimp only
                go_wp2_with fail
                go_ret
                exact ⟨rfl, HE2.out.trans hE3⟩
              case neg =>
                have hl8 : l8 ≤ 8 := by omega
                go_wp2_with fail
                go_roundw
                case rel => exact ⟨k + 1, by omega, by simp, HF8.out hl8, HEL.out⟩
                case measure => simp [intOf]; omega
            · subst h9
              have HSH : Hid (Short s.bodies) := Lib.hid ⟨by omega, fun q hq => Nat.le_trans (HF.out q hq) (by decide)⟩
              clear HF HEL hk
              go_wp2_with fail
              refine (HRT.out w2 HML.out HMH.out).mono ?_
              rintro e w3 ⟨Ar, cr, u, rfl, hpr, hE3⟩
              have HE3 := Lib.hid (HE2.out.trans hE3)
              replace HML := Lib.hid (HML.out.ext hE3)
              replace HMH := Lib.hid (HMH.out.ext hE3)
              replace HMB := Lib.hid (HMB.out.ext hE3)
              replace HMF := Lib.hid (HMF.out.ext hE3)
              replace HMT := Lib.hid (HMT.out.ext hE3)
              replace HRP := Lib.hid (HRP.out.ext hE3)
              clear bRP
              have bRP := HRP.out.cell
              replace HRA := Lib.hid (HRA.out.ext hE3)
              clear bRA
              have bRA := HRA.out.cell
              replace HRS := Lib.hid (HRS.out.ext hE3)
              clear bRS
              have bRS := HRS.out.cell
              clear hE3
              have HPR := Lib.hid hpr
              clear hpr HRT
              have hnn : ((n + 1 : Nat) : Int) = (n : Int) + 1 := by omega
              go_wp2_with fail
              refine (r_Sky_any s As cs w3 HMB.out HSH.out).mono ?_
              rintro e w4 ⟨rfl, hE4⟩
              have HE4 := Lib.hid (HE3.out.trans hE4)
              replace HML := Lib.hid (HML.out.ext hE4)
              replace HMH := Lib.hid (HMH.out.ext hE4)
              replace HMB := Lib.hid (HMB.out.ext hE4)
              replace HMF := Lib.hid (HMF.out.ext hE4)
              replace HMT := Lib.hid (HMT.out.ext hE4)
              replace HPR := Lib.hid (HPR.out.ext hE4)
              replace HRP := Lib.hid (HRP.out.ext hE4)
              clear bRP
              have bRP := HRP.out.cell
              replace HRA := Lib.hid (HRA.out.ext hE4)
              clear bRA
              have bRA := HRA.out.cell
              replace HRS := Lib.hid (HRS.out.ext hE4)
              clear bRS
              have bRS := HRS.out.cell
              clear hE4
              cases c0 : Sp.skyOk s with
              | false =>
                go_wp2_with fail
                refine (HK.out w4 HE4.out).mono ?_
                rintro e w5 ⟨rfl, hE5⟩
                dsimp only
                go_wp2_with fail
                go_ret
                exact ⟨rfl, HE4.out.trans hE5⟩
              | true =>
                have hk2 := skyOk_iff.1 c0
                have hs2 := hk2.n2
                obtain ⟨b, o, rfl, hbc⟩ := HMB.out (by omega)
                have HB0 := Lib.hid (hbc 0 (by omega))
                have HB1 := Lib.hid (hbc 1 (by omega))
                have g0 := HB0.out.num
                have g1 := HB0.out.den
                have g2 := HB1.out.num
                have g3 := HB1.out.den
                simp only [Nat.zero_mul, Nat.one_mul, Nat.add_zero] at g0 g1 g2 g3
                have hl0 : 0 < s.bodies.length := by omega
                have hl1 : 1 < s.bodies.length := by omega
                have hl0' : (0 : Int) < (s.bodies.length : Int) := by omega
                have hl1' : (1 : Int) < (s.bodies.length : Int) := by omega
                clear hbc
                go_wp2_with fail
                have y0 := bRS 0
                have y1 := bRS 1
                have y2 := bRS 2
                simp only [List.getElem?_toArray, List.getElem?_cons_zero, List.getElem?_cons_succ] at y0 y1 y2
                go_region_held3 (fun W => W.cell? ⟨w.heap.size + 1 + 1, 0, none⟩ = some (.slice (some ⟨b, o, none⟩) s.bodies.length cs) ∧ W.cell? ⟨w.heap.size + 1 + 1, 1, none⟩ = some (.int .i64 s.nnum) ∧ W.cell? ⟨w.heap.size + 1 + 1, 2, none⟩ = some (.int .i64 s.nden) ∧ W.cell? ⟨b, o, none⟩ = some (.int .i64 (bd s.bodies 0).num) ∧ W.cell? ⟨b, o + 1, none⟩ = some (.int .i64 (bd s.bodies 0).den) ∧ W.cell? ⟨b, o + 4, none⟩ = some (.int .i64 (bd s.bodies 1).num) ∧ W.cell? ⟨b, o + 4 + 1, none⟩ = some (.int .i64 (bd s.bodies 1).den)) (go_keep) (fail)
                have hE5 : Ext w4 (w4.alloc (.cells #[.int .i64 (bd s.bodies 0).num, .int .i64 (bd s.bodies 0).den, .int .i64 (bd s.bodies 1).num, .int .i64 (bd s.bodies 1).den, .int .i64 s.nnum, .int .i64 s.nden] 23)).drew := ((Ext.refl _).alloc _).drew
                have HRQ : Hid (Row (w4.alloc (.cells #[.int .i64 (bd s.bodies 0).num, .int .i64 (bd s.bodies 0).den, .int .i64 (bd s.bodies 1).num, .int .i64 (bd s.bodies 1).den, .int .i64 s.nnum, .int .i64 s.nden] 23)).drew w4.heap.size 23 #[.int .i64 (bd s.bodies 0).num, .int .i64 (bd s.bodies 0).den, .int .i64 (bd s.bodies 1).num, .int .i64 (bd s.bodies 1).den, .int .i64 s.nnum, .int .i64 s.nden]) := Lib.hid ((Row.new _ _ _).ext ((Ext.refl _).drew))
                have hz4 := HE4.out.size
                obtain ⟨gq, hgq⟩ : ∃ g, w4.heap.size = g := ⟨_, rfl⟩
                rw [hgq] at HRQ hz4 ⊢
                clear y0 y1 y2 g0 g1 g2 g3
                generalize (w4.alloc (.cells #[.int .i64 (bd s.bodies 0).num, .int .i64 (bd s.bodies 0).den, .int .i64 (bd s.bodies 1).num, .int .i64 (bd s.bodies 1).den, .int .i64 s.nnum, .int .i64 s.nden] 23)).drew = w5 at *
                have HE5 := Lib.hid (HE4.out.trans hE5)
                replace HML := Lib.hid (HML.out.ext hE5)
                replace HMH := Lib.hid (HMH.out.ext hE5)
                replace HMB := Lib.hid (HMB.out.ext hE5)
                replace HMF := Lib.hid (HMF.out.ext hE5)
                replace HMT := Lib.hid (HMT.out.ext hE5)
                replace HPR := Lib.hid (HPR.out.ext hE5)
                replace HRP := Lib.hid (HRP.out.ext hE5)
                clear bRP
                have bRP := HRP.out.cell
                replace HRA := Lib.hid (HRA.out.ext hE5)
                clear bRA
                have bRA := HRA.out.cell
                replace HRS := Lib.hid (HRS.out.ext hE5)
                clear bRS
                have bRS := HRS.out.cell
                clear hE5
                have bRQ := HRQ.out.cell
                clear hgq
                go_wp2_with fail
                have HLIM := Lib.hid (Tp.per_lim c0)
                obtain ⟨B0, hB0⟩ : ∃ B, w5.heap.size = B := ⟨_, rfl⟩
                go_loopw [22, 27, 28, 29] (fun t i l f wr => ∃ k : Nat, k ≤ 3 ∧ i = .int .i64 (k : Int) ∧ Tp.Trains B0 links a0 a1 a2 s wr t k ∧ Ext w5 wr) (fun _ i _ _ _ => 3 - (intOf i).toNat)
                case atStart => exact ⟨0, Nat.zero_le _, rfl, ⟨[], World.ownsRow_nil _ _ _ _, fun j hj => absurd hj (by omega)⟩, Ext.refl _⟩
                case round =>
                  obtain ⟨k, hk, rfl, hT, hE6⟩ := hrel
                  generalize wr = w6 at *
                  have HT := Lib.hid hT
                  have HEL := Lib.hid hE6
                  clear hT
                  have HE6 := Lib.hid (HE5.out.trans hE6)
                  replace HML := Lib.hid (HML.out.ext hE6)
                  replace HMH := Lib.hid (HMH.out.ext hE6)
                  replace HMB := Lib.hid (HMB.out.ext hE6)
                  replace HMF := Lib.hid (HMF.out.ext hE6)
                  replace HMT := Lib.hid (HMT.out.ext hE6)
                  replace HPR := Lib.hid (HPR.out.ext hE6)
                  replace HRP := Lib.hid (HRP.out.ext hE6)
                  clear bRP
                  have bRP := HRP.out.cell
                  replace HRA := Lib.hid (HRA.out.ext hE6)
                  clear bRA
                  have bRA := HRA.out.cell
                  replace HRS := Lib.hid (HRS.out.ext hE6)
                  clear bRS
                  have bRS := HRS.out.cell
                  replace HRQ := Lib.hid (HRQ.out.ext hE6)
                  clear bRQ
                  have bRQ := HRQ.out.cell
                  clear hE6
                  rcases Nat.lt_or_eq_of_le hk with h9 | h9
                  · have h9' : (k : Int) < 3 := by omega
                    have HCA : Hid (w6.cell? ⟨w.heap.size + 1, k, none⟩ = some (.int .i64 (Tp.arb a0 a1 a2 k))) := Lib.hid (by rw [bRA k]; rcases (show k = 0 ∨ k = 1 ∨ k = 2 by omega) with rfl | rfl | rfl <;> rfl)
                    have HCN : Hid (w6.cell? ⟨gq, k * 2, none⟩ = some (.int .i64 (Tp.perN s k))) := Lib.hid (by rw [bRQ (k * 2)]; rcases (show k = 0 ∨ k = 1 ∨ k = 2 by omega) with rfl | rfl | rfl <;> rfl)
                    have HCD : Hid (w6.cell? ⟨gq, k * 2 + 1, none⟩ = some (.int .i64 (Tp.perD s k))) := Lib.hid (by rw [bRQ (k * 2 + 1)]; rcases (show k = 0 ∨ k = 1 ∨ k = 2 by omega) with rfl | rfl | rfl <;> rfl)
                    have hlim := HLIM.out k
                    obtain ⟨x, hx⟩ : ∃ x, Tp.arb a0 a1 a2 k = x := ⟨_, rfl⟩
                    obtain ⟨D, hD⟩ : ∃ D : Nat, Tp.perN s k = (D : Int) := ⟨(Tp.perN s k).toNat, by omega⟩
                    obtain ⟨N, hN⟩ : ∃ N : Nat, Tp.perD s k = (N : Int) := ⟨(Tp.perD s k).toNat, by omega⟩
                    have HGT : Hid (∀ (a : Nat) l, (a : Int) = x → 1 ≤ a → a ≤ links.length → l = Tp.trainL links a → Ec.Just l (N : Int) (D : Int) → Tp.Got links a0 a1 a2 s k l) := Lib.hid (fun a l h1 h2 h3 h4 h5 => ⟨a, by rw [hx]; exact h1, h2, h3, h4, by rw [hD, hN]; exact h5⟩)
                    rw [hx] at HCA
                    rw [hD] at HCN hlim
                    rw [hN] at HCD hlim
                    clear hx hD hN
                    cases q0 : Sp.inR x 1 (n : Int) with
                    | false =>
                      go_wp2_with fail
                      refine wp_region_later (by kernel_rfl) (by kernel_rfl) (fun W hW => ?_)
                      have hX0 : Ext w6 W := by rw [hW]; first | exact Ext.refl _ | exact (Ext.refl _).drewN _
                      clear hW
                      have HX0 := Lib.hid hX0
                      clear hX0
                      have v0 := (bRP 0)
                      try simp only [List.getElem?_toArray, List.getElem?_cons_zero, List.getElem?_cons_succ] at v0
                      have v1 := (bRP 1)
                      try simp only [List.getElem?_toArray, List.getElem?_cons_zero, List.getElem?_cons_succ] at v1
                      have v2 := HCA.out
                      try simp only [List.getElem?_toArray, List.getElem?_cons_zero, List.getElem?_cons_succ] at v2
                      have u0 := fun X : Later W => (HX0.out.trans X.ext).cell v0
                      have u1 := fun X : Later W => (HX0.out.trans X.ext).cell v1
                      have u2 := fun X : Later W => (HX0.out.trans X.ext).cell v2
                      repeat (go_big_quiet_step (fail))
                      go_big_quiet_step ((go_at_call 19; exact Later.call (HAR.out _ _)))
                      repeat (go_big_quiet_step (fail))
                      refine wpQuiet_nil ?_
                      rintro ⟨w7, hEz⟩
                      dsimp only
                      have hE7 := HX0.out.trans hEz
                      clear hEz HX0 u0 v0 u1 v1 u2 v2
                      replace HEL := Lib.hid (HEL.out.trans hE7)
                      have HE7 := Lib.hid (HE6.out.trans hE7)
                      replace HML := Lib.hid (HML.out.ext hE7)
                      replace HMH := Lib.hid (HMH.out.ext hE7)
                      replace HMB := Lib.hid (HMB.out.ext hE7)
                      replace HMF := Lib.hid (HMF.out.ext hE7)
                      replace HMT := Lib.hid (HMT.out.ext hE7)
                      replace HPR := Lib.hid (HPR.out.ext hE7)
                      replace HT := Lib.hid (HT.out.ext hE7)
                      replace HRP := Lib.hid (HRP.out.ext hE7)
                      clear bRP
                      have bRP := HRP.out.cell
                      replace HRA := Lib.hid (HRA.out.ext hE7)
                      clear bRA
                      have bRA := HRA.out.cell
                      replace HRS := Lib.hid (HRS.out.ext hE7)
                      clear bRS
                      have bRS := HRS.out.cell
                      replace HRQ := Lib.hid (HRQ.out.ext hE7)
                      clear bRQ
                      have bRQ := HRQ.out.cell
                      clear hE7
                      go_wp2_with fail
                      refine (HK.out w7 HE7.out).mono ?_
                      rintro e w8 ⟨rfl, hE8⟩
                      dsimp only
                      go_wp2_with fail
                      go_ret
                      exact ⟨rfl, HE7.out.trans hE8⟩
                    | true =>
                      obtain ⟨a, rfl⟩ : ∃ a : Nat, x = (a : Int) := ⟨x.toNat, by have := inR_iff.1 q0; omega⟩
                      have ha := inR_iff.1 q0
                      have ha1 : 1 ≤ a := by omega
                      have ha2 : a ≤ n := by omega
                      obtain ⟨rb, ro, rfl, hrc⟩ := HPR.out (by rw [Tp.rateL_len]; omega)
                      obtain ⟨hr1, hr2⟩ := hrc a (by rw [Tp.rateL_len]; omega)
                      have hra : pd (Tp.rateL links n) a = ⟨Ec.turnsN (Tp.trainL links a), Ec.turnsD (Tp.trainL links a)⟩ := by have h := Tp.rate_at (links := links) ha1 (by rw [HN.out]; exact ha2); rwa [HN.out] at h
                      rw [hra] at hr1 hr2
                      clear hrc hra
                      obtain ⟨r1, hR1⟩ : ∃ r, Ec.turnsN (Tp.trainL links a) = r := ⟨_, rfl⟩
                      obtain ⟨r2, hR2⟩ : ∃ r, Ec.turnsD (Tp.trainL links a) = r := ⟨_, rfl⟩
                      simp only at hr1 hr2
                      rw [hR1] at hr1
                      rw [hR2] at hr2
                      have HRD := Lib.hid (fun W => r1_Reduced_any N D W (by omega) (by omega) (by omega))
                      have HJU : Hid (∀ z1 z2, ((N / Nat.gcd N D : Nat) : Int) = z1 → ((D / Nat.gcd N D : Nat) : Int) = z2 → r1 = z1 → r2 = z2 → Ec.Just (Tp.trainL links a) (N : Int) (D : Int)) := Lib.hid (fun z1 z2 e1 e2 e3 e4 => Tp.just_of (by omega) (by rw [hR1, e3, e1]) (by rw [hR2, e4, e2]))
                      obtain ⟨z1, hz1⟩ : ∃ z, ((N / Nat.gcd N D : Nat) : Int) = z := ⟨_, rfl⟩
                      obtain ⟨z2, hz2⟩ : ∃ z, ((D / Nat.gcd N D : Nat) : Int) = z := ⟨_, rfl⟩
                      rw [hz1, hz2] at HRD
                      replace HJU := Lib.hid (HJU.out z1 z2 hz1 hz2)
                      clear hR1 hR2 hz1 hz2
                      have heq := fun W => Tp.neq_fr r1 r2 z1 z2 W
                      obtain ⟨v, hv⟩ : ∃ v, (!((r1 == z1) && (r2 == z2))) = v := ⟨_, rfl⟩
                      rw [hv] at heq
                      have HV := Lib.hid hv
                      have ha3 : (a : Int) < (n : Int) + 1 := by omega
                      have ha4 : a < n + 1 := by omega
                      clear hv ha hlim
                      have HRR1 := Lib.hid hr1
                      have HRR2 := Lib.hid hr2
                      clear hr1 hr2
                      go_wp2_with fail
                      refine wp_region_later (by kernel_rfl) (by kernel_rfl) (fun W hW => ?_)
                      have hX0 : Ext w6 W := by rw [hW]; first | exact Ext.refl _ | exact (Ext.refl _).drewN _
                      clear hW
                      have HX0 := Lib.hid hX0
                      clear hX0
                      have v0 := (bRP 0)
                      try simp only [List.getElem?_toArray, List.getElem?_cons_zero, List.getElem?_cons_succ] at v0
                      have v1 := (bRP 1)
                      try simp only [List.getElem?_toArray, List.getElem?_cons_zero, List.getElem?_cons_succ] at v1
                      have v2 := HCA.out
                      try simp only [List.getElem?_toArray, List.getElem?_cons_zero, List.getElem?_cons_succ] at v2
                      have v3 := HRR1.out
                      try simp only [List.getElem?_toArray, List.getElem?_cons_zero, List.getElem?_cons_succ] at v3
                      have v4 := HRR2.out
                      try simp only [List.getElem?_toArray, List.getElem?_cons_zero, List.getElem?_cons_succ] at v4
                      have v5 := HCN.out
                      try simp only [List.getElem?_toArray, List.getElem?_cons_zero, List.getElem?_cons_succ] at v5
                      have v6 := HCD.out
                      try simp only [List.getElem?_toArray, List.getElem?_cons_zero, List.getElem?_cons_succ] at v6
                      have u0 := fun X : Later W => (HX0.out.trans X.ext).cell v0
                      have u1 := fun X : Later W => (HX0.out.trans X.ext).cell v1
                      have u2 := fun X : Later W => (HX0.out.trans X.ext).cell v2
                      have u3 := fun X : Later W => (HX0.out.trans X.ext).cell v3
                      have u4 := fun X : Later W => (HX0.out.trans X.ext).cell v4
                      have u5 := fun X : Later W => (HX0.out.trans X.ext).cell v5
                      have u6 := fun X : Later W => (HX0.out.trans X.ext).cell v6
                      repeat (go_big_quiet_step (fail))
                      go_big_quiet_step ((go_at_call 19; exact Later.call (HAR.out _ _)))
                      repeat (go_big_quiet_step (fail))
                      go_big_quiet_step ((go_at_call 21; exact Later.call (r7_Target_any _ _ _)))
                      repeat (go_big_quiet_step (fail))
                      go_big_quiet_step ((go_at_call 20; exact Later.call (HRD.out _)))
                      repeat (go_big_quiet_step (fail))
                      refine wpQuiet_nil ?_
                      rintro ⟨w7, hEz⟩
                      dsimp only
                      have hE7 := HX0.out.trans hEz
                      clear hEz HX0 u0 v0 u1 v1 u2 v2 u3 v3 u4 v4 u5 v5 u6 v6
                      replace HEL := Lib.hid (HEL.out.trans hE7)
                      replace HCA := Lib.hid (hE7.cell HCA.out)
                      have HE7 := Lib.hid (HE6.out.trans hE7)
                      replace HML := Lib.hid (HML.out.ext hE7)
                      replace HMH := Lib.hid (HMH.out.ext hE7)
                      replace HMB := Lib.hid (HMB.out.ext hE7)
                      replace HMF := Lib.hid (HMF.out.ext hE7)
                      replace HMT := Lib.hid (HMT.out.ext hE7)
                      replace HPR := Lib.hid (HPR.out.ext hE7)
                      replace HT := Lib.hid (HT.out.ext hE7)
                      replace HRP := Lib.hid (HRP.out.ext hE7)
                      clear bRP
                      have bRP := HRP.out.cell
                      replace HRA := Lib.hid (HRA.out.ext hE7)
                      clear bRA
                      have bRA := HRA.out.cell
                      replace HRS := Lib.hid (HRS.out.ext hE7)
                      clear bRS
                      have bRS := HRS.out.cell
                      replace HRQ := Lib.hid (HRQ.out.ext hE7)
                      clear bRQ
                      have bRQ := HRQ.out.cell
                      clear hE7
                      clear heq
                      cases v with
                      | true =>
                        go_wp2_with fail
                        refine (HK.out w7 HE7.out).mono ?_
                        rintro e w8 ⟨rfl, hE8⟩
                        dsimp only
                        go_wp2_with fail
                        go_ret
                        exact ⟨rfl, HE7.out.trans hE8⟩
                      | false =>
                        go_wp2_with fail
                        have HK3 := Lib.hid h9'
                        refine wp_region_free_tail 10 10 (Tp.tnΦ (.agg #[.slice A n c, .slice Bb m cb]) (w.heap.size + 1) k a w7.heap.size (Tp.trainL links a)) (by kernel_rfl) (by simp) (by kernel_rfl) (by kernel_rfl) (by kernel_rfl) (by kernel_rfl) Tp.tnΦ_mono ?hob ?hQ (fun h => absurd h (by omega))
                        case hob =>
                          intro i o' hin ho a' wa hE hF
                          match i, hin with
                          | 0, _ =>
                            obtain rfl := Option.some.inj ho
                            have h0 : a'.tmps[10]?.getD undef = .pointer (some ⟨w.heap.size, 0, none⟩) := evalD (hF.old 10 (by decide))
                            have q := (Row.ext HRP.out hE).cell
                            refine Ran.value rfl (v := .agg #[.slice A n c, .slice Bb m cb]) (w1 := wa) ?_ ⟨rfl, Ext.refl _⟩
                            go_simp
                          | 1, _ =>
                            obtain rfl := Option.some.inj ho
                            have h0 : a'.tmps[27]?.getD undef = .int .i64 (k : Int) := evalD (hF.old 27 (by decide))
                            refine Ran.value rfl (v := .int .i64 (k : Int)) (w1 := wa) ?_ ⟨rfl, Ext.refl _⟩
                            go_simp
                          | 2, _ =>
                            obtain rfl := Option.some.inj ho
                            have h0 : a'.tmps[11]?.getD undef = .pointer (some ⟨w.heap.size + 1, 0, none⟩) := evalD (hF.old 11 (by decide))
                            have h1 : a'.tmps[153]?.getD undef = .int .i64 (k : Int) := evalD (hF.from_ 1 153 rfl (by decide))
                            have hk9 := HK3.out
                            refine Ran.value rfl (v := .pointer (some ⟨w.heap.size + 1, k, none⟩)) (w1 := wa) ?_ ⟨rfl, Ext.refl _⟩
                            go_simp
                          | 3, _ =>
                            obtain rfl := Option.some.inj ho
                            have h0 : a'.tmps[154]?.getD undef = .pointer (some ⟨w.heap.size + 1, k, none⟩) := evalD (hF.from_ 2 154 rfl (by decide))
                            have q := hE.cell HCA.out
                            refine Ran.value rfl (v := .int .i64 (a : Int)) (w1 := wa) ?_ ⟨rfl, Ext.refl _⟩
                            go_simp
                          | 4, _ =>
                            obtain rfl := Option.some.inj ho
                            have h0 : a'.tmps[152]?.getD undef = .agg #[.slice A n c, .slice Bb m cb] := evalD (hF.from_ 0 152 rfl (by decide))
                            have h1 : a'.tmps[155]?.getD undef = .int .i64 (a : Int) := evalD (hF.from_ 3 155 rfl (by decide))
                            refine Ran.enter rfl (f := 22) (args := #[.agg #[.slice A n c, .slice Bb m cb], .int .i64 (a : Int)]) (w1 := wa) ?_ ?_
                            · go_simp
                            · refine (HTN.out a wa ha1 ha2 (HML.out.ext hE) (HMH.out.ext hE)).mono ?_
                              rintro r w1 ⟨u, rfl, hu, hX1⟩
                              exact ⟨_, rfl, ⟨u, rfl, Tp.own_mono hu hE.size⟩, hX1⟩
                          | 5, _ =>
                            obtain rfl := Option.some.inj ho
                            obtain ⟨u, h0, hu⟩ : ∃ u, a'.eval (.tmp 156) = .tuple #[u, .int .i64 0] ∧ wa.ownsRow w7.heap.size 125 2 u (Tp.trainL links a).length (Tp.pc (Tp.trainL links a)) := hF.from_ 4 156 rfl (by decide)
                            replace h0 := evalD h0
                            refine Ran.value rfl (v := .tuple #[u, .int .i64 0]) (w1 := wa) ?_ ⟨⟨u, rfl, hu⟩, Ext.refl _⟩
                            go_simp
                          | 6, _ =>
                            obtain rfl := Option.some.inj ho
                            obtain ⟨u, h0, hu⟩ : ∃ u, a'.eval (.tmp 151) = .tuple #[u, .int .i64 0] ∧ wa.ownsRow w7.heap.size 125 2 u (Tp.trainL links a).length (Tp.pc (Tp.trainL links a)) := hF.from_ 5 151 rfl (by decide)
                            replace h0 := evalD h0
                            refine Ran.value rfl (v := u) (w1 := wa) ?_ ⟨hu, Ext.refl _⟩
                            go_simp
                          | 7, _ =>
                            obtain rfl := Option.some.inj ho
                            obtain ⟨u, h0, hu⟩ : ∃ u, a'.eval (.tmp 151) = .tuple #[u, .int .i64 0] ∧ wa.ownsRow w7.heap.size 125 2 u (Tp.trainL links a).length (Tp.pc (Tp.trainL links a)) := hF.from_ 5 151 rfl (by decide)
                            replace h0 := evalD h0
                            refine Ran.value rfl (v := .int .i64 0) (w1 := wa) ?_ ⟨rfl, Ext.refl _⟩
                            go_simp
                          | 8, _ =>
                            obtain rfl := Option.some.inj ho
                            have h0 : wa.ownsRow w7.heap.size 125 2 (a'.eval (.tmp 157)) (Tp.trainL links a).length (Tp.pc (Tp.trainL links a)) := hF.from_ 6 157 rfl (by decide)
                            obtain ⟨u, h9⟩ : ∃ u, a'.eval (.tmp 157) = u := ⟨_, rfl⟩
                            rw [h9] at h0
                            replace h9 := evalD h9
                            refine Ran.value rfl (v := u) (w1 := wa) ?_ ⟨h0, Ext.refl _⟩
                            go_simp
                          | 9, _ =>
                            obtain rfl := Option.some.inj ho
                            have h0 : a'.tmps[158]?.getD undef = .int .i64 0 := evalD (hF.from_ 7 158 rfl (by decide))
                            refine Ran.value rfl (v := .int .i64 0) (w1 := wa) ?_ ⟨rfl, Ext.refl _⟩
                            go_simp
                          | k + 10, hin => omega
                        case hQ =>
                          intro vs w8 hE8 hΦ
                          have f0 : vs 0 = .agg #[.slice A n c, .slice Bb m cb] := hΦ 0 (by omega)
                          have f1 : vs 1 = .int .i64 (k : Int) := hΦ 1 (by omega)
                          have f2 : vs 2 = .pointer (some ⟨w.heap.size + 1, k, none⟩) := hΦ 2 (by omega)
                          have f3 : vs 3 = .int .i64 (a : Int) := hΦ 3 (by omega)
                          have f7 : vs 7 = .int .i64 0 := hΦ 7 (by omega)
                          have f9 : vs 9 = .int .i64 0 := hΦ 9 (by omega)
                          have f8 : w8.ownsRow w7.heap.size 125 2 (vs 8) (Tp.trainL links a).length (Tp.pc (Tp.trainL links a)) := hΦ 8 (by omega)
                          have HO8 := Lib.hid (Tp.own_mono f8 (show B0 ≤ w7.heap.size by have := HEL.out.size; omega))
                          obtain ⟨At8, ct8, e8, p8⟩ := Tp.pairs_own f8
                          rw [e8] at HO8
                          have hrg : List.range 10 = [0, 1, 2, 3, 4, 5, 6, 7, 8, 9] := rfl
                          unfold putAll putS
                          simp only [List.length_cons, List.length_nil, List.take_succ_cons, List.take_zero, List.drop_succ_cons, List.drop_zero, Nat.reduceAdd, hrg, List.foldl_cons, List.foldl_nil, dstOf, List.getElem?_cons_succ, List.getElem?_cons_zero, Option.bind_some]
                          rw [f0, f1, f2, f3, f7, e8, f9]
                          simp (config := { maxSteps := 4000000 }) only [Act.put, List.setIfInBounds_toArray, List.set_cons_succ, List.set_cons_zero]
                          generalize vs 4 = v4 at *
                          generalize vs 5 = v5 at *
                          generalize vs 6 = v6 at *
                          have HP8 := Lib.hid p8
                          clear f0 f1 f2 f3 f7 f8 f9 e8 p8 hΦ hrg
                          replace HEL := Lib.hid (HEL.out.trans hE8)
                          have HE8 := Lib.hid (HE7.out.trans hE8)
                          replace HML := Lib.hid (HML.out.ext hE8)
                          replace HMH := Lib.hid (HMH.out.ext hE8)
                          replace HMB := Lib.hid (HMB.out.ext hE8)
                          replace HMF := Lib.hid (HMF.out.ext hE8)
                          replace HMT := Lib.hid (HMT.out.ext hE8)
                          replace HPR := Lib.hid (HPR.out.ext hE8)
                          replace HT := Lib.hid (HT.out.ext hE8)
                          replace HRP := Lib.hid (HRP.out.ext hE8)
                          clear bRP
                          have bRP := HRP.out.cell
                          replace HRA := Lib.hid (HRA.out.ext hE8)
                          clear bRA
                          have bRA := HRA.out.cell
                          replace HRS := Lib.hid (HRS.out.ext hE8)
                          clear bRS
                          have bRS := HRS.out.cell
                          replace HRQ := Lib.hid (HRQ.out.ext hE8)
                          clear bRQ
                          have bRQ := HRQ.out.cell
                          clear hE8
                          have HTK := Lib.hid (HPA.out.train (a - 1) (by rw [HN.out]; omega))
                          rw [show a - 1 + 1 = a by omega] at HTK
                          have hj := HV.out
                          simp at hj
                          have HGOT := Lib.hid (HGT.out a (Tp.trainL links a) rfl ha1 (by rw [HN.out]; exact ha2) rfl (HJU.out hj.1 hj.2))
                          have hln := Tp.trainL_len HPA.out.ok.from_ a
                          obtain ⟨l, hl⟩ : ∃ l, Tp.trainL links a = l := ⟨_, rfl⟩
                          rw [hl] at HGOT HO8 HP8 HTK hln ⊢
                          clear hl hj HV HJU HGT HRD HCA HCN HCD HRR1 HRR2 HTN HRP HRA HRS HRQ bRP bRA bRS bRQ
                          go_wp2_with fail
                          refine (r1_Train_any At8 ct8 l _ HP8.out (by omega)).mono ?_
                          rintro e w' ⟨rfl, rfl⟩
                          rw [HTK.out]
                          obtain ⟨xs, hxo, hxs⟩ := HT.out
                          have HXO := Lib.hid hxo
                          have HXS := Lib.hid hxs
                          clear hxo hxs
                          obtain ⟨i0, hi0, hi1, hi2, hi3⟩ := info_parts Tp.info_tp
                          have hz := HEL.out.size
                          go_wp2_with (at_builtin; refine wpList_append_own_at _ rfl (Operand.tmp 166) (Operand.tmp 168) 73 rfl B0 78 i0 (.slice none 0 0) 1 24 Tryz.underlying73 hi0 hi1 hi2 hi3 rfl (by decide) u22 k xs rfl (own_ext HXO.out ((Ext.refl _).alloc (.cells #[.slice At8 l.length ct8] 78))) ⟨w8.heap.size, 0, none⟩ 1 1 [.slice At8 l.length ct8] rfl rfl (World.news_of_block (cs := #[.slice At8 l.length ct8]) (t := 78) (fr := (0, 0)) (heap_alloc_new _ _)) (by simp [Value.oneCell']) (by simp only [maxLen]; omega) (by omega) (by simp; omega) ?_; intro v5 w9 ho5 hg5 _ hat5; have HO5 := Lib.hid ho5; have HG5 := Lib.hid hg5; clear ho5 hg5 hat5)
                          go_roundw
                          case rel =>
                            refine ⟨k + 1, by omega, by simp, Tp.Trains.snoc (own_ext HXO.out ((Ext.refl _).alloc (.cells #[.slice At8 l.length ct8] 78))) (fun j hj => let ⟨x, l, a, b, c⟩ := HXS.out j hj; ⟨x, l, a, own_ext b ((Ext.refl _).alloc _), c⟩) (own_ext HO8.out ((Ext.refl _).alloc _)) HGOT.out HG5.out HO5.out, ?_⟩
                            exact (HEL.out.alloc _).grown HG5.out (fun q hq => by have := (HXO.out.lt q hq).1; omega)
                          case measure => simp [intOf]; omega
                  · subst h9
                    obtain ⟨xs, hxo, hxs⟩ := HT.out
                    obtain ⟨x0, l0, e0, p0, q0⟩ := hxs 0 (by omega)
                    obtain ⟨x1, l1, e1, p1, q1⟩ := hxs 1 (by omega)
                    obtain ⟨x2, l2, e2, p2, q2⟩ := hxs 2 (by omega)
                    obtain ⟨gt, cap, ht9⟩ : ∃ gt cap, u22 = .slice (some ⟨gt, 0, none⟩) 3 cap := by
                      rcases hxo.2 with ⟨_, h0⟩ | ⟨g, cap, _, rfl, _⟩
                      · exact absurd h0 (by decide)
                      · exact ⟨g, cap, rfl⟩
                    subst ht9
                    have t0 := (hxo.cellAt 0 (by omega)).trans e0
                    have t1 := (hxo.cellAt 1 (by omega)).trans e1
                    have t2 := (hxo.cellAt 2 (by omega)).trans e2
                    obtain ⟨A0, c0', rfl, hp0⟩ := Tp.pairs_own p0
                    obtain ⟨A1, c1', rfl, hp1⟩ := Tp.pairs_own p1
                    obtain ⟨A2, c2', rfl, hp2⟩ := Tp.pairs_own p2
                    have HP0 := Lib.hid hp0
                    have HP1 := Lib.hid hp1
                    have HP2 := Lib.hid hp2
                    have HQ0 := Lib.hid q0
                    have HQ1 := Lib.hid q1
                    have HQ2 := Lib.hid q2
                    clear hxo hxs e0 e1 e2 p0 p1 p2 hp0 hp1 hp2 q0 q1 q2 hk HT HEL HTN HPR HAR HRA HRQ bRA bRQ HLIM hnn
                    go_wp2_with fail
                    have y0 := bRS 0
                    have y1 := bRS 1
                    have y2 := bRS 2
                    have y3 := bRS 3
                    simp only [List.getElem?_toArray, List.getElem?_cons_zero, List.getElem?_cons_succ] at y0 y1 y2 y3
                    go_region_held3 (fun W => (W.cell? ⟨w.heap.size + 1 + 1, 0, none⟩ = some (.slice (some ⟨b, o, none⟩) s.bodies.length cs) ∧ W.cell? ⟨w.heap.size + 1 + 1, 1, none⟩ = some (.int .i64 s.nnum) ∧ W.cell? ⟨w.heap.size + 1 + 1, 2, none⟩ = some (.int .i64 s.nden) ∧ W.cell? ⟨w.heap.size + 1 + 1, 3, none⟩ = some (.int .i64 s.nstart)) ∧ W.cell? ⟨gt, 0, none⟩ = some (.slice A0 l0.length c0') ∧ W.cell? ⟨gt, 1, none⟩ = some (.slice A1 l1.length c1') ∧ W.cell? ⟨gt, 2, none⟩ = some (.slice A2 l2.length c2')) (go_keep) (fail)
                    have HRI := Lib.hid (Tp.right_of (feasts := feasts) (new := new) (full := full) HQ0.out HQ1.out HQ2.out)
                    have HLE : Hid (EngShort ⟨s, l0, l1, l2, feasts, new, full, 0⟩) := Lib.hid ⟨HSH.out, Tp.got_len HPA.out.ok.from_ HPA.out.ok.n5 HQ0.out, Tp.got_len HPA.out.ok.from_ HPA.out.ok.n5 HQ1.out, Tp.got_len HPA.out.ok.from_ HPA.out.ok.n5 HQ2.out, by show feasts.length ≤ 100000; omega⟩
                    have HMM : Hid (EngSet w6 ⟨some ⟨b, o, none⟩, cs, A0, c0', A1, c1', A2, c2', Af, cf, At, ct⟩ ⟨s, l0, l1, l2, feasts, new, full, 0⟩ set) := Lib.hid ⟨⟨HMB.out, HP0.out, HP1.out, HP2.out, HMF.out⟩, HMT.out⟩
                    obtain ⟨e, he⟩ : ∃ e : Ec.Engine, e = ⟨s, l0, l1, l2, feasts, new, full, 0⟩ := ⟨_, rfl⟩
                    rw [← he] at HRI HLE HMM
                    have HSK : Hid (e.sky = s ∧ e.feasts = feasts ∧ e.wide = 0) := Lib.hid (by subst he; exact ⟨rfl, rfl, rfl⟩)
                    have hs8 : set.length ≤ 100000 := by omega
                    have HEN : Hid (∀ W, EngSet W ⟨some ⟨b, o, none⟩, cs, A0, c0', A1, c1', A2, c2', Af, cf, At, ct⟩ e set → Calls Tryz.prog 24 #[.agg #[.slice (some ⟨b, o, none⟩) s.bodies.length cs, .int .i64 s.nnum, .int .i64 s.nden, .int .i64 s.nstart, .slice A0 l0.length c0', .slice A1 l1.length c1', .slice A2 l2.length c2', .slice Af feasts.length cf, .int .i64 new, .int .i64 full, .int .i64 0]] W fun r w' => r = .returned (.bool (Ec.engineOk e)) ∧ Ext W w') := Lib.hid (fun W h => by subst he; exact r7_Engine_any ⟨some ⟨b, o, none⟩, cs, A0, c0', A1, c1', A2, c2', Af, cf, At, ct⟩ _ W h.eng HLE.out)
                    have HOF : Hid (Ec.engineOk e = true → Ec.setOk e.feasts set = true → Ec.isDay day = true → ∀ W, EngSet W ⟨some ⟨b, o, none⟩, cs, A0, c0', A1, c1', A2, c2', Af, cf, At, ct⟩ e set → Calls Tryz.prog 28 #[.agg #[.slice (some ⟨b, o, none⟩) s.bodies.length cs, .int .i64 s.nnum, .int .i64 s.nden, .int .i64 s.nstart, .slice A0 l0.length c0', .slice A1 l1.length c1', .slice A2 l2.length c2', .slice Af feasts.length cf, .int .i64 new, .int .i64 full, .int .i64 0], .slice At set.length ct, .int .i64 day] W fun r w' => r = .returned (.tuple #[.agg #[.int .i64 0, .int .i64 0, .int .i64 0], .int .i64 0]) ∧ Ext W w') := Lib.hid (fun c1 c2 c3 W h => by
                      have hoff := Ec.right_off c1 HRI.out set day
                      have h9 := e_Off_ok ⟨some ⟨b, o, none⟩, cs, A0, c0', A1, c1', A2, c2', Af, cf, At, ct⟩ e set day W h HLE.out hs8 c1 c2 c3
                      rw [hoff.1, hoff.2.1, hoff.2.2] at h9
                      subst he; exact h9)
                    have HMI : Hid (Ec.engineOk e = true → Ec.setOk e.feasts set = true → Ec.isSpan lo hi = true → Ec.evenB s = true → ∀ W, EngSet W ⟨some ⟨b, o, none⟩, cs, A0, c0', A1, c1', A2, c2', Af, cf, At, ct⟩ e set → Calls Tryz.prog 29 #[.agg #[.slice (some ⟨b, o, none⟩) s.bodies.length cs, .int .i64 s.nnum, .int .i64 s.nden, .int .i64 s.nstart, .slice A0 l0.length c0', .slice A1 l1.length c1', .slice A2 l2.length c2', .slice Af feasts.length cf, .int .i64 new, .int .i64 full, .int .i64 0], .slice At set.length ct, .int .i64 lo, .int .i64 hi, .int .i64 0] W fun r w' => ∃ Am cm, r = .returned (.tuple #[.slice Am 0 cm, .int .i64 0]) ∧ Ext W w') := Lib.hid (fun c1 c2 c3 c4 W h => by
                      have hlo : 1 ≤ lo := by have h := c3; simp only [Ec.isSpan, Sp.inR, Bool.and_eq_true, decide_eq_true_eq] at h; omega
                      have h9 := e_Missed_ok ⟨some ⟨b, o, none⟩, cs, A0, c0', A1, c1', A2, c2', Af, cf, At, ct⟩ e set lo hi 0 W h HLE.out hs8 c1 c2 c3 rfl
                      rw [Ec.right_missed c1 HRI.out HSK.out.2.2 (by rw [HSK.out.1]; exact c4) set lo hi hlo] at h9
                      subst he
                      refine h9.mono ?_
                      rintro r w' ⟨v, rfl, ⟨Am, cm, rfl, _⟩, hE⟩
                      exact ⟨Am, cm, rfl, hE⟩)
                    have HEM : Hid (Ec.engineOk e = true → Ec.setOk e.feasts set = true → Ec.isSpan lo hi = true → Ec.evenB s = true → ∀ W, EngSet W ⟨some ⟨b, o, none⟩, cs, A0, c0', A1, c1', A2, c2', Af, cf, At, ct⟩ e set → Calls Tryz.prog 30 #[.agg #[.slice (some ⟨b, o, none⟩) s.bodies.length cs, .int .i64 s.nnum, .int .i64 s.nden, .int .i64 s.nstart, .slice A0 l0.length c0', .slice A1 l1.length c1', .slice A2 l2.length c2', .slice Af feasts.length cf, .int .i64 new, .int .i64 full, .int .i64 0], .slice At set.length ct, .int .i64 lo, .int .i64 hi, .int .i64 0] W fun r w' => ∃ Am cm, r = .returned (.tuple #[.slice Am 0 cm, .int .i64 0]) ∧ Ext W w') := Lib.hid (fun c1 c2 c3 c4 W h => by
                      have hlo : 1 ≤ lo := by have h := c3; simp only [Ec.isSpan, Sp.inR, Bool.and_eq_true, decide_eq_true_eq] at h; omega
                      have h9 := e_Empty_ok ⟨some ⟨b, o, none⟩, cs, A0, c0', A1, c1', A2, c2', Af, cf, At, ct⟩ e set lo hi 0 W h HLE.out hs8 c1 c2 c3 rfl
                      rw [Ec.right_empty c1 HRI.out HSK.out.2.2 (by rw [HSK.out.1]; exact c4) set lo hi hlo] at h9
                      subst he
                      refine h9.mono ?_
                      rintro r w' ⟨v, rfl, ⟨Am, cm, rfl, _⟩, hE⟩
                      exact ⟨Am, cm, rfl, hE⟩)
                    have HSO : Hid (Ec.rising set 0 ((feasts.length : Int) - 1) = true → Ec.setOk e.feasts set = true) := Lib.hid (fun h => by rw [HSK.out.2.1]; exact h)
                    clear he HP0 HP1 HP2 HQ0 HQ1 HQ2 HRI HLE y0 y1 y2 y3 t0 t1 t2 HRP bRP HML HMH
                    have HRE : Hid (Row (w6.alloc (.cells #[.slice (some ⟨b, o, none⟩) s.bodies.length cs, .int .i64 s.nnum, .int .i64 s.nden, .int .i64 s.nstart, .slice A0 l0.length c0', .slice A1 l1.length c1', .slice A2 l2.length c2', .slice Af feasts.length cf, .int .i64 new, .int .i64 full, .int .i64 0] 83)).drew w6.heap.size 83 #[.slice (some ⟨b, o, none⟩) s.bodies.length cs, .int .i64 s.nnum, .int .i64 s.nden, .int .i64 s.nstart, .slice A0 l0.length c0', .slice A1 l1.length c1', .slice A2 l2.length c2', .slice Af feasts.length cf, .int .i64 new, .int .i64 full, .int .i64 0]) := Lib.hid ((Row.new _ _ _).ext ((Ext.refl _).drew))
                    have hE7 : Ext w6 (w6.alloc (.cells #[.slice (some ⟨b, o, none⟩) s.bodies.length cs, .int .i64 s.nnum, .int .i64 s.nden, .int .i64 s.nstart, .slice A0 l0.length c0', .slice A1 l1.length c1', .slice A2 l2.length c2', .slice Af feasts.length cf, .int .i64 new, .int .i64 full, .int .i64 0] 83)).drew := ((Ext.refl _).alloc _).drew
                    obtain ⟨ge, hge⟩ : ∃ g, w6.heap.size = g := ⟨_, rfl⟩
                    rw [hge] at HRE ⊢
                    clear hge
                    generalize (w6.alloc (.cells #[.slice (some ⟨b, o, none⟩) s.bodies.length cs, .int .i64 s.nnum, .int .i64 s.nden, .int .i64 s.nstart, .slice A0 l0.length c0', .slice A1 l1.length c1', .slice A2 l2.length c2', .slice Af feasts.length cf, .int .i64 new, .int .i64 full, .int .i64 0] 83)).drew = w7 at *
                    have HE7 := Lib.hid (HE6.out.trans hE7)
                    replace HMB := Lib.hid (HMB.out.ext hE7)
                    replace HMF := Lib.hid (HMF.out.ext hE7)
                    replace HMT := Lib.hid (HMT.out.ext hE7)
                    replace HMM := Lib.hid (HMM.out.ext hE7)
                    replace HRS := Lib.hid (HRS.out.ext hE7)
                    clear bRS
                    have bRS := HRS.out.cell
                    clear hE7
                    have bRE := HRE.out.cell
                    go_wp2_with fail
                    refine (HEN.out w7 HMM.out).mono ?_
                    rintro e w8 ⟨rfl, hE8⟩
                    have HE8 := Lib.hid (HE7.out.trans hE8)
                    replace HMB := Lib.hid (HMB.out.ext hE8)
                    replace HMF := Lib.hid (HMF.out.ext hE8)
                    replace HMT := Lib.hid (HMT.out.ext hE8)
                    replace HMM := Lib.hid (HMM.out.ext hE8)
                    replace HRS := Lib.hid (HRS.out.ext hE8)
                    clear bRS
                    have bRS := HRS.out.cell
                    replace HRE := Lib.hid (HRE.out.ext hE8)
                    clear bRE
                    have bRE := HRE.out.cell
                    clear hE8
                    cases c1 : Ec.engineOk e with
                    | false =>
                      go_wp2_with fail
                      refine (HK.out w8 HE8.out).mono ?_
                      rintro e w9 ⟨rfl, hE9⟩
                      dsimp only
                      go_wp2_with fail
                      go_ret
                      exact ⟨rfl, HE8.out.trans hE9⟩
                    | true =>
                      go_wp2_with fail
                      refine (r1_Set_any Af At feasts.length cf ct set w8 (by omega) HMT.out hs8).mono ?_
                      rintro e w9 ⟨rfl, hE9⟩
                      have HE9 := Lib.hid (HE8.out.trans hE9)
                      replace HMB := Lib.hid (HMB.out.ext hE9)
                      replace HMF := Lib.hid (HMF.out.ext hE9)
                      replace HMT := Lib.hid (HMT.out.ext hE9)
                      replace HMM := Lib.hid (HMM.out.ext hE9)
                      replace HRS := Lib.hid (HRS.out.ext hE9)
                      clear bRS
                      have bRS := HRS.out.cell
                      replace HRE := Lib.hid (HRE.out.ext hE9)
                      clear bRE
                      have bRE := HRE.out.cell
                      clear hE9
                      cases c2 : Ec.rising set 0 ((feasts.length : Int) - 1) with
                      | false =>
                        go_wp2_with fail
                        refine (HK.out w9 HE9.out).mono ?_
                        rintro e w10 ⟨rfl, hE10⟩
                        dsimp only
                        go_wp2_with fail
                        go_ret
                        exact ⟨rfl, HE9.out.trans hE10⟩
                      | true =>
                        go_wp2_with fail
                        refine (r7_Day_any day w9).mono ?_
                        rintro e w' ⟨rfl, rfl⟩
                        cases c3 : Ec.isDay day with
                        | false =>
                          go_wp2_with fail
                          refine (HK.out w9 HE9.out).mono ?_
                          rintro e w10 ⟨rfl, hE10⟩
                          dsimp only
                          go_wp2_with fail
                          go_ret
                          exact ⟨rfl, HE9.out.trans hE10⟩
                        | true =>
                          go_wp2_with fail
                          refine (r7_Span_any lo hi w9).mono ?_
                          rintro e w' ⟨rfl, rfl⟩
                          cases c4 : Ec.isSpan lo hi with
                          | false =>
                            go_wp2_with fail
                            refine (HK.out w9 HE9.out).mono ?_
                            rintro e w10 ⟨rfl, hE10⟩
                            dsimp only
                            go_wp2_with fail
                            go_ret
                            exact ⟨rfl, HE9.out.trans hE10⟩
                          | true =>
                            have hnq := fun W => Tp.neq_hands0 W
                            go_wp2_with fail
                            refine (HOF.out c1 (HSO.out c2) c3 w9 HMM.out).mono ?_
                            rintro e w10 ⟨rfl, hE10⟩
                            have HE10 := Lib.hid (HE9.out.trans hE10)
                            replace HMB := Lib.hid (HMB.out.ext hE10)
                            replace HMF := Lib.hid (HMF.out.ext hE10)
                            replace HMT := Lib.hid (HMT.out.ext hE10)
                            replace HMM := Lib.hid (HMM.out.ext hE10)
                            replace HRS := Lib.hid (HRS.out.ext hE10)
                            clear bRS
                            have bRS := HRS.out.cell
                            replace HRE := Lib.hid (HRE.out.ext hE10)
                            clear bRE
                            have bRE := HRE.out.cell
                            clear hE10
                            go_wp2_with fail
                            have hE11 : Ext w10 (w10.alloc (.cells #[.int .i64 0, .int .i64 0, .int .i64 0] 89)) := (Ext.refl _).alloc _
                            obtain ⟨gh, hgh⟩ : ∃ g, w10.heap.size = g := ⟨_, rfl⟩
                            rw [hgh]
                            clear hgh hnq
                            generalize w10.alloc (.cells #[.int .i64 0, .int .i64 0, .int .i64 0] 89) = w11 at *
                            have HE11 := Lib.hid (HE10.out.trans hE11)
                            replace HMB := Lib.hid (HMB.out.ext hE11)
                            replace HMF := Lib.hid (HMF.out.ext hE11)
                            replace HMT := Lib.hid (HMT.out.ext hE11)
                            replace HMM := Lib.hid (HMM.out.ext hE11)
                            replace HRS := Lib.hid (HRS.out.ext hE11)
                            clear bRS
                            have bRS := HRS.out.cell
                            replace HRE := Lib.hid (HRE.out.ext hE11)
                            clear bRE
                            have bRE := HRE.out.cell
                            clear hE11
                            clear bRE
                            go_loopw [33, 34] (fun i x wr => ∃ j : Nat, j ≤ 2 ∧ i = .int .i64 (j : Int) ∧ (∀ q, q < j → ∀ x, x < (bd s.bodies q).road.length → rd (bd s.bodies q).road x = 0) ∧ Ext w11 wr) (fun i _ _ => 2 - (intOf i).toNat)
                            case atStart => exact ⟨0, Nat.zero_le _, rfl, fun q hq => absurd hq (by omega), Ext.refl _⟩
                            case round =>
                              obtain ⟨j, hj, rfl, hF, hE12⟩ := hrel
                              generalize wr = w12 at *
                              have HF := Lib.hid hF
                              have HEJ := Lib.hid hE12
                              replace HRE := Lib.hid (HRE.out.ext hE12)
                              clear hF
                              have HE12 := Lib.hid (HE11.out.trans hE12)
                              replace HMB := Lib.hid (HMB.out.ext hE12)
                              replace HMF := Lib.hid (HMF.out.ext hE12)
                              replace HMT := Lib.hid (HMT.out.ext hE12)
                              replace HMM := Lib.hid (HMM.out.ext hE12)
                              replace HRS := Lib.hid (HRS.out.ext hE12)
                              clear bRS
                              have bRS := HRS.out.cell
                              clear hE12
                              rcases Nat.lt_or_eq_of_le hj with h9 | h9
                              · have h9' : (j : Int) < 2 := by omega
                                have hjl : (j : Int) < (s.bodies.length : Int) := by omega
                                have hjl2 : j < s.bodies.length := by omega
                                obtain ⟨b', o', hbo, hc⟩ := HMB.out (by omega)
                                simp only [Option.some.injEq, Addr.mk.injEq, and_true] at hbo
                                obtain ⟨rfl, rfl⟩ := hbo
                                obtain ⟨Aq, cq, d3, hI⟩ := (hc j hjl2).road
                                have HI := Lib.hid hI
                                have HST : Hid (∀ R, (bd s.bodies j).road = R → (∀ x, x < R.length → rd R x = 0) → ∀ q, q < j + 1 → ∀ x, x < (bd s.bodies q).road.length → rd (bd s.bodies q).road x = 0) := Lib.hid (fun R hR h q hq => by rcases Nat.lt_or_eq_of_le (Nat.le_of_lt_succ hq) with h7 | rfl; exact HF.out q h7; rw [hR]; exact h)
                                obtain ⟨R, hR⟩ : ∃ R, (bd s.bodies j).road = R := ⟨_, rfl⟩
                                have hR9 := HSH.out.2 j hjl2
                                rw [hR] at d3 HI hR9
                                replace HST := Lib.hid (HST.out R hR)
                                clear hc hI hR HF
                                have HD3 := Lib.hid d3
                                clear d3
                                go_wp2_with fail
                                go_loopw [34] (fun i wr => ∃ q : Nat, q ≤ R.length ∧ i = .int .i64 (q : Int) ∧ (∀ x, x < q → rd R x = 0) ∧ Ext w12 wr) (fun i _ => R.length - (intOf i).toNat)
                                case atStart => exact ⟨0, Nat.zero_le _, rfl, fun q hq => absurd hq (by omega), Ext.refl _⟩
                                case round =>
                                  obtain ⟨q, hq, rfl, hG, hE13⟩ := hrel
                                  generalize wr = w13 at *
                                  have HG := Lib.hid hG
                                  have HEQ := Lib.hid hE13
                                  have d3 := hE13.cell HD3.out
                                  replace HI := Lib.hid (HI.out.ext hE13)
                                  clear hG
                                  have HE13 := Lib.hid (HE12.out.trans hE13)
                                  replace HMB := Lib.hid (HMB.out.ext hE13)
                                  replace HMF := Lib.hid (HMF.out.ext hE13)
                                  replace HMT := Lib.hid (HMT.out.ext hE13)
                                  replace HMM := Lib.hid (HMM.out.ext hE13)
                                  replace HRS := Lib.hid (HRS.out.ext hE13)
                                  clear bRS
                                  have bRS := HRS.out.cell
                                  clear hE13
                                  rcases Nat.lt_or_eq_of_le hq with h8 | h8
                                  · have h8' : (q : Int) < (R.length : Int) := by omega
                                    obtain ⟨ib, io, rfl, hic⟩ := HI.out (by omega)
                                    have d4 := hic q h8
                                    have HSX : Hid (∀ v, rd R q = v → v = 0 → ∀ x, x < q + 1 → rd R x = 0) := Lib.hid (fun v hv h0 x hx => by rcases Nat.lt_or_eq_of_le (Nat.le_of_lt_succ hx) with h7 | rfl; exact HG.out x h7; rw [hv]; exact h0)
                                    obtain ⟨v, hv⟩ : ∃ v, rd R q = v := ⟨_, rfl⟩
                                    rw [hv] at d4
                                    replace HSX := Lib.hid (HSX.out v hv)
                                    clear hic hv
                                    by_cases hv0 : v = 0
                                    · have HSY := Lib.hid (HSX.out hv0)
                                      subst hv0
                                      clear HSX
                                      go_wp2_with fail
                                      go_roundw
                                      case rel => exact ⟨q + 1, by omega, by go_num, HSY.out, HEQ.out⟩
                                      case measure => simp [intOf]; omega
                                    · have hv1 : (v != 0) = true := by simpa using hv0
                                      go_wp2_with fail
                                      refine (HK.out w13 HE13.out).mono ?_
                                      rintro e w14 ⟨rfl, hE14⟩
                                      dsimp only
                                      go_wp2_with fail
                                      go_ret
                                      exact ⟨rfl, HE13.out.trans hE14⟩
                                  · subst h8
                                    have HSY := Lib.hid (HST.out HG.out)
                                    go_wp2_with fail
                                    go_roundw
                                    case rel => exact ⟨j + 1, by omega, by simp, HSY.out, HEJ.out.trans HEQ.out⟩
                                    case measure => simp [intOf]; omega
                              · subst h9
                                have hev := Tp.even_of HF.out
                                clear HF
                                have bRE := HRE.out.cell
                                go_wp2_with fail
                                refine (HMI.out c1 (HSO.out c2) c4 hev w12 HMM.out).mono ?_
                                rintro e' w13 ⟨Am, cm, rfl, hE13⟩
                                have HE13 := Lib.hid (HE12.out.trans hE13)
                                replace HMB := Lib.hid (HMB.out.ext hE13)
                                replace HMF := Lib.hid (HMF.out.ext hE13)
                                replace HMT := Lib.hid (HMT.out.ext hE13)
                                replace HMM := Lib.hid (HMM.out.ext hE13)
                                replace HRS := Lib.hid (HRS.out.ext hE13)
                                clear bRS
                                have bRS := HRS.out.cell
                                replace HRE := Lib.hid (HRE.out.ext hE13)
                                clear bRE
                                have bRE := HRE.out.cell
                                clear hE13
                                go_wp2_with fail
                                refine (HEM.out c1 (HSO.out c2) c4 hev w13 HMM.out).mono ?_
                                rintro e' w14 ⟨Ae, ce, rfl, hE14⟩
                                have HE14 := Lib.hid (HE13.out.trans hE14)
                                replace HMB := Lib.hid (HMB.out.ext hE14)
                                replace HMF := Lib.hid (HMF.out.ext hE14)
                                replace HMT := Lib.hid (HMT.out.ext hE14)
                                replace HMM := Lib.hid (HMM.out.ext hE14)
                                replace HRS := Lib.hid (HRS.out.ext hE14)
                                clear bRS
                                have bRS := HRS.out.cell
                                replace HRE := Lib.hid (HRE.out.ext hE14)
                                clear bRE
                                have bRE := HRE.out.cell
                                clear hE14
                                go_wp2_with fail
                                refine (HK.out w14 HE14.out).mono ?_
                                rintro e w15 ⟨rfl, hE15⟩
                                dsimp only
                                go_wp2_with fail
                                go_ret
                                exact ⟨rfl, HE14.out.trans hE15⟩
end Go.Proofs.YtimkmokomohgjaaGreat
