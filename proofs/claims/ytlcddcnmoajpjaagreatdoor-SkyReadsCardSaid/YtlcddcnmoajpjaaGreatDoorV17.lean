/- Pars1: For the walk of parsed: what is read, step by step; bodies that the call itself lays.
Pars2: The walk of parsed.
Read: The walk of Read. -/
import Derived.Laws.Rows
import Derived.Recover
import Derived.Defers
import Derived.Test.YtlcddcnmoajpjaaGreatDoorV16
namespace Go.Proofs.YtlcddcnmoajpjaaGreatDoor
open Go.RowKit
open Sp (rd)

theorem parse_no1 {x : Bs} (h : numsP wSky 1 ((sp1 10 x).getD 0 []) = none) : parseP x = none := by unfold parseP; rw [h]; rfl
theorem parse_no2 {x : Bs} {ns : List Int} (h : numsP wSky 1 ((sp1 10 x).getD 0 []) = some ns) (h2 : ¬ (0 ≤ ns.getD 0 0 ∧ ((sp1 10 x).length : Int) = ns.getD 0 0 + 4)) : parseP x = none := by
  unfold parseP; rw [h]
  simp only [Option.bind_some]
  rw [if_neg h2]
theorem parse_at {x : Bs} {ns : List Int} (h : numsP wSky 1 ((sp1 10 x).getD 0 []) = some ns) (h2 : 0 ≤ ns.getD 0 0 ∧ ((sp1 10 x).length : Int) = ns.getD 0 0 + 4) :
    parseP x = ((((sp1 10 x).drop 1).take (ns.getD 0 0).toNat).mapM (numsP wBody 3)).bind fun bs' =>
        (numsP wNode 3 ((sp1 10 x).getD ((ns.getD 0 0).toNat + 1) [])).bind fun y =>
          if textL (skyOf bs' y) = x then some (skyOf bs' y) else none := by
  unfold parseP; rw [h]
  simp only [Option.bind_some]
  rw [if_pos h2]

theorem lineL_ge (name : Bs) (l : List Int) : l.length ≤ (lineL name l).length := by
  unfold lineL
  rw [List.length_append]
  have : l.length ≤ (l.map fun n => 32 :: Lib.itoa n).flatten.length := by
    induction l with
    | nil => simp
    | cons n l ih => simp only [List.map_cons, List.flatten_cons, List.length_append, List.length_cons]; omega
  omega
/-- What is parsed can be written. -/
theorem skyText_of (bs' : List (List Int)) (y : List Int) (S : List Bs) (z : Bs) (hS : S.length ≤ 1000) (hl : ∀ w ∈ S, w.length ≤ 1000) (hm : S.mapM (numsP wBody 3) = some bs') (hn : numsP wNode 3 z = some y) : SkyText (skyOf bs' y) := by
  obtain ⟨_, hy3, hyok⟩ := numsP_some hn
  have hlen : bs'.length = S.length := by
    have := congrArg List.length (mapM_some.1 hm)
    simpa using this.symm
  have hb : ∀ l ∈ bs', 3 ≤ l.length ∧ l.length ≤ 1000 ∧ ∀ n ∈ l, numOk n := fun l hl' => by
    obtain ⟨w, hw, he⟩ := mapM_mem hm l hl'
    obtain ⟨e, h3, hok⟩ := numsP_some he
    have := lineL_ge wBody l
    rw [← e] at this
    exact ⟨h3, Nat.le_trans this (hl w hw), hok⟩
  match y, hy3, hyok with
  | a :: b :: c :: r, _, hyok =>
    refine ⟨⟨by simp only [skyOf, List.length_map]; omega, fun b' hb' n hn' => ?_, hyok a (by simp), hyok b (by simp), hyok c (by simp)⟩, by simp only [skyOf, List.length_map]; omega, fun b' hb' => ?_⟩
    · obtain ⟨l, hl', rfl⟩ := List.mem_map.1 hb'
      rw [bodyNums_of (hb l hl').1] at hn'
      exact (hb l hl').2.2 n hn'
    · obtain ⟨l, hl', rfl⟩ := List.mem_map.1 hb'
      have := (hb l hl').2.1
      simp only [bodyOf, List.length_drop]
      omega

theorem Ints.block {w w' : World} {g o : Nat} {l : List Int} (h : Ints w (some ⟨g, o, none⟩) l) (hb : w'.heap[g]? = w.heap[g]?) : Ints w' (some ⟨g, o, none⟩) l := fun h0 => by
  obtain ⟨b, o', e, hc⟩ := h h0
  refine ⟨b, o', e, fun k hk => ?_⟩
  injection e with e
  injection e with e1 e2
  subst e1 e2
  have := hc k hk
  unfold World.cell? at this ⊢
  simp only at this ⊢
  rw [hb]
  exact this

/-- Bodies that the call itself has laid; their Roads lie elsewhere. -/
def BodiesOwn (w : World) (base bO : Nat) (v : Value) (l : List Sp.Body) : Prop :=
  ∃ xs : List Value, w.ownsRow base 80 4 v l.length xs ∧ v.ownBlock ≠ some bO ∧ ∀ j, j < l.length →
    xs[j * 4]? = some (.int .i64 (bd l j).num) ∧ xs[j * 4 + 1]? = some (.int .i64 (bd l j).den) ∧ xs[j * 4 + 2]? = some (.int .i64 (bd l j).start) ∧
    ∃ g o c, xs[j * 4 + 3]? = some (.slice (some ⟨g, o, none⟩) (bd l j).road.length c) ∧ Ints w (some ⟨g, o, none⟩) (bd l j).road ∧ g ≠ bO ∧ v.ownBlock ≠ some g ∧ g < w.heap.size ∧ base ≤ g
theorem BodiesOwn.bodies {w : World} {base bO : Nat} {v : Value} {l : List Sp.Body} (h : BodiesOwn w base bO v l) : ∃ A c, v = .slice A l.length c ∧ Bodies w A l ∧ RoadsIn w A l := by
  obtain ⟨xs, hown, hne, hx⟩ := h
  rcases hown.2 with ⟨rfl, h0⟩ | ⟨g, cap, cur, hv, _⟩
  · exact ⟨none, 0, by rw [h0], fun hh => by omega, fun b o hA => by cases hA⟩
  · have hc := hown.cells (g := g) (by rw [hv]; rfl)
    have cell : ∀ j u, xs[j]? = some u → w.cell? ⟨g, j, none⟩ = some u := fun j u hu => by
      have := hc j u hu
      rwa [add0] at this
    refine ⟨some ⟨g, 0, none⟩, cap, hv, fun _ => ⟨g, 0, rfl, fun k hk => ?_⟩, fun b o hA k hk hr => ?_⟩
    · obtain ⟨c0, c1, c2, g', o', c', c3, hi, _⟩ := hx k hk
      refine ⟨?_, ?_, ?_, some ⟨g', o', none⟩, c', ?_, hi⟩
      · simpa using cell _ _ c0
      · simpa using cell _ _ c1
      · simpa using cell _ _ c2
      · simpa using cell _ _ c3
    · injection hA with hA
      injection hA with e1 e2
      subst e1 e2
      obtain ⟨_, _, _, g', o', c', c3, _⟩ := hx k hk
      rw [hr] at c3
      exact ⟨g', o', c', by simpa using cell _ _ c3⟩
theorem BodiesOwn.ext {w w' : World} {base bO : Nat} {v : Value} {l : List Sp.Body} (h : BodiesOwn w base bO v l) (he : Ext w w') : BodiesOwn w' base bO v l := by
  obtain ⟨xs, hown, hne, hx⟩ := h
  refine ⟨xs, ownsRow_of_block hown fun k hk => he.block k (hown.lt k hk).2, hne, fun j hj => ?_⟩
  obtain ⟨c0, c1, c2, g', o', c', c3, hi, n1, n2, n3, n4⟩ := hx j hj
  exact ⟨c0, c1, c2, g', o', c', c3, hi.ext he, n1, n2, Nat.lt_of_lt_of_le n3 he.size, n4⟩
theorem BodiesOwn.far {w : World} {base bO : Nat} {v : Value} {l : List Sp.Body} (h : BodiesOwn w base bO v l) (o : Nat) (u : Value) : BodiesOwn (w.setCell ⟨bO, o, none⟩ u) base bO v l := by
  obtain ⟨xs, hown, hne, hx⟩ := h
  refine ⟨xs, ownsRow_of_block hown fun k hk => Below.heap_setCell w _ u k (by rintro rfl; exact hne hk), hne, fun j hj => ?_⟩
  obtain ⟨c0, c1, c2, g', o', c', c3, hi, n1, n2, n3, n4⟩ := hx j hj
  exact ⟨c0, c1, c2, g', o', c', c3, hi.block (Below.heap_setCell w _ u g' n1), n1, n2, by simpa using n3, n4⟩
theorem BodiesOwn.below {w : World} {base bO : Nat} {v : Value} {l : List Sp.Body} (h : BodiesOwn w base bO v l) {p : Addr} (hp : p.block < base) (u : Value) : BodiesOwn (w.setCell p u) base bO v l := by
  obtain ⟨xs, hown, hne, hx⟩ := h
  refine ⟨xs, ownsRow_setCell_below hown hp u, hne, fun j hj => ?_⟩
  obtain ⟨c0, c1, c2, g', o', c', c3, hi, n1, n2, n3, n4⟩ := hx j hj
  exact ⟨c0, c1, c2, g', o', c', c3, hi.block (Below.heap_setCell w _ u g' (by omega)), n1, n2, by simpa using n3, n4⟩
theorem bd_app_left {l : List Sp.Body} {B : Sp.Body} {j : Nat} (h : j < l.length) : bd (l ++ [B]) j = bd l j := by
  unfold bd; rw [List.getD_eq_getElem?_getD, List.getD_eq_getElem?_getD, List.getElem?_append_left h]
theorem bd_app_last (l : List Sp.Body) (B : Sp.Body) : bd (l ++ [B]) l.length = B := by
  unfold bd; rw [List.getD_eq_getElem?_getD, List.getElem?_append_right (Nat.le_refl _)]; simp
/-- Behind the append of one body. -/
theorem bodies_pushed {w wA w1 : World} {base bO gg cap g o c : Nat} {v : Value} {l : List Sp.Body} {xs : List Value} {B : Sp.Body} (hown : w.ownsRow base 80 4 v l.length xs) (hne : v.ownBlock ≠ some bO)
    (hx : ∀ j, j < l.length → xs[j * 4]? = some (.int .i64 (bd l j).num) ∧ xs[j * 4 + 1]? = some (.int .i64 (bd l j).den) ∧ xs[j * 4 + 2]? = some (.int .i64 (bd l j).start) ∧
      ∃ g o c, xs[j * 4 + 3]? = some (.slice (some ⟨g, o, none⟩) (bd l j).road.length c) ∧ Ints w (some ⟨g, o, none⟩) (bd l j).road ∧ g ≠ bO ∧ v.ownBlock ≠ some g ∧ g < w.heap.size ∧ base ≤ g)
    (hA : Ext w wA) (hg : wA.grownBy w1 v.ownBlock) (hat : v.ownBlock = some gg ∨ gg = wA.heap.size) (hbO : bO < w.heap.size)
    (hown1 : w1.ownsRow base 80 4 (.slice (some ⟨gg, 0, none⟩) (l.length + 1) cap) (l.length + 1) (xs ++ [.int .i64 B.num, .int .i64 B.den, .int .i64 B.start, .slice (some ⟨g, o, none⟩) B.road.length c]))
    (hi : Ints w (some ⟨g, o, none⟩) B.road) (n1 : g ≠ bO) (n2 : v.ownBlock ≠ some g) (n3 : g < w.heap.size) (n4 : base ≤ g) : BodiesOwn w1 base bO (.slice (some ⟨gg, 0, none⟩) (l.length + 1) cap) (l ++ [B]) := by
  have hlen := hown.1
  have hsA := hA.size
  have hs1 := hg.size
  have keep : ∀ q, q < w.heap.size → v.ownBlock ≠ some q → w1.heap[q]? = w.heap[q]? ∧ gg ≠ q := fun q hq hne => by
    refine ⟨(hg.block q (by omega) (fun e => hne e.symm)).trans (hA.block q hq), ?_⟩
    rintro rfl
    rcases hat with e | e
    · exact hne e
    · omega
  refine ⟨_, by rw [List.length_append]; exact hown1, ?_, fun j hj => ?_⟩
  · intro e
    simp only [Value.ownBlock, Option.some.injEq] at e
    exact (keep bO hbO hne).2 e
  · rw [List.length_append, List.length_singleton] at hj
    by_cases hjl : j < l.length
    · obtain ⟨c0, c1, c2, g', o', c', c3, hi', m1, m2, m3, m4⟩ := hx j hjl
      rw [bd_app_left hjl]
      obtain ⟨k1, k2⟩ := keep g' m3 m2
      rw [List.getElem?_append_left (by omega), List.getElem?_append_left (by omega), List.getElem?_append_left (by omega), List.getElem?_append_left (by omega)]
      exact ⟨c0, c1, c2, g', o', c', c3, hi'.block k1, m1, by simpa [Value.ownBlock] using k2, by omega, m4⟩
    · obtain rfl : j = l.length := by omega
      rw [bd_app_last]
      obtain ⟨k1, k2⟩ := keep g n3 n2
      rw [List.getElem?_append_right (by omega), List.getElem?_append_right (by omega), List.getElem?_append_right (by omega), List.getElem?_append_right (by omega), hlen]
      rw [show l.length * 4 - l.length * 4 = 0 by omega, show l.length * 4 + 1 - l.length * 4 = 1 by omega, show l.length * 4 + 2 - l.length * 4 = 2 by omega, show l.length * 4 + 3 - l.length * 4 = 3 by omega]
      exact ⟨rfl, rfl, rfl, g, o, c, rfl, hi.block k1, n1, by simpa [Value.ownBlock] using k2, by omega, n4⟩
theorem info_body : (Tryz.prog.info? 80).map (fun i => (i.zero, i.size, i.bytes)) = some (some (.agg #[.int .i64 0, .int .i64 0, .int .i64 0, .slice none 0 0]), 4, 48) := by kernel_rfl
end Go.Proofs.YtlcddcnmoajpjaaGreatDoor

namespace Go.Proofs.YtlcddcnmoajpjaaGreatDoor
open Go.RowKit
open Sp (rd)

theorem BodiesOwn.lt_own {w : World} {base bO : Nat} {v : Value} {l : List Sp.Body} (h : BodiesOwn w base bO v l) {k : Nat} (e : v.ownBlock = some k) : k < w.heap.size := by
  obtain ⟨xs, hown, _⟩ := h
  exact (hown.lt k e).2
theorem ints_nil {w : World} {A : Option Addr} {l : List Int} (h : l.length = 0) : Ints w A l := fun h0 => by omega
theorem ints_drop {w w' : World} {g : Nat} {l : List Int} (h : Ints w (some ⟨g, 0, none⟩) l) (he : Ext w w') (h3 : 3 ≤ l.length) : Ints w' (some ⟨g, 3, none⟩) (bodyOf l).road := fun h0 => by
  obtain ⟨b, o, hb, hc⟩ := h (by omega)
  injection hb with hb
  injection hb with e1 e2
  subst e1 e2
  refine ⟨_, _, rfl, fun k hk => ?_⟩
  simp only [bodyOf, List.length_drop] at hk
  have := he.cell (hc (3 + k) (by omega))
  rw [Nat.zero_add] at this
  rw [this]
  simp [bodyOf, rd, List.getD_eq_getElem?_getD, List.getElem?_drop]
def ParsedPost (w : World) (x : Bs) (e : Ending) (w' : World) : Prop := Ext w w' ∧
  ((∃ s A c base bO, parseP x = some s ∧ SkyText s ∧ e = .returned (.agg #[.slice A s.bodies.length c, .int .i64 s.nnum, .int .i64 s.nden, .int .i64 s.nstart]) ∧ w.heap.size ≤ base ∧ BodiesOwn w' base bO (.slice A s.bodies.length c) s.bodies) ∨
   (parseP x = none ∧ ∃ y, e = .panicked [{ v := .iface 137 (.agg #[.string y]), recovered := false }]))
def ParsRel (W : World) (bO : Nat) (S : List Bs) (i : Value) (wr : World) : Prop :=
  ∃ (k : Nat) (r : List (List Int)) (v : Value), k ≤ S.length ∧ i = .int .i64 k ∧ (S.take k).mapM (numsP wBody 3) = some r ∧ r.length = k ∧ Row wr bO 28 #[v, .int .i64 0, .int .i64 0, .int .i64 0] ∧ BodiesOwn wr W.heap.size bO v (r.map bodyOf) ∧ Ext W wr

set_option maxRecDepth 100000 in
set_option maxHeartbeats 1000000 in
theorem parsed_any (x : Bs) (w : World) (hV : Env w) (hx : x.length ≤ 900) : Calls Tryz.prog 121 #[.string (bs x)] w (ParsedPost w x) := by
  have HV := Lib.hid hV
  clear hV
  go_enter Tryz.func121, Tryz.ntmps121
  go_wp2_with fail
  have hE0 : Ext w (w.alloc (.cells #[.slice none 0 0, .int .i64 0, .int .i64 0, .int .i64 0] 28)) := (Ext.refl w).alloc _
  refine (split_any 10 x _ (HV.out.ext hE0) (by omega)).mono ?_
  rintro e w1 ⟨rfl, hw1⟩
  simp only [World.size_alloc] at hw1 ⊢
  have hlx := sp1_length 10 x
  have hcx : x.count 10 ≤ x.length := List.count_le_length
  have hrow : Row w1 (w.heap.size + 1) 9 (strCells1 (sp1 10 x)).toArray := by
    rw [hw1]
    have := Row.new (w.alloc (.cells #[.slice none 0 0, .int .i64 0, .int .i64 0, .int .i64 0] 28)) 9 (strCells1 (sp1 10 x)).toArray
    simpa using this
  have hres : Row w1 w.heap.size 28 #[.slice none 0 0, .int .i64 0, .int .i64 0, .int .i64 0] := by
    rw [hw1]; exact (Row.new w _ _).alloc _
  have hE1 : Ext w w1 := by rw [hw1]; exact hE0.alloc _
  have hsub : ∀ y ∈ sp1 10 x, y.length ≤ 900 := fun y hy => by
    have := sp1_le 10 x y hy; omega
  obtain ⟨L, hL⟩ : ∃ L, sp1 10 x = L := ⟨_, rfl⟩
  have HLQ := Lib.hid hL
  rw [hL] at hlx hrow hsub ⊢
  have hL1 : 1 ≤ L.length := by omega
  have hL2 : L.length ≤ 901 := by omega
  have HR := Lib.hid hrow
  have HRES := Lib.hid hres
  have HSUB := Lib.hid hsub
  have HE1 := Lib.hid hE1
  have c0 : w1.cell? ⟨w.heap.size + 1, 0, none⟩ = some (.string (bs (L.getD 0 []))) := by
    rw [hrow.cell 0]
    cases L with
    | nil => simp at hL1
    | cons a t => rfl
  have hl0 := HSUB.out (L.getD 0 []) (by rw [List.getD_eq_getElem?_getD, List.getElem?_eq_getElem (by omega)]; exact List.getElem_mem (by omega))
  have hL1' : (0 : Int) < (L.length : Int) := by omega
  have hsz1 := hE1.size
  clear hE0 hw1 hL hlx hcx hrow hres hE1 hsub
  go_wp2_with fail
  refine (numbers_any wSky 1 (L.getD 0 []) w1 (HV.out.ext HE1.out) (by omega) (by omega) (by omega)).mono ?_
  rintro e w2 ⟨hE2, ⟨ns, g, cap, hns, rfl, hcap, hg, hI⟩ | ⟨hno, z, rfl⟩⟩
  · obtain ⟨_, hnl, hnok⟩ := numsP_some hns
    have hI0 : w2.cell? ⟨g, 0, none⟩ = some (.int .i64 (rd ns 0)) := by
      obtain ⟨b, o, hb, hc⟩ := hI (by omega)
      injection hb with hb
      injection hb with e1 e2
      subst e1 e2
      exact hc 0 (by omega)
    have hn0 : numOk (rd ns 0) := by
      match ns, hnl with
      | a :: _, _ => exact hnok a (by simp)
    obtain ⟨hn1, hn2⟩ := hn0
    have HNS : Hid (numsP wSky 1 ((sp1 10 x).getD 0 []) = some ns) := Lib.hid (by rw [HLQ.out]; exact hns)
    have hrd : rd ns 0 = ns.getD 0 0 := rfl
    have HRD := Lib.hid hrd
    obtain ⟨n, hn⟩ : ∃ n, rd ns 0 = n := ⟨_, rfl⟩
    rw [hn] at hI0 hn1 hn2 HRD
    have hnl' : (0 : Int) < (ns.length : Int) := by omega
    have hE2' := HE1.out.trans hE2
    have HR2 := Lib.hid (HR.out.ext hE2)
    have HRES2 := Lib.hid (HRES.out.ext hE2)
    have HE2 := Lib.hid hE2'
    have hsz2 := hE2.size
    have hnl9 : (1 : Int) ≤ (ns.length : Int) := by omega
    clear hI hn hns hnok hE2 hE2' c0 hrd hnl
    by_cases hc : 0 ≤ n ∧ (L.length : Int) = n + 4
    · obtain ⟨hc1, hc2⟩ := hc
      have hat := parse_at HNS.out ⟨by rw [← HRD.out]; exact hc1, by rw [← HRD.out, HLQ.out]; exact hc2⟩
      rw [← HRD.out, HLQ.out] at hat
      obtain ⟨N, rfl⟩ := Int.eq_ofNat_of_zero_le hc1
      rw [Int.toNat_natCast] at hat
      have HAT := Lib.hid hat
      have hLN : L.length = N + 4 := by omega
      have HLN := Lib.hid hLN
      clear hat hLN HRD
      go_wp2_with fail
      refine (sure_ok _ _).mono ?_
      rintro e w3 ⟨rfl, rfl⟩
      have hLN := HLN.out
      have l1 : (N : Int) + 1 ≤ (L.length : Int) := by omega
      have l2 : (1 : Int) ≤ (N : Int) + 1 := by omega
      have l3 : (0 : Int) ≤ (N : Int) + 1 := by omega
      have l4 : ((N : Int) + 1).toNat = N + 1 := by omega
      have l5 : (1 : Int) < (L.length : Int) := by omega
      have l6 : L.length ≠ 1 := by omega
      have l7 : N + 1 ≤ L.length := by omega
      have l8 : (1 : Int) ≤ (L.length : Int) := by omega
      have hN9 : (N : Int) ≤ 900 := by omega
      clear hLN hc1 hc2 hI0
      have rO := Row.new w2 28 #[.slice none 0 0, .int .i64 0, .int .i64 0, .int .i64 0]
      have HROb := Lib.hid rO
      clear rO
      obtain ⟨S, hS⟩ : ∃ S, (L.drop 1).take N = S := ⟨_, rfl⟩
      have hSl : S.length = N := by rw [← hS, List.length_take, List.length_drop]; have := HLN.out; omega
      have HSL := Lib.hid hSl
      have hSat : ∀ k, k < N → S.getD k [] = L.getD (1 + k) [] := fun k hk => by
        rw [← hS, List.getD_eq_getElem?_getD, List.getD_eq_getElem?_getD, List.getElem?_take, if_pos hk, List.getElem?_drop]
      have HSAT := Lib.hid hSat
      have hat := HAT.out
      rw [hS] at hat
      replace HAT := Lib.hid hat
      clear hS hSl hSat hat
      obtain ⟨i0, hi0, hz0, hz1, hz2⟩ := info_parts info_body
      go_wp2_with fail
      go_loopw [34] (fun i wr => ParsRel w2 w2.heap.size S i wr) (fun i _ => N - (intOf i).toNat)
      case atStart => exact ⟨0, [], .slice none 0 0, Nat.zero_le _, rfl, rfl, rfl, HROb.out, ⟨[], World.ownsRow_nil _ _ _ _, by simp [Value.ownBlock], fun j hj => by simp at hj⟩, (Ext.refl w2).alloc _⟩
      case round =>
        obtain ⟨k, r, v, hk, rfl, hmap, hrl, hbox, hbo, hX⟩ := hrel
        rw [HSL.out] at hk
        have hszX := hX.size
        have hboxlt := hbox.lt
        by_cases hlt : k < N
        · have hc1 : wr.cell? ⟨w.heap.size + 1, 1 + k, none⟩ = some (.string (bs (S.getD k []))) := by
            have := (HR2.out.ext hX).cell (1 + k)
            rw [this, HSAT.out k hlt]
            have hh : 1 + k < L.length := by have := HLN.out; omega
            simp [strCells1, hh]
          have hyl := HSUB.out (S.getD k []) (by
            rw [HSAT.out k hlt]
            have hh : 1 + k < L.length := by have := HLN.out; omega
            rw [List.getD_eq_getElem?_getD, List.getElem?_eq_getElem hh]; exact List.getElem_mem hh)
          have HMAP := Lib.hid hmap
          have HRL := Lib.hid hrl
          have hrl9 : r.length ≤ 901 := by omega
          have HX := Lib.hid hX
          have HBOX := Lib.hid hbox
          have HBO := Lib.hid hbo
          have HLT := Lib.hid hlt
          obtain ⟨y, hy⟩ : ∃ y, S.getD k [] = y := ⟨_, rfl⟩
          have HY := Lib.hid hy
          rw [hy] at hc1 hyl
          have hlt' : (k : Int) < (N : Int) := by omega
          clear hmap hrl hX hbox hbo hy hlt hk
          go_wp2_with fail
          refine (numbers_any wBody 3 y wr (HV.out.ext (HE2.out.trans HX.out)) (by omega) (by omega) (by omega)).mono ?_
          rintro e w4 ⟨hE4, ⟨l, g4, cap4, hl, rfl, hcap4, hg4, hI4⟩ | ⟨hno, z, rfl⟩⟩
          · obtain ⟨_, hl3, _⟩ := numsP_some hl
            have HNN : Hid ((S.take (k + 1)).mapM (numsP wBody 3) = some (r ++ [l])) := Lib.hid (mapM_take_succ (d := []) k (by rw [HSL.out]; exact HLT.out) HMAP.out (by rw [HY.out]; exact hl))
            have HBOX4 := Lib.hid (HBOX.out.ext hE4)
            have HBO4 := Lib.hid (HBO.out.ext hE4)
            have HX4 := Lib.hid (HX.out.trans hE4)
            have hsz4 := hE4.size
            have HI4 := Lib.hid hI4
            have hcells : ∀ j, j < l.length → w4.cell? ⟨g4, j, none⟩ = some (.int .i64 (rd l j)) := fun j hj => by
              obtain ⟨b, o, hb, hc⟩ := hI4 (by omega)
              injection hb with hb
              injection hb with e1 e2
              subst e1 e2
              have := hc j hj
              rwa [Nat.zero_add] at this
            have d0 := hcells 0 (by omega)
            have d1 := hcells 1 (by omega)
            have d2 := hcells 2 (by omega)
            have HCELLS := Lib.hid hcells
            have hg4lt : g4 < w4.heap.size := lt_of_cell d0
            have hl3' : (2 : Int) < (l.length : Int) := by omega
            have hl3a : (0 : Int) < (l.length : Int) := by omega
            have hl3b : (1 : Int) < (l.length : Int) := by omega
            have hl3c : (3 : Int) ≤ (l.length : Int) := by omega
            have hl3d : 3 ≤ l.length := by omega
            clear hE4 hI4 hcells hl hc1
            go_wp2_with fail
            obtain ⟨bl, hbl⟩ : ∃ bl, r.map bodyOf = bl := ⟨_, rfl⟩
            have hbl9 : bl.length ≤ 901 := by rw [← hbl, List.length_map]; exact hrl9
            have hbo5 := HBO4.out
            rw [hbl] at hbo5
            have HBO5 := Lib.hid hbo5
            have HBL := Lib.hid hbl
            clear hbl hbo5 HBO4
            by_cases hcap3 : cap4 = 3
            · refine wp_region_later_mix2 (v0 := .pointer (some ⟨w2.heap.size, 0, none⟩)) (v1 := v) 15 (by kernel_rfl) (by kernel_rfl) rfl rfl rfl (by kernel_rfl) (by kernel_rfl) (fun X => ?_) (fun X => ?_) (fun WW hW => ?_)
              · simp [go_sem]
              · have c2 := (HBOX4.out.ext X.ext).cell 0
                simp only [List.getElem?_toArray, List.getElem?_cons_zero] at c2
                simp [go_sem, c2]
              have q0 := Ext.later (w := WW) (by rw [hW]; exact d0)
              have q1 := Ext.later (w := WW) (by rw [hW]; exact d1)
              have q2 := Ext.later (w := WW) (by rw [hW]; exact d2)
              simp only [List.take_succ_cons, List.take_zero, List.drop_succ_cons, List.drop_zero, Act.put, List.setIfInBounds_toArray, List.set_cons_succ, List.set_cons_zero]
              repeat (go_big_quiet_step (fail))
              refine wpQuiet_nil ?_
              intro X
              clear q0 q1 q2
              subst hW
              go_wp2
              refine ⟨⟨⟨_, X.ext.alloc _⟩, rfl⟩, ?_⟩
              obtain ⟨xs, hown, hne, hxs⟩ := HBO5.out.ext X.ext
              have hown2 := hown.alloc (.cells #[.int .i64 (rd l 0), .int .i64 (rd l 1), .int .i64 (rd l 2), .slice (some ⟨g4, 0, none⟩) (l.length - 3) 0] 80)
              have hszX4 := X.ext.size
              refine wpList_append_lies _ rfl _ _ _ rfl w2.heap.size 80 i0 _ 4 48 Tryz.underlying22 hi0 hz0 hz1 hz2 rfl (by omega) v bl.length xs rfl hown2
                ⟨X.world.heap.size, 0, none⟩ 1 1 [.int .i64 (rd l 0), .int .i64 (rd l 1), .int .i64 (rd l 2), .slice (some ⟨g4, 0, none⟩) (l.length - 3) 0] rfl rfl (World.news_of_block (cs := #[.int .i64 (rd l 0), .int .i64 (rd l 1), .int .i64 (rd l 2), .slice (some ⟨g4, 0, none⟩) (l.length - 3) 0]) (t := 80) (fr := (0, 0)) (heap_alloc_new _ _)) (by simp [Value.oneCell'])
                (by omega) (by simp only [maxLen]; omega) (by omega) (by simp; omega) _ rfl ?_
              intro gg cap w5 hown5 hgrow hat hltg
              have hbx := (HBOX4.out.ext X.ext).alloc (.cells #[.int .i64 (rd l 0), .int .i64 (rd l 1), .int .i64 (rd l 2), .slice (some ⟨g4, 0, none⟩) (l.length - 3) 0] 80)
              have hc3 := grown_cell hgrow hbx hne 0
              have hf3 := grown_free hgrow hbx hne 0
              simp only [List.getElem?_toArray, List.getElem?_cons_zero] at hc3
              have hroad : Ints X.world (some ⟨g4, 0, none⟩) (bodyOf l).road := ints_nil (by simp [bodyOf]; omega)
              have hg4ne : v.ownBlock ≠ some g4 := fun e => by
                have := (HBO.out.lt_own e); omega
              have hpush := bodies_pushed (B := bodyOf l) (g := g4) (o := 0) (c := 0) hown hne hxs ((Ext.refl X.world).alloc (.cells #[.int .i64 (rd l 0), .int .i64 (rd l 1), .int .i64 (rd l 2), .slice (some ⟨g4, 0, none⟩) (l.length - 3) 0] 80)) hgrow hat (by omega) (by simpa [bodyOf, rd] using hown5) hroad (by omega) hg4ne (by omega) (by omega)
              have hbox5 : Row w5 w2.heap.size 28 #[v, .int .i64 0, .int .i64 0, .int .i64 0] := (hgrow.block _ (by simp; omega) (fun e => hne e.symm)).trans hbx
              have hEX5 : Ext wr (w5.setCell ⟨w2.heap.size, 0, none⟩ (.slice (some ⟨gg, 0, none⟩) (bl.length + 1) cap)) → True := fun _ => trivial
              have hE5 : Ext w2 w5 := ((HX4.out.trans X.ext).alloc _).grown hgrow (fun q hq => (hown2.lt q hq).1)
              have HP := Lib.hid hpush
              have HB5 := Lib.hid hbox5
              have HE5 := Lib.hid hE5
              clear hpush hbox5 hE5 hown hxs hown2 hown5 hgrow hbx hroad hEX5
              go_wp2
              refine NoPanic.normal ?_
              go_wp2_with fail
              go_roundw
              case measure => have := HLT.out; simp [intOf]; omega
              case rel =>
                refine ⟨k + 1, r ++ [l], _, by have := HLT.out; rw [HSL.out]; omega, by go_num, HNN.out, by rw [List.length_append, HRL.out]; rfl, by simpa using HB5.out.set_ 0 _, ?_, HE5.out.setCell (by simp) _⟩
                rw [List.map_append, HBL.out]
                exact HP.out.far 0 _
            · refine wp_region_later_mix2 (v0 := .pointer (some ⟨w2.heap.size, 0, none⟩)) (v1 := v) 15 (by kernel_rfl) (by kernel_rfl) rfl rfl rfl (by kernel_rfl) (by kernel_rfl) (fun X => ?_) (fun X => ?_) (fun WW hW => ?_)
              · simp [go_sem]
              · have c2 := (HBOX4.out.ext X.ext).cell 0
                simp only [List.getElem?_toArray, List.getElem?_cons_zero] at c2
                simp [go_sem, c2]
              have q0 := Ext.later (w := WW) (by rw [hW]; exact d0)
              have q1 := Ext.later (w := WW) (by rw [hW]; exact d1)
              have q2 := Ext.later (w := WW) (by rw [hW]; exact d2)
              simp only [List.take_succ_cons, List.take_zero, List.drop_succ_cons, List.drop_zero, Act.put, List.setIfInBounds_toArray, List.set_cons_succ, List.set_cons_zero]
              repeat (go_big_quiet_step (fail))
              refine wpQuiet_nil ?_
              intro X
              clear q0 q1 q2
              subst hW
              go_wp2
              refine ⟨⟨⟨_, X.ext.alloc _⟩, rfl⟩, ?_⟩
              obtain ⟨xs, hown, hne, hxs⟩ := HBO5.out.ext X.ext
              have hown2 := hown.alloc (.cells #[.int .i64 (rd l 0), .int .i64 (rd l 1), .int .i64 (rd l 2), .slice (some ⟨g4, 3, none⟩) (l.length - 3) (cap4 - 3)] 80)
              have hszX4 := X.ext.size
              refine wpList_append_lies _ rfl _ _ _ rfl w2.heap.size 80 i0 _ 4 48 Tryz.underlying22 hi0 hz0 hz1 hz2 rfl (by omega) v bl.length xs rfl hown2
                ⟨X.world.heap.size, 0, none⟩ 1 1 [.int .i64 (rd l 0), .int .i64 (rd l 1), .int .i64 (rd l 2), .slice (some ⟨g4, 3, none⟩) (l.length - 3) (cap4 - 3)] rfl rfl (World.news_of_block (cs := #[.int .i64 (rd l 0), .int .i64 (rd l 1), .int .i64 (rd l 2), .slice (some ⟨g4, 3, none⟩) (l.length - 3) (cap4 - 3)]) (t := 80) (fr := (0, 0)) (heap_alloc_new _ _)) (by simp [Value.oneCell'])
                (by omega) (by simp only [maxLen]; omega) (by omega) (by simp; omega) _ rfl ?_
              intro gg cap w5 hown5 hgrow hat hltg
              have hbx := (HBOX4.out.ext X.ext).alloc (.cells #[.int .i64 (rd l 0), .int .i64 (rd l 1), .int .i64 (rd l 2), .slice (some ⟨g4, 3, none⟩) (l.length - 3) (cap4 - 3)] 80)
              have hc3 := grown_cell hgrow hbx hne 0
              have hf3 := grown_free hgrow hbx hne 0
              simp only [List.getElem?_toArray, List.getElem?_cons_zero] at hc3
              have hroad : Ints X.world (some ⟨g4, 3, none⟩) (bodyOf l).road := ints_drop HI4.out X.ext hl3d
              have hg4ne : v.ownBlock ≠ some g4 := fun e => by
                have := (HBO.out.lt_own e); omega
              have hpush := bodies_pushed (B := bodyOf l) (g := g4) (o := 3) (c := cap4 - 3) hown hne hxs ((Ext.refl X.world).alloc (.cells #[.int .i64 (rd l 0), .int .i64 (rd l 1), .int .i64 (rd l 2), .slice (some ⟨g4, 3, none⟩) (l.length - 3) (cap4 - 3)] 80)) hgrow hat (by omega) (by simpa [bodyOf, rd] using hown5) hroad (by omega) hg4ne (by omega) (by omega)
              have hbox5 : Row w5 w2.heap.size 28 #[v, .int .i64 0, .int .i64 0, .int .i64 0] := (hgrow.block _ (by simp; omega) (fun e => hne e.symm)).trans hbx
              have hEX5 : Ext wr (w5.setCell ⟨w2.heap.size, 0, none⟩ (.slice (some ⟨gg, 0, none⟩) (bl.length + 1) cap)) → True := fun _ => trivial
              have hE5 : Ext w2 w5 := ((HX4.out.trans X.ext).alloc _).grown hgrow (fun q hq => (hown2.lt q hq).1)
              have HP := Lib.hid hpush
              have HB5 := Lib.hid hbox5
              have HE5 := Lib.hid hE5
              clear hpush hbox5 hE5 hown hxs hown2 hown5 hgrow hbx hroad hEX5
              go_wp2
              refine NoPanic.normal ?_
              go_wp2_with fail
              go_roundw
              case measure => have := HLT.out; simp [intOf]; omega
              case rel =>
                refine ⟨k + 1, r ++ [l], _, by have := HLT.out; rw [HSL.out]; omega, by go_num, HNN.out, by rw [List.length_append, HRL.out]; rfl, by simpa using HB5.out.set_ 0 _, ?_, HE5.out.setCell (by simp) _⟩
                rw [List.map_append, HBL.out]
                exact HP.out.far 0 _
          · have HNO : Hid (parseP x = none) := Lib.hid (by
              rw [HAT.out, mapM_none_at (d := []) k (by rw [HSL.out]; exact HLT.out) (by rw [HY.out]; exact hno)]; rfl)
            exact ⟨rfl, HE2.out.trans (HX.out.trans hE4), .inr ⟨HNO.out, _, rfl⟩⟩
        · obtain rfl : k = N := by omega
          have hfull : (S.take k).mapM (numsP wBody 3) = S.mapM (numsP wBody 3) := by rw [List.take_of_length_le (by have := HSL.out; omega)]
          rw [hfull] at hmap
          have hat := HAT.out
          rw [hmap] at hat
          simp only [Option.bind_some] at hat
          have HAT2 := Lib.hid hat
          have HMAP := Lib.hid hmap
          have HX := Lib.hid hX
          have HBOX := Lib.hid hbox
          have HBO := Lib.hid hbo
          have HRL := Lib.hid hrl
          have hk1 : k + 1 < L.length := by have := HLN.out; omega
          have hc1 : wr.cell? ⟨w.heap.size + 1, k + 1, none⟩ = some (.string (bs (L.getD (k + 1) []))) := by
            have := (HR2.out.ext hX).cell (k + 1)
            rw [this]
            simp [strCells1, hk1]
          have hyl := HSUB.out (L.getD (k + 1) []) (by rw [List.getD_eq_getElem?_getD, List.getElem?_eq_getElem hk1]; exact List.getElem_mem hk1)
          have hk1' : (k : Int) + 1 < (L.length : Int) := by omega
          have HHL : Hid (∀ z ∈ S, z.length ≤ 1000) := Lib.hid (fun z hz => by
            obtain ⟨j, hj, rfl⟩ := List.mem_iff_getElem.1 hz
            have hjN : j < k := by have := HSL.out; omega
            have e := HSAT.out j hjN
            rw [List.getD_eq_getElem?_getD, List.getElem?_eq_getElem hj] at e
            simp only [Option.getD_some] at e
            rw [e]
            have hh : 1 + j < L.length := by omega
            have := HSUB.out (L.getD (1 + j) []) (by rw [List.getD_eq_getElem?_getD, List.getElem?_eq_getElem hh]; exact List.getElem_mem hh)
            omega)
          obtain ⟨z, hz⟩ : ∃ z, L.getD (k + 1) [] = z := ⟨_, rfl⟩
          rw [hz] at hc1 hyl
          have hat := HAT2.out
          rw [hz] at hat
          replace HAT2 := Lib.hid hat
          clear hat hmap hX hbox hbo hrl hlt hk hfull hz hk1
          go_wp2_with fail
          refine (numbers_any wNode 3 z wr (HV.out.ext (HE2.out.trans HX.out)) (by omega) (by omega) (by omega)).mono ?_
          rintro e w4 ⟨hE4, ⟨y, g5, cap5, hy, rfl, hcap5, hg5, hI5⟩ | ⟨hno, z', rfl⟩⟩
          · obtain ⟨_, hy3, _⟩ := numsP_some hy
            rw [hy] at HAT2
            have hat := HAT2.out
            simp only [Option.bind_some] at hat
            have HAT3 := Lib.hid hat
            have HST := Lib.hid (skyText_of r y S z (by have := HSL.out; omega) HHL.out HMAP.out hy)
            have HBOX4 := Lib.hid (HBOX.out.ext hE4)
            have HBO4 := Lib.hid (HBO.out.ext hE4)
            have HX4 := Lib.hid (HX.out.trans hE4)
            have hsz4 := hE4.size
            have hcells : ∀ j, j < y.length → w4.cell? ⟨g5, j, none⟩ = some (.int .i64 (rd y j)) := fun j hj => by
              obtain ⟨b, o, hb, hc⟩ := hI5 (by omega)
              injection hb with hb
              injection hb with e1 e2
              subst e1 e2
              have := hc j hj
              rwa [Nat.zero_add] at this
            have d0 := hcells 0 (by omega)
            have d1 := hcells 1 (by omega)
            have d2 := hcells 2 (by omega)
            have hl3' : (2 : Int) < (y.length : Int) := by omega
            have hl3a : (0 : Int) < (y.length : Int) := by omega
            have hl3b : (1 : Int) < (y.length : Int) := by omega
            have hSky : skyOf r y = ⟨r.map bodyOf, rd y 0, rd y 1, rd y 2⟩ := rfl
            have HSKY := Lib.hid hSky
            obtain ⟨y0, hy0⟩ : ∃ y0, rd y 0 = y0 := ⟨_, rfl⟩
            obtain ⟨y1, hy1⟩ : ∃ y1, rd y 1 = y1 := ⟨_, rfl⟩
            obtain ⟨y2, hy2⟩ : ∃ y2, rd y 2 = y2 := ⟨_, rfl⟩
            rw [hy0] at d0 HSKY
            rw [hy1] at d1 HSKY
            rw [hy2] at d2 HSKY
            clear hE4 hI5 hcells hy hc1 hat HAT2 hSky hy0 hy1 hy2
            go_wp2_with fail
            refine wp_region_later_tail 11 (by kernel_rfl) (by kernel_rfl) (fun WW hW => ?_)
            have q0 := Ext.later (w := WW) (by rw [hW]; exact d0)
            have q1 := Ext.later (w := WW) (by rw [hW]; exact d1)
            have q2 := Ext.later (w := WW) (by rw [hW]; exact d2)
            simp only [List.take_succ_cons, List.take_zero, List.drop_succ_cons, List.drop_zero]
            repeat (go_big_quiet_step (fail))
            refine wpQuiet_nil ?_
            rintro ⟨W5, hE5⟩
            clear q0 q1 q2 d0 d1 d2
            subst hW
            have HBOX5 := Lib.hid (HBOX4.out.ext hE5)
            have HBO5 := Lib.hid (HBO4.out.ext hE5)
            have HX5 := Lib.hid (HX4.out.trans hE5)
            have HRES5 := Lib.hid (HRES2.out.ext HX5.out)
            have b1 : W5.cell? ⟨w2.heap.size, 1, none⟩ = some (.int .i64 0) := HBOX5.out.cell 1
            have b2 : W5.cell? ⟨w2.heap.size, 2, none⟩ = some (.int .i64 0) := HBOX5.out.cell 2
            have b3 : W5.cell? ⟨w2.heap.size, 3, none⟩ = some (.int .i64 0) := HBOX5.out.cell 3
            have e1 := HBOX5.out.free 1
            have e2 := HBOX5.out.free 2
            have e3 := HBOX5.out.free 3
            obtain ⟨A6, c6, rfl, _, _⟩ := HBO5.out.bodies
            have HBOX6 := Lib.hid (((HBOX5.out.set_ 1 (.int .i64 y0)).set_ 2 (.int .i64 y1)).set_ 3 (.int .i64 y2))
            have HBO6 := Lib.hid (((HBO5.out.far 1 (.int .i64 y0)).far 2 (.int .i64 y1)).far 3 (.int .i64 y2))
            have HX6 := Lib.hid (((HX5.out.setCell (p := ⟨w2.heap.size, 1, none⟩) (Nat.le_refl _) (.int .i64 y0)).setCell (p := ⟨w2.heap.size, 2, none⟩) (Nat.le_refl _) (.int .i64 y1)).setCell (p := ⟨w2.heap.size, 3, none⟩) (Nat.le_refl _) (.int .i64 y2))
            have b0 := HBOX5.out.cell 0
            simp only [List.getElem?_toArray, List.getElem?_cons_zero] at b0
            go_wp2_with fail
            generalize ((W5.setCell ⟨w2.heap.size, 1, none⟩ (.int .i64 y0)).setCell ⟨w2.heap.size, 2, none⟩ (.int .i64 y1)).setCell ⟨w2.heap.size, 3, none⟩ (.int .i64 y2) = W6 at HBOX6 HBO6 HX6 ⊢
            obtain ⟨A7, c7, hA7, hB7, hR7⟩ := HBO6.out.bodies
            obtain ⟨rfl, rfl⟩ : A6 = A7 ∧ c6 = c7 := by
              injection hA7 with e1 e2 e3
              exact ⟨e1, e3⟩
            have hsb : (skyOf r y).bodies = r.map bodyOf := by rw [HSKY.out]
            have ht := text_any (skyOf r y) A6 c6 W6 (HV.out.ext (HE2.out.trans HX6.out)) (by rw [hsb]; exact hB7) (by rw [hsb]; exact hR7) HST.out
            have hsl : (skyOf r y).bodies.length = r.length := by rw [hsb, List.length_map]
            have hs0 : (skyOf r y).nnum = y0 := by rw [HSKY.out]
            have hs1 : (skyOf r y).nden = y1 := by rw [HSKY.out]
            have hs2 : (skyOf r y).nstart = y2 := by rw [HSKY.out]
            rw [hsl, hs0, hs1, hs2] at ht
            have HFIN : Hid ((skyOf r y).bodies = r.map bodyOf ∧ (skyOf r y).bodies.length = r.length ∧ (skyOf r y).nnum = y0 ∧ (skyOf r y).nden = y1 ∧ (skyOf r y).nstart = y2) := Lib.hid ⟨hsb, hsl, hs0, hs1, hs2⟩
            clear hsb hsl hs0 hs1 hs2 hA7 hB7 hR7 b0 b1 b2 b3 e1 e2 e3
            refine ht.mono ?_
            rintro e W7 ⟨rfl, hE7⟩
            obtain ⟨s, hs⟩ : ∃ s, skyOf r y = s := ⟨_, rfl⟩
            rw [hs] at HFIN HAT3 HST ⊢
            clear ht HSKY hs
            have HBOX7 := Lib.hid (HBOX6.out.ext hE7)
            have HBO7 := Lib.hid (HBO6.out.ext hE7)
            have HX7 := Lib.hid (HX6.out.trans hE7)
            clear hE7
            by_cases htx : textL s = x
            · have hq : ((bs (textL s)).toList == (bs x).toList) = true := by rw [htx]; simp
              have HYES : Hid (parseP x = some s) := Lib.hid (by rw [HAT3.out, if_pos htx])
              have HRES7 := Lib.hid (HRES2.out.ext HX7.out)
              have r0 : W7.cell? ⟨w.heap.size, 0, none⟩ = some (.slice none 0 0) := HRES7.out.cell 0
              have r1 : W7.cell? ⟨w.heap.size, 1, none⟩ = some (.int .i64 0) := HRES7.out.cell 1
              have r2 : W7.cell? ⟨w.heap.size, 2, none⟩ = some (.int .i64 0) := HRES7.out.cell 2
              have r3 : W7.cell? ⟨w.heap.size, 3, none⟩ = some (.int .i64 0) := HRES7.out.cell 3
              have f0 := HRES7.out.free 0
              have f1 := HRES7.out.free 1
              have f2 := HRES7.out.free 2
              have f3 := HRES7.out.free 3
              have o0 : W7.cell? ⟨w2.heap.size, 0, none⟩ = some (.slice A6 r.length c6) := (HBOX7.out.cell 0).trans (by simp)
              have o1 : W7.cell? ⟨w2.heap.size, 1, none⟩ = some (.int .i64 y0) := (HBOX7.out.cell 1).trans (by simp)
              have o2 : W7.cell? ⟨w2.heap.size, 2, none⟩ = some (.int .i64 y1) := (HBOX7.out.cell 2).trans (by simp)
              have o3 : W7.cell? ⟨w2.heap.size, 3, none⟩ = some (.int .i64 y2) := (HBOX7.out.cell 3).trans (by simp)
              have hzz : w.heap.size < w2.heap.size := HRES2.out.lt
              clear htx
              go_wp2_with fail
              refine (sure_ok _ _).mono ?_
              rintro e W8 ⟨rfl, rfl⟩
              go_wp2_with fail
              refine bodyPost_ret (results_cell_row rfl _ _ w.heap.size 28 _ (0, 0) _ rfl ((((HRES7.out.set_ 0 (.slice A6 r.length c6)).set_ 1 (.int .i64 y0)).set_ 2 (.int .i64 y1)).set_ 3 (.int .i64 y2)) Tryz.underlying28 rfl (by kernel_rfl)) rfl ?_
              have hfin := (((HBO7.out.below (p := ⟨w.heap.size, 0, none⟩) hzz (.slice A6 r.length c6)).below (p := ⟨w.heap.size, 1, none⟩) hzz (.int .i64 y0)).below (p := ⟨w.heap.size, 2, none⟩) hzz (.int .i64 y1)).below (p := ⟨w.heap.size, 3, none⟩) hzz (.int .i64 y2)
              obtain ⟨g1, g2, g3, g4', g5'⟩ := HFIN.out
              refine ⟨((((HE2.out.trans HX7.out).setCell (Nat.le_refl _) _).setCell (Nat.le_refl _) _).setCell (Nat.le_refl _) _).setCell (Nat.le_refl _) _, .inl ⟨s, A6, c6, _, _, HYES.out, HST.out, ?_, Nat.le_of_lt hzz, by rw [g1]; exact hfin⟩⟩
              rw [g2, g3, g4', g5']
              rfl
            · have hq : ((bs (textL s)).toList == (bs x).toList) = false := by rw [toList_bs, toList_bs]; simpa using htx
              have HNO : Hid (parseP x = none) := Lib.hid (by rw [HAT3.out, if_neg htx])
              clear htx
              go_wp2_with fail
              refine (sure_no _ _).mono ?_
              rintro e W8 ⟨rfl, rfl⟩
              exact ⟨rfl, HE2.out.trans HX7.out, .inr ⟨HNO.out, _, rfl⟩⟩
          · have HNO : Hid (parseP x = none) := Lib.hid (by rw [HAT2.out, hno]; rfl)
            exact ⟨rfl, HE2.out.trans (HX.out.trans hE4), .inr ⟨HNO.out, _, rfl⟩⟩
    · have HNO : Hid (parseP x = none) := Lib.hid (parse_no2 HNS.out (by rw [← HRD.out, HLQ.out]; exact hc))
      by_cases hc1 : 0 ≤ n
      · have hc2 : ((L.length : Int) == n + 4) = false := by
          rw [beq_eq_false_iff_ne]; exact fun e => hc ⟨hc1, e⟩
        have hc3 : ¬ ((L.length : Int) = n + 4) := fun e => hc ⟨hc1, e⟩
        clear hc
        go_wp2_with fail
        refine (sure_no _ _).mono ?_
        rintro e w3 ⟨rfl, rfl⟩
        exact ⟨rfl, HE2.out, .inr ⟨HNO.out, _, rfl⟩⟩
      · have hc2 : n < 0 := by omega
        clear hc
        go_wp2_with fail
        refine (sure_no _ _).mono ?_
        rintro e w3 ⟨rfl, rfl⟩
        exact ⟨rfl, HE2.out, .inr ⟨HNO.out, _, rfl⟩⟩
  · have HNO : Hid (parseP x = none) := Lib.hid (parse_no1 (by rw [HLQ.out]; exact hno))
    exact ⟨rfl, HE1.out.trans hE2, .inr ⟨HNO.out, _, rfl⟩⟩
end Go.Proofs.YtlcddcnmoajpjaaGreatDoor

namespace Go.Proofs.YtlcddcnmoajpjaaGreatDoor
open Go.RowKit
open Sp (rd)

def zeroSky : Array Value := #[.slice none 0 0, .int .i64 0, .int .i64 0, .int .i64 0]
theorem ta_none (s : ByteArray) (w : World) : (Instr.typeAssert (.iface 137 (.agg #[.string s])) 20 137 true).run Tryz.prog w = .ok (.tuple #[.agg #[.string s], .bool true]) w := by kernel_rfl

theorem catch_none (p q : Nat) (hpq : p ≠ q) (x : Value) (s : ByteArray) (older : List PanicEntry) (w : World) (hr : Row w p 28 zeroSky) (he : Row w q 32 #[x]) :
    CallsD Tryz.prog 120 #[.pointer (some ⟨p, 0, none⟩), .pointer (some ⟨q, 0, none⟩)] (.panicking ({ v := .iface 137 (.agg #[.string s]), recovered := false } :: older)) w fun e u' w' =>
      e = .returned (.tuple #[]) ∧ u' = .panicking ({ v := .iface 137 (.agg #[.string s]), recovered := true } :: older) ∧ Row w' p 28 zeroSky ∧ Row w' q 32 #[.int .i64 4] ∧ ∀ w0, Ext w0 w → w0.heap.size ≤ p → w0.heap.size ≤ q → Ext w0 w' := by
  refine callsD_of_wpS Tryz.func120 rfl fun c₀ cs' hu => ?_
  have hc : ∀ i, w.cell? ⟨p, i, none⟩ = (#[.slice none 0 0, .int .i64 0, .int .i64 0, .int .i64 0] : Array Value)[i]? := hr.cell
  have hf := hr.free
  have hc2 := he.cell
  have hf2 := he.free
  have j0 := lts hr.lt
  have j1 := lts he.lt
  have hT := ta_none s
  have heq : ∀ w, (binOp .eql 20 (.iface 137 (.agg #[.string s])) .nilIface).run Tryz.prog w = .ok (.bool false) w := fun _ => by kernel_rfl
  simp only [Tryz.ntmps120, List.size_toArray, List.length_cons, List.length_nil, Nat.reduceAdd, Nat.reduceSub, Array.replicate_succ, Array.replicate_zero, List.push_toArray, List.append_toArray, List.nil_append, List.cons_append]
  apply wpS_seq
  apply wpS_region
  simp [wpOpsS, go_sem, recoverD, hu, Exit.thenS]
  refine wpS_of_wp ?_
  generalize hQ : (fun (e : Exit) (a' : Act) (w' : World) => bodyPostS Tryz.prog Tryz.f120 c₀ cs' _ e a' _ w') = Q
  go_wp2
  subst hQ
  have h1 : Row (((((w.setCell ⟨p, 0, none⟩ (.slice none 0 0)).setCell ⟨p, 1, none⟩ (.int .i64 0)).setCell ⟨p, 2, none⟩ (.int .i64 0)).setCell ⟨p, 3, none⟩ (.int .i64 0)).setCell ⟨q, 0, none⟩ (.int .i64 4)) p 28 zeroSky :=
    ((((hr.set_ 0 (.slice none 0 0)).set_ 1 (.int .i64 0)).set_ 2 (.int .i64 0)).set_ 3 (.int .i64 0)).far hpq _
  have h2 : Row (((((w.setCell ⟨p, 0, none⟩ (.slice none 0 0)).setCell ⟨p, 1, none⟩ (.int .i64 0)).setCell ⟨p, 2, none⟩ (.int .i64 0)).setCell ⟨p, 3, none⟩ (.int .i64 0)).setCell ⟨q, 0, none⟩ (.int .i64 4)) q 32 #[.int .i64 4] :=
    ((((he.far (p := ⟨p, 0, none⟩) hpq.symm (.slice none 0 0)).far (p := ⟨p, 1, none⟩) hpq.symm (.int .i64 0)).far (p := ⟨p, 2, none⟩) hpq.symm (.int .i64 0)).far (p := ⟨p, 3, none⟩) hpq.symm (.int .i64 0)).set_ 0 (.int .i64 4)
  have h3 : ∀ w0, Ext w0 w → w0.heap.size ≤ p → w0.heap.size ≤ q → Ext w0 ((((((w.setCell ⟨p, 0, none⟩ (.slice none 0 0)).setCell ⟨p, 1, none⟩ (.int .i64 0)).setCell ⟨p, 2, none⟩ (.int .i64 0)).setCell ⟨p, 3, none⟩ (.int .i64 0)).setCell ⟨q, 0, none⟩ (.int .i64 4)).alloc (.cells #[.string s] 137)) :=
    fun w0 h a b => (((((h.setCell a _).setCell a _).setCell a _).setCell a _).setCell b _).alloc _
  have h1' := h1.alloc (.cells #[.string s] 137)
  have h2' := h2.alloc (.cells #[.string s] 137)
  clear hc hf hc2 hf2 hr he
  simp [bodyPostS, results, Tryz.results120]
  exact ⟨h1', h2', h3⟩

theorem catch_idle2 (p q : Value) (w : World) :
    CallsD Tryz.prog 120 #[p, q] .returning w fun e u' w' => e = .returned (.tuple #[]) ∧ u' = .returning ∧ w' = w := by
  refine callsD_of_wpS Tryz.func120 rfl fun c₀ cs hu => ?_
  have he : ∀ w, (binOp .eql 20 .nilIface .nilIface).run Tryz.prog w = .ok (.bool true) w := fun _ => by kernel_rfl
  simp only [Tryz.ntmps120, List.size_toArray, List.length_cons, List.length_nil, Nat.reduceAdd, Nat.reduceSub, Array.replicate_succ, Array.replicate_zero, List.push_toArray, List.append_toArray, List.nil_append, List.cons_append]
  apply wpS_seq
  apply wpS_region
  simp [wpOpsS, go_sem, recoverD, hu, Exit.thenS]
  refine wpS_of_wp ?_
  generalize hQ : (fun (e : Exit) (a' : Act) (w' : World) => bodyPostS Tryz.prog Tryz.f120 c₀ cs _ e a' _ w') = Q
  go_wp2
  subst hQ
  cases c₀
  simp_all [bodyPostS, results, Tryz.results120]
theorem read_results (tmps : Array Value) (W : World) (p q : Nat) (x0 x1 x2 x3 : Value) (code : Int) (h2 : tmps.getD 2 undef = .pointer (some ⟨p, 0, none⟩)) (h3 : tmps.getD 3 undef = .pointer (some ⟨q, 0, none⟩)) (hr : Row W p 28 #[x0, x1, x2, x3])
    (he : Row W q 32 #[.int .i64 code]) : (results Tryz.f60 tmps).run Tryz.prog W = .ok (.tuple #[.agg #[x0, x1, x2, x3], .int .i64 code]) W := by
  have h2' : tmps[2]?.getD undef = .pointer (some ⟨p, 0, none⟩) := by simpa using h2
  have h3' : tmps[3]?.getD undef = .pointer (some ⟨q, 0, none⟩) := by simpa using h3
  have c0 : W.cell? ⟨q, 0, none⟩ = some (.int .i64 code) := he.cell 0
  have r0 : W.cell? ⟨p, 0, none⟩ = some x0 := hr.cell 0
  have r1 : W.cell? ⟨p, 1, none⟩ = some x1 := hr.cell 1
  have r2 : W.cell? ⟨p, 2, none⟩ = some x2 := hr.cell 2
  have r3 : W.cell? ⟨p, 3, none⟩ = some x3 := hr.cell 3
  simp [results, Tryz.results60, h2', h3', asAddr, go_sem, c0, r0, r1, r2, r3]
/-- What Read returns. -/
def ReadPost (w : World) (x : Bs) (e : Ending) (w' : World) : Prop := Ext w w' ∧
  ((∃ code : Int, (code = if 400 < x.length then 3 else match parseP x with | none => 4 | some s => if Sp.skyOk s then 0 else 2) ∧ code ≠ 0 ∧ e = .returned (.tuple #[.agg zeroSky, .int .i64 code])) ∨
   (∃ s A c, x.length ≤ 400 ∧ parseP x = some s ∧ Sp.skyOk s = true ∧ e = .returned (.tuple #[.agg #[.slice A s.bodies.length c, .int .i64 s.nnum, .int .i64 s.nden, .int .i64 s.nstart], .int .i64 0]) ∧ Bodies w' A s.bodies))

set_option maxRecDepth 100000 in
set_option maxHeartbeats 1000000 in
theorem Read_any (x : Bs) (w : World) (hV : Env w) (hx : x.length ≤ 100000) : Calls Tryz.prog 60 #[.string (bs x)] w (ReadPost w x) := by
  have HV := Lib.hid hV
  have hsx := bs_size x
  have hmf : ∀ (fn : Fn) (first cap : Array Value) (w : World), (Instr.makeFunc fn first cap).run Tryz.prog w = .ok (.func fn first cap) w := fun _ _ _ _ => rfl
  clear hV
  have hE0 : Ext w ((w.alloc (.cells #[.slice none 0 0, .int .i64 0, .int .i64 0, .int .i64 0] 28)).alloc (.cells #[.int .i64 0] 32)) := ((Ext.refl w).alloc _).alloc _
  have rO : Row ((w.alloc (.cells #[.slice none 0 0, .int .i64 0, .int .i64 0, .int .i64 0] 28)).alloc (.cells #[.int .i64 0] 32)) w.heap.size 28 zeroSky := (blocks2 w _ _).1
  have rE : Row ((w.alloc (.cells #[.slice none 0 0, .int .i64 0, .int .i64 0, .int .i64 0] 28)).alloc (.cells #[.int .i64 0] 32)) (w.heap.size + 1) 32 #[.int .i64 0] := (blocks2 w _ _).2
  have HE0 := Lib.hid hE0
  have HRO := Lib.hid rO
  have HRE := Lib.hid rE
  clear hE0 rO rE
  by_cases hlen : 400 < x.length
  · have hlen' : (400 : Int) < (x.length : Int) := by omega
    have HL := Lib.hid hlen
    clear hlen
    go_enter_defers Tryz.func60, Tryz.ntmps60
    go_wp2
    simp [bodyPostD, Leaves, results, Tryz.results60, go_sem]
    exact ⟨((Ext.refl w).alloc _).alloc _, .inl ⟨3, by rw [if_pos HL.out], by decide, rfl⟩⟩
  · have hlen' : ¬ ((400 : Int) < (x.length : Int)) := by omega
    have HL := Lib.hid hlen
    have hx9 : x.length ≤ 900 := by omega
    clear hlen
    go_enter_defers Tryz.func60, Tryz.ntmps60
    go_wp2_with fail
    refine (parsed_any x _ (HV.out.ext HE0.out) hx9).mono ?_
    rintro e W1 ⟨hE1, ⟨s, A, c, base, bO, hps, hst, rfl, hbase, hB⟩ | ⟨hno, z, rfl⟩⟩
    · have HO1 := Lib.hid (HRO.out.ext hE1)
      have HR1 := Lib.hid (HRE.out.ext hE1)
      have HE1 := Lib.hid (HE0.out.trans hE1)
      have hszE := hE1.size
      simp only [World.size_alloc] at hszE
      simp only [World.size_alloc] at hbase
      have HB := Lib.hid hB
      have hST := hst
      have HPS := Lib.hid hps
      have r0 : W1.cell? ⟨w.heap.size, 0, none⟩ = some (.slice none 0 0) := HO1.out.cell 0
      have r1 : W1.cell? ⟨w.heap.size, 1, none⟩ = some (.int .i64 0) := HO1.out.cell 1
      have r2 : W1.cell? ⟨w.heap.size, 2, none⟩ = some (.int .i64 0) := HO1.out.cell 2
      have r3 : W1.cell? ⟨w.heap.size, 3, none⟩ = some (.int .i64 0) := HO1.out.cell 3
      have f0 := HO1.out.free 0
      have f1 := HO1.out.free 1
      have f2 := HO1.out.free 2
      have f3 := HO1.out.free 3
      have hbl : w.heap.size < base := by omega
      have HO2 := Lib.hid ((((HO1.out.set_ 0 (.slice A s.bodies.length c)).set_ 1 (.int .i64 s.nnum)).set_ 2 (.int .i64 s.nden)).set_ 3 (.int .i64 s.nstart))
      have HR2 := Lib.hid ((((HR1.out.far (p := ⟨w.heap.size, 0, none⟩) (by simp) (.slice A s.bodies.length c)).far (p := ⟨w.heap.size, 1, none⟩) (by simp) (.int .i64 s.nnum)).far (p := ⟨w.heap.size, 2, none⟩) (by simp) (.int .i64 s.nden)).far (p := ⟨w.heap.size, 3, none⟩) (by simp) (.int .i64 s.nstart))
      have HE2 := Lib.hid ((((HE1.out.setCell (p := ⟨w.heap.size, 0, none⟩) (Nat.le_refl _) (.slice A s.bodies.length c)).setCell (p := ⟨w.heap.size, 1, none⟩) (Nat.le_refl _) (.int .i64 s.nnum)).setCell (p := ⟨w.heap.size, 2, none⟩) (Nat.le_refl _) (.int .i64 s.nden)).setCell (p := ⟨w.heap.size, 3, none⟩) (Nat.le_refl _) (.int .i64 s.nstart))
      have HB2 := Lib.hid ((((HB.out.below (p := ⟨w.heap.size, 0, none⟩) hbl (.slice A s.bodies.length c)).below (p := ⟨w.heap.size, 1, none⟩) hbl (.int .i64 s.nnum)).below (p := ⟨w.heap.size, 2, none⟩) hbl (.int .i64 s.nden)).below (p := ⟨w.heap.size, 3, none⟩) hbl (.int .i64 s.nstart))
      have HSH : Hid (Short s.bodies) := Lib.hid ⟨by have := hst.few; omega, fun k hk => by have := hst.roads _ (bd_mem hk); omega⟩
      clear hE1 hB hps hST hst
      go_wp2_with fail
      generalize (((W1.setCell ⟨w.heap.size, 0, none⟩ (.slice A s.bodies.length c)).setCell ⟨w.heap.size, 1, none⟩ (.int .i64 s.nnum)).setCell ⟨w.heap.size, 2, none⟩ (.int .i64 s.nden)).setCell ⟨w.heap.size, 3, none⟩ (.int .i64 s.nstart) = W2 at HO2 HR2 HE2 HB2 ⊢
      obtain ⟨A', c', hA, hB3, _⟩ := HB2.out.bodies
      obtain ⟨rfl, rfl⟩ : A = A' ∧ c = c' := by simpa using hA
      clear hA
      have HB3 := Lib.hid hB3
      clear hB3
      have hbl2 : w.heap.size + 1 < base := by omega
      cases hk : Sp.skyOk s
      · refine (isSky_any s A c W2 HB3.out HSH.out).mono ?_
        rintro e W3 ⟨rfl, hE3⟩
        rw [hk]
        have HO3 := Lib.hid (HO2.out.ext hE3)
        have HR3 := Lib.hid (HR2.out.ext hE3)
        have HE3 := Lib.hid (HE2.out.trans hE3)
        have HB4 := Lib.hid (HB2.out.ext hE3)
        clear hE3
        have q0 : W3.cell? ⟨w.heap.size, 0, none⟩ = some (.slice A s.bodies.length c) := HO3.out.cell 0
        have q1 : W3.cell? ⟨w.heap.size, 1, none⟩ = some (.int .i64 s.nnum) := HO3.out.cell 1
        have q2 : W3.cell? ⟨w.heap.size, 2, none⟩ = some (.int .i64 s.nden) := HO3.out.cell 2
        have q3 : W3.cell? ⟨w.heap.size, 3, none⟩ = some (.int .i64 s.nstart) := HO3.out.cell 3
        have g0 := HO3.out.free 0
        have g1 := HO3.out.free 1
        have g2 := HO3.out.free 2
        have g3 := HO3.out.free 3
        have e0 : W3.cell? ⟨w.heap.size + 1, 0, none⟩ = some (.int .i64 0) := HR3.out.cell 0
        have k0 := HR3.out.free 0
        have HO5 := Lib.hid (((((HO3.out.set_ 0 (.slice none 0 0)).set_ 1 (.int .i64 0)).set_ 2 (.int .i64 0)).set_ 3 (.int .i64 0)).far (p := ⟨w.heap.size + 1, 0, none⟩) (by simp) (.int .i64 2))
        have HR5 := Lib.hid (((((HR3.out.far (p := ⟨w.heap.size, 0, none⟩) (by simp) (.slice none 0 0)).far (p := ⟨w.heap.size, 1, none⟩) (by simp) (.int .i64 0)).far (p := ⟨w.heap.size, 2, none⟩) (by simp) (.int .i64 0)).far (p := ⟨w.heap.size, 3, none⟩) (by simp) (.int .i64 0)).set_ 0 (.int .i64 2))
        have HE5 := Lib.hid (((((HE3.out.setCell (p := ⟨w.heap.size, 0, none⟩) (Nat.le_refl _) (.slice none 0 0)).setCell (p := ⟨w.heap.size, 1, none⟩) (Nat.le_refl _) (.int .i64 0)).setCell (p := ⟨w.heap.size, 2, none⟩) (Nat.le_refl _) (.int .i64 0)).setCell (p := ⟨w.heap.size, 3, none⟩) (Nat.le_refl _) (.int .i64 0)).setCell (p := ⟨w.heap.size + 1, 0, none⟩) (Nat.le_succ _) (.int .i64 2))
        have HB5 := Lib.hid (((((HB4.out.below (p := ⟨w.heap.size, 0, none⟩) hbl (.slice none 0 0)).below (p := ⟨w.heap.size, 1, none⟩) hbl (.int .i64 0)).below (p := ⟨w.heap.size, 2, none⟩) hbl (.int .i64 0)).below (p := ⟨w.heap.size, 3, none⟩) hbl (.int .i64 0)).below (p := ⟨w.heap.size + 1, 0, none⟩) hbl2 (.int .i64 2))
        go_wp2_with fail
        refine leaves_cons (f := 120) (args := #[.pointer (some ⟨w.heap.size, 0, none⟩), .pointer (some ⟨w.heap.size + 1, 0, none⟩)]) (by simp) (by simp [go_sem]) ?_
        refine (catch_idle2 _ _ _).mono ?_
        rintro e u' w'' ⟨rfl, rfl, rfl⟩
        refine ⟨_, read_results _ _ w.heap.size (w.heap.size + 1) _ _ _ _ 2 rfl rfl HO5.out HR5.out, ?_⟩
        exact ⟨HE5.out, .inl ⟨2, by rw [if_neg HL.out, HPS.out]; simp [hk], by decide, rfl⟩⟩
      · refine (isSky_any s A c W2 HB3.out HSH.out).mono ?_
        rintro e W3 ⟨rfl, hE3⟩
        rw [hk]
        have HO3 := Lib.hid (HO2.out.ext hE3)
        have HR3 := Lib.hid (HR2.out.ext hE3)
        have HE3 := Lib.hid (HE2.out.trans hE3)
        have HB4 := Lib.hid (HB2.out.ext hE3)
        clear hE3
        have q0 : W3.cell? ⟨w.heap.size, 0, none⟩ = some (.slice A s.bodies.length c) := HO3.out.cell 0
        have q1 : W3.cell? ⟨w.heap.size, 1, none⟩ = some (.int .i64 s.nnum) := HO3.out.cell 1
        have q2 : W3.cell? ⟨w.heap.size, 2, none⟩ = some (.int .i64 s.nden) := HO3.out.cell 2
        have q3 : W3.cell? ⟨w.heap.size, 3, none⟩ = some (.int .i64 s.nstart) := HO3.out.cell 3
        have g0 := HO3.out.free 0
        have g1 := HO3.out.free 1
        have g2 := HO3.out.free 2
        have g3 := HO3.out.free 3
        have e0 : W3.cell? ⟨w.heap.size + 1, 0, none⟩ = some (.int .i64 0) := HR3.out.cell 0
        have k0 := HR3.out.free 0
        have HO5 := Lib.hid (((((HO3.out.set_ 0 (.slice A s.bodies.length c)).set_ 1 (.int .i64 s.nnum)).set_ 2 (.int .i64 s.nden)).set_ 3 (.int .i64 s.nstart)).far (p := ⟨w.heap.size + 1, 0, none⟩) (by simp) (.int .i64 0))
        have HR5 := Lib.hid (((((HR3.out.far (p := ⟨w.heap.size, 0, none⟩) (by simp) (.slice A s.bodies.length c)).far (p := ⟨w.heap.size, 1, none⟩) (by simp) (.int .i64 s.nnum)).far (p := ⟨w.heap.size, 2, none⟩) (by simp) (.int .i64 s.nden)).far (p := ⟨w.heap.size, 3, none⟩) (by simp) (.int .i64 s.nstart)).set_ 0 (.int .i64 0))
        have HE5 := Lib.hid (((((HE3.out.setCell (p := ⟨w.heap.size, 0, none⟩) (Nat.le_refl _) (.slice A s.bodies.length c)).setCell (p := ⟨w.heap.size, 1, none⟩) (Nat.le_refl _) (.int .i64 s.nnum)).setCell (p := ⟨w.heap.size, 2, none⟩) (Nat.le_refl _) (.int .i64 s.nden)).setCell (p := ⟨w.heap.size, 3, none⟩) (Nat.le_refl _) (.int .i64 s.nstart)).setCell (p := ⟨w.heap.size + 1, 0, none⟩) (Nat.le_succ _) (.int .i64 0))
        have HB5 := Lib.hid (((((HB4.out.below (p := ⟨w.heap.size, 0, none⟩) hbl (.slice A s.bodies.length c)).below (p := ⟨w.heap.size, 1, none⟩) hbl (.int .i64 s.nnum)).below (p := ⟨w.heap.size, 2, none⟩) hbl (.int .i64 s.nden)).below (p := ⟨w.heap.size, 3, none⟩) hbl (.int .i64 s.nstart)).below (p := ⟨w.heap.size + 1, 0, none⟩) hbl2 (.int .i64 0))
        go_wp2_with fail
        refine leaves_cons (f := 120) (args := #[.pointer (some ⟨w.heap.size, 0, none⟩), .pointer (some ⟨w.heap.size + 1, 0, none⟩)]) (by simp) (by simp [go_sem]) ?_
        refine (catch_idle2 _ _ _).mono ?_
        rintro e u' w'' ⟨rfl, rfl, rfl⟩
        refine ⟨_, read_results _ _ w.heap.size (w.heap.size + 1) _ _ _ _ 0 rfl rfl HO5.out HR5.out, ?_⟩
        obtain ⟨A2, c2, hA2, hB6, _⟩ := HB5.out.bodies
        obtain ⟨rfl, rfl⟩ : A = A2 ∧ c = c2 := by simpa using hA2
        exact ⟨HE5.out, .inr ⟨s, A, c, by have := HL.out; omega, HPS.out, hk, rfl, hB6⟩⟩
    · refine leaves_cons (f := 120) (args := #[.pointer (some ⟨w.heap.size, 0, none⟩), .pointer (some ⟨w.heap.size + 1, 0, none⟩)]) (by simp) (by simp [go_sem]) ?_
      refine (catch_none w.heap.size (w.heap.size + 1) (by omega) _ z [] W1 (HRO.out.ext hE1) (HRE.out.ext hE1)).mono ?_
      rintro e u' w' ⟨rfl, rfl, r1, r2, hEE⟩
      refine ⟨_, read_results _ w' w.heap.size (w.heap.size + 1) _ _ _ _ 4 rfl rfl r1 r2, ?_⟩
      exact ⟨hEE w (HE0.out.trans hE1) (Nat.le_refl _) (Nat.le_succ _), .inl ⟨4, by rw [if_neg HL.out, hno], by decide, rfl⟩⟩
end Go.Proofs.YtlcddcnmoajpjaaGreatDoor
