/- Volume 7 of the texts that the laws of this seat use: TpTrainOf TpRates TpIsPiece TpNearL TpNear TpFirstP: walks of the program's functions, and plain laws. -/
import Derived.Carry
import Derived.BigQuiet
import Derived.Test.YtimkmokomohgjaaGreatT02
import Derived.Test.YtimkmokomohgjaaGreatT03
import Derived.Test.YtimkmokomohgjaaGreatT04
import Derived.Test.YtimkmokomohgjaaGreatT06
namespace Go.Proofs.YtimkmokomohgjaaGreat
open Go.RowKit Go.Shelf
open Sp (rd)
attribute [local go_sem] Oper.semAt_some
set_option maxRecDepth 100000
set_option maxHeartbeats 4000000
set_option linter.unusedVariables false
set_option linter.unusedSimpArgs false
/-- An append, at the operation, inside of a fence. -/
theorem Tp.wpIn_append {F : Fence} {n9 : Nat} {P : Program} (w : World) (hF : ∀ f, F.fn f) {o : Oper} {a : Act} {K : Act → World → Prop} {Q : Exit → Act → World → Prop} (s x : Operand) (t : TypeId)
    (ho : o.op = .call { callee := .builtin .append, args := #[s, x], argTypes := #[t, t] })
    (base : Nat) (e : TypeId) (i : TypeInfo) (z : Value) (size bytes : Nat) (ht : P.underlying t = some (.slice e)) (hi : P.info? e = some i) (hz : i.zero = some z)
    (hsize : i.size = size) (hby : i.bytes = bytes) (hzs : z.cells.size = size) (hsz : 0 < size)
    (v : Value) (n : Nat) (xs : List Value) (hs : a.eval s = v) (hown : w.ownsRow base e size v n xs)
    (ad : Addr) (m c : Nat) (news : List Value) (hx : a.eval x = .slice (some ad) m c) (hl : news.length = m * size) (hnews : ∀ j u, news[j]? = some u → w.cell? (ad.add j) = some u) (h1 : ∀ u ∈ news, u.oneCell' = true)
    (hm : 0 < m) (h63 : n + m ≤ maxLen) (hbytes : (n + m) * bytes ≤ 140737488355328) (hbase : base ≤ w.heap.size) (H : Nat) (hH : w.heap.size = H)
    (h : ∀ g cap w', w'.ownsRow base e size (.slice (some ⟨g, 0, none⟩) (n + m) cap) (n + m) (xs ++ news) → w.grownBy w' v.ownBlock → (v.ownBlock = some g ∨ g = H) → g < w'.heap.size → K (a.put o.dst (.slice (some ⟨g, 0, none⟩) (n + m) cap)) w') : o.wpIn F n9 P a w K Q := by
  obtain ⟨g, cap, w', hr, h2, h3, h4, h5⟩ := run_append_lies (P := P) w t o.type base e i z size bytes ht hi hz hsize hby hzs hsz v n xs hown ad m c news hl hnews h1 hm h63 hbytes hbase H hH
  refine ⟨fun f _ => hF f, ?_⟩
  rw [Oper.semAt_eq _ _ _ (fun c e => by rw [ho] at e; cases e)]
  unfold execOp
  simp only [ho, resolve, invoke, builtin, Sem.run_bind, Sem.run_pure, Result.andThen_ok, List.map_toArray, List.map_cons, List.map_nil, hs, hx, hr]
  exact h g cap w' h2 h3 h4 h5
theorem Tp.KP.grown {n : Nat} {x y : TypeId} {A B C : World} {row : Option Nat} (h : Tp.KP n x y A B) (hn : n ≤ B.heap.size) (hg : B.grownBy C row) (hr : ∀ g, row = some g → n ≤ g ∧ ∃ cs fr, B.heap[g]? = some (.cells cs y fr)) : Tp.KP n x y A C :=
  ⟨h.1.grown hg hn (fun k e => (hr k e).1), fun g t cs h1 h2 hrow => Tp.row_grown (h.2 g t cs h1 h2 hrow) hg (fun g' e => (hr g' e).2) h2⟩
/-- The pair of a link. -/
def Tp.pr (links : List (Int × Ec.Pair)) (i : Nat) : Ec.Pair := (links.getD i (0, Ec.noPair)).2
/-- The train of an arbor. -/
def Tp.trainL (links : List (Int × Ec.Pair)) (a : Nat) : List Ec.Pair := (Tp.path (Tp.frm links) a).map (Tp.pr links)
/-- What trainOf's loop holds. -/
def Tp.TrI (links : List (Int × Ec.Pair)) (g : Nat) (W0 : World) (pre : List (Tp.Idx links.length)) (W : World) : Prop :=
  W0.grownBy W (some g) ∧ ∃ v, Row W g 78 #[v] ∧ W.ownsRow W0.heap.size 125 2 v pre.length (Tp.pc (pre.map fun x => Tp.pr links x.1))
theorem Tp.trI_own (links : List (Int × Ec.Pair)) (g : Nat) (W0 : World) : OwnFrom W0.heap.size (Tp.TrI links g W0) := fun _ _ _ _ hs hg hr => by
  obtain ⟨h1, v, h2, h3⟩ := hs
  exact ⟨Tp.grown_then h1 hg (fun r e => (hr r e).1), v, h2.kept hg (fun r e => (hr r e).2), ownsRow_of_block h3 fun k hk => hg.block k (h3.lt k hk).2 (own_ne_of_other h3 (fun r e => (hr r e).2) hk)⟩
theorem Tp.trI_ext {links : List (Int × Ec.Pair)} {g : Nat} {W0 : World} {s : List (Tp.Idx links.length)} {A B : World} (h : Tp.TrI links g W0 s A) (k : Ext A B) : Tp.TrI links g W0 s B :=
  let ⟨h1, v, h2, h3⟩ := h; ⟨Tp.grown_ext h1 k, v, h2.ext k, own_ext h3 k⟩
/-- One round: the link's pair is appended. -/
theorem Tp.trI_step {links : List (Int × Ec.Pair)} {g n0 : Nat} {W0 W Wa Wb : World} {pre : List (Tp.Idx links.length)} {v : Value} {gg cap : Nat} (hn : n0 ≤ g) (hg0 : g < W0.heap.size) (h1 : W0.grownBy W (some g)) (h2 : Row W g 78 #[v]) (h3 : W.ownsRow W0.heap.size 125 2 v pre.length (Tp.pc (pre.map fun x => Tp.pr links x.1))) (x : Tp.Idx links.length)
    (e1 : Ext W Wa) (hg : Wa.grownBy Wb v.ownBlock) (ho : Wb.ownsRow W0.heap.size 125 2 (.slice (some ⟨gg, 0, none⟩) (pre.length + 1) cap) (pre.length + 1) (Tp.pc (pre.map fun x => Tp.pr links x.1) ++ [.int .i64 (Tp.pr links x.1).drives, .int .i64 (Tp.pr links x.1).driven])) (B : Nat) :
    KeepsFrom B W (Wb.setCell ⟨g, 0, none⟩ (.slice (some ⟨gg, 0, none⟩) (pre.length + 1) cap)) ∧ Tp.KP n0 78 125 W (Wb.setCell ⟨g, 0, none⟩ (.slice (some ⟨gg, 0, none⟩) (pre.length + 1) cap)) ∧ Tp.TrI links g W0 (pre ++ [x]) (Wb.setCell ⟨g, 0, none⟩ (.slice (some ⟨gg, 0, none⟩) (pre.length + 1) cap)) := by
  have o1 := own_ext h3 e1
  have r1 := Tp.rowOf o1
  have rg := Tp.grown_far (h2.ext e1) hg (Tp.own_ne o1 hg0)
  have hz := h1.size
  have hz1 := e1.size
  have k1 : Tp.KP n0 78 125 W Wb := (Tp.KP.of_ext e1 (by omega)).grown (by omega) hg (fun k e => ⟨by have := (o1.lt k e).1; omega, r1 k e⟩)
  refine ⟨?_, k1.store rg hn 0 _, ⟨?_, .slice (some ⟨gg, 0, none⟩) (pre.length + 1) cap, ?_, ?_⟩⟩
  · have ko : KeepsOthers W Wa := ⟨hz1, fun k o hk _ => (e1.block k (Array.getElem?_eq_some_iff.1 hk).1).trans hk⟩
    have kg : KeepsOthers Wa Wb := ⟨hg.size, fun k o hk hc => (hg.block k (Array.getElem?_eq_some_iff.1 hk).1 (fun e => by obtain ⟨cs, fr, h9⟩ := r1 k e.symm; rw [h9] at hk; cases hk; cases hc)).trans hk⟩
    exact ((ko.trans kg).trans (KeepsOthers.setCell _ _ _)).from B
  · refine ⟨(hg.os.trans e1.os).trans h1.os, (hg.tape.trans e1.tape).trans h1.tape, (hg.output.trans e1.output).trans h1.output, by have := hg.size; simp; omega, fun i hi hne => ?_⟩
    have hne2 : i ≠ g := fun e => hne (by rw [e])
    rw [Below.heap_setCell Wb ⟨g, 0, none⟩ _ i (by simpa using hne2), hg.block i (by omega) (fun e => by have := (o1.lt i e.symm).1; omega), e1.block i (by omega)]
    exact h1.block i hi hne
  · have := rg.set_ 0 (.slice (some ⟨gg, 0, none⟩) (pre.length + 1) cap)
    simpa using this
  · refine ownsRow_setCell_below ?_ (by simpa using hg0) _
    rw [List.map_append, Tp.pc_append, List.length_append]
    exact ho
theorem sh_trainOf_in (A : Option Addr) (c : Nat) (Bb : Option Addr) (mb cb : Nat) (links : List (Int × Ec.Pair)) (a : Nat) (w : World) (hm : Tp.Links w A links) (hok : Tp.LinksOk links) (hl : links.length ≤ 1000) (ha : a ≤ links.length) :
    CallsIn Fence.wide 9 Tryz.prog 67 #[.agg #[.slice A links.length c, .slice Bb mb cb], .int .i64 (a : Int)] w fun e w' => ∃ v, e = .returned v ∧ w'.ownsRow w.heap.size 125 2 v (Tp.trainL links a).length (Tp.pc (Tp.trainL links a)) ∧ Ext w w' := by
  have HM := Lib.hid hm
  have HB0 := Lib.hid (Row.new w 50 #[.slice A links.length c, .slice Bb mb cb])
  have HX0 := Lib.hid ((Ext.refl w).alloc (.cells #[.slice A links.length c, .slice Bb mb cb] 50))
  have HT0 := Lib.hid (Row.new (w.alloc (.cells #[.slice A links.length c, .slice Bb mb cb] 50)) 78 #[.slice none 0 0])
  have HB1 := Lib.hid (HB0.out.alloc (.cells #[.slice none 0 0] 78))
  have HX1 := Lib.hid (HX0.out.alloc (.cells #[.slice none 0 0] 78))
  have cB0 := HB0.out.cell
  have cB1 := HB1.out.cell
  obtain ⟨N, hN⟩ : ∃ N, (Tp.trainL links a).length = N := ⟨_, rfl⟩
  have HN := Lib.hid hN
  have hN9 : N ≤ 1000 := by rw [← hN]; have := Tp.path_len (fun i => (hok.frm i).1) a; simp only [Tp.trainL, List.length_map]; omega
  rw [hN]
  clear hm hN
  refine callsIn_of_wp_marks Tryz.func67 rfl trivial ?_ rfl
  simp only [Tryz.ntmps67, List.size_toArray, List.length_cons, List.length_nil, Nat.reduceAdd, Nat.reduceSub, Array.replicate_succ, Array.replicate_zero, List.push_toArray, List.append_toArray, List.nil_append, List.cons_append]
  gi_wp2
  refine ⟨trivial, (callsIn_wide.2 (sh_path_any A links.length c (a : Int) _)).mono ?_⟩
  rintro e W3 ⟨g, h, rfl, hg1, hgh, hrg, hrh, hE3⟩
  have HB3 := Lib.hid (HB1.out.ext hE3)
  have HT3 := Lib.hid (HT0.out.ext hE3)
  have HX3 := Lib.hid (HX1.out.trans hE3)
  have hz3 : w.heap.size + 1 < W3.heap.size := by have := HT3.out.lt; simpa using this
  obtain ⟨gO, hgO⟩ : ∃ gO, w.heap.size + 1 = gO := ⟨_, rfl⟩
  have HGO := Lib.hid hgO
  have hsz : (w.alloc (.cells #[.slice A links.length c, .slice Bb mb cb] 50)).heap.size = gO := by rw [← hgO]; simp
  rw [hsz] at HT3
  rw [hgO]
  have cT3 := HT3.out.cell
  have cB3 := HB3.out.cell
  have hgO3 : gO < W3.heap.size := by omega
  clear hgO HB0 HX0 HT0 HB1 HX1 cB0 cB1 hE3 hg1 hsz
  gi_wp2
  refine Tp.wpIn_call (fun a0 ha0 => ?_)
  refine Tp.range_all rfl (by omega) (gf := 178) (lb := #[.pointer (some ⟨g, 0, none⟩), .pointer (some ⟨h, 0, none⟩)]) (by rw [ha0]; rfl) trivial (enters_of Tryz.func178 (by kernel_rfl) rfl)
    (fun W' hW' => sh_path_seq 78 125 (by decide) (9 - 1) g h A c links a w HM.out hok hl ha W3 HX3.out hrg hrh W' hW')
    (fun h k => h.trans k) (fun W l o o' h1 h2 h3 h4 => Tp.KP.book (by omega) W l o o' h1 h2 h3 h4)
    (fun A B h => Tp.keepsOf h) (fun _ => rfl)
    (Tp.TrI links gO W3) (Tp.trI_own _ _ _) (fun _ _ _ h k => Tp.trI_ext h k) ⟨Tp.grown_refl _ _, .slice none 0 0, HT3.out, by simp [World.ownsRow, Tp.pc]⟩
    (fun x a' _ => a' = (⟨(a0.tmps.setIfInBounds 11 (.int .i64 ((x : Nat) : Int))).setIfInBounds 6 (.int .i64 ((x : Nat) : Int)), []⟩ : Act)) (fun x a' _ X Y row hs hg hr => hs)
    ?assign ?body ?done
  case assign =>
    rintro l pre x W K hi' hK'
    subst ha0
    gi_wp2
    exact hK' _ _ (KeepsFrom.refl _ _) (Tp.KP.refl _ _ _ _) hi' rfl
  case body =>
    rintro l pre x a' W hl' hi' rfl hlt2
    subst ha0
    obtain ⟨hI1, v, hI2, hI3⟩ := hi'
    have hXW : Ext w W := HX3.out.grown hI1 (fun k e => by cases e; have := HGO.out; omega)
    have cp := (Tp.grown_far HB3.out hI1 (fun e => by cases e; have := HGO.out; omega)).cell
    have cv := hI2.cell
    clear cT3 cB3
    obtain ⟨i, hi⟩ := x
    dsimp only at *
    obtain ⟨bb, o, hA, hcl⟩ := HM.out (by omega)
    subst hA
    have y1 : w.cell? ⟨bb, o + i * 3 + 1, none⟩ = some (.int .i64 (Tp.pr links i).drives) := (hcl i hi).2.1
    have y2 : w.cell? ⟨bb, o + i * 3 + 1 + 1, none⟩ = some (.int .i64 (Tp.pr links i).driven) := (hcl i hi).2.2
    have HSA : Hid (∀ Wx, Row Wx w.heap.size 50 #[.slice (some ⟨bb, o, none⟩) links.length c, .slice Bb mb cb] → Ext w Wx → Wx.cell? ⟨w.heap.size, 0, none⟩ = some (.slice (some ⟨bb, o, none⟩) links.length c) ∧ Wx.cell? ⟨bb, o + i * 3 + 1, none⟩ = some (.int .i64 (Tp.pr links i).drives) ∧ Wx.cell? ⟨bb, o + i * 3 + 1 + 1, none⟩ = some (.int .i64 (Tp.pr links i).driven)) := Lib.hid (fun Wx h1 h2 => ⟨h1.cell 0, h2.cell y1, h2.cell y2⟩)
    have HBW := Lib.hid (Tp.grown_far HB3.out hI1 (fun e => by cases e; have := HGO.out; omega))
    have hS0 := HSA.out W.drew HBW.out.drew hXW.drew
    have HI1 := Lib.hid hI1
    have HI2 := Lib.hid hI2
    have HI3 := Lib.hid hI3
    have HXW := Lib.hid hXW
    have HQ9 : pre.length ≤ 1000 := by have := HN.out; simp only [Tp.trainL, List.length_map] at this; omega
    have hFn : ∀ f, (Fence.wide.inRound l).fn f := fun _ => trivial
    obtain ⟨d1, hd1⟩ : ∃ d, (Tp.pr links i).drives = d := ⟨_, rfl⟩
    obtain ⟨d2, hd2⟩ : ∃ d, (Tp.pr links i).driven = d := ⟨_, rfl⟩
    have HD1 := Lib.hid hd1
    have HD2 := Lib.hid hd2
    rw [hd1, hd2] at hS0 HSA
    clear cp cv hcl y1 y2 hI1 hI2 hI3 hXW hd1 hd2
    gi_wp2
    refine Tp.region_fence (fun w' => w'.cell? ⟨w.heap.size, 0, none⟩ = some (.slice (some ⟨bb, o, none⟩) links.length c) ∧ w'.cell? ⟨bb, o + i * 3 + 1, none⟩ = some (.int .i64 d1) ∧ w'.cell? ⟨bb, o + i * 3 + 1 + 1, none⟩ = some (.int .i64 d2)) (by kernel_rfl) ?_
    refine Tp.anyF_take hFn (by kernel_rfl) (i := 1) (v := (.pointer (some ⟨w.heap.size, 0, none⟩))) rfl (by kernel_rfl) (by kernel_rfl) (by kernel_rfl) (fun _ _ _ h => h) (Or.inl ⟨by rfl, fun w' hw => ?_⟩) hS0 ?_
    · obtain ⟨e1, e2, e3⟩ := hw
      go_simp
      all_goals (first | (rw [IntKind.wrap_i64]; omega) | rfl)
    try simp only [Act.put, List.getElem_toArray, List.getElem_cons_succ, List.getElem_cons_zero, List.setIfInBounds_toArray, List.set_cons_zero, List.set_cons_succ]
    refine Tp.anyF_take hFn (by kernel_rfl) (i := 2) (v := (.slice (some ⟨bb, o, none⟩) links.length c)) rfl (by kernel_rfl) (by kernel_rfl) (by kernel_rfl) (fun _ _ _ h => h) (Or.inl ⟨by rfl, fun w' hw => ?_⟩) hS0 ?_
    · obtain ⟨e1, e2, e3⟩ := hw
      go_simp
      all_goals (first | (rw [IntKind.wrap_i64]; omega) | rfl)
    try simp only [Act.put, List.getElem_toArray, List.getElem_cons_succ, List.getElem_cons_zero, List.setIfInBounds_toArray, List.set_cons_zero, List.set_cons_succ]
    refine Tp.anyF_take hFn (by kernel_rfl) (i := 3) (v := (.int .i64 (i : Int))) rfl (by kernel_rfl) (by kernel_rfl) (by kernel_rfl) (fun _ _ _ h => h) (Or.inl ⟨by rfl, fun w' hw => ?_⟩) hS0 ?_
    · obtain ⟨e1, e2, e3⟩ := hw
      go_simp
      all_goals (first | (rw [IntKind.wrap_i64]; omega) | rfl)
    try simp only [Act.put, List.getElem_toArray, List.getElem_cons_succ, List.getElem_cons_zero, List.setIfInBounds_toArray, List.set_cons_zero, List.set_cons_succ]
    refine Tp.anyF_take hFn (by kernel_rfl) (i := 4) (v := (.pointer (some ⟨bb, o + i * 3, none⟩))) rfl (by kernel_rfl) (by kernel_rfl) (by kernel_rfl) (fun _ _ _ h => h) (Or.inl ⟨by rfl, fun w' hw => ?_⟩) hS0 ?_
    · obtain ⟨e1, e2, e3⟩ := hw
      go_simp
      all_goals (first | (rw [IntKind.wrap_i64]; omega) | rfl)
    try simp only [Act.put, List.getElem_toArray, List.getElem_cons_succ, List.getElem_cons_zero, List.setIfInBounds_toArray, List.set_cons_zero, List.set_cons_succ]
    refine Tp.anyF_take hFn (by kernel_rfl) (i := 5) (v := (.pointer (some ⟨bb, o + i * 3 + 1, none⟩))) rfl (by kernel_rfl) (by kernel_rfl) (by kernel_rfl) (fun _ _ _ h => h) (Or.inl ⟨by rfl, fun w' hw => ?_⟩) hS0 ?_
    · obtain ⟨e1, e2, e3⟩ := hw
      go_simp
      all_goals (first | (rw [IntKind.wrap_i64]; omega) | rfl)
    try simp only [Act.put, List.getElem_toArray, List.getElem_cons_succ, List.getElem_cons_zero, List.setIfInBounds_toArray, List.set_cons_zero, List.set_cons_succ]
    refine Tp.anyF_take hFn (by kernel_rfl) (i := 6) (v := (.agg #[.int .i64 d1, .int .i64 d2])) rfl (by kernel_rfl) (by kernel_rfl) (by kernel_rfl) (fun _ _ _ h => h) (Or.inl ⟨by rfl, fun w' hw => ?_⟩) hS0 ?_
    · obtain ⟨e1, e2, e3⟩ := hw
      go_simp
      all_goals (first | (rw [IntKind.wrap_i64]; omega) | rfl)
    try simp only [Act.put, List.getElem_toArray, List.getElem_cons_succ, List.getElem_cons_zero, List.setIfInBounds_toArray, List.set_cons_zero, List.set_cons_succ]
    have cv : W.drew.cell? ⟨gO, 0, none⟩ = some v := HI2.out.cell 0
    have HAN : Ext W (W.drew.alloc (.cells #[.int .i64 d1, .int .i64 d2] 125)) := (Ext.refl W).drew.alloc _
    have HSN := HSA.out _ (HBW.out.ext HAN) (HXW.out.trans HAN)
    have cv2 : (W.drew.alloc (.cells #[.int .i64 d1, .int .i64 d2] 125)).cell? ⟨gO, 0, none⟩ = some v := (HI2.out.ext HAN).cell 0
    have cv3 : (W.alloc (.cells #[.int .i64 d1, .int .i64 d2] 125)).drew.cell? ⟨gO, 0, none⟩ = some v := cv2
    refine Tp.anyF_two (i := 0) (j := 7) (by kernel_rfl) rfl rfl (fun K hK => ?_) (fun K hK => ?_)
    · rw [if_pos (by rfl)]
      gi_wp2
      refine hK.out _ _ hS0 ?_
      clear hK K
      try simp only [Act.put, List.getElem_toArray, List.getElem_cons_succ, List.getElem_cons_zero, List.setIfInBounds_toArray, List.set_cons_zero, List.set_cons_succ]
      refine Tp.anyF_one (i := 7) (by kernel_rfl) rfl (fun K hK => ?_)
      rw [if_pos (by rfl)]
      gi_wp2
      refine hK.out _ _ HSN ?_
      clear hK K
      try simp only [Act.put, List.getElem_toArray, List.getElem_cons_succ, List.getElem_cons_zero, List.setIfInBounds_toArray, List.set_cons_zero, List.set_cons_succ]
      refine Tp.anyF_one (i := 8) (by kernel_rfl) rfl (fun K hK => ?_)
      rw [if_pos (by rfl)]
      obtain ⟨j0, hj0, hj1, hj2, hj3⟩ := info_parts Tp.info_pair
      refine Tp.wpIn_append _ hFn (.tmp 12) (.tmp 19) 78 rfl W3.heap.size 125 j0 _ 2 16 Tryz.underlying78 hj0 hj1 hj2 hj3 rfl (by omega) v pre.length (Tp.pc (pre.map fun x => Tp.pr links x.1)) (by rfl) (own_ext HI3.out HAN) ⟨_, 0, none⟩ 1 1 [.int .i64 d1, .int .i64 d2] (by rfl) (by rfl) (World.news_of_block (cs := #[.int .i64 d1, .int .i64 d2]) (t := 125) (fr := (0, 0)) (heap_alloc_new _ _)) (by simp [Value.oneCell']) (by omega) (by simp only [maxLen]; omega) (by omega) (by have := HI1.out.size; simp; omega) _ rfl ?_
      intro gg cap w5 hown5 hgrow hat hlt5
      have HTS := fun B => Tp.trI_step (n0 := w.heap.size) (by have := HGO.out; omega) hgO3 HI1.out HI2.out HI3.out ⟨i, hi⟩ HAN hgrow (by rw [HD1.out, HD2.out]; exact hown5) B
      have o5 := own_ext HI3.out HAN
      have HR5 := Lib.hid (Tp.grown_far (HBW.out.ext HAN) hgrow (Tp.own_ne o5 (by omega)))
      have HG5 := Lib.hid (Tp.grown_far (HI2.out.ext HAN) hgrow (Tp.own_ne o5 hgO3))
      have HX5 := Lib.hid ((HXW.out.trans HAN).grown hgrow (fun k e => by have := (o5.lt k e).1; omega))
      have HTS := Lib.hid HTS
      refine hK.out _ _ (HSA.out _ HR5.out HX5.out) ?_
      clear hK K hown5 hat o5
      try simp only [Act.put, List.getElem_toArray, List.getElem_cons_succ, List.getElem_cons_zero, List.setIfInBounds_toArray, List.set_cons_zero, List.set_cons_succ]
      refine Tp.anyF_one (i := 9) (by kernel_rfl) rfl (fun K hK => ?_)
      rw [if_pos (by rfl)]
      have c5 := HG5.out.cell
      have f5 := HG5.out.free
      have j5 := lts HG5.out.lt
      have HX6 := Lib.hid (HX3.out.grown (HTS.out 0).2.2.1 (fun k e => by cases e; have := HGO.out; omega))
      have HR6 := Lib.hid (HR5.out.far (p := ⟨gO, 0, none⟩) (by have := HGO.out; show w.heap.size ≠ gO; omega) (.slice (some ⟨gg, 0, none⟩) (pre.length + 1) cap))
      gi_wp2
      refine hK.out _ _ (HSA.out _ HR6.out HX6.out) ?_
      clear hK K
      try simp only [Act.put, List.getElem_toArray, List.getElem_cons_succ, List.getElem_cons_zero, List.setIfInBounds_toArray, List.set_cons_zero, List.set_cons_succ]
      refine ⟨by kernel_rfl, ?_⟩
      gi_wp2
      exact HTS.out _
    · rw [if_pos (by rfl)]
      gi_wp2
      refine hK.out _ _ HSN ?_
      clear hK K
      try simp only [Act.put, List.getElem_toArray, List.getElem_cons_succ, List.getElem_cons_zero, List.setIfInBounds_toArray, List.set_cons_zero, List.set_cons_succ]
      refine Tp.anyF_one (i := 0) (by kernel_rfl) rfl (fun K hK => ?_)
      rw [if_pos (by rfl)]
      gi_wp2
      refine hK.out _ _ HSN ?_
      clear hK K
      try simp only [Act.put, List.getElem_toArray, List.getElem_cons_succ, List.getElem_cons_zero, List.setIfInBounds_toArray, List.set_cons_zero, List.set_cons_succ]
      refine Tp.anyF_one (i := 8) (by kernel_rfl) rfl (fun K hK => ?_)
      rw [if_pos (by rfl)]
      obtain ⟨j0, hj0, hj1, hj2, hj3⟩ := info_parts Tp.info_pair
      refine Tp.wpIn_append _ hFn (.tmp 12) (.tmp 19) 78 rfl W3.heap.size 125 j0 _ 2 16 Tryz.underlying78 hj0 hj1 hj2 hj3 rfl (by omega) v pre.length (Tp.pc (pre.map fun x => Tp.pr links x.1)) (by rfl) (own_ext HI3.out HAN) ⟨_, 0, none⟩ 1 1 [.int .i64 d1, .int .i64 d2] (by rfl) (by rfl) (World.news_of_block (cs := #[.int .i64 d1, .int .i64 d2]) (t := 125) (fr := (0, 0)) (heap_alloc_new _ _)) (by simp [Value.oneCell']) (by omega) (by simp only [maxLen]; omega) (by omega) (by have := HI1.out.size; simp; omega) _ rfl ?_
      intro gg cap w5 hown5 hgrow hat hlt5
      have HTS := fun B => Tp.trI_step (n0 := w.heap.size) (by have := HGO.out; omega) hgO3 HI1.out HI2.out HI3.out ⟨i, hi⟩ HAN hgrow (by rw [HD1.out, HD2.out]; exact hown5) B
      have o5 := own_ext HI3.out HAN
      have HR5 := Lib.hid (Tp.grown_far (HBW.out.ext HAN) hgrow (Tp.own_ne o5 (by omega)))
      have HG5 := Lib.hid (Tp.grown_far (HI2.out.ext HAN) hgrow (Tp.own_ne o5 hgO3))
      have HX5 := Lib.hid ((HXW.out.trans HAN).grown hgrow (fun k e => by have := (o5.lt k e).1; omega))
      have HTS := Lib.hid HTS
      refine hK.out _ _ (HSA.out _ HR5.out HX5.out) ?_
      clear hK K hown5 hat o5
      try simp only [Act.put, List.getElem_toArray, List.getElem_cons_succ, List.getElem_cons_zero, List.setIfInBounds_toArray, List.set_cons_zero, List.set_cons_succ]
      refine Tp.anyF_one (i := 9) (by kernel_rfl) rfl (fun K hK => ?_)
      rw [if_pos (by rfl)]
      have c5 := HG5.out.cell
      have f5 := HG5.out.free
      have j5 := lts HG5.out.lt
      have HX6 := Lib.hid (HX3.out.grown (HTS.out 0).2.2.1 (fun k e => by cases e; have := HGO.out; omega))
      have HR6 := Lib.hid (HR5.out.far (p := ⟨gO, 0, none⟩) (by have := HGO.out; show w.heap.size ≠ gO; omega) (.slice (some ⟨gg, 0, none⟩) (pre.length + 1) cap))
      gi_wp2
      refine hK.out _ _ (HSA.out _ HR6.out HX6.out) ?_
      clear hK K
      try simp only [Act.put, List.getElem_toArray, List.getElem_cons_succ, List.getElem_cons_zero, List.setIfInBounds_toArray, List.set_cons_zero, List.set_cons_succ]
      refine ⟨by kernel_rfl, ?_⟩
      gi_wp2
      exact HTS.out _
  case done =>
    rintro D ps W hD hS hi' hKD
    subst ha0
    obtain ⟨hI1, v, hI2, hI3⟩ := hi'
    have hpl : ps.map (fun x => Tp.pr links x.1) = Tp.trainL links a := by
      have h8 : (ps.map Subtype.val).map (Tp.pr links) = (Tp.path (Tp.frm links) a).map (Tp.pr links) := by rw [hS]
      rw [List.map_map] at h8
      exact h8
    have hpn : ps.length = N := by rw [← HN.out, ← hpl, List.length_map]
    have cv := hI2.cell
    have HEW : Hid (Ext w W) := Lib.hid (HX3.out.grown hI1 (fun k e => by cases e; have := HGO.out; omega))
    have HO := Lib.hid (Tp.own_mono hI3 (show w.heap.size ≤ W3.heap.size by omega))
    rw [hpl, hpn] at HO
    have HRO := Lib.hid (Tp.rowOf hI3)
    clear hI1 hI2 hI3 hpl hpn cT3 cB3
    gi_wp2
    refine ⟨by simp, .inl ⟨_, _, rfl, run_takeDeferred hKD, ?_⟩⟩
    exact ⟨_, results_tmp rfl _ _ _, v, rfl, ownsRow_of_block HO.out fun k hk => (grownBy_putObj' W D (.deferred none)).block k (HO.out.lt k hk).2 (fun e => by obtain ⟨cs, fr, h9⟩ := HRO.out k hk; cases e; rw [hKD] at h9; cases h9), Ext.grown HEW.out (grownBy_putObj' W D (.deferred none)) (fun k e => by cases e; omega)⟩
theorem sh_trainOf_any (A : Option Addr) (c : Nat) (Bb : Option Addr) (mb cb : Nat) (links : List (Int × Ec.Pair)) (a : Nat) (w : World) (hm : Tp.Links w A links) (hok : Tp.LinksOk links) (hl : links.length ≤ 1000) (ha : a ≤ links.length) :
    Calls Tryz.prog 67 #[.agg #[.slice A links.length c, .slice Bb mb cb], .int .i64 (a : Int)] w fun e w' => ∃ v, e = .returned v ∧ w'.ownsRow w.heap.size 125 2 v (Tp.trainL links a).length (Tp.pc (Tp.trainL links a)) ∧ Ext w w' :=
  callsIn_wide.1 (sh_trainOf_in A c Bb mb cb links a w hm hok hl ha)
end Go.Proofs.YtimkmokomohgjaaGreat
namespace Go.Proofs.YtimkmokomohgjaaGreat
open Go.RowKit Go.Shelf
open Sp (rd)
attribute [local go_sem] Oper.semAt_some
set_option maxRecDepth 100000
set_option maxHeartbeats 4000000
set_option linter.unusedVariables false
set_option linter.unusedSimpArgs false
theorem Tp.info_bool2 : (Tryz.prog.info? 4).map (fun i => (i.zero, i.size, i.bytes)) = some (some (.bool false), 1, 1) := by kernel_rfl
/-- A list that was written out is an own one. -/
theorem Tp.own_lit {W : World} {g base : Nat} {e : TypeId} {cs : Array Value} {size : Nat} (h : Row W g e cs) (n : Nat) (hs : cs.size = n * size) (hn : n ≤ maxLen) (hb : base ≤ g) : W.ownsRow base e size (.slice (some ⟨g, 0, none⟩) n n) n cs.toList :=
  ⟨by simpa using hs, .inr ⟨g, n, cs, rfl, hb, h, Nat.le_refl _, hn, hs, by rw [← hs, ← Array.length_toList, List.take_length]⟩⟩
/-- The rates of the first k arbors. -/
def Tp.rateL (links : List (Int × Ec.Pair)) (k : Nat) : List Ec.Pair := ⟨1, 1⟩ :: (List.range k).map fun i => ⟨Ec.turnsN (Tp.trainL links (i + 1)), Ec.turnsD (Tp.trainL links (i + 1))⟩
/-- Their senses. -/
def Tp.sameL (links : List (Int × Ec.Pair)) (k : Nat) : List Bool := true :: (List.range k).map fun i => (((Tp.trainL links (i + 1)).length : Int) % 2 == 0)
theorem Tp.rateL_succ (links : List (Int × Ec.Pair)) (k : Nat) : Tp.rateL links (k + 1) = Tp.rateL links k ++ [⟨Ec.turnsN (Tp.trainL links (k + 1)), Ec.turnsD (Tp.trainL links (k + 1))⟩] := by simp [Tp.rateL, List.range_succ]
theorem Tp.sameL_succ (links : List (Int × Ec.Pair)) (k : Nat) : Tp.sameL links (k + 1) = Tp.sameL links k ++ [((Tp.trainL links (k + 1)).length : Int) % 2 == 0] := by simp [Tp.sameL, List.range_succ]
theorem sh_Rates_over (A : Option Addr) (c : Nat) (Bb : Option Addr) (mb cb : Nat) (links : List (Int × Ec.Pair)) (w : World) (hm : Tp.Links w A links) (hok : Tp.LinksOk links) (hl : links.length ≤ 1000) (ht : ∀ i, i < links.length → Ec.trainOk (Tp.trainL links (i + 1)) = true)
    (hP : ∀ W, Ext w W → Calls Tryz.prog 65 #[.agg #[.slice A links.length c, .slice Bb mb cb]] W fun e W' => e = .returned (.bool true) ∧ Ext W W') :
    Calls Tryz.prog 18 #[.agg #[.slice A links.length c, .slice Bb mb cb]] w fun e w' => ∃ v u, e = .returned (.tuple #[v, u, .int .i64 0]) ∧ w'.ownsRow w.heap.size 69 2 v (links.length + 1) (Tp.pc (Tp.rateL links links.length)) ∧ w'.ownsRow w.heap.size 4 1 u (links.length + 1) ((Tp.sameL links links.length).map .bool) ∧ Ext w w' := by
  have HM := Lib.hid hm
  have HP := Lib.hid hP
  have HT := Lib.hid ht
  obtain ⟨n, hn⟩ : ∃ n, links.length = n := ⟨_, rfl⟩
  have HN := Lib.hid hn
  have r0 := Row.new w 50 #[.slice A links.length c, .slice Bb mb cb]
  have HR0 := Lib.hid r0
  have HX0 := Lib.hid ((Ext.refl w).alloc (.cells #[.slice A links.length c, .slice Bb mb cb] 50))
  have c0 := r0.cell
  clear hm hP ht r0
  rw [hn] at hl HR0 HX0 c0 ⊢
  clear hn
  obtain ⟨i0, hi0, hi1, hi2, hi3⟩ := info_parts Tp.info_fr
  obtain ⟨j0, hj0, hj1, hj2, hj3⟩ := info_parts Tp.info_bool2
  go_enter Tryz.func18, Tryz.ntmps18
  go_wp2_with fail
  refine (by have h9 := HP.out _ HX0.out; rw [HN.out] at h9; exact h9 : Calls Tryz.prog 65 _ _ _).mono ?_
  rintro e W2 ⟨rfl, hE2⟩
  have HR2 := Lib.hid (HR0.out.ext hE2)
  have HX2 := Lib.hid (HX0.out.trans hE2)
  have HF := Lib.hid (Row.new W2 69 #[.int .i64 1, .int .i64 1])
  have HB := Lib.hid (Row.new (W2.alloc (.cells #[.int .i64 1, .int .i64 1] 69)) 4 #[.bool true])
  have HXW := Lib.hid (((Ext.refl W2).alloc (.cells #[.int .i64 1, .int .i64 1] 69)).alloc (.cells #[.bool true] 4))
  have c2 := (HR2.out.ext HXW.out).cell
  clear hE2 c0
  go_wp2_with fail
  have hO1 := Tp.own_lit (base := W2.heap.size) (size := 2) (HF.out.alloc (.cells #[.bool true] 4)) 1 rfl (by decide) (Nat.le_refl _)
  have hO2 := Tp.own_lit (base := W2.heap.size) (size := 1) HB.out 1 rfl (by decide) (by simp)
  have HXW := HXW.out
  have hz2 := HX2.out.size
  obtain ⟨gH, hgH⟩ : ∃ gH, W2.heap.size + 1 = gH := ⟨_, rfl⟩
  have e2 : (W2.alloc (.cells #[.int .i64 1, .int .i64 1] 69)).heap.size = gH := by rw [← hgH]; simp
  rw [e2] at hO2
  rw [hgH]
  obtain ⟨W3, hW3⟩ : ∃ W3, (W2.alloc (.cells #[.int .i64 1, .int .i64 1] 69)).alloc (.cells #[.bool true] 4) = W3 := ⟨_, rfl⟩
  rw [hW3] at hO1 hO2 HXW ⊢
  have HO1 := Lib.hid hO1
  have HO2 := Lib.hid hO2
  have HXW := Lib.hid HXW
  have HZ2 := Lib.hid hz2
  clear hO1 hO2 hW3 e2 hgH HF HB c2 hz2 HX0 HR0
  go_loopw [5, 6, 20] (fun r s i wr => ∃ k : Nat, k ≤ n ∧ i = .int .i64 (k : Int) ∧ Ext W2 wr ∧ wr.ownsRow W2.heap.size 69 2 r (k + 1) (Tp.pc (Tp.rateL links k)) ∧ wr.ownsRow W2.heap.size 4 1 s (k + 1) ((Tp.sameL links k).map .bool)) (fun _ _ i _ => n - (intOf i).toNat)
  case atStart => exact ⟨0, Nat.zero_le _, rfl, HXW.out, HO1.out, HO2.out⟩
  case round =>
    obtain ⟨k, hk, rfl, hX3, hO1, hO2⟩ := hrel
    have HXR := Lib.hid hX3
    have HO1 := Lib.hid hO1
    have HO2 := Lib.hid hO2
    have HR3 := Lib.hid (HR2.out.ext hX3)
    have cp := HR3.out.cell
    rcases Nat.lt_or_eq_of_le hk with h9 | h9
    · have HTR : Hid (∀ W, Ext w W → Calls Tryz.prog 67 #[.agg #[.slice A n c, .slice Bb mb cb], .int .i64 ((k : Int) + 1)] W fun e w' => ∃ v, e = .returned v ∧ w'.ownsRow W.heap.size 125 2 v (Tp.trainL links (k + 1)).length (Tp.pc (Tp.trainL links (k + 1))) ∧ Ext W w') := Lib.hid (fun W h => by
        have h8 := sh_trainOf_any A c Bb mb cb links (k + 1) W (HM.out.ext h) hok (by rw [HN.out]; exact hl) (by rw [HN.out]; omega)
        rw [HN.out] at h8
        exact h8)
      have HTK := Lib.hid (HT.out k (by rw [HN.out]; exact h9))
      clear hX3 hO1 hO2
      go_wp2_with fail
      refine (HTR.out _ (HX2.out.trans HXR.out)).mono ?_
      rintro e w4 ⟨v, rfl, hv, hE4⟩
      obtain ⟨At, ct, rfl, hpt⟩ := Tp.pairs_own hv
      clear hv
      go_wp2_with fail
      refine (t_Turns_sense At ct _ _ hpt (by have := Tp.path_len (fun i => (hok.frm i).1) (k + 1); simp only [Tp.trainL, List.length_map]; omega) HTK.out).mono ?_
      rintro e w5 ⟨rfl, hE5⟩
      obtain ⟨tn, htn⟩ : ∃ t, Ec.turnsN (Tp.trainL links (k + 1)) = t := ⟨_, rfl⟩
      obtain ⟨td, htd⟩ : ∃ t, Ec.turnsD (Tp.trainL links (k + 1)) = t := ⟨_, rfl⟩
      obtain ⟨tb, htb⟩ : ∃ t, (((Tp.trainL links (k + 1)).length : Int) % 2 == 0) = t := ⟨_, rfl⟩
      rw [htn, htd, htb]
      have HTN := Lib.hid htn
      have HTD := Lib.hid htd
      have HTB := Lib.hid htb
      have HE := Lib.hid (((hE4.trans hE5).alloc (.cells #[.int .i64 tn, .int .i64 td] 69)).alloc (.cells #[.int .i64 tn, .int .i64 td] 69))
      have HOA := Lib.hid (own_ext HO1.out HE.out)
      have HNW : Hid (((w5.alloc (.cells #[.int .i64 tn, .int .i64 td] 69)).alloc (.cells #[.int .i64 tn, .int .i64 td] 69)).heap[w5.heap.size + 1]? = some (.cells #[.int .i64 tn, .int .i64 td] 69)) := Lib.hid (by
        have h8 := heap_alloc_new (w5.alloc (.cells #[.int .i64 tn, .int .i64 td] 69)) (.cells #[.int .i64 tn, .int .i64 td] 69)
        rw [World.size_alloc] at h8
        exact h8)
      have HOB := Lib.hid (own_ext HO2.out HE.out)
      have HXA := Lib.hid (HXR.out.trans HE.out)
      have hz5 : W2.heap.size ≤ w5.heap.size := ((HXR.out.trans hE4).trans hE5).size
      clear hE4 hE5 hpt htn htd htb
      go_wp2_with (at_builtin; first | (refine wpList_append_lies _ rfl (Operand.tmp 32) (Operand.tmp 34) 62 rfl W2.heap.size 69 i0 _ 2 16 Tryz.underlying62 hi0 hi1 hi2 hi3 rfl (by decide) _ (k + 1) (Tp.pc (Tp.rateL links k)) rfl HOA.out ⟨_, 0, none⟩ 1 1 [.int .i64 tn, .int .i64 td] rfl rfl (World.news_of_block (cs := #[.int .i64 tn, .int .i64 td]) (t := 69) (fr := (0, 0)) HNW.out) (by simp [Value.oneCell']) (by omega) (by simp only [maxLen]; omega) (by omega) (by simp; omega) _ rfl ?_; intro gg cap w6 hown6 hgrow6 hat6 hlt6; have HO61 := Lib.hid hown6; have HO62 := Lib.hid (Tp.own_grown HOB.out hgrow6 (Tp.rowOf HOA.out) (by decide)); have HX6 := Lib.hid (HXA.out.grown hgrow6 (fun g hg => (HOA.out.lt g hg).1)); have hz6 : W2.heap.size ≤ w6.heap.size := HX6.out.size; clear hown6 hgrow6 hat6) | (refine wpList_append_lies _ rfl (Operand.tmp 36) (Operand.tmp 38) 63 rfl W2.heap.size 4 j0 _ 1 1 Tryz.underlying63 hj0 hj1 hj2 hj3 rfl (by decide) _ (k + 1) ((Tp.sameL links k).map .bool) rfl (own_ext HO62.out ((Ext.refl w6).alloc _)) ⟨_, 0, none⟩ 1 1 [.bool tb] rfl rfl (World.news_of_block (cs := #[.bool tb]) (t := 4) (fr := (0, 0)) (heap_alloc_new _ _)) (by simp [Value.oneCell']) (by omega) (by simp only [maxLen]; omega) (by omega) (by simp; omega) _ rfl ?_; intro gg2 cap2 w7 hown7 hgrow7 hat7 hlt7; have HO72 := Lib.hid hown7; have HO71 := Lib.hid (Tp.own_grown (own_ext HO61.out ((Ext.refl w6).alloc (.cells #[.bool tb] 4))) hgrow7 (Tp.rowOf (own_ext HO62.out ((Ext.refl w6).alloc (.cells #[.bool tb] 4)))) (by decide)); have HX7 := Lib.hid ((HX6.out.alloc (.cells #[.bool tb] 4)).grown hgrow7 (fun g hg => ((own_ext HO62.out ((Ext.refl w6).alloc (.cells #[.bool tb] 4))).lt g hg).1)); clear hown7 hgrow7 hat7))
      go_roundw
      case rel =>
        refine ⟨k + 1, by omega, by simp, HX7.out, ?_, ?_⟩
        · have h8 := HO71.out
          rw [Tp.rateL_succ, Tp.pc_append, HTN.out, HTD.out]
          exact h8
        · have h8 := HO72.out
          rw [Tp.sameL_succ, List.map_append, HTB.out]
          exact h8
      case measure => simp [intOf]; omega
    · subst h9
      clear hX3 hO1 hO2
      go_wp2_with fail
      go_ret3
      exact ⟨_, _, rfl, Tp.own_mono HO1.out (Nat.le_of_lt (by have := HZ2.out; have := HX2.out.size; simpa using HR2.out.lt)), Tp.own_mono HO2.out (Nat.le_of_lt HR2.out.lt), HX2.out.trans HXR.out⟩
end Go.Proofs.YtimkmokomohgjaaGreat
namespace Go.Proofs.YtimkmokomohgjaaGreat
open Go.RowKit Go.Shelf
open Sp (rd)
set_option maxRecDepth 100000
set_option maxHeartbeats 4000000
set_option linter.unusedVariables false
set_option linter.unusedSimpArgs false
theorem sh_index_hand (A : Option Addr) (c : Nat) (l : List Int) (g : Nat) (B : Option Addr) (n0 c0 : Nat) (V : Value) (w : World) (hr : Row w g 50 #[.slice B n0 c0, V]) (hm : Ints w A l) (hl : l.length ≤ 100000) :
    Calls Tryz.prog 163 #[.slice A l.length c, .func (.func 124) #[] #[.pointer (some ⟨g, 0, none⟩)]] w (FoundInt (l.any fun n => !Sp.inR n 1 (n0 : Int)) w) := by
  have HRW := Lib.hid hr
  clear hr
  go_enter Tryz.func163, Tryz.ntmps163
  go_wp2_with fail
  go_loop [5, 8] (fun _ i => ∃ k : Nat, k ≤ l.length ∧ i = .int .i64 k ∧ (l.take k).any (fun n => !Sp.inR n 1 (n0 : Int)) = false) (fun _ i => l.length - (intOf i).toNat)
  case atStart => exact ⟨0, Nat.zero_le _, rfl, rfl⟩
  case round =>
    obtain ⟨k, hk, rfl, hq⟩ := hrel
    have HQ := Lib.hid hq
    clear hq
    by_cases hlt : k < l.length
    · obtain ⟨b, o, rfl, hc⟩ := hm (by omega)
      have ck := hc k hlt
      have HS := Lib.hid (any_take_succ l 0 (fun n => !Sp.inR n 1 (n0 : Int)) k hlt)
      have HT := Lib.hid (any_of_take l 0 (fun n => !Sp.inR n 1 (n0 : Int)) k hlt)
      clear hc
      cases hv : (!Sp.inR (rd l k) 1 (n0 : Int))
      · go_wp2_with fail
        refine (sh_badHand_any _ g B n0 c0 V _ HRW.out).mono ?_
        rintro e w' ⟨rfl, rfl⟩
        go_wp2_with fail
        go_round
        case rel => exact ⟨k + 1, by omega, by go_num, by rw [HS.out, HQ.out]; exact hv⟩
        case measure => simp [intOf]; omega
      · go_wp2_with fail
        refine (sh_badHand_any _ g B n0 c0 V _ HRW.out).mono ?_
        rintro e w' ⟨rfl, rfl⟩
        go_wp2_with fail
        go_ret
        exact ⟨_, rfl, by rw [HT.out hv]; simp, Ext.refl _⟩
    · go_wp2_with fail
      go_ret
      have e : l.take k = l := List.take_of_length_le (by omega)
      have := HQ.out
      rw [e] at this
      exact ⟨_, rfl, by rw [this]; rfl, Ext.refl _⟩
theorem sh_contains_hand (A : Option Addr) (c : Nat) (l : List Int) (g : Nat) (B : Option Addr) (n0 c0 : Nat) (V : Value) (w : World) (hr : Row w g 50 #[.slice B n0 c0, V]) (hm : Ints w A l) (hl : l.length ≤ 100000) :
    Calls Tryz.prog 100 #[.slice A l.length c, .func (.func 124) #[] #[.pointer (some ⟨g, 0, none⟩)]] w fun e w' => e = .returned (.bool (l.any fun n => !Sp.inR n 1 (n0 : Int))) ∧ Ext w w' := by
  have HRW := Lib.hid hr
  clear hr
  go_enter Tryz.func100, Tryz.ntmps100
  go_wp2_with fail
  refine (sh_index_hand A c l g B n0 c0 V w HRW.out hm hl).mono ?_
  rintro e w1 ⟨r, rfl, hr, hE⟩
  have HR := Lib.hid hr
  clear hr
  go_wp2_with fail
  go_ret
  exact ⟨ret_bool HR.out, hE⟩
/-- A piece that is in order. -/
structure Tp.PieceOk (links : List (Int × Ec.Pair)) (hands : List Int) : Prop where
  n1 : 1 ≤ links.length
  n5 : links.length ≤ 5
  m1 : 1 ≤ hands.length
  m4 : hands.length ≤ 4
  from_ : Tp.LinksOk links
  pair : ∀ i, i < links.length → (Ec.isTeeth (Tp.pr links i).drives && Ec.isTeeth (Tp.pr links i).driven) = true
  far : ∀ i, i < links.length → (Tp.path (Tp.frm (links.take i)) (Tp.frm links i)).length < 3
  hand : (hands.any fun n => !Sp.inR n 1 (links.length : Int)) = false
theorem Tp.Links.take {w : World} {A : Option Addr} {l : List (Int × Ec.Pair)} (h : Tp.Links w A l) (k : Nat) : Tp.Links w A (l.take k) := fun h0 =>
  have h1 : 0 < l.length := by rw [List.length_take] at h0; omega
  let ⟨b, o, e, hc⟩ := h h1
  ⟨b, o, e, fun j hj => by
    rw [List.length_take] at hj
    have e9 : (l.take k).getD j (0, Ec.noPair) = l.getD j (0, Ec.noPair) := by
      simp only [List.getD_eq_getElem?_getD, List.getElem?_take]
      rw [if_pos (by omega)]
    rw [e9]
    exact hc j (by omega)⟩
theorem Tp.LinksOk.take {l : List (Int × Ec.Pair)} (h : Tp.LinksOk l) (k : Nat) : Tp.LinksOk (l.take k) := fun i => by
  simp only [List.getD_eq_getElem?_getD, List.getElem?_take]
  by_cases hi : i < k
  · rw [if_pos hi]
    have := h i
    simpa only [List.getD_eq_getElem?_getD] using this
  · rw [if_neg hi]
    exact ⟨Int.le_refl _, Int.natCast_nonneg _⟩
theorem sh_isPiece_yes (A : Option Addr) (c : Nat) (Bb : Option Addr) (cb : Nat) (links : List (Int × Ec.Pair)) (hands : List Int) (w : World) (hm : Tp.Links w A links) (hh : Ints w Bb hands) (ok : Tp.PieceOk links hands) (hcap : links.length ≤ c) :
    Calls Tryz.prog 65 #[.agg #[.slice A links.length c, .slice Bb hands.length cb]] w fun e w' => e = .returned (.bool true) ∧ Ext w w' := by
  have HM := Lib.hid hm
  have HH := Lib.hid hh
  have HOK := Lib.hid ok
  have n1 := ok.n1
  have n5 := ok.n5
  have m1 := ok.m1
  have m4 := ok.m4
  obtain ⟨n, hn⟩ : ∃ n, links.length = n := ⟨_, rfl⟩
  obtain ⟨m, hmm⟩ : ∃ m, hands.length = m := ⟨_, rfl⟩
  have HN := Lib.hid hn
  have HMM := Lib.hid hmm
  have HI1 := Lib.hid (fun W => by have h9 := sh_in_any (n : Int) 1 5 W; rw [show Sp.inR (n : Int) 1 5 = true by simp [Sp.inR]; omega] at h9; exact h9)
  have HI2 := Lib.hid (fun W => by have h9 := sh_in_any (m : Int) 1 4 W; rw [show Sp.inR (m : Int) 1 4 = true by simp [Sp.inR]; omega] at h9; exact h9)
  have r0 := Row.new w 50 #[.slice A links.length c, .slice Bb hands.length cb]
  have HR0 := Lib.hid r0
  have HX0 := Lib.hid ((Ext.refl w).alloc (.cells #[.slice A links.length c, .slice Bb hands.length cb] 50))
  have c0 := r0.cell
  clear hm hh ok r0
  rw [hn] at HR0 HX0 c0 hcap ⊢ n1 n5
  rw [hmm] at HR0 HX0 c0 ⊢ m1 m4
  clear hn hmm
  go_enter Tryz.func65, Tryz.ntmps65
  go_wp2_with fail
  refine (HI1.out _).mono ?_
  rintro e w1 ⟨rfl, rfl⟩
  go_wp2_with fail
  refine (HI2.out _).mono ?_
  rintro e w1 ⟨rfl, rfl⟩
  dsimp only
  go_wp2_with fail
  obtain ⟨w0, hw0⟩ : ∃ w0, w.alloc (.cells #[.slice A n c, .slice Bb m cb] 50) = w0 := ⟨_, rfl⟩
  rw [hw0] at HR0 HX0 ⊢
  clear c0 hw0
  go_loopw [20] (fun i wr => ∃ k : Nat, k ≤ n ∧ i = .int .i64 (k : Int) ∧ Ext w0 wr) (fun i _ => n - (intOf i).toNat)
  case atStart => exact ⟨0, Nat.zero_le _, rfl, Ext.refl _⟩
  case round =>
    obtain ⟨k, hk, rfl, hX3⟩ := hrel
    have HXR := Lib.hid hX3
    have HR3 := Lib.hid (HR0.out.ext hX3)
    have cp := HR3.out.cell
    rcases Nat.lt_or_eq_of_le hk with h9 | h9
    · have hkl : k < links.length := by rw [HN.out]; exact h9
      obtain ⟨b, o, rfl, hc⟩ := HM.out (by omega)
      obtain ⟨d1, hd1⟩ : ∃ d, (Tp.pr links k).drives = d := ⟨_, rfl⟩
      obtain ⟨d2, hd2⟩ : ∃ d, (Tp.pr links k).driven = d := ⟨_, rfl⟩
      obtain ⟨fm, hfm⟩ : ∃ f, Tp.frm links k = f := ⟨_, rfl⟩
      have hkc : k ≤ c := by omega
      have hfk : fm ≤ k := by rw [← hfm]; exact (HOK.out.from_.frm k).1
      have y0 : wr.cell? ⟨b, o + k * 3, none⟩ = some (.int .i64 (fm : Int)) := by
        have h8 := (HX0.out.trans hX3).cell (hc k hkl).1
        rw [(HOK.out.from_.frm k).2, hfm] at h8
        exact h8
      have y1 : wr.cell? ⟨b, o + k * 3 + 1, none⟩ = some (.int .i64 d1) := by
        have h8 := (HX0.out.trans hX3).cell (hc k hkl).2.1
        rw [show (links.getD k (0, Ec.noPair)).2.drives = d1 from hd1] at h8
        exact h8
      have y2 : wr.cell? ⟨b, o + k * 3 + 2, none⟩ = some (.int .i64 d2) := by
        have h8 := (HX0.out.trans hX3).cell (hc k hkl).2.2
        rw [show (links.getD k (0, Ec.noPair)).2.driven = d2 from hd2] at h8
        exact h8
      have HIN : Hid (∀ W, Calls Tryz.prog 70 #[.int .i64 (fm : Int), .int .i64 0, .int .i64 (k : Int)] W fun e w' => e = .returned (.bool true) ∧ Ext W w') := Lib.hid (fun W => by have h8 := sh_in_any (fm : Int) 0 (k : Int) W; rw [show Sp.inR (fm : Int) 0 (k : Int) = true by simp [Sp.inR]; omega] at h8; exact h8.mono (fun e w' h => ⟨h.1, by rw [h.2]; exact Ext.refl _⟩))
      have HPR := Lib.hid (fun W => by have h8 := sh_isPair_any d1 d2 W; have h7 := HOK.out.pair k hkl; rw [hd1, hd2] at h7; rw [h7] at h8; exact h8)
      obtain ⟨z, hz⟩ : ∃ z, (Tp.path (Tp.frm (links.take k)) fm).length = z := ⟨_, rfl⟩
      have hz3 : z < 3 := by have h7 := HOK.out.far k hkl; rw [hfm, hz] at h7; exact h7
      have HFA : Hid (∀ W, Ext w W → Calls Tryz.prog 123 #[.slice (some ⟨b, o, none⟩) k c, .int .i64 (fm : Int)] W fun e w' => e = .returned (.int .i64 (z : Int)) ∧ Ext W w') := Lib.hid (fun W h => by
        have hlk : (links.take k).length = k := by rw [List.length_take]; omega
        have h8 := sh_far_any (some ⟨b, o, none⟩) c (links.take k) fm W ((HM.out.ext h).take k) (HOK.out.from_.take k) (by omega) (by omega)
        rw [hlk, hz] at h8
        exact h8)
      clear hX3 hc hd1 hd2 hfm hz
      go_wp2_with fail
      refine wp_region_later (by kernel_rfl) (by kernel_rfl) (fun W hW => ?_)
      have q1 := Later.block (w := W) (by rw [hW]; exact Row.new wr 127 #[.int .i64 (fm : Int), .int .i64 d1, .int .i64 d2])
      have q2 := Later.block (w := W) (by rw [hW]; exact HR3.out.alloc _)
      have HXW : Hid (Ext w0 W) := Lib.hid (by rw [hW]; exact HXR.out.alloc _)
      clear hW
      have HFL := Lib.hid (fun X : Later W => HFA.out _ (HX0.out.trans (HXW.out.trans X.ext)))
      have HIL := Lib.hid (fun X : Later W => HIN.out X.world)
      have HPL := Lib.hid (fun X : Later W => HPR.out X.world)
      repeat (go_big_quiet_step (first | (go_at_call 70; exact Later.call (HIL.out _)) | (go_at_call 122; exact Later.call (HPL.out _)) | (go_at_call 123; exact Later.call (HFL.out _))))
      refine wpQuiet_nil ?_
      rintro ⟨W4, hE4⟩
      have HX4 := Lib.hid (HXW.out.trans hE4)
      dsimp only
      go_wp2_with fail
      go_roundw
      case rel => exact ⟨k + 1, by omega, by simp, HX4.out⟩
      case measure => simp [intOf]; omega
    · subst h9
      clear hX3
      have HCH := Lib.hid (fun (W : World) (h : Ext wr W) => by have h8 := sh_contains_hand Bb cb hands w.heap.size A k c (.slice Bb m cb) W (HR3.out.ext h) (HH.out.ext (HX0.out.trans (HXR.out.trans h))) (by rw [HMM.out]; omega); have h7 := HOK.out.hand; rw [HN.out] at h7; rw [h7, HMM.out] at h8; exact h8)
      go_wp2_with fail
      refine (HCH.out _ (Ext.refl _)).mono ?_
      rintro e w5 ⟨rfl, hE5⟩
      go_wp2_with fail
      go_ret
      exact ⟨by first | rfl | simp, HX0.out.trans (HXR.out.trans hE5)⟩
end Go.Proofs.YtimkmokomohgjaaGreat
namespace Go.Proofs.YtimkmokomohgjaaGreat
open Sp (rd)
set_option maxRecDepth 100000
set_option linter.unusedVariables false
theorem Tp.quot_lim2 {N g B : Int} (h1 : 1 ≤ N) (h2 : N ≤ B) (hg : 1 ≤ g) (h : g ∣ N) : 1 ≤ N / g ∧ N / g ≤ B := by
  obtain ⟨n, rfl⟩ := h
  rw [Int.mul_ediv_cancel_left n (by omega)]
  have hn : 1 ≤ n := by
    rcases Int.lt_or_le 0 n with h' | h'
    · omega
    · exfalso
      have := Int.mul_nonneg (a := g) (b := -n) (by omega) (by omega)
      have e := Int.mul_neg g n
      omega
  have := Int.mul_le_mul_of_nonneg_right hg (show (0 : Int) ≤ n by omega)
  omega
theorem Tp.red_lims {a b : Int} (ha : 1 ≤ a ∧ a ≤ 1000000) (hb : 1 ≤ b ∧ b ≤ 1000000) : (1 ≤ (Tp.red a b).drives ∧ (Tp.red a b).drives ≤ 1000000) ∧ (1 ≤ (Tp.red a b).driven ∧ (Tp.red a b).driven ≤ 1000000) := by
  have hg : 0 < Int.gcd a b := Int.gcd_pos_of_ne_zero_left _ (by omega)
  exact ⟨Tp.quot_lim2 ha.1 ha.2 (by omega) (Int.gcd_dvd_left ..), Tp.quot_lim2 hb.1 hb.2 (by omega) (Int.gcd_dvd_right ..)⟩
/-- A distance's numbers. -/
def Tp.DistOk (d : Ec.Pair) : Prop := (0 ≤ d.drives ∧ d.drives ≤ 1000000000) ∧ (0 ≤ d.driven ∧ d.driven ≤ 1000000)
theorem Tp.dist_ok {x f : Ec.Pair} (hx : (1 ≤ x.drives ∧ x.drives ≤ 1000000) ∧ (1 ≤ x.driven ∧ x.driven ≤ 1000000)) (hf : (1 ≤ f.drives ∧ f.drives ≤ 1000) ∧ (1 ≤ f.driven ∧ f.driven ≤ 1000)) : Tp.DistOk (Tp.dist x f) := by
  have p1 := mul_bounds0 (a := x.drives) (b := f.driven) (A := 1000000) (B := 1000) (by omega) hx.1.2 (by omega) hf.2.2
  have p2 := mul_bounds0 (a := f.drives) (b := x.driven) (A := 1000) (B := 1000000) (by omega) hf.1.2 (by omega) hx.2.2
  unfold Tp.DistOk Tp.dist Tp.cmpF
  simp only
  omega
theorem Tp.nearOne_len {all : List Int} {f : Ec.Pair} {drives i : Int} {st : List Ec.Pair × Ec.Pair} : (Tp.nearOne all f drives i st).1.length ≤ st.1.length + 1 := by
  unfold Tp.nearOne
  split
  · dsimp only
    split <;> split <;> simp
  · omega
theorem Tp.nearN_len {all : List Int} {f : Ec.Pair} : ∀ k, (Tp.nearN all f k).1.length ≤ 2 * k
  | 0 => by unfold Tp.nearN; simp
  | k + 1 => by
    have h := Tp.nearN_len (all := all) (f := f) k
    rw [Tp.nearN]
    unfold Tp.nearAt
    dsimp only
    have h1 := Tp.nearOne_len (all := all) (f := f) (drives := rd all k) (i := ((Tp.bsL all f.drives (rd all k * f.driven) : Nat) : Int) - 1) (st := Tp.nearN all f k)
    have h2 := Tp.nearOne_len (all := all) (f := f) (drives := rd all k) (i := ((Tp.bsL all f.drives (rd all k * f.driven) : Nat) : Int)) (st := Tp.nearOne all f (rd all k) (((Tp.bsL all f.drives (rd all k * f.driven) : Nat) : Int) - 1) (Tp.nearN all f k))
    omega
end Go.Proofs.YtimkmokomohgjaaGreat
namespace Go.Proofs.YtimkmokomohgjaaGreat
open Go.RowKit
open Sp (rd)
set_option maxRecDepth 100000
set_option maxHeartbeats 4000000
set_option linter.unusedVariables false
theorem Tp.pick2_0 (x0 x1 : Value) (w : World) : (Instr.index 233 (.agg #[x0, x1]) (.int .i64 0)).run Tryz.prog w = .ok x0 w := by kernel_rfl
theorem Tp.pick2_1 (x0 x1 : Value) (w : World) : (Instr.index 233 (.agg #[x0, x1]) (.int .i64 1)).run Tryz.prog w = .ok x1 w := by kernel_rfl
/-- What near's loops hold: the list of fractions, how far they are, and what both boxes hold. -/
structure Tp.NearR (w : World) (cw : Array Value) (fn fd : Int) (v : Value) (st : List Ec.Pair × Ec.Pair) (W : World) : Prop where
  out : W.ownsRow (w.heap.size + 4) 69 2 v st.1.length (Tp.pc st.1)
  least : Row W (w.heap.size + 1 + 1 + 1) 69 #[.int .i64 st.2.drives, .int .i64 st.2.driven]
  res : Row W (w.heap.size + 1 + 1) 69 #[.int .i64 0, .int .i64 0]
  f : Row W (w.heap.size + 1) 69 #[.int .i64 fn, .int .i64 fd]
  wheels : Row W w.heap.size 165 cw
  ext : Ext w W
  ok : Tp.DistOk st.2
  val : ∃ B d, v = .slice B st.1.length d
theorem Tp.NearR.to {w : World} {cw : Array Value} {fn fd : Int} {v : Value} {st : List Ec.Pair × Ec.Pair} {W W' : World} (h : Tp.NearR w cw fn fd v st W) (he : Ext W W') : Tp.NearR w cw fn fd v st W' :=
  ⟨own_ext h.out he, h.least.ext he, h.res.ext he, h.f.ext he, h.wheels.ext he, h.ext.trans he, h.ok, h.val⟩
theorem Tp.NearR.set {w : World} {cw : Array Value} {fn fd : Int} {v : Value} {st : List Ec.Pair × Ec.Pair} {W : World} (h : Tp.NearR w cw fn fd v st W) (d : Ec.Pair) (hd : Tp.DistOk d) :
    Tp.NearR w cw fn fd (.slice none 0 0) ([], d) ((W.setCell ⟨w.heap.size + 1 + 1 + 1, 0, none⟩ (.int .i64 d.drives)).setCell ⟨w.heap.size + 1 + 1 + 1, 1, none⟩ (.int .i64 d.driven)) :=
  ⟨by simp [World.ownsRow, Tp.pc], by simpa using (h.least.set_ 0 (.int .i64 d.drives)).set_ 1 (.int .i64 d.driven), (h.res.far (p := ⟨w.heap.size + 1 + 1 + 1, 0, none⟩) (by simp) _).far (p := ⟨w.heap.size + 1 + 1 + 1, 1, none⟩) (by simp) _, (h.f.far (p := ⟨w.heap.size + 1 + 1 + 1, 0, none⟩) (by simp) _).far (p := ⟨w.heap.size + 1 + 1 + 1, 1, none⟩) (by simp) _, (h.wheels.far (p := ⟨w.heap.size + 1 + 1 + 1, 0, none⟩) (by simp; omega) _).far (p := ⟨w.heap.size + 1 + 1 + 1, 1, none⟩) (by simp; omega) _, (h.ext.setCell (p := ⟨w.heap.size + 1 + 1 + 1, 0, none⟩) (by simp; omega) _).setCell (p := ⟨w.heap.size + 1 + 1 + 1, 1, none⟩) (by simp; omega) _, hd, ⟨none, 0, rfl⟩⟩
theorem Tp.NearR.grown {w : World} {cw : Array Value} {fn fd : Int} {v : Value} {gg cap : Nat} {st : List Ec.Pair × Ec.Pair} {x : Ec.Pair} {W W' : World} (h : Tp.NearR w cw fn fd v st W) (hg : W.grownBy W' v.ownBlock) (ho : W'.ownsRow (w.heap.size + 4) 69 2 (.slice (some ⟨gg, 0, none⟩) (st.1.length + 1) cap) (st.1.length + 1) (Tp.pc st.1 ++ [.int .i64 x.drives, .int .i64 x.driven])) :
    Tp.NearR w cw fn fd (.slice (some ⟨gg, 0, none⟩) (st.1.length + 1) cap) (st.1 ++ [x], st.2) W' :=
  ⟨by rw [Tp.pc_append, List.length_append]; exact ho, Tp.grown_far h.least hg (Tp.own_ne h.out (by omega)), Tp.grown_far h.res hg (Tp.own_ne h.out (by omega)), Tp.grown_far h.f hg (Tp.own_ne h.out (by omega)), Tp.grown_far h.wheels hg (Tp.own_ne h.out (by omega)), h.ext.grown hg (fun g hg => by have := (h.out.lt g hg).1; omega), h.ok, ⟨_, _, by rw [List.length_append]; rfl⟩⟩
theorem Tp.cmp_self (d : Ec.Pair) : Tp.cmpF d d = 0 := by unfold Tp.cmpF; omega
/-- What one fraction makes of what is nearest so far. -/
theorem Tp.nearOne_out {all : List Int} {f : Ec.Pair} {dr i : Int} {st : List Ec.Pair × Ec.Pair} (h : Sp.inR i 0 (all.length - 1) = false) : Tp.nearOne all f dr i st = st := by
  unfold Tp.nearOne
  rw [if_neg (by rw [h]; decide)]
theorem Tp.nearOne_new {all : List Int} {f : Ec.Pair} {dr i y : Int} {x d : Ec.Pair} {st : List Ec.Pair × Ec.Pair} (h : Sp.inR i 0 (all.length - 1) = true) (hy : rd all i.toNat = y) (hx : Tp.red dr y = x) (hd : Tp.dist x f = d) (hc : st.1.length = 0 ∨ Tp.cmpF d st.2 < 0) : Tp.nearOne all f dr i st = ([x], d) := by
  unfold Tp.nearOne
  rw [if_pos h]
  dsimp only
  rw [hy, hx, hd, if_pos hc, if_pos ⟨Tp.cmp_self d, rfl⟩]
  rfl
theorem Tp.nearOne_old {all : List Int} {f : Ec.Pair} {dr i y : Int} {x d : Ec.Pair} {st : List Ec.Pair × Ec.Pair} (h : Sp.inR i 0 (all.length - 1) = true) (hy : rd all i.toNat = y) (hx : Tp.red dr y = x) (hd : Tp.dist x f = d) (hc : ¬ (st.1.length = 0 ∨ Tp.cmpF d st.2 < 0)) :
    Tp.nearOne all f dr i st = if Tp.cmpF d st.2 = 0 ∧ Tp.frIs st.1 x = false then (st.1 ++ [x], st.2) else st := by
  unfold Tp.nearOne
  rw [if_pos h]
  dsimp only
  rw [hy, hx, hd, if_neg hc]
theorem t_near_any (a b p s : Int) (V T : Value) (bs os ns cs : Nat) (M : Value) (k : Nat) (A : Option Addr) (cA : Nat) (all : List Int) (fn fd : Int) (w : World)
    (hk : k < ns) (hns : ns ≤ 1000) (hrow : w.cell? ⟨bs, os + k, none⟩ = some (.slice A all.length cA)) (hm : Ints w A all) (hlen : all.length ≤ 1000) (hall : ∀ k, k < all.length → 1 ≤ rd all k ∧ rd all k ≤ 1000000) (hf : (1 ≤ fn ∧ fn ≤ 1000) ∧ (1 ≤ fd ∧ fd ≤ 1000)) :
    Calls Tryz.prog 152 #[.agg #[.int .i64 a, .int .i64 b, .int .i64 p, .int .i64 s, V, T, .slice (some ⟨bs, os, none⟩) ns cs, M], .int .i64 (k : Int), .agg #[.int .i64 fn, .int .i64 fd]] w fun e w' => ∃ B d, e = .returned (.tuple #[.slice B (Tp.near all ⟨fn, fd⟩).1.length d, .agg #[.int .i64 (Tp.near all ⟨fn, fd⟩).2.drives, .int .i64 (Tp.near all ⟨fn, fd⟩).2.driven]]) ∧ w'.ownsRow (w.heap.size + 4) 69 2 (.slice B (Tp.near all ⟨fn, fd⟩).1.length d) (Tp.near all ⟨fn, fd⟩).1.length (Tp.pc (Tp.near all ⟨fn, fd⟩).1) ∧ Ext w w' := by
  have hmf : ∀ fn first cap w, (Instr.makeFunc fn first cap).run Tryz.prog w = .ok (.func fn first cap) w := fun _ _ _ _ => rfl
  have hp0 := Tp.pick2_0
  have hp1 := Tp.pick2_1
  have HM := Lib.hid hm
  have HALL := Lib.hid hall
  have HF := Lib.hid hf
  obtain ⟨i0, hi0, hi1, hi2, hi3⟩ := info_parts Tp.info_fr
  have hk1 : (k : Int) < (ns : Int) := by omega
  have HR0 : Hid (Tp.NearR w #[.int .i64 a, .int .i64 b, .int .i64 p, .int .i64 s, V, T, .slice (some ⟨bs, os, none⟩) ns cs, M] fn fd (.slice none 0 0) ([], ⟨0, 0⟩) ((((w.alloc (.cells #[.int .i64 a, .int .i64 b, .int .i64 p, .int .i64 s, V, T, .slice (some ⟨bs, os, none⟩) ns cs, M] 165)).alloc (.cells #[.int .i64 fn, .int .i64 fd] 69)).alloc (.cells #[.int .i64 0, .int .i64 0] 69)).alloc (.cells #[.int .i64 0, .int .i64 0] 69))) := Lib.hid ⟨by simp [World.ownsRow, Tp.pc], (blocks4 w _ _ _ _).2.2.2, (blocks4 w _ _ _ _).2.2.1, (blocks4 w _ _ _ _).2.1, (blocks4 w _ _ _ _).1, ((((Ext.refl w).alloc _).alloc _).alloc _).alloc _, by unfold Tp.DistOk; simp, ⟨none, 0, rfl⟩⟩
  have c0 := HR0.out.wheels.cell
  have c1 := HR0.out.ext.cell hrow
  have HRW := Lib.hid hrow
  clear hm hall hrow
  obtain ⟨fu, hfu⟩ : ∃ fu, Tp.near all ⟨fn, fd⟩ = fu := ⟨_, rfl⟩
  have HFU : Hid (Tp.nearN all ⟨fn, fd⟩ all.length = fu) := Lib.hid hfu
  rw [hfu]
  clear hfu
  go_enter Tryz.func152, Tryz.ntmps152
  go_wp2_with fail
  clear c0 c1
  obtain ⟨W0, hW0⟩ : ∃ W, (((w.alloc (.cells #[.int .i64 a, .int .i64 b, .int .i64 p, .int .i64 s, V, T, .slice (some ⟨bs, os, none⟩) ns cs, M] 165)).alloc (.cells #[.int .i64 fn, .int .i64 fd] 69)).alloc (.cells #[.int .i64 0, .int .i64 0] 69)).alloc (.cells #[.int .i64 0, .int .i64 0] 69) = W := ⟨_, rfl⟩
  rw [hW0] at HR0 ⊢
  clear hW0
  go_loopw [8, 26] (fun v i wr => ∃ k : Nat, k ≤ all.length ∧ i = .int .i64 (k : Int) ∧ Tp.NearR w #[.int .i64 a, .int .i64 b, .int .i64 p, .int .i64 s, V, T, .slice (some ⟨bs, os, none⟩) ns cs, M] fn fd v (Tp.nearN all ⟨fn, fd⟩ k) wr) (fun _ i _ => all.length - (intOf i).toNat)
  case atStart => exact ⟨0, Nat.zero_le _, rfl, HR0.out⟩
  case round =>
    obtain ⟨j, hj, rfl, hR⟩ := hrel
    obtain ⟨B1, d1, rfl⟩ := hR.val
    have HR := Lib.hid hR
    have hL2 := Tp.nearN_len (all := all) (f := ⟨fn, fd⟩) j
    clear hR
    by_cases hlt : j < all.length
    · have hlt' : (j : Int) < (all.length : Int) := by omega
      have hdr := HALL.out j hlt
      have HNX : Hid (Tp.nearN all ⟨fn, fd⟩ (j + 1) = Tp.nearOne all ⟨fn, fd⟩ (rd all j) ((Tp.bsL all fn (rd all j * fd) : Nat) : Int) (Tp.nearOne all ⟨fn, fd⟩ (rd all j) (((Tp.bsL all fn (rd all j * fd) : Nat) : Int) - 1) (Tp.nearN all ⟨fn, fd⟩ j))) := Lib.hid rfl
      have hSL : (Tp.nearN all ⟨fn, fd⟩ j).1.length ≤ 2000 := by omega
      obtain ⟨S, hS⟩ : ∃ S, Tp.nearN all ⟨fn, fd⟩ j = S := ⟨_, rfl⟩
      rw [hS] at HR HNX hSL ⊢
      clear hS hL2
      have hbs := (Tp.bs_le (fun k => decide (rd all k * fn < (rd all j * fd))) all.length 0 all.length (Nat.zero_le _)).1
      rw [show Tp.bs (fun k => decide (rd all k * fn < (rd all j * fd))) all.length 0 all.length = Tp.bsL all fn (rd all j * fd) from rfl] at hbs
      have HSE := Lib.hid (fun W h h2 => t_search_any A cA all (rd all j * fd) fn fd (w.heap.size + 1) W h h2 (by omega) (by have := HF.out; omega) (fun k hk => by have := HALL.out k hk; omega))
      obtain ⟨q, hq⟩ : ∃ q, Tp.bsL all fn (rd all j * fd) = q := ⟨_, rfl⟩
      rw [hq] at HSE HNX hbs
      clear hq
      obtain ⟨bb, o, rfl, hc⟩ := HM.out (by omega)
      have q0 := HR.out.ext.cell (hc j hlt)
      obtain ⟨dr, hdr2⟩ : ∃ dr, rd all j = dr := ⟨_, rfl⟩
      rw [hdr2] at q0 hdr HNX HSE
      have hmul := mul_bounds0 (a := dr) (b := fd) (A := 1000000) (B := 1000) (by omega) hdr.2 (by omega) hf.2.2
      have cf := HR.out.f.cell
      clear hc hdr2
      go_wp2_with fail
      refine (HSE.out _ (HM.out.ext HR.out.ext) HR.out.f).mono ?_
      rintro e w1 ⟨⟨bo, rfl⟩, rfl⟩
      go_wp2_with fail
      obtain ⟨S1, hS1⟩ : ∃ S1, Tp.nearOne all ⟨fn, fd⟩ dr ((q : Int) - 1) S = S1 := ⟨_, rfl⟩
      rw [hS1] at HNX
      obtain ⟨S2, hS2⟩ : ∃ S2, Tp.nearOne all ⟨fn, fd⟩ dr (q : Int) S1 = S2 := ⟨_, rfl⟩
      rw [hS2] at HNX
      have hL1 : S1.1.length ≤ 2001 := by rw [← hS1]; have := Tp.nearOne_len (all := all) (f := ⟨fn, fd⟩) (drives := dr) (i := (q : Int) - 1) (st := S); omega
      obtain ⟨ia, hia⟩ : ∃ ia, (q : Int) - 1 = ia := ⟨_, rfl⟩
      obtain ⟨ib, hib⟩ : ∃ ib, (q : Int) = ib := ⟨_, rfl⟩
      rw [hia] at hS1 ⊢
      rw [hib] at hS2 ⊢
      have HS1 := Lib.hid hS1
      have HS2 := Lib.hid hS2
      have HIA := Lib.hid (show -1 ≤ ia ∧ ia ≤ 1000 by omega)
      have HIB := Lib.hid (show -1 ≤ ib ∧ ib ≤ 1000 by omega)
      have HWX := Lib.hid (show w.heap.size + 4 ≤ wr.heap.size from by have := HR.out.least.lt; omega)
      obtain ⟨wo, hwo⟩ : ∃ wo : World, wo = wr := ⟨_, rfl⟩
      clear hia hib hS1 hS2 q0 cf
      go_loopw [8, 44] (fun v i wr => (i = .int .i64 0 ∧ Tp.NearR w #[.int .i64 a, .int .i64 b, .int .i64 p, .int .i64 s, V, T, .slice (some ⟨bs, os, none⟩) ns cs, M] fn fd v S wr) ∨ (i = .int .i64 1 ∧ Tp.NearR w #[.int .i64 a, .int .i64 b, .int .i64 p, .int .i64 s, V, T, .slice (some ⟨bs, os, none⟩) ns cs, M] fn fd v S1 wr) ∨ (i = .int .i64 2 ∧ Tp.NearR w #[.int .i64 a, .int .i64 b, .int .i64 p, .int .i64 s, V, T, .slice (some ⟨bs, os, none⟩) ns cs, M] fn fd v S2 wr)) (fun _ i _ => 2 - (intOf i).toNat)
      case atStart => exact .inl ⟨rfl, HR.out⟩
      case round =>
        clear hwo HR HWX wo
        rcases hrel with ⟨rfl, hR⟩ | ⟨rfl, hR⟩ | ⟨rfl, hR⟩
        · obtain ⟨B2, d2, rfl⟩ := hR.val
          have HR := Lib.hid hR
          have hok := hR.ok
          unfold Tp.DistOk at hok
          have HIN := Lib.hid (fun W => t_in_any ia 0 ((all.length : Int) - 1) W)
          obtain ⟨bi, hbi⟩ : ∃ bi, Sp.inR ia 0 ((all.length : Int) - 1) = bi := ⟨_, rfl⟩
          rw [hbi] at HIN
          have HBI := Lib.hid hbi
          clear hR hbi
          cases bi
          · go_wp2_with fail
            refine (HIN.out _).mono ?_
            rintro e w1 ⟨rfl, rfl⟩
            dsimp only
            go_wp2_with fail
            go_roundw
            case rel => exact .inr (.inl ⟨rfl, by rw [← HS1.out, Tp.nearOne_out HBI.out]; exact HR.out⟩)
            case measure => simp [intOf]
          · have hrg : 0 ≤ ia ∧ ia < (all.length : Int) := by have := HBI.out; simp [Sp.inR] at this; omega
            obtain ⟨r, rfl⟩ : ∃ r : Nat, ia = (r : Int) := ⟨ia.toNat, by omega⟩
            have hr1 : r < all.length := by omega
            have hyb := HALL.out r hr1
            obtain ⟨bb2, o2, he2, hc⟩ := HM.out (by omega)
            cases he2
            have q0 := HR.out.ext.cell (hc r hr1)
            have hry : rd all ((r : Int)).toNat = rd all r := rfl
            obtain ⟨y, hy⟩ : ∃ y, rd all r = y := ⟨_, rfl⟩
            rw [hy] at q0 hyb hry
            have hxl := Tp.red_lims hdr hyb
            have HRD := Lib.hid (fun W => t_reduced_any dr y W hdr.1 hdr.2 hyb.1 hyb.2)
            rw [show (dr / (Int.gcd dr y : Int)) = (Tp.red dr y).drives from rfl, show (y / (Int.gcd dr y : Int)) = (Tp.red dr y).driven from rfl] at HRD
            obtain ⟨⟨x1, x2⟩, hX⟩ : ∃ X, Tp.red dr y = X := ⟨_, rfl⟩
            rw [hX] at HRD hxl
            have hdo := Tp.dist_ok (f := ⟨fn, fd⟩) hxl hf
            have HDI := Lib.hid (fun W => t_distance_any x1 x2 fn fd W (by have := hxl.1; simp only at this; omega) (by have := hxl.2; simp only at this; omega) (by omega) (by omega))
            obtain ⟨⟨e1, e2⟩, hD⟩ : ∃ D, Tp.dist ⟨x1, x2⟩ ⟨fn, fd⟩ = D := ⟨_, rfl⟩
            have hD1 : max (Tp.cmpF ⟨x1, x2⟩ ⟨fn, fd⟩) (-(Tp.cmpF ⟨x1, x2⟩ ⟨fn, fd⟩)) = e1 := congrArg Ec.Pair.drives hD
            have hD2 : x2 = e2 := congrArg Ec.Pair.driven hD
            rw [hD] at hdo
            unfold Tp.DistOk at hdo
            simp only at hdo hxl
            have HDI2 : Hid (∀ W, Calls Tryz.prog 193 #[.agg #[.int .i64 x1, .int .i64 x2], .agg #[.int .i64 fn, .int .i64 fd]] W fun e w' => e = .returned (.agg #[.int .i64 e1, .int .i64 e2]) ∧ Ext W w') := Lib.hid fun W => by have := HDI.out W; rw [hD1] at this; rw [← hD2]; exact this
            have HNEW : Hid ((S.1.length = 0 ∨ Tp.cmpF ⟨e1, e2⟩ S.2 < 0) → S1 = ([⟨x1, x2⟩], ⟨e1, e2⟩)) := Lib.hid fun h => by rw [← HS1.out]; exact Tp.nearOne_new HBI.out hry hX hD h
            have HOLD : Hid (¬ (S.1.length = 0 ∨ Tp.cmpF ⟨e1, e2⟩ S.2 < 0) → S1 = if Tp.cmpF ⟨e1, e2⟩ S.2 = 0 ∧ Tp.frIs S.1 ⟨x1, x2⟩ = false then (S.1 ++ [⟨x1, x2⟩], S.2) else S) := Lib.hid fun h => by rw [← HS1.out]; exact Tp.nearOne_old HBI.out hry hX hD h
            have hdd := HR.out.ok
            have HOK : Hid (Tp.DistOk ⟨e1, e2⟩) := Lib.hid (by unfold Tp.DistOk; simp only; exact hdo)
            clear HDI hX hD hD1 hD2 hy hry hc hyb hdd
            go_wp2_with fail
            refine (HIN.out _).mono ?_
            rintro e w1 ⟨rfl, rfl⟩
            dsimp only
            go_wp2_with fail
            refine (HRD.out _).mono ?_
            rintro e w1 ⟨rfl, hE1⟩
            have HR1 := Lib.hid ((HR.out.to hE1).to ((Ext.refl _).alloc (.cells #[.int .i64 x1, .int .i64 x2] 69)))
            have HX1 := Lib.hid (Row.new w1 69 #[.int .i64 x1, .int .i64 x2])
            have cX := HX1.out.cell
            have cf := HR1.out.f.cell
            have hz1 := hE1.size
            clear q0 hE1
            go_wp2_with fail
            refine (HDI2.out _).mono ?_
            rintro e w2 ⟨rfl, hE2⟩
            have hz2s : w1.heap.size ≤ w2.heap.size := by have := hE2.size; simp only [World.size_alloc] at this; omega
            have HR2 := Lib.hid ((HR1.out.to hE2).to ((Ext.refl _).alloc (.cells #[.int .i64 e1, .int .i64 e2] 69)))
            have HX2 := Lib.hid ((HX1.out.ext hE2).ext ((Ext.refl _).alloc (.cells #[.int .i64 e1, .int .i64 e2] 69)))
            have HD2 := Lib.hid (Row.new w2 69 #[.int .i64 e1, .int .i64 e2])
            obtain ⟨bX, hbX⟩ : ∃ bX, w1.heap.size = bX := ⟨_, rfl⟩
            have HBX : Hid (w.heap.size + 4 ≤ bX) := Lib.hid (by have h1 := hz1; have h2 := HR.out.least.lt; omega)
            rw [hbX] at HX2 hz2s ⊢
            have cX := HX2.out.cell
            have cD := HD2.out.cell
            have cL := HR2.out.least.cell
            have HCD := Lib.hid (fun W => t_compare_any e1 e2 e1 e2 W (by omega) (by omega) (by omega) (by omega))
            rw [Tp.cmp_self] at HCD
            have HCM := Lib.hid (fun W => t_compare_any e1 e2 S.2.drives S.2.driven W (by omega) (by omega) (by omega) (by omega))
            obtain ⟨cc, hcc⟩ : ∃ cc, Tp.cmpF ⟨e1, e2⟩ S.2 = cc := ⟨_, rfl⟩
            have hcc2 : Tp.cmpF ⟨e1, e2⟩ ⟨S.2.drives, S.2.driven⟩ = cc := hcc
            rw [hcc2] at HCM
            rw [hcc] at HNEW HOLD
            have HBL := Lib.hid (HR.out.least.lt)
            clear hE2 hbX cf hcc hcc2 hok hdo hxl
            by_cases hz : S.1.length = 0
            · have hz2 : ((S.1.length : Int) == 0) = true := by rw [hz]; rfl
              go_wp2_with fail
              obtain ⟨W3, hW3⟩ : ∃ W, w2.alloc (.cells #[.int .i64 e1, .int .i64 e2] 69) = W := ⟨_, rfl⟩
              obtain ⟨bD, hbD⟩ : ∃ bD, w2.heap.size = bD := ⟨_, rfl⟩
              rw [hW3, hbD] at HD2
              rw [hW3] at HR2 HX2
              rw [hW3, hbD]
              have HBD : Hid (w.heap.size + 4 ≤ bD) := Lib.hid (by have h1 := hz2s; have h2 := HBX.out; omega)
              clear cX cD cL hW3 hbD hz2
              have HO2 := Lib.hid (HNEW.out (.inl hz))
              have cD := HD2.out.cell
              have cL := HR2.out.least.cell
              have fL := HR2.out.least.free
              have jL := lts HR2.out.least.lt
              have hn1 : w.heap.size + 1 + 1 + 1 ≠ bD ∧ bD ≠ w.heap.size + 1 + 1 + 1 := by have := HBD.out; omega
              have hn2 := hn1.1
              have hn3 := hn1.2
              refine Tp.wp_named (fun a0 ha0 => ?_)
              refine Code.wp_mono (Q := fun e a' w' => e = .normal ∧ a' = (a0.put (some 71) (.agg #[.int .i64 e1, .int .i64 e2])).put (some 8) (.slice none 0 0) ∧ Tp.NearR w #[.int .i64 a, .int .i64 b, .int .i64 p, .int .i64 s, V, T, .slice (some ⟨bs, os, none⟩) ns cs, M] fn fd (.slice none 0 0) ([], ⟨e1, e2⟩) w' ∧ Row w' bX 69 #[.int .i64 x1, .int .i64 x2] ∧ Row w' bD 69 #[.int .i64 e1, .int .i64 e2]) ?hq ?hr
              case hr =>
                subst ha0
                go_region_held3 (fun w' => w'.cell? ⟨bD, 0, none⟩ = some (.int .i64 e1) ∧ w'.cell? ⟨bD, 1, none⟩ = some (.int .i64 e2)) (go_keep) (fail)
                refine ⟨rfl, ?_, (HR2.out.set ⟨e1, e2⟩ HOK.out).to ((Ext.refl _).drew), ?_, ?_⟩
                · rfl
                · exact ((HX2.out.far (p := ⟨w.heap.size + 1 + 1 + 1, 0, none⟩) (by have := HBX.out; simp; omega) _).far (p := ⟨w.heap.size + 1 + 1 + 1, 1, none⟩) (by have := HBX.out; simp; omega) _).ext ((Ext.refl _).drew)
                · exact ((HD2.out.far (p := ⟨w.heap.size + 1 + 1 + 1, 0, none⟩) (by have := HBX.out; simp; omega) _).far (p := ⟨w.heap.size + 1 + 1 + 1, 1, none⟩) (by have := HBX.out; simp; omega) _).ext ((Ext.refl _).drew)
              case hq =>
                rintro e a' w4 ⟨rfl, rfl, hR4, hX4, hD4⟩
                subst ha0
                simp only [Act.put, List.setIfInBounds_toArray, List.set_cons_succ, List.set_cons_zero]
                have HR4 := Lib.hid hR4
                have HX4 := Lib.hid hX4
                have cD := hD4.cell
                have cL := hR4.least.cell
                clear hR4 hX4 hD4 fL jL
                go_wp2_with fail
                refine (HCD.out _).mono ?_
                rintro e w5 ⟨rfl, hE5⟩
                have HR5 := Lib.hid (HR4.out.to hE5)
                have HX5 := Lib.hid (HX4.out.ext hE5)
                have cX := HX5.out.cell
                clear hE5 cD cL
                dsimp only
                go_wp2_with fail
                refine (t_hasFr_any none 0 [] x1 x2 _ (fun h => by cases h) (by simp)).mono ?_
                rintro e w6 ⟨rfl, hE6⟩
                have HR6 := Lib.hid (HR5.out.to hE6)
                have HX6 := Lib.hid (HX5.out.ext hE6)
                clear hE6 cX
                dsimp only [Tp.frIs, List.any_nil]
                have cX := HX6.out.cell
                have HOW := Lib.hid (HR6.out.out.alloc (.cells #[.int .i64 x1, .int .i64 x2] 69))
                have HRA := Lib.hid (HR6.out.to ((Ext.refl _).alloc (.cells #[.int .i64 x1, .int .i64 x2] 69)))
                have hzz := HR6.out.least.lt
                skip
                go_wp2_with (at_builtin; refine wpList_append_lies _ rfl _ _ 62 rfl (w.heap.size + 4) 69 i0 _ 2 16 Tryz.underlying62 hi0 hi1 hi2 hi3 rfl (by decide) _ (0) ([]) rfl HOW.out ⟨_, 0, none⟩ 1 1 [.int .i64 x1, .int .i64 x2] rfl rfl (World.news_of_block (cs := #[.int .i64 x1, .int .i64 x2]) (t := 69) (fr := (0, 0)) (heap_alloc_new _ _)) (by simp [Value.oneCell']) (by omega) (by simp only [maxLen]; omega) (by omega) (by simp; omega) _ rfl ?_; intro gg cap w7 hown7 hgrow hat hlt7; have HR7 := Lib.hid (Tp.NearR.grown (x := ⟨x1, x2⟩) HRA.out hgrow hown7); clear hown7 hgrow hat cX)
                go_roundw
                case rel => exact .inr (.inl ⟨rfl, by rw [HO2.out]; exact HR7.out⟩)
                case measure => simp [intOf]
            · have hz2 : ((S.1.length : Int) == 0) = false := by rw [beq_eq_false_iff_ne]; omega
              go_wp2_with fail
              refine (HCM.out _).mono ?_
              rintro e w3 ⟨rfl, hE3⟩
              have HR3 := Lib.hid (HR2.out.to hE3)
              have HX3 := Lib.hid (HX2.out.ext hE3)
              have HD3 := Lib.hid (HD2.out.ext hE3)
              obtain ⟨bD, hbD⟩ : ∃ bD, w2.heap.size = bD := ⟨_, rfl⟩
              have HBD : Hid (w.heap.size + 4 ≤ bD) := Lib.hid (by have h1 := hz2s; have h2 := HBX.out; omega)
              rw [hbD] at HD3 ⊢
              clear cX cD cL hE3 hbD hz2
              dsimp only
              by_cases hlc : cc < 0
              · go_wp2_with fail
                have HO2 := Lib.hid (HNEW.out (.inr hlc))
                have cD := HD3.out.cell
                have cL := HR3.out.least.cell
                have fL := HR3.out.least.free
                have jL := lts HR3.out.least.lt
                have hn1 : w.heap.size + 1 + 1 + 1 ≠ bD ∧ bD ≠ w.heap.size + 1 + 1 + 1 := by have := HBD.out; omega
                have hn2 := hn1.1
                have hn3 := hn1.2
                refine Tp.wp_named (fun a0 ha0 => ?_)
                refine Code.wp_mono (Q := fun e a' w' => e = .normal ∧ a' = (a0.put (some 71) (.agg #[.int .i64 e1, .int .i64 e2])).put (some 8) (.slice none 0 0) ∧ Tp.NearR w #[.int .i64 a, .int .i64 b, .int .i64 p, .int .i64 s, V, T, .slice (some ⟨bs, os, none⟩) ns cs, M] fn fd (.slice none 0 0) ([], ⟨e1, e2⟩) w' ∧ Row w' bX 69 #[.int .i64 x1, .int .i64 x2] ∧ Row w' bD 69 #[.int .i64 e1, .int .i64 e2]) ?hq ?hr
                case hr =>
                  subst ha0
                  go_region_held3 (fun w' => w'.cell? ⟨bD, 0, none⟩ = some (.int .i64 e1) ∧ w'.cell? ⟨bD, 1, none⟩ = some (.int .i64 e2)) (go_keep) (fail)
                  refine ⟨rfl, ?_, (HR3.out.set ⟨e1, e2⟩ HOK.out).to ((Ext.refl _).drew), ?_, ?_⟩
                  · rfl
                  · exact ((HX3.out.far (p := ⟨w.heap.size + 1 + 1 + 1, 0, none⟩) (by have := HBX.out; simp; omega) _).far (p := ⟨w.heap.size + 1 + 1 + 1, 1, none⟩) (by have := HBX.out; simp; omega) _).ext ((Ext.refl _).drew)
                  · exact ((HD3.out.far (p := ⟨w.heap.size + 1 + 1 + 1, 0, none⟩) (by have := HBX.out; simp; omega) _).far (p := ⟨w.heap.size + 1 + 1 + 1, 1, none⟩) (by have := HBX.out; simp; omega) _).ext ((Ext.refl _).drew)
                case hq =>
                  rintro e a' w4 ⟨rfl, rfl, hR4, hX4, hD4⟩
                  subst ha0
                  simp only [Act.put, List.setIfInBounds_toArray, List.set_cons_succ, List.set_cons_zero]
                  have HR4 := Lib.hid hR4
                  have HX4 := Lib.hid hX4
                  have cD := hD4.cell
                  have cL := hR4.least.cell
                  clear hR4 hX4 hD4 fL jL
                  go_wp2_with fail
                  refine (HCD.out _).mono ?_
                  rintro e w5 ⟨rfl, hE5⟩
                  have HR5 := Lib.hid (HR4.out.to hE5)
                  have HX5 := Lib.hid (HX4.out.ext hE5)
                  have cX := HX5.out.cell
                  clear hE5 cD cL
                  dsimp only
                  go_wp2_with fail
                  refine (t_hasFr_any none 0 [] x1 x2 _ (fun h => by cases h) (by simp)).mono ?_
                  rintro e w6 ⟨rfl, hE6⟩
                  have HR6 := Lib.hid (HR5.out.to hE6)
                  have HX6 := Lib.hid (HX5.out.ext hE6)
                  clear hE6 cX
                  dsimp only [Tp.frIs, List.any_nil]
                  have cX := HX6.out.cell
                  have HOW := Lib.hid (HR6.out.out.alloc (.cells #[.int .i64 x1, .int .i64 x2] 69))
                  have HRA := Lib.hid (HR6.out.to ((Ext.refl _).alloc (.cells #[.int .i64 x1, .int .i64 x2] 69)))
                  have hzz := HR6.out.least.lt
                  skip
                  go_wp2_with (at_builtin; refine wpList_append_lies _ rfl _ _ 62 rfl (w.heap.size + 4) 69 i0 _ 2 16 Tryz.underlying62 hi0 hi1 hi2 hi3 rfl (by decide) _ (0) ([]) rfl HOW.out ⟨_, 0, none⟩ 1 1 [.int .i64 x1, .int .i64 x2] rfl rfl (World.news_of_block (cs := #[.int .i64 x1, .int .i64 x2]) (t := 69) (fr := (0, 0)) (heap_alloc_new _ _)) (by simp [Value.oneCell']) (by omega) (by simp only [maxLen]; omega) (by omega) (by simp; omega) _ rfl ?_; intro gg cap w7 hown7 hgrow hat hlt7; have HR7 := Lib.hid (Tp.NearR.grown (x := ⟨x1, x2⟩) HRA.out hgrow hown7); clear hown7 hgrow hat cX)
                  go_roundw
                  case rel => exact .inr (.inl ⟨rfl, by rw [HO2.out]; exact HR7.out⟩)
                  case measure => simp [intOf]
              · have HO := Lib.hid (HOLD.out (by omega))
                have cX := HX3.out.cell
                have cD := HD3.out.cell
                have cL := HR3.out.least.cell
                go_wp2_with fail
                refine (HCM.out _).mono ?_
                rintro e w4 ⟨rfl, hE4⟩
                have HR4 := Lib.hid (HR3.out.to hE4)
                have HX4 := Lib.hid (HX3.out.ext hE4)
                clear cX cD cL hE4
                dsimp only
                by_cases hce : cc = 0
                · have hce2 : (cc == 0) = true := by simpa using hce
                  obtain ⟨A5, c5, he5, hp5⟩ := Tp.pairs_own HR4.out.out
                  cases he5
                  have HHAS := Lib.hid (fun W h => t_hasFr_any B2 d2 S.1 x1 x2 W h (by omega))
                  have HP5 := Lib.hid hp5
                  have cX := HX4.out.cell
                  obtain ⟨qq, hqq⟩ : ∃ qq, Tp.frIs S.1 ⟨x1, x2⟩ = qq := ⟨_, rfl⟩
                  rw [hqq] at HHAS HO
                  clear hqq hp5
                  go_wp2_with fail
                  refine (HHAS.out _ HP5.out).mono ?_
                  rintro e w5 ⟨rfl, hE5⟩
                  have HR5 := Lib.hid (HR4.out.to hE5)
                  have HX5 := Lib.hid (HX4.out.ext hE5)
                  clear cX hE5
                  dsimp only
                  cases qq
                  · have HO2 : Hid (S1 = (S.1 ++ [⟨x1, x2⟩], S.2)) := Lib.hid (by rw [HO.out, if_pos ⟨hce, rfl⟩])
                    have cX := HX5.out.cell
                    have HOW := Lib.hid (HR5.out.out.alloc (.cells #[.int .i64 x1, .int .i64 x2] 69))
                    have HRA := Lib.hid (HR5.out.to ((Ext.refl _).alloc (.cells #[.int .i64 x1, .int .i64 x2] 69)))
                    have hzz := HR5.out.least.lt
                    have hls : S.1.length ≤ 2001 := by omega
                    go_wp2_with (at_builtin; refine wpList_append_lies _ rfl _ _ 62 rfl (w.heap.size + 4) 69 i0 _ 2 16 Tryz.underlying62 hi0 hi1 hi2 hi3 rfl (by decide) _ (S.1.length) (Tp.pc S.1) rfl HOW.out ⟨_, 0, none⟩ 1 1 [.int .i64 x1, .int .i64 x2] rfl rfl (World.news_of_block (cs := #[.int .i64 x1, .int .i64 x2]) (t := 69) (fr := (0, 0)) (heap_alloc_new _ _)) (by simp [Value.oneCell']) (by omega) (by simp only [maxLen]; omega) (by omega) (by simp; omega) _ rfl ?_; intro gg cap w7 hown7 hgrow hat hlt7; have HR7 := Lib.hid (Tp.NearR.grown (x := ⟨x1, x2⟩) HRA.out hgrow hown7); clear hown7 hgrow hat cX)
                    go_roundw
                    case rel => exact .inr (.inl ⟨rfl, by rw [HO2.out]; exact HR7.out⟩)
                    case measure => simp [intOf]
                  · have HO2 : Hid (S1 = S) := Lib.hid (by rw [HO.out, if_neg (fun h => by cases h.2)])
                    go_wp2_with fail
                    go_roundw
                    case rel => exact .inr (.inl ⟨rfl, by rw [HO2.out]; exact HR5.out⟩)
                    case measure => simp [intOf]
                · have hce2 : (cc == 0) = false := by simpa using hce
                  have HO2 : Hid (S1 = S) := Lib.hid (by rw [HO.out, if_neg (fun h => hce h.1)])
                  go_wp2_with fail
                  go_roundw
                  case rel => exact .inr (.inl ⟨rfl, by rw [HO2.out]; exact HR4.out⟩)
                  case measure => simp [intOf]
        · obtain ⟨B2, d2, rfl⟩ := hR.val
          have HR := Lib.hid hR
          have hok := hR.ok
          unfold Tp.DistOk at hok
          have HIN := Lib.hid (fun W => t_in_any ib 0 ((all.length : Int) - 1) W)
          obtain ⟨bi, hbi⟩ : ∃ bi, Sp.inR ib 0 ((all.length : Int) - 1) = bi := ⟨_, rfl⟩
          rw [hbi] at HIN
          have HBI := Lib.hid hbi
          clear hR hbi
          cases bi
          · go_wp2_with fail
            refine (HIN.out _).mono ?_
            rintro e w1 ⟨rfl, rfl⟩
            dsimp only
            go_wp2_with fail
            go_roundw
            case rel => exact .inr (.inr ⟨rfl, by rw [← HS2.out, Tp.nearOne_out HBI.out]; exact HR.out⟩)
            case measure => simp [intOf]
          · have hrg : 0 ≤ ib ∧ ib < (all.length : Int) := by have := HBI.out; simp [Sp.inR] at this; omega
            obtain ⟨r, rfl⟩ : ∃ r : Nat, ib = (r : Int) := ⟨ib.toNat, by omega⟩
            have hr1 : r < all.length := by omega
            have hyb := HALL.out r hr1
            obtain ⟨bb2, o2, he2, hc⟩ := HM.out (by omega)
            cases he2
            have q0 := HR.out.ext.cell (hc r hr1)
            have hry : rd all ((r : Int)).toNat = rd all r := rfl
            obtain ⟨y, hy⟩ : ∃ y, rd all r = y := ⟨_, rfl⟩
            rw [hy] at q0 hyb hry
            have hxl := Tp.red_lims hdr hyb
            have HRD := Lib.hid (fun W => t_reduced_any dr y W hdr.1 hdr.2 hyb.1 hyb.2)
            rw [show (dr / (Int.gcd dr y : Int)) = (Tp.red dr y).drives from rfl, show (y / (Int.gcd dr y : Int)) = (Tp.red dr y).driven from rfl] at HRD
            obtain ⟨⟨x1, x2⟩, hX⟩ : ∃ X, Tp.red dr y = X := ⟨_, rfl⟩
            rw [hX] at HRD hxl
            have hdo := Tp.dist_ok (f := ⟨fn, fd⟩) hxl hf
            have HDI := Lib.hid (fun W => t_distance_any x1 x2 fn fd W (by have := hxl.1; simp only at this; omega) (by have := hxl.2; simp only at this; omega) (by omega) (by omega))
            obtain ⟨⟨e1, e2⟩, hD⟩ : ∃ D, Tp.dist ⟨x1, x2⟩ ⟨fn, fd⟩ = D := ⟨_, rfl⟩
            have hD1 : max (Tp.cmpF ⟨x1, x2⟩ ⟨fn, fd⟩) (-(Tp.cmpF ⟨x1, x2⟩ ⟨fn, fd⟩)) = e1 := congrArg Ec.Pair.drives hD
            have hD2 : x2 = e2 := congrArg Ec.Pair.driven hD
            rw [hD] at hdo
            unfold Tp.DistOk at hdo
            simp only at hdo hxl
            have HDI2 : Hid (∀ W, Calls Tryz.prog 193 #[.agg #[.int .i64 x1, .int .i64 x2], .agg #[.int .i64 fn, .int .i64 fd]] W fun e w' => e = .returned (.agg #[.int .i64 e1, .int .i64 e2]) ∧ Ext W w') := Lib.hid fun W => by have := HDI.out W; rw [hD1] at this; rw [← hD2]; exact this
            have HNEW : Hid ((S1.1.length = 0 ∨ Tp.cmpF ⟨e1, e2⟩ S1.2 < 0) → S2 = ([⟨x1, x2⟩], ⟨e1, e2⟩)) := Lib.hid fun h => by rw [← HS2.out]; exact Tp.nearOne_new HBI.out hry hX hD h
            have HOLD : Hid (¬ (S1.1.length = 0 ∨ Tp.cmpF ⟨e1, e2⟩ S1.2 < 0) → S2 = if Tp.cmpF ⟨e1, e2⟩ S1.2 = 0 ∧ Tp.frIs S1.1 ⟨x1, x2⟩ = false then (S1.1 ++ [⟨x1, x2⟩], S1.2) else S1) := Lib.hid fun h => by rw [← HS2.out]; exact Tp.nearOne_old HBI.out hry hX hD h
            have hdd := HR.out.ok
            have HOK : Hid (Tp.DistOk ⟨e1, e2⟩) := Lib.hid (by unfold Tp.DistOk; simp only; exact hdo)
            clear HDI hX hD hD1 hD2 hy hry hc hyb hdd
            go_wp2_with fail
            refine (HIN.out _).mono ?_
            rintro e w1 ⟨rfl, rfl⟩
            dsimp only
            go_wp2_with fail
            refine (HRD.out _).mono ?_
            rintro e w1 ⟨rfl, hE1⟩
            have HR1 := Lib.hid ((HR.out.to hE1).to ((Ext.refl _).alloc (.cells #[.int .i64 x1, .int .i64 x2] 69)))
            have HX1 := Lib.hid (Row.new w1 69 #[.int .i64 x1, .int .i64 x2])
            have cX := HX1.out.cell
            have cf := HR1.out.f.cell
            have hz1 := hE1.size
            clear q0 hE1
            go_wp2_with fail
            refine (HDI2.out _).mono ?_
            rintro e w2 ⟨rfl, hE2⟩
            have hz2s : w1.heap.size ≤ w2.heap.size := by have := hE2.size; simp only [World.size_alloc] at this; omega
            have HR2 := Lib.hid ((HR1.out.to hE2).to ((Ext.refl _).alloc (.cells #[.int .i64 e1, .int .i64 e2] 69)))
            have HX2 := Lib.hid ((HX1.out.ext hE2).ext ((Ext.refl _).alloc (.cells #[.int .i64 e1, .int .i64 e2] 69)))
            have HD2 := Lib.hid (Row.new w2 69 #[.int .i64 e1, .int .i64 e2])
            obtain ⟨bX, hbX⟩ : ∃ bX, w1.heap.size = bX := ⟨_, rfl⟩
            have HBX : Hid (w.heap.size + 4 ≤ bX) := Lib.hid (by have h1 := hz1; have h2 := HR.out.least.lt; omega)
            rw [hbX] at HX2 hz2s ⊢
            have cX := HX2.out.cell
            have cD := HD2.out.cell
            have cL := HR2.out.least.cell
            have HCD := Lib.hid (fun W => t_compare_any e1 e2 e1 e2 W (by omega) (by omega) (by omega) (by omega))
            rw [Tp.cmp_self] at HCD
            have HCM := Lib.hid (fun W => t_compare_any e1 e2 S1.2.drives S1.2.driven W (by omega) (by omega) (by omega) (by omega))
            obtain ⟨cc, hcc⟩ : ∃ cc, Tp.cmpF ⟨e1, e2⟩ S1.2 = cc := ⟨_, rfl⟩
            have hcc2 : Tp.cmpF ⟨e1, e2⟩ ⟨S1.2.drives, S1.2.driven⟩ = cc := hcc
            rw [hcc2] at HCM
            rw [hcc] at HNEW HOLD
            have HBL := Lib.hid (HR.out.least.lt)
            clear hE2 hbX cf hcc hcc2 hok hdo hxl
            by_cases hz : S1.1.length = 0
            · have hz2 : ((S1.1.length : Int) == 0) = true := by rw [hz]; rfl
              go_wp2_with fail
              obtain ⟨W3, hW3⟩ : ∃ W, w2.alloc (.cells #[.int .i64 e1, .int .i64 e2] 69) = W := ⟨_, rfl⟩
              obtain ⟨bD, hbD⟩ : ∃ bD, w2.heap.size = bD := ⟨_, rfl⟩
              rw [hW3, hbD] at HD2
              rw [hW3] at HR2 HX2
              rw [hW3, hbD]
              have HBD : Hid (w.heap.size + 4 ≤ bD) := Lib.hid (by have h1 := hz2s; have h2 := HBX.out; omega)
              clear cX cD cL hW3 hbD hz2
              have HO2 := Lib.hid (HNEW.out (.inl hz))
              have cD := HD2.out.cell
              have cL := HR2.out.least.cell
              have fL := HR2.out.least.free
              have jL := lts HR2.out.least.lt
              have hn1 : w.heap.size + 1 + 1 + 1 ≠ bD ∧ bD ≠ w.heap.size + 1 + 1 + 1 := by have := HBD.out; omega
              have hn2 := hn1.1
              have hn3 := hn1.2
              refine Tp.wp_named (fun a0 ha0 => ?_)
              refine Code.wp_mono (Q := fun e a' w' => e = .normal ∧ a' = (a0.put (some 71) (.agg #[.int .i64 e1, .int .i64 e2])).put (some 8) (.slice none 0 0) ∧ Tp.NearR w #[.int .i64 a, .int .i64 b, .int .i64 p, .int .i64 s, V, T, .slice (some ⟨bs, os, none⟩) ns cs, M] fn fd (.slice none 0 0) ([], ⟨e1, e2⟩) w' ∧ Row w' bX 69 #[.int .i64 x1, .int .i64 x2] ∧ Row w' bD 69 #[.int .i64 e1, .int .i64 e2]) ?hq ?hr
              case hr =>
                subst ha0
                go_region_held3 (fun w' => w'.cell? ⟨bD, 0, none⟩ = some (.int .i64 e1) ∧ w'.cell? ⟨bD, 1, none⟩ = some (.int .i64 e2)) (go_keep) (fail)
                refine ⟨rfl, ?_, (HR2.out.set ⟨e1, e2⟩ HOK.out).to ((Ext.refl _).drew), ?_, ?_⟩
                · rfl
                · exact ((HX2.out.far (p := ⟨w.heap.size + 1 + 1 + 1, 0, none⟩) (by have := HBX.out; simp; omega) _).far (p := ⟨w.heap.size + 1 + 1 + 1, 1, none⟩) (by have := HBX.out; simp; omega) _).ext ((Ext.refl _).drew)
                · exact ((HD2.out.far (p := ⟨w.heap.size + 1 + 1 + 1, 0, none⟩) (by have := HBX.out; simp; omega) _).far (p := ⟨w.heap.size + 1 + 1 + 1, 1, none⟩) (by have := HBX.out; simp; omega) _).ext ((Ext.refl _).drew)
              case hq =>
                rintro e a' w4 ⟨rfl, rfl, hR4, hX4, hD4⟩
                subst ha0
                simp only [Act.put, List.setIfInBounds_toArray, List.set_cons_succ, List.set_cons_zero]
                have HR4 := Lib.hid hR4
                have HX4 := Lib.hid hX4
                have cD := hD4.cell
                have cL := hR4.least.cell
                clear hR4 hX4 hD4 fL jL
                go_wp2_with fail
                refine (HCD.out _).mono ?_
                rintro e w5 ⟨rfl, hE5⟩
                have HR5 := Lib.hid (HR4.out.to hE5)
                have HX5 := Lib.hid (HX4.out.ext hE5)
                have cX := HX5.out.cell
                clear hE5 cD cL
                dsimp only
                go_wp2_with fail
                refine (t_hasFr_any none 0 [] x1 x2 _ (fun h => by cases h) (by simp)).mono ?_
                rintro e w6 ⟨rfl, hE6⟩
                have HR6 := Lib.hid (HR5.out.to hE6)
                have HX6 := Lib.hid (HX5.out.ext hE6)
                clear hE6 cX
                dsimp only [Tp.frIs, List.any_nil]
                have cX := HX6.out.cell
                have HOW := Lib.hid (HR6.out.out.alloc (.cells #[.int .i64 x1, .int .i64 x2] 69))
                have HRA := Lib.hid (HR6.out.to ((Ext.refl _).alloc (.cells #[.int .i64 x1, .int .i64 x2] 69)))
                have hzz := HR6.out.least.lt
                skip
                go_wp2_with (at_builtin; refine wpList_append_lies _ rfl _ _ 62 rfl (w.heap.size + 4) 69 i0 _ 2 16 Tryz.underlying62 hi0 hi1 hi2 hi3 rfl (by decide) _ (0) ([]) rfl HOW.out ⟨_, 0, none⟩ 1 1 [.int .i64 x1, .int .i64 x2] rfl rfl (World.news_of_block (cs := #[.int .i64 x1, .int .i64 x2]) (t := 69) (fr := (0, 0)) (heap_alloc_new _ _)) (by simp [Value.oneCell']) (by omega) (by simp only [maxLen]; omega) (by omega) (by simp; omega) _ rfl ?_; intro gg cap w7 hown7 hgrow hat hlt7; have HR7 := Lib.hid (Tp.NearR.grown (x := ⟨x1, x2⟩) HRA.out hgrow hown7); clear hown7 hgrow hat cX)
                go_roundw
                case rel => exact .inr (.inr ⟨rfl, by rw [HO2.out]; exact HR7.out⟩)
                case measure => simp [intOf]
            · have hz2 : ((S1.1.length : Int) == 0) = false := by rw [beq_eq_false_iff_ne]; omega
              go_wp2_with fail
              refine (HCM.out _).mono ?_
              rintro e w3 ⟨rfl, hE3⟩
              have HR3 := Lib.hid (HR2.out.to hE3)
              have HX3 := Lib.hid (HX2.out.ext hE3)
              have HD3 := Lib.hid (HD2.out.ext hE3)
              obtain ⟨bD, hbD⟩ : ∃ bD, w2.heap.size = bD := ⟨_, rfl⟩
              have HBD : Hid (w.heap.size + 4 ≤ bD) := Lib.hid (by have h1 := hz2s; have h2 := HBX.out; omega)
              rw [hbD] at HD3 ⊢
              clear cX cD cL hE3 hbD hz2
              dsimp only
              by_cases hlc : cc < 0
              · go_wp2_with fail
                have HO2 := Lib.hid (HNEW.out (.inr hlc))
                have cD := HD3.out.cell
                have cL := HR3.out.least.cell
                have fL := HR3.out.least.free
                have jL := lts HR3.out.least.lt
                have hn1 : w.heap.size + 1 + 1 + 1 ≠ bD ∧ bD ≠ w.heap.size + 1 + 1 + 1 := by have := HBD.out; omega
                have hn2 := hn1.1
                have hn3 := hn1.2
                refine Tp.wp_named (fun a0 ha0 => ?_)
                refine Code.wp_mono (Q := fun e a' w' => e = .normal ∧ a' = (a0.put (some 71) (.agg #[.int .i64 e1, .int .i64 e2])).put (some 8) (.slice none 0 0) ∧ Tp.NearR w #[.int .i64 a, .int .i64 b, .int .i64 p, .int .i64 s, V, T, .slice (some ⟨bs, os, none⟩) ns cs, M] fn fd (.slice none 0 0) ([], ⟨e1, e2⟩) w' ∧ Row w' bX 69 #[.int .i64 x1, .int .i64 x2] ∧ Row w' bD 69 #[.int .i64 e1, .int .i64 e2]) ?hq ?hr
                case hr =>
                  subst ha0
                  go_region_held3 (fun w' => w'.cell? ⟨bD, 0, none⟩ = some (.int .i64 e1) ∧ w'.cell? ⟨bD, 1, none⟩ = some (.int .i64 e2)) (go_keep) (fail)
                  refine ⟨rfl, ?_, (HR3.out.set ⟨e1, e2⟩ HOK.out).to ((Ext.refl _).drew), ?_, ?_⟩
                  · rfl
                  · exact ((HX3.out.far (p := ⟨w.heap.size + 1 + 1 + 1, 0, none⟩) (by have := HBX.out; simp; omega) _).far (p := ⟨w.heap.size + 1 + 1 + 1, 1, none⟩) (by have := HBX.out; simp; omega) _).ext ((Ext.refl _).drew)
                  · exact ((HD3.out.far (p := ⟨w.heap.size + 1 + 1 + 1, 0, none⟩) (by have := HBX.out; simp; omega) _).far (p := ⟨w.heap.size + 1 + 1 + 1, 1, none⟩) (by have := HBX.out; simp; omega) _).ext ((Ext.refl _).drew)
                case hq =>
                  rintro e a' w4 ⟨rfl, rfl, hR4, hX4, hD4⟩
                  subst ha0
                  simp only [Act.put, List.setIfInBounds_toArray, List.set_cons_succ, List.set_cons_zero]
                  have HR4 := Lib.hid hR4
                  have HX4 := Lib.hid hX4
                  have cD := hD4.cell
                  have cL := hR4.least.cell
                  clear hR4 hX4 hD4 fL jL
                  go_wp2_with fail
                  refine (HCD.out _).mono ?_
                  rintro e w5 ⟨rfl, hE5⟩
                  have HR5 := Lib.hid (HR4.out.to hE5)
                  have HX5 := Lib.hid (HX4.out.ext hE5)
                  have cX := HX5.out.cell
                  clear hE5 cD cL
                  dsimp only
                  go_wp2_with fail
                  refine (t_hasFr_any none 0 [] x1 x2 _ (fun h => by cases h) (by simp)).mono ?_
                  rintro e w6 ⟨rfl, hE6⟩
                  have HR6 := Lib.hid (HR5.out.to hE6)
                  have HX6 := Lib.hid (HX5.out.ext hE6)
                  clear hE6 cX
                  dsimp only [Tp.frIs, List.any_nil]
                  have cX := HX6.out.cell
                  have HOW := Lib.hid (HR6.out.out.alloc (.cells #[.int .i64 x1, .int .i64 x2] 69))
                  have HRA := Lib.hid (HR6.out.to ((Ext.refl _).alloc (.cells #[.int .i64 x1, .int .i64 x2] 69)))
                  have hzz := HR6.out.least.lt
                  skip
                  go_wp2_with (at_builtin; refine wpList_append_lies _ rfl _ _ 62 rfl (w.heap.size + 4) 69 i0 _ 2 16 Tryz.underlying62 hi0 hi1 hi2 hi3 rfl (by decide) _ (0) ([]) rfl HOW.out ⟨_, 0, none⟩ 1 1 [.int .i64 x1, .int .i64 x2] rfl rfl (World.news_of_block (cs := #[.int .i64 x1, .int .i64 x2]) (t := 69) (fr := (0, 0)) (heap_alloc_new _ _)) (by simp [Value.oneCell']) (by omega) (by simp only [maxLen]; omega) (by omega) (by simp; omega) _ rfl ?_; intro gg cap w7 hown7 hgrow hat hlt7; have HR7 := Lib.hid (Tp.NearR.grown (x := ⟨x1, x2⟩) HRA.out hgrow hown7); clear hown7 hgrow hat cX)
                  go_roundw
                  case rel => exact .inr (.inr ⟨rfl, by rw [HO2.out]; exact HR7.out⟩)
                  case measure => simp [intOf]
              · have HO := Lib.hid (HOLD.out (by omega))
                have cX := HX3.out.cell
                have cD := HD3.out.cell
                have cL := HR3.out.least.cell
                go_wp2_with fail
                refine (HCM.out _).mono ?_
                rintro e w4 ⟨rfl, hE4⟩
                have HR4 := Lib.hid (HR3.out.to hE4)
                have HX4 := Lib.hid (HX3.out.ext hE4)
                clear cX cD cL hE4
                dsimp only
                by_cases hce : cc = 0
                · have hce2 : (cc == 0) = true := by simpa using hce
                  obtain ⟨A5, c5, he5, hp5⟩ := Tp.pairs_own HR4.out.out
                  cases he5
                  have HHAS := Lib.hid (fun W h => t_hasFr_any B2 d2 S1.1 x1 x2 W h (by omega))
                  have HP5 := Lib.hid hp5
                  have cX := HX4.out.cell
                  obtain ⟨qq, hqq⟩ : ∃ qq, Tp.frIs S1.1 ⟨x1, x2⟩ = qq := ⟨_, rfl⟩
                  rw [hqq] at HHAS HO
                  clear hqq hp5
                  go_wp2_with fail
                  refine (HHAS.out _ HP5.out).mono ?_
                  rintro e w5 ⟨rfl, hE5⟩
                  have HR5 := Lib.hid (HR4.out.to hE5)
                  have HX5 := Lib.hid (HX4.out.ext hE5)
                  clear cX hE5
                  dsimp only
                  cases qq
                  · have HO2 : Hid (S2 = (S1.1 ++ [⟨x1, x2⟩], S1.2)) := Lib.hid (by rw [HO.out, if_pos ⟨hce, rfl⟩])
                    have cX := HX5.out.cell
                    have HOW := Lib.hid (HR5.out.out.alloc (.cells #[.int .i64 x1, .int .i64 x2] 69))
                    have HRA := Lib.hid (HR5.out.to ((Ext.refl _).alloc (.cells #[.int .i64 x1, .int .i64 x2] 69)))
                    have hzz := HR5.out.least.lt
                    have hls : S1.1.length ≤ 2001 := by omega
                    go_wp2_with (at_builtin; refine wpList_append_lies _ rfl _ _ 62 rfl (w.heap.size + 4) 69 i0 _ 2 16 Tryz.underlying62 hi0 hi1 hi2 hi3 rfl (by decide) _ (S1.1.length) (Tp.pc S1.1) rfl HOW.out ⟨_, 0, none⟩ 1 1 [.int .i64 x1, .int .i64 x2] rfl rfl (World.news_of_block (cs := #[.int .i64 x1, .int .i64 x2]) (t := 69) (fr := (0, 0)) (heap_alloc_new _ _)) (by simp [Value.oneCell']) (by omega) (by simp only [maxLen]; omega) (by omega) (by simp; omega) _ rfl ?_; intro gg cap w7 hown7 hgrow hat hlt7; have HR7 := Lib.hid (Tp.NearR.grown (x := ⟨x1, x2⟩) HRA.out hgrow hown7); clear hown7 hgrow hat cX)
                    go_roundw
                    case rel => exact .inr (.inr ⟨rfl, by rw [HO2.out]; exact HR7.out⟩)
                    case measure => simp [intOf]
                  · have HO2 : Hid (S2 = S1) := Lib.hid (by rw [HO.out, if_neg (fun h => by cases h.2)])
                    go_wp2_with fail
                    go_roundw
                    case rel => exact .inr (.inr ⟨rfl, by rw [HO2.out]; exact HR5.out⟩)
                    case measure => simp [intOf]
                · have hce2 : (cc == 0) = false := by simpa using hce
                  have HO2 : Hid (S2 = S1) := Lib.hid (by rw [HO.out, if_neg (fun h => hce h.1)])
                  go_wp2_with fail
                  go_roundw
                  case rel => exact .inr (.inr ⟨rfl, by rw [HO2.out]; exact HR4.out⟩)
                  case measure => simp [intOf]
        · obtain ⟨B2, d2, rfl⟩ := hR.val
          have HR := Lib.hid hR
          clear hR
          go_wp2_with fail
          go_roundw
          case rel => exact ⟨j + 1, by omega, by go_num, by rw [HNX.out]; exact HR.out⟩
          case measure => simp [intOf]; omega
    · obtain rfl : j = all.length := by omega
      have hlt' : ¬ ((all.length : Int) < (all.length : Int)) := by omega
      rw [HFU.out] at HR hL2 ⊢
      have cL := HR.out.least.cell
      have fR := HR.out.res.free
      have cR := HR.out.res.cell
      have jR := lts HR.out.res.lt
      obtain ⟨A5, c5, he5, hp5⟩ := Tp.pairs_own HR.out.out
      cases he5
      have HP5 := Lib.hid hp5
      clear hp5
      go_wp2_with fail
      refine Tp.wp_named (fun a0 ha0 => ?_)
      refine Code.wp_mono (Q := fun e a' w' => e = .normal ∧ a' = (((a0.put (some 88) (.slice B1 fu.1.length d1)).put (some 89) (.agg #[.int .i64 fu.2.drives, .int .i64 fu.2.driven])).put (some 6) (.slice B1 fu.1.length d1)) ∧ Row w' (w.heap.size + 1 + 1) 69 #[.int .i64 fu.2.drives, .int .i64 fu.2.driven] ∧ w'.ownsRow (w.heap.size + 4) 69 2 (.slice B1 fu.1.length d1) fu.1.length (Tp.pc fu.1) ∧ Ext w w') ?hq ?hr
      case hr =>
        subst ha0
        go_region_held3 (fun w' => w'.cell? ⟨w.heap.size + 1 + 1 + 1, 0, none⟩ = some (.int .i64 fu.2.drives) ∧ w'.cell? ⟨w.heap.size + 1 + 1 + 1, 1, none⟩ = some (.int .i64 fu.2.driven)) (go_keep) (fail)
        refine ⟨rfl, ?_, (by simpa using (HR.out.res.set_ 0 (.int .i64 fu.2.drives)).set_ 1 (.int .i64 fu.2.driven) : Row _ _ _ _).ext ((Ext.refl _).drew), ?_, ((HR.out.ext.setCell (p := ⟨w.heap.size + 1 + 1, 0, none⟩) (by simp <;> omega) _).setCell (p := ⟨w.heap.size + 1 + 1, 1, none⟩) (by simp <;> omega) _).drew⟩
        · rfl
        · exact own_ext (Tp.own_set (Tp.own_set HR.out.out (a := ⟨w.heap.size + 1 + 1, 0, none⟩) (by simp <;> omega) (.int .i64 fu.2.drives)) (a := ⟨w.heap.size + 1 + 1, 1, none⟩) (by simp <;> omega) (.int .i64 fu.2.driven)) ((Ext.refl _).drew)
      case hq =>
        rintro e a' w4 ⟨rfl, rfl, hR4, hP4, hE4⟩
        subst ha0
        simp only [Act.put, List.setIfInBounds_toArray, List.set_cons_succ, List.set_cons_zero]
        have c4 := hR4.cell
        go_wp2_with fail
        exact bodyPost_ret (v := .tuple #[.slice B1 fu.1.length d1, .agg #[.int .i64 fu.2.drives, .int .i64 fu.2.driven]]) (by simp [results, Tryz.results152, go_sem, c4]) rfl ⟨B1, d1, rfl, hP4, hE4⟩
end Go.Proofs.YtimkmokomohgjaaGreat
namespace Go.Proofs.YtimkmokomohgjaaGreat
open Sp (rd)
set_option maxRecDepth 100000
set_option linter.unusedVariables false
/-- What one pair of wheels leads to. -/
def Tp.tryP (can : Nat → Ec.Pair → Bool) (teeth : List Int) (m : Nat) (now : List Ec.Pair) (lft p : Ec.Pair) : Option (List Ec.Pair) :=
  if now.length ≠ 0 ∧ Tp.ord p (pd now (now.length - 1)) < 0 then none
  else if can m (Tp.red (lft.drives * p.driven) (lft.driven * p.drives)) = true then Tp.firstN can teeth m (now ++ [p]) (Tp.red (lft.drives * p.driven) (lft.driven * p.drives)) else none
/-- What one wheel that drives leads to. -/
def Tp.tryA (can : Nat → Ec.Pair → Bool) (teeth : List Int) (m : Nat) (now : List Ec.Pair) (lft : Ec.Pair) (a : Int) : Option (List Ec.Pair) := teeth.findSome? fun b => Tp.tryP can teeth m now lft ⟨a, b⟩
theorem Tp.findSome_flat {β γ : Type} (f : β → Option γ) (g : Int → List β) (l : List Int) : (l.flatMap g).findSome? f = l.findSome? fun a => (g a).findSome? f := by
  induction l with
  | nil => rfl
  | cons a l ih =>
    rw [List.flatMap_cons, List.findSome?_append, ih, List.findSome?_cons]
    cases (g a).findSome? f <;> rfl
theorem Tp.firstN_rows (can : Nat → Ec.Pair → Bool) (teeth : List Int) (m : Nat) (now : List Ec.Pair) (lft : Ec.Pair) : Tp.firstN can teeth (m + 1) now lft = teeth.findSome? (Tp.tryA can teeth m now lft) := by
  rw [Tp.firstN, Tp.findSome_flat]
  congr 1
  funext a
  rw [List.findSome?_map]
  rfl
/-- The first n have led to nothing. -/
def Tp.noneTo {α : Type} (f : Int → Option α) (l : List Int) (n : Nat) : Prop := (l.take n).findSome? f = none
theorem Tp.noneTo_zero {α : Type} (f : Int → Option α) (l : List Int) : Tp.noneTo f l 0 := rfl
theorem Tp.noneTo_succ {α : Type} {f : Int → Option α} {l : List Int} {n : Nat} (h : Tp.noneTo f l n) (hn : n < l.length) (hf : f (rd l n) = none) : Tp.noneTo f l (n + 1) := by
  unfold Tp.noneTo at h ⊢
  have e : l[n] = rd l n := by simp [rd, hn]
  rw [List.take_succ_eq_append_getElem hn, List.findSome?_append, h, e]
  simp [hf]
theorem Tp.noneTo_all {α : Type} {f : Int → Option α} {l : List Int} {n : Nat} (h : Tp.noneTo f l n) (hn : l.length ≤ n) : l.findSome? f = none := by
  unfold Tp.noneTo at h
  rwa [List.take_of_length_le hn] at h
theorem Tp.someAt {α : Type} {f : Int → Option α} {l : List Int} {n : Nat} {x : α} (h : Tp.noneTo f l n) (hn : n < l.length) (hf : f (rd l n) = some x) : l.findSome? f = some x := by
  unfold Tp.noneTo at h
  have e : l[n] = rd l n := by simp [rd, hn]
  have e2 : l = l.take n ++ l[n] :: l.drop (n + 1) := by rw [← List.drop_eq_getElem_cons hn, List.take_append_drop]
  rw [e2, List.findSome?_append, h, e]
  simp [hf]
theorem Tp.tryP_less {can : Nat → Ec.Pair → Bool} {teeth : List Int} {m : Nat} {now : List Ec.Pair} {lft p : Ec.Pair} (h0 : now.length ≠ 0) (h : Tp.ord p (pd now (now.length - 1)) < 0) : Tp.tryP can teeth m now lft p = none := by
  unfold Tp.tryP
  rw [if_pos ⟨h0, h⟩]
theorem Tp.tryP_no {can : Nat → Ec.Pair → Bool} {teeth : List Int} {m : Nat} {now : List Ec.Pair} {lft p x : Ec.Pair} (hx : Tp.red (lft.drives * p.driven) (lft.driven * p.drives) = x) (h : can m x = false) : Tp.tryP can teeth m now lft p = none := by
  unfold Tp.tryP
  rw [hx]
  split
  · rfl
  · rw [if_neg (by rw [h]; decide)]
theorem Tp.tryP_yes {can : Nat → Ec.Pair → Bool} {teeth : List Int} {m : Nat} {now : List Ec.Pair} {lft p x : Ec.Pair} (hx : Tp.red (lft.drives * p.driven) (lft.driven * p.drives) = x) (h0 : ¬ (now.length ≠ 0 ∧ Tp.ord p (pd now (now.length - 1)) < 0)) (h : can m x = true) : Tp.tryP can teeth m now lft p = Tp.firstN can teeth m (now ++ [p]) x := by
  unfold Tp.tryP
  rw [hx, if_neg h0, if_pos h]
/-- A row whose wheel drives with fewer teeth than the last one has nothing. -/
theorem Tp.tryA_less {can : Nat → Ec.Pair → Bool} {teeth : List Int} {m : Nat} {now : List Ec.Pair} {lft : Ec.Pair} {a : Int} (h0 : now.length ≠ 0) (h : ∀ b, Tp.ord ⟨a, b⟩ (pd now (now.length - 1)) < 0) : Tp.tryA can teeth m now lft a = none := by
  unfold Tp.tryA
  rw [List.findSome?_eq_none_iff]
  intro b _
  exact Tp.tryP_less h0 (h b)
def Tp.canP (teeth : List Int) (m : Nat) (x : Ec.Pair) : Bool := Tp.can (Tp.mark teeth m) (60 ^ m + 1) x.drives.toNat x.driven.toNat
end Go.Proofs.YtimkmokomohgjaaGreat
