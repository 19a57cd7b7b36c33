/- Meets: The walks of layer 5: Meets.
Best: The walks of layer 5: best (two instances), with the functions that compare.
Near: The walks of layer 5: Near. -/
import Derived.Maps.OwnIn
import Derived.Laws.Rows
import Derived.Test.YtlcddcnmoajpjaaGreatDoorV05
import Derived.Test.YtlcddcnmoajpjaaGreatDoorV02
namespace Go.Proofs.YtlcddcnmoajpjaaGreatDoor
open Go.RowKit Go.Shelf
open Sp (rd)
attribute [local go_sem] Oper.semAt_some

def IntsVal (w : World) (v : Value) (l : List Int) : Prop := ∃ A c, v = .slice A l.length c ∧ Ints w A l
theorem IntsVal.ext {w w' : World} {v : Value} {l : List Int} (h : IntsVal w v l) (he : Ext w w') : IntsVal w' v l := let ⟨A, c, e, hc⟩ := h; ⟨A, c, e, hc.ext he⟩
def intCells (l : List Int) : List Value := l.map fun d => .int .i64 d
theorem IntsVal.of_own {w : World} {base : Nat} {v : Value} {l : List Int} (h : w.ownsRow base 3 1 v l.length (intCells l)) : IntsVal w v l := by
  rcases h.2 with ⟨rfl, h0⟩ | ⟨g, cap, cur, hv, _⟩
  · exact ⟨none, 0, by rw [h0], fun hh => by omega⟩
  · refine ⟨some ⟨g, 0, none⟩, cap, hv, fun _ => ⟨g, 0, rfl, fun k hk => ?_⟩⟩
    have hc := h.cells (g := g) (by rw [hv]; rfl)
    have h1 := hc k (.int .i64 (rd l k)) (by simp [intCells, rd, hk])
    rw [add0] at h1
    simpa using h1
theorem info_int : (Tryz.prog.info? 3).map (fun i => (i.zero, i.size, i.bytes)) = some (some (.int .i64 0), 1, 8) := by kernel_rfl

def meetD (s : Sp.Sky) (i j d : Int) : List Int := if Sp.meetB s i j d then [d] else []
def MeetsI (w : World) (s : Sp.Sky) (i j : Int) (pre : List Day1) (W : World) : Prop := (∃ v, Out W (w.heap.size + 4) w.heap.size 64 3 1 v (pre.flatMap fun x => meetD s i j x.1).length (intCells (pre.flatMap fun x => meetD s i j x.1))) ∧ (Below w.heap.size w W ∧ w.heap.size + 4 ≤ W.heap.size)
theorem meetsI_own (w : World) (s : Sp.Sky) (i j : Int) (B : Nat) (hB : w.heap.size ≤ B) : OwnFrom B (MeetsI w s i j) := fun _ _ _ _ ⟨⟨v, h⟩, hb, hz⟩ hg hr =>
  ⟨⟨v, h.kept hg fun r e => (hr r e).2⟩, hb.grown hg hb.size (fun k e => Nat.le_trans hB (hr k e).1), Nat.le_trans hz hg.size⟩
theorem meets_le (s : Sp.Sky) (i j : Int) (pre : List Day1) : (pre.flatMap fun x => meetD s i j x.1).length ≤ pre.length := by
  induction pre with
  | nil => simp
  | cons x l ih =>
    simp only [List.flatMap_cons, List.length_append, List.length_cons]
    have : (meetD s i j x.1).length ≤ 1 := by
      unfold meetD
      split <;> simp
    omega
theorem meetsN_flat (s : Sp.Sky) (i j lo : Int) (k : Nat) : (daysL lo k).flatMap (meetD s i j) = Sp.meetsN s i j lo k := by
  induction k with
  | zero => simp [daysL, Sp.meetsN]
  | succ k ih => rw [daysL_succ, List.flatMap_append, ih]; simp [Sp.meetsN, meetD]
theorem meets_all (s : Sp.Sky) (i j lo hi : Int) (xs : List Day1) (h : DaysAll lo hi xs) : (xs.flatMap fun x => meetD s i j x.1) = Sp.meetsL s i j lo hi := by
  unfold DaysAll at h
  unfold Sp.meetsL
  rw [← meetsN_flat, ← h, List.flatMap_map]

set_option maxRecDepth 100000 in
set_option maxHeartbeats 1000000 in
theorem Meets_ok (s : Sp.Sky) (A : Option Addr) (c : Nat) (i j lo hi : Int) (w : World) (hm : Bodies w A s.bodies) (hl : Short s.bodies) (c0 : Sp.skyOk s = true) (c1 : (Sp.isBody s i && (Sp.isBody s j && (i != j))) = true) (c2 : Sp.isSpan lo hi = true) :
    Calls Tryz.prog 52 #[.agg #[.slice A s.bodies.length c, .int .i64 s.nnum, .int .i64 s.nden, .int .i64 s.nstart], .int .i64 i, .int .i64 j, .int .i64 lo, .int .i64 hi] w fun e w' => ∃ v, e = .returned (.tuple #[v, .int .i64 0]) ∧ IntsVal w' v (Sp.meetsL s i j lo hi) ∧ Ext w w' := by
  have hl1 := hl.1
  have HL := Lib.hid hl
  have HM := Lib.hid hm
  clear hm hl
  refine (callsIn_wide (n := 8)).1 ?_
  refine callsIn_of_wp_marks Tryz.func52 rfl trivial ?_ rfl
  simp only [Tryz.ntmps52, List.size_toArray, List.length_cons, List.length_nil, Nat.reduceAdd, Nat.reduceSub, Array.replicate_succ, Array.replicate_zero, List.push_toArray, List.append_toArray, List.nil_append, List.cons_append]
  gi_wp2
  refine ⟨trivial, (callsIn_wide.2 (isSky_any s A c _ (HM.out.ext ((((Ext.refl w).alloc _).alloc _).alloc _)) HL.out)).mono ?_⟩
  rintro e w1 ⟨rfl, hE1⟩
  have hE := ((((Ext.refl w).alloc _).alloc _).alloc _).trans hE1
  have hr : Row w1 w.heap.size 28 _ := Row.ext (blocks3 w _ _ _).1 hE1
  have hr1 : Row w1 (w.heap.size + 1) 3 _ := Row.ext (blocks3 w _ _ _).2.1 hE1
  have hr2 : Row w1 (w.heap.size + 2) 3 _ := Row.ext (blocks3 w _ _ _).2.2 hE1
  have hz1 : w.heap.size + 3 ≤ w1.heap.size := by have := hE1.size; simpa using this
  have b0 := hr.cell
  have b1 := hr1.cell
  have b2 := hr2.cell
  clear hE1
  rw [c0]
  have HK := Lib.hid (skyOk_iff.1 c0)
  gi_wp2
  refine ⟨trivial, (callsIn_wide.2 (areTwo_any A c s _ _ _ i j _ hl1)).mono ?_⟩
  rintro e w2 ⟨rfl, hE1⟩
  replace hE := hE.trans hE1
  replace hr := hr.ext hE1
  replace hr1 := hr1.ext hE1
  replace hr2 := hr2.ext hE1
  replace hz1 := Nat.le_trans hz1 hE1.size
  clear hE1 b0 b1 b2
  have b0 := hr.cell
  rw [c1]
  gi_wp2
  refine ⟨trivial, (callsIn_wide.2 (isSpan_any lo hi _)).mono ?_⟩
  rintro e w3 ⟨rfl, rfl⟩
  rw [c2]
  have j0 := lts (show w.heap.size < w2.heap.size by omega)
  gi_wp2
  refine ⟨trivial, (callsIn_wide.2 (days_any A _ c s lo hi _)).mono ?_⟩
  rintro e w' ⟨rfl, rfl⟩
  gi_wp2
  obtain ⟨i0, hi0, hz0, hz1, hz2⟩ := info_parts info_int
  obtain ⟨d1, d2, d3, d4⟩ := span_of c2
  obtain ⟨i1, i2, i3, i4, _⟩ := two_of c1
  have bO := (Out.new w2 (w2.heap.size + 4) 64 3 1)
  have hE2 : Ext w2 (w2.alloc (.cells #[.slice none 0 0] 64)) := (Ext.refl w2).alloc _
  obtain ⟨W1, hW1⟩ : ∃ W1, w2.alloc (.cells #[.slice none 0 0] 64) = W1 := ⟨_, rfl⟩
  have hsz1 : W1.heap.size = w2.heap.size + 1 := by rw [← hW1]; simp
  rw [hW1] at bO hE2 ⊢
  clear hW1 b0
  have rS := daysW_S A s.bodies.length c s lo hi W1
  have rF := daysW_F A s.bodies.length c s lo hi W1
  have rT := daysW_T A s.bodies.length c s lo hi W1
  have hsz := daysW_size A s.bodies.length c s lo hi W1
  replace bO := bO.ext (daysW_ext A s.bodies.length c s lo hi W1)
  replace hE2 := hE2.trans (daysW_ext A s.bodies.length c s lo hi W1)
  obtain ⟨W0, hW0⟩ : ∃ W0, daysW A s.bodies.length c s lo hi W1 = W0 := ⟨_, rfl⟩
  rw [hW0] at bO hE2 rS rF rT hsz ⊢
  clear hW0
  rw [hsz1] at rS rF rT hsz
  have HE := Lib.hid hE
  have h0 : MeetsI w2 s i j [] W0 := ⟨⟨_, bO⟩, hE2, by omega⟩
  clear hE hE2 bO
  refine wpIn_rangeFunc_ownH rfl (by omega) (gf := 157) (lb := #[.pointer (some ⟨w2.heap.size + 1 + 1, 0, none⟩), .pointer (some ⟨w2.heap.size + 1 + 2, 0, none⟩), .pointer (some ⟨w2.heap.size + 1, 0, none⟩)]) rfl trivial (enters_of Tryz.func157 (by kernel_rfl) rfl)
    (days_stops (8 - 1) (by omega) A s.bodies.length c s lo hi d1 d3 (w2.heap.size + 1) W0 rS rF rT) (fun h k => keepsTwo_t _ _ h k) (keepsTwo_b (by omega) (by omega)) (Below.refl _ _) (fun _ => rfl)
    (MeetsI w2 s i j)
    (fun _ _ _ => False)
    (meetsI_own w2 s i j _ (by omega))
    (fun _ _ _ _ _ hs _ _ => hs)
    h0
    (fun x a' W => ∃ Bx, Row W Bx 120 #[.slice A s.bodies.length c, .int .i64 s.nnum, .int .i64 s.nden, .int .i64 s.nstart, .int .i64 x.1] ∧ a' = (⟨#[.agg #[.slice A s.bodies.length c, .int .i64 s.nnum, .int .i64 s.nden, .int .i64 s.nstart], .int .i64 i, .int .i64 j, .int .i64 lo, .int .i64 hi, .pointer (some ⟨w.heap.size, 0, none⟩), .pointer (some ⟨w.heap.size + 1, 0, none⟩), .pointer (some ⟨w.heap.size + 1 + 1, 0, none⟩), undef, undef, .slice none 0 0, .int .i64 0, .pointer (some ⟨w2.heap.size, 0, none⟩), .pointer (some ⟨Bx, 0, none⟩), .agg #[.slice A s.bodies.length c, .int .i64 s.nnum, .int .i64 s.nden, .int .i64 s.nstart], .bool true, .bool false, .bool false, .agg #[.slice A s.bodies.length c, .int .i64 s.nnum, .int .i64 s.nden, .int .i64 s.nstart], .int .i64 i, .int .i64 j, .bool true, .bool false, .bool false, .bool false, .int .i64 lo, .int .i64 hi, .bool true, .bool false, .bool false, .agg #[.slice A s.bodies.length c, .int .i64 s.nnum, .int .i64 s.nden, .int .i64 s.nstart], .int .i64 lo, .int .i64 hi, daysV (w2.heap.size + 1), .agg #[.slice A s.bodies.length c, .int .i64 s.nnum, .int .i64 s.nden, .int .i64 s.nstart, .int .i64 x.1], undef, undef, undef, undef, undef, undef, undef, undef, undef, undef, undef, undef], []⟩ : Act))
    (fun x a' _ X Y row hs hg hr => by obtain ⟨Bx, h1, h2⟩ := hs; exact ⟨Bx, h1.kept hg fun r e => (hr r e).2, h2⟩)
    ?assign ?body ?done ?stop
  case assign =>
    rintro l pre x W K hi hK
    simp only [skyV]
    gi_wp2
    obtain ⟨⟨v, hO⟩, hB, hz⟩ := hi
    exact hK _ _ ((KeepsOthers.alloc _ _).from _) ⟨Below.heap_alloc _ _ _ (by omega), Below.heap_alloc _ _ _ (by omega)⟩ ⟨⟨v, hO.ext ((Ext.refl _).alloc _)⟩, hB.alloc hB.size _, by simp; omega⟩ ⟨_, Row.new _ _ _, rfl⟩
  case body =>
    rintro l pre x a' W hl ⟨r, hr'⟩ ⟨⟨v, hO⟩, hB, hz⟩ ⟨Bx, rX, rfl⟩ hlt
    have hl2 := meets_le s i j pre
    obtain ⟨L, hL⟩ : ∃ L, (pre.flatMap fun x => meetD s i j x.1) = L := ⟨_, rfl⟩
    rw [hL] at hO hl2
    have HL2 := Lib.hid hL
    clear hL
    have hx := x.2
    have hne1 := hO.nbox rX (by decide)
    have hne2 := hO.far rX (by decide)
    have hE1 : Ext w2 W := hB
    have HE1 := Lib.hid hE1
    have hlen : pre.length < 801 := by omega
    have q0 := rX.cell
    have q1 := (hr1.ext hE1).cell
    have q2 := (hr2.ext hE1).cell
    clear hE1 hB
    cases hb : Sp.meetB s i j x.1
    · gi_wp2
      refine ⟨trivial, CallsIn.inRound l ((callsIn_wide.2 (hasMeet s A c x.1 i j W HK.out (HM.out.ext (HE.out.trans HE1.out)) hx.1 hx.2 i1 i2 i3 i4)).mono ?_)⟩
      rintro e W2 ⟨rfl, hE4⟩
      rw [hb]
      gi_wp2
      have hP := Push.of_ext (bO := w2.heap.size) (v := v) hE4
      refine ⟨Push.keepsFrom hO hP _, ⟨Push.old hO hP (by omega) hz (by omega), Push.old hO hP (by omega) hz (by omega)⟩, ⟨v, ?_⟩, HE1.out.trans hE4, Nat.le_trans hz hP.size⟩
      rw [List.flatMap_append, HL2.out]
      simpa [meetD, hb] using hO.ext hE4
    · gi_wp2
      refine ⟨trivial, CallsIn.inRound l ((callsIn_wide.2 (hasMeet s A c x.1 i j W HK.out (HM.out.ext (HE.out.trans HE1.out)) hx.1 hx.2 i1 i2 i3 i4)).mono ?_)⟩
      rintro e W2 ⟨rfl, hE4⟩
      rw [hb]
      have hP4 := Push.of_ext (bO := w2.heap.size) (v := v) hE4
      have hO4 := hO.ext hE4
      have hz4 := Nat.le_trans hz hE4.size
      have hO5 := hO4.ext ((Ext.refl _).alloc (.cells #[.int .i64 x.1] 3))
      have hP5 := hP4.trans (Push.of_ext ((Ext.refl W2).alloc (.cells #[.int .i64 x.1] 3)))
      have r0 := (rX.ext hE4).cell
      have rO := hO4.box.cell 0
      simp only [List.getElem?_toArray, List.getElem?_cons_zero] at rO
      clear q0 q1 q2
      gi_wp2_with (gi_at_builtin; refine wpListIn_append_own_at _ rfl _ _ 64 rfl (w2.heap.size + 4) 3 i0 _ 1 8 Tryz.underlying64 hi0 hz0 hz1 hz2 rfl (by decide) v _ _ rfl hO5.own ⟨W2.heap.size, 0, none⟩ 1 1 [.int .i64 x.1] rfl rfl (World.news_of_block (cs := #[.int .i64 x.1]) (t := 3) (fr := (0, 0)) (heap_alloc_new _ _)) (by simp [Value.oneCell']) (by simp only [maxLen]; omega) (by omega) (by simp; omega) ?_; intro v' w3 hown1 hgrow _ hat; obtain ⟨gg, cap, rfl⟩ := ownsRow_succ hown1; have hc3 := grown_cell hgrow hO5.box hO5.ne 0; have hf3 := grown_free hgrow hO5.box hO5.ne 0; simp only [List.getElem?_toArray, List.getElem?_cons_zero] at hc3)
      have hat' : v.ownBlock = some gg ∨ gg = (W2.alloc (.cells #[.int .i64 x.1] 3)).heap.size := by
        rcases hat with e | e
        · exact .inl e.symm
        · exact .inr (by simpa [Value.ownBlock] using e)
      have hpush := hO5.pushed (Ext.refl _) hown1 hgrow hat'
      have hP := hP5.trans hpush.2
      refine ⟨Push.keepsFrom hO hP _, ⟨Push.old hO hP (by omega) hz (by omega), Push.old hO hP (by omega) hz (by omega)⟩, ⟨.slice (some ⟨gg, 0, none⟩) (L.length + 1) cap, ?_⟩, HE1.out.trans' (hP.below hO (N := w2.heap.size) (by omega) (by omega) hz), Nat.le_trans hz hP.size⟩
      rw [List.flatMap_append, HL2.out]
      simpa [meetD, hb, intCells] using hpush.1
  case done =>
    rintro D xs W hD hS ⟨⟨v, hO⟩, hB, hz⟩ hK
    have cO := hO.box.cell 0
    simp only [List.getElem?_toArray, List.getElem?_cons_zero] at cO
    gi_wp2
    refine ⟨by simp, .inl ⟨_, _, rfl, run_takeDeferred hK, ?_⟩⟩
    refine ⟨_, results_tmp2 rfl _ _ _, v, rfl, ?_, ?_⟩
    · have := (hO.kept (grownBy_putObj' W D (.deferred none)) (fun r e => by cases e; exact ⟨_, hK, rfl⟩)).own
      rw [meets_all s i j lo hi xs hS] at this
      exact .of_own this
    · exact HE.out.trans (hB.grown (grownBy_putObj' W D (.deferred none)) hB.size (fun k e => by cases e; omega))
  case stop =>
    rintro D c' pre W _ _ h _
    exact h.elim
end Go.Proofs.YtlcddcnmoajpjaaGreatDoor

namespace Go.Proofs.YtlcddcnmoajpjaaGreatDoor
open Go.RowKit

/-- The first of k + 1 pairs whose second part is least. -/
def bestK (f : Nat → Int × Int) : Nat → Int × Int
  | 0 => f 0
  | k + 1 => if (f (k + 1)).2 < (bestK f k).2 then f (k + 1) else bestK f k
/-- The slice holds n pairs. -/
def Pairs (w : World) (A : Option Addr) (n : Nat) (f : Nat → Int × Int) : Prop :=
  0 < n → ∃ b o, A = some ⟨b, o, none⟩ ∧ ∀ k, k < n → w.cell? ⟨b, o + k * 2, none⟩ = some (.int .i64 (f k).1) ∧ w.cell? ⟨b, o + k * 2 + 1, none⟩ = some (.int .i64 (f k).2)
theorem Pairs.ext {w w' : World} {A : Option Addr} {n : Nat} {f : Nat → Int × Int} (h : Pairs w A n f) (he : Ext w w') : Pairs w' A n f := fun h0 =>
  let ⟨b, o, e, hc⟩ := h h0
  ⟨b, o, e, fun k hk => ⟨he.cell (hc k hk).1, he.cell (hc k hk).2⟩⟩
def pairC (p : Int × Int) : Array Value := #[.int .i64 p.1, .int .i64 p.2]
/-- Between two rounds. -/
def BestRel (w : World) (T : TypeId) (n : Nat) (f : Nat → Int × Int) (d : Value) (wr : World) : Prop :=
  ∃ k : Nat, k ≤ n ∧ d = .int .i64 k ∧ Ext w wr ∧ w.heap.size + 2 ≤ wr.heap.size ∧ Row wr w.heap.size T #[.int .i64 0, .int .i64 0] ∧ Row wr (w.heap.size + 1) T (if k = 0 then pairC (0, 0) else pairC (bestK f (k - 1)))

theorem apartless (a b c d : Int) (w : World) : Calls Tryz.prog 128 #[.agg #[.int .i64 a, .int .i64 b], .agg #[.int .i64 c, .int .i64 d]] w fun e w' => e = .returned (.bool (decide (b < d))) ∧ Ext w w' := by
  go_enter Tryz.func128, Tryz.ntmps128
  by_cases h : b < d
  · go_wp2_with fail
    go_ret
    exact ⟨by simp [h], ((Ext.refl _).alloc _).alloc _⟩
  · go_wp2_with fail
    go_ret
    exact ⟨by simp [h], ((Ext.refl _).alloc _).alloc _⟩

set_option maxHeartbeats 1000000 in
theorem best_apart (A : Option Addr) (c n : Nat) (f : Nat → Int × Int) (w : World) (hn : 0 < n) (hn2 : n ≤ 100000) (hm : Pairs w A n f) :
    Calls Tryz.prog 127 #[.slice A n c, .func (.func 128) #[] #[]] w fun e w' => e = .returned (.agg (pairC (bestK f (n - 1)))) ∧ Ext w w' := by
  have HM := Lib.hid hm
  clear hm
  go_enter Tryz.func127, Tryz.ntmps127
  go_wp2_with fail
  go_loopw [10] (fun d wr => BestRel w 147 n f d wr) (fun d _ => n - (intOf d).toNat)
  case atStart =>
    exact ⟨0, Nat.zero_le _, rfl, ((Ext.refl _).alloc _).alloc _, by simp, (blocks2 w _ _).1, (blocks2 w _ _).2⟩
  case round =>
    obtain ⟨k, hk, rfl, hE, hz, r1, r2⟩ := hrel
    by_cases hlt : k < n
    · obtain ⟨b, o, rfl, hc⟩ := (HM.out.ext hE) hn
      obtain ⟨c0, c1⟩ := hc k hlt
      have HE := Lib.hid hE
      clear hc hE
      have j0 := lts (lt_of_cell c0)
      have j2 := lts r2.lt
      have f2 := r2.free
      rcases Nat.eq_zero_or_pos k with rfl | hp
      · have b2 := r2.cell
        simp only [if_true, pairC] at b2
        simp only [Nat.zero_mul, Nat.add_zero] at c0 c1
        go_wp2_with fail
        refine ⟨⟨1, by omega, rfl, ((HE.out.setCell (by simp) _).setCell (by simp) _).alloc _, by simp; omega, ((r1.far (by simp) _).far (by simp) _).alloc _, ?_⟩, by simp [intOf]; omega⟩
        simpa [pairC, bestK] using ((r2.set_ 0 (.int .i64 (f 0).1)).set_ 1 (.int .i64 (f 0).2)).alloc (.cells #[.int .i64 (f 0).1, .int .i64 (f 0).2] 147)
      · rw [if_neg (by omega)] at r2
        have b2 := r2.cell
        simp only [pairC] at b2
        have hk0 : ((k : Int) == 0) = false := by simp; omega
        obtain ⟨k', rfl⟩ : ∃ k', k = k' + 1 := ⟨k - 1, by omega⟩
        simp only [Nat.add_sub_cancel] at r2 b2
        by_cases hb : (f (k' + 1)).2 < (bestK f k').2
        · go_wp2_with fail
          refine (apartless _ _ _ _ _).mono ?_
          rintro e w3 ⟨rfl, hE3⟩
          have n3 := (Row.new wr 147 #[.int .i64 (f (k' + 1)).1, .int .i64 (f (k' + 1)).2]).ext hE3
          have c3 := n3.cell
          have r13 := (r1.alloc (.cells #[.int .i64 (f (k' + 1)).1, .int .i64 (f (k' + 1)).2] 147)).ext hE3
          have r23 := (r2.alloc (.cells #[.int .i64 (f (k' + 1)).1, .int .i64 (f (k' + 1)).2] 147)).ext hE3
          have b23 := r23.cell
          have f23 := r23.free
          have hz3 := hE3.size
          rw [World.size_alloc] at hz3
          have HE3 := Lib.hid ((HE.out.alloc _).trans hE3)
          simp only [pairC] at b23
          clear b2 f2 c0 c1 hE3
          rw [decide_eq_true hb]
          go_wp2_with fail
          refine ⟨⟨k' + 2, by omega, by go_num, (HE3.out.setCell (by simp) _).setCell (by simp) _, by simp; omega, (r13.far (by simp) _).far (by simp) _, ?_⟩, by simp [intOf]; omega⟩
          simpa [pairC, bestK, hb] using (r23.set_ 0 (.int .i64 (f (k' + 1)).1)).set_ 1 (.int .i64 (f (k' + 1)).2)
        · go_wp2_with fail
          refine (apartless _ _ _ _ _).mono ?_
          rintro e w3 ⟨rfl, hE3⟩
          have r13 := (r1.alloc (.cells #[.int .i64 (f (k' + 1)).1, .int .i64 (f (k' + 1)).2] 147)).ext hE3
          have r23 := (r2.alloc (.cells #[.int .i64 (f (k' + 1)).1, .int .i64 (f (k' + 1)).2] 147)).ext hE3
          have hz3 := hE3.size
          rw [World.size_alloc] at hz3
          have HE3 := Lib.hid ((HE.out.alloc _).trans hE3)
          clear b2 f2 c0 c1 hE3
          rw [decide_eq_false (Int.not_lt.2 hb)]
          go_wp2_with fail
          refine ⟨⟨k' + 2, by omega, by go_num, HE3.out, by omega, r13, ?_⟩, by simp [intOf]; omega⟩
          simpa [bestK, Int.not_lt.2 hb] using r23
    · obtain rfl : k = n := by omega
      rw [if_neg (by omega)] at r2
      have b2 := r2.cell
      have b1 := r1.cell
      have f1 := r1.free
      simp only [pairC] at b2
      have HE := Lib.hid hE
      clear hE
      go_wp2_with fail
      have rr : Row ((wr.setCell ⟨w.heap.size, 0, none⟩ (.int .i64 (bestK f (k - 1)).1)).setCell ⟨w.heap.size, 1, none⟩ (.int .i64 (bestK f (k - 1)).2)) w.heap.size 147 (pairC (bestK f (k - 1))) := by
        simpa [pairC] using (r1.set_ 0 (.int .i64 (bestK f (k - 1)).1)).set_ 1 (.int .i64 (bestK f (k - 1)).2)
      refine bodyPost_ret (results_cell_row rfl _ _ w.heap.size 147 _ (0, 0) _ rfl rr Tryz.underlying147 rfl (by kernel_rfl)) rfl ?_
      exact ⟨rfl, (HE.out.setCell (by simp) _).setCell (by simp) _⟩

theorem watchless (a b c d : Int) (w : World) : Calls Tryz.prog 111 #[.agg #[.int .i64 a, .int .i64 b], .agg #[.int .i64 c, .int .i64 d]] w fun e w' => e = .returned (.bool (decide (b < d))) ∧ Ext w w' := by
  go_enter Tryz.func111, Tryz.ntmps111
  by_cases h : b < d
  · go_wp2_with fail
    go_ret
    exact ⟨by simp [h], ((Ext.refl _).alloc _).alloc _⟩
  · go_wp2_with fail
    go_ret
    exact ⟨by simp [h], ((Ext.refl _).alloc _).alloc _⟩

set_option maxHeartbeats 1000000 in
theorem best_watch (A : Option Addr) (c n : Nat) (f : Nat → Int × Int) (w : World) (hn : 0 < n) (hn2 : n ≤ 100000) (hm : Pairs w A n f) :
    Calls Tryz.prog 110 #[.slice A n c, .func (.func 111) #[] #[]] w fun e w' => e = .returned (.agg (pairC (bestK f (n - 1)))) ∧ Ext w w' := by
  have HM := Lib.hid hm
  clear hm
  go_enter Tryz.func110, Tryz.ntmps110
  go_wp2_with fail
  go_loopw [10] (fun d wr => BestRel w 128 n f d wr) (fun d _ => n - (intOf d).toNat)
  case atStart =>
    exact ⟨0, Nat.zero_le _, rfl, ((Ext.refl _).alloc _).alloc _, by simp, (blocks2 w _ _).1, (blocks2 w _ _).2⟩
  case round =>
    obtain ⟨k, hk, rfl, hE, hz, r1, r2⟩ := hrel
    by_cases hlt : k < n
    · obtain ⟨b, o, rfl, hc⟩ := (HM.out.ext hE) hn
      obtain ⟨c0, c1⟩ := hc k hlt
      have HE := Lib.hid hE
      clear hc hE
      have j0 := lts (lt_of_cell c0)
      have j2 := lts r2.lt
      have f2 := r2.free
      rcases Nat.eq_zero_or_pos k with rfl | hp
      · have b2 := r2.cell
        simp only [if_true, pairC] at b2
        simp only [Nat.zero_mul, Nat.add_zero] at c0 c1
        go_wp2_with fail
        refine ⟨⟨1, by omega, rfl, ((HE.out.setCell (by simp) _).setCell (by simp) _).alloc _, by simp; omega, ((r1.far (by simp) _).far (by simp) _).alloc _, ?_⟩, by simp [intOf]; omega⟩
        simpa [pairC, bestK] using ((r2.set_ 0 (.int .i64 (f 0).1)).set_ 1 (.int .i64 (f 0).2)).alloc (.cells #[.int .i64 (f 0).1, .int .i64 (f 0).2] 128)
      · rw [if_neg (by omega)] at r2
        have b2 := r2.cell
        simp only [pairC] at b2
        have hk0 : ((k : Int) == 0) = false := by simp; omega
        obtain ⟨k', rfl⟩ : ∃ k', k = k' + 1 := ⟨k - 1, by omega⟩
        simp only [Nat.add_sub_cancel] at r2 b2
        by_cases hb : (f (k' + 1)).2 < (bestK f k').2
        · go_wp2_with fail
          refine (watchless _ _ _ _ _).mono ?_
          rintro e w3 ⟨rfl, hE3⟩
          have n3 := (Row.new wr 128 #[.int .i64 (f (k' + 1)).1, .int .i64 (f (k' + 1)).2]).ext hE3
          have c3 := n3.cell
          have r13 := (r1.alloc (.cells #[.int .i64 (f (k' + 1)).1, .int .i64 (f (k' + 1)).2] 128)).ext hE3
          have r23 := (r2.alloc (.cells #[.int .i64 (f (k' + 1)).1, .int .i64 (f (k' + 1)).2] 128)).ext hE3
          have b23 := r23.cell
          have f23 := r23.free
          have hz3 := hE3.size
          rw [World.size_alloc] at hz3
          have HE3 := Lib.hid ((HE.out.alloc _).trans hE3)
          simp only [pairC] at b23
          clear b2 f2 c0 c1 hE3
          rw [decide_eq_true hb]
          go_wp2_with fail
          refine ⟨⟨k' + 2, by omega, by go_num, (HE3.out.setCell (by simp) _).setCell (by simp) _, by simp; omega, (r13.far (by simp) _).far (by simp) _, ?_⟩, by simp [intOf]; omega⟩
          simpa [pairC, bestK, hb] using (r23.set_ 0 (.int .i64 (f (k' + 1)).1)).set_ 1 (.int .i64 (f (k' + 1)).2)
        · go_wp2_with fail
          refine (watchless _ _ _ _ _).mono ?_
          rintro e w3 ⟨rfl, hE3⟩
          have r13 := (r1.alloc (.cells #[.int .i64 (f (k' + 1)).1, .int .i64 (f (k' + 1)).2] 128)).ext hE3
          have r23 := (r2.alloc (.cells #[.int .i64 (f (k' + 1)).1, .int .i64 (f (k' + 1)).2] 128)).ext hE3
          have hz3 := hE3.size
          rw [World.size_alloc] at hz3
          have HE3 := Lib.hid ((HE.out.alloc _).trans hE3)
          clear b2 f2 c0 c1 hE3
          rw [decide_eq_false (Int.not_lt.2 hb)]
          go_wp2_with fail
          refine ⟨⟨k' + 2, by omega, by go_num, HE3.out, by omega, r13, ?_⟩, by simp [intOf]; omega⟩
          simpa [bestK, Int.not_lt.2 hb] using r23
    · obtain rfl : k = n := by omega
      rw [if_neg (by omega)] at r2
      have b2 := r2.cell
      have b1 := r1.cell
      have f1 := r1.free
      simp only [pairC] at b2
      have HE := Lib.hid hE
      clear hE
      go_wp2_with fail
      have rr : Row ((wr.setCell ⟨w.heap.size, 0, none⟩ (.int .i64 (bestK f (k - 1)).1)).setCell ⟨w.heap.size, 1, none⟩ (.int .i64 (bestK f (k - 1)).2)) w.heap.size 128 (pairC (bestK f (k - 1))) := by
        simpa [pairC] using (r1.set_ 0 (.int .i64 (bestK f (k - 1)).1)).set_ 1 (.int .i64 (bestK f (k - 1)).2)
      refine bodyPost_ret (results_cell_row rfl _ _ w.heap.size 128 _ (0, 0) _ rfl rr Tryz.underlying128 rfl (by kernel_rfl)) rfl ?_
      exact ⟨rfl, (HE.out.setCell (by simp) _).setCell (by simp) _⟩
end Go.Proofs.YtlcddcnmoajpjaaGreatDoor

namespace Go.Proofs.YtlcddcnmoajpjaaGreatDoor
open Go.RowKit Go.Shelf
open Sp (rd)
attribute [local go_sem] Oper.semAt_some

theorem info_apart : (Tryz.prog.info? 147).map (fun i => (i.zero, i.size, i.bytes)) = some (some (.agg #[.int .i64 0, .int .i64 0]), 2, 16) := by kernel_rfl
def nearC (s : Sp.Sky) (i j : Int) (l : List Int) : List Value := l.flatMap fun d => [.int .i64 d, .int .i64 (Sp.nearD s i j d)]
theorem nearC_append (s : Sp.Sky) (i j : Int) (l m : List Int) : nearC s i j (l ++ m) = nearC s i j l ++ nearC s i j m := by simp [nearC]
theorem nearC_get (s : Sp.Sky) (i j : Int) (l : List Int) : ∀ k (hk : k < l.length), (nearC s i j l)[k * 2]? = some (.int .i64 l[k]) ∧ (nearC s i j l)[k * 2 + 1]? = some (.int .i64 (Sp.nearD s i j l[k])) := by
  induction l with
  | nil => intro k hk; simp at hk
  | cons m l ih =>
    intro k hk
    cases k with
    | zero => simp [nearC]
    | succ k =>
      have := ih k (by simpa using hk)
      simp only [nearC, List.flatMap_cons] at this ⊢
      rw [show (k + 1) * 2 = k * 2 + 2 by omega]
      simpa using this
theorem near_pairs {w : World} {base : Nat} {v : Value} {s : Sp.Sky} {i j lo : Int} {n : Nat} (h : w.ownsRow base 147 2 v (daysL lo n).length (nearC s i j (daysL lo n))) :
    ∃ A c, v = .slice A n c ∧ Pairs w A n (fun k => (lo + (k : Nat), Sp.nearD s i j (lo + (k : Nat)))) := by
  have hlen := daysL_length lo n
  rcases h.2 with ⟨rfl, h0⟩ | ⟨g, cap, cur, hv, _⟩
  · exact ⟨none, 0, by rw [← hlen, h0], fun hh => by omega⟩
  · refine ⟨some ⟨g, 0, none⟩, cap, by rw [hv, hlen], fun _ => ⟨g, 0, rfl, fun k hk => ?_⟩⟩
    have hc := h.cells (g := g) (by rw [hv]; rfl)
    have h1 := hc _ _ (nearC_get s i j (daysL lo n) k (by omega)).1
    have h2 := hc _ _ (nearC_get s i j (daysL lo n) k (by omega)).2
    rw [add0] at h1 h2
    simp only [daysL, List.getElem_map, List.getElem_range] at h1 h2
    exact ⟨by simpa using h1, by simpa using h2⟩
theorem bestK_near (s : Sp.Sky) (i j lo : Int) (k : Nat) : bestK (fun k => (lo + (k : Nat), Sp.nearD s i j (lo + (k : Nat)))) k = (Sp.nearN s i j lo k, Sp.nearD s i j (Sp.nearN s i j lo k)) := by
  induction k with
  | zero => simp [bestK, Sp.nearN]
  | succ k ih =>
    simp only [bestK, Sp.nearN, ih]
    split <;> rfl
def NearI (w : World) (s : Sp.Sky) (i j : Int) (pre : List Day1) (W : World) : Prop := (∃ v, Out W (w.heap.size + 4) w.heap.size 145 147 2 v (pre.map Subtype.val).length (nearC s i j (pre.map Subtype.val))) ∧ (Below w.heap.size w W ∧ w.heap.size + 4 ≤ W.heap.size)
theorem nearI_own (w : World) (s : Sp.Sky) (i j : Int) (B : Nat) (hB : w.heap.size ≤ B) : OwnFrom B (NearI w s i j) := fun _ _ _ _ ⟨⟨v, h⟩, hb, hz⟩ hg hr =>
  ⟨⟨v, h.kept hg fun r e => (hr r e).2⟩, hb.grown hg hb.size (fun k e => Nat.le_trans hB (hr k e).1), Nat.le_trans hz hg.size⟩

set_option maxRecDepth 100000 in
set_option maxHeartbeats 1000000 in
theorem Near_ok (s : Sp.Sky) (A : Option Addr) (c : Nat) (i j lo hi : Int) (w : World) (hm : Bodies w A s.bodies) (hl : Short s.bodies) (c0 : Sp.skyOk s = true) (c1 : (Sp.isBody s i && (Sp.isBody s j && (i != j))) = true) (c2 : Sp.isSpan lo hi = true) :
    Calls Tryz.prog 64 #[.agg #[.slice A s.bodies.length c, .int .i64 s.nnum, .int .i64 s.nden, .int .i64 s.nstart], .int .i64 i, .int .i64 j, .int .i64 lo, .int .i64 hi] w fun e w' => e = .returned (.tuple #[.int .i64 (Sp.nearL s i j lo hi), .int .i64 (Sp.nearD s i j (Sp.nearL s i j lo hi)), .int .i64 0]) ∧ Ext w w' := by
  have hl1 := hl.1
  have HL := Lib.hid hl
  have HM := Lib.hid hm
  clear hm hl
  refine (callsIn_wide (n := 8)).1 ?_
  refine callsIn_of_wp_marks Tryz.func64 rfl trivial ?_ rfl
  simp only [Tryz.ntmps64, List.size_toArray, List.length_cons, List.length_nil, Nat.reduceAdd, Nat.reduceSub, Array.replicate_succ, Array.replicate_zero, List.push_toArray, List.append_toArray, List.nil_append, List.cons_append]
  gi_wp2
  refine ⟨trivial, (callsIn_wide.2 (isSky_any s A c _ (HM.out.ext ((((Ext.refl w).alloc _).alloc _).alloc _)) HL.out)).mono ?_⟩
  rintro e w1 ⟨rfl, hE1⟩
  have hE := ((((Ext.refl w).alloc _).alloc _).alloc _).trans hE1
  have hr : Row w1 w.heap.size 28 _ := Row.ext (blocks3 w _ _ _).1 hE1
  have hr1 : Row w1 (w.heap.size + 1) 3 _ := Row.ext (blocks3 w _ _ _).2.1 hE1
  have hr2 : Row w1 (w.heap.size + 2) 3 _ := Row.ext (blocks3 w _ _ _).2.2 hE1
  have hz1 : w.heap.size + 3 ≤ w1.heap.size := by have := hE1.size; simpa using this
  have b0 := hr.cell
  have b1 := hr1.cell
  have b2 := hr2.cell
  clear hE1
  rw [c0]
  have HK := Lib.hid (skyOk_iff.1 c0)
  gi_wp2
  refine ⟨trivial, (callsIn_wide.2 (areTwo_any A c s _ _ _ i j _ hl1)).mono ?_⟩
  rintro e w2 ⟨rfl, hE1⟩
  replace hE := hE.trans hE1
  replace hr := hr.ext hE1
  replace hr1 := hr1.ext hE1
  replace hr2 := hr2.ext hE1
  replace hz1 := Nat.le_trans hz1 hE1.size
  clear hE1 b0 b1 b2
  have b0 := hr.cell
  rw [c1]
  gi_wp2
  refine ⟨trivial, (callsIn_wide.2 (isSpan_any lo hi _)).mono ?_⟩
  rintro e w3 ⟨rfl, rfl⟩
  rw [c2]
  have j0 := lts (show w.heap.size < w2.heap.size by omega)
  gi_wp2
  refine ⟨trivial, (callsIn_wide.2 (days_any A _ c s lo hi _)).mono ?_⟩
  rintro e w' ⟨rfl, rfl⟩
  gi_wp2
  obtain ⟨i0, hi0, hz0, hz1, hz2⟩ := info_parts info_apart
  obtain ⟨d1, d2, d3, d4⟩ := span_of c2
  obtain ⟨i1, i2, i3, i4, _⟩ := two_of c1
  have bO := (Out.new w2 (w2.heap.size + 4) 145 147 2)
  have hE2 : Ext w2 (w2.alloc (.cells #[.slice none 0 0] 145)) := (Ext.refl w2).alloc _
  obtain ⟨W1, hW1⟩ : ∃ W1, w2.alloc (.cells #[.slice none 0 0] 145) = W1 := ⟨_, rfl⟩
  have hsz1 : W1.heap.size = w2.heap.size + 1 := by rw [← hW1]; simp
  rw [hW1] at bO hE2 ⊢
  clear hW1 b0
  have rS := daysW_S A s.bodies.length c s lo hi W1
  have rF := daysW_F A s.bodies.length c s lo hi W1
  have rT := daysW_T A s.bodies.length c s lo hi W1
  have hsz := daysW_size A s.bodies.length c s lo hi W1
  replace bO := bO.ext (daysW_ext A s.bodies.length c s lo hi W1)
  replace hE2 := hE2.trans (daysW_ext A s.bodies.length c s lo hi W1)
  obtain ⟨W0, hW0⟩ : ∃ W0, daysW A s.bodies.length c s lo hi W1 = W0 := ⟨_, rfl⟩
  rw [hW0] at bO hE2 rS rF rT hsz ⊢
  clear hW0
  rw [hsz1] at rS rF rT hsz
  have HE := Lib.hid hE
  have h0 : NearI w2 s i j [] W0 := ⟨⟨_, bO⟩, hE2, by omega⟩
  clear hE hE2 bO
  refine wpIn_rangeFunc_ownH rfl (by omega) (gf := 157) (lb := #[.pointer (some ⟨w2.heap.size + 1 + 1, 0, none⟩), .pointer (some ⟨w2.heap.size + 1 + 2, 0, none⟩), .pointer (some ⟨w2.heap.size + 1, 0, none⟩)]) rfl trivial (enters_of Tryz.func157 (by kernel_rfl) rfl)
    (days_stops (8 - 1) (by omega) A s.bodies.length c s lo hi d1 d3 (w2.heap.size + 1) W0 rS rF rT) (fun h k => keepsTwo_t _ _ h k) (keepsTwo_b (by omega) (by omega)) (Below.refl _ _) (fun _ => rfl)
    (NearI w2 s i j)
    (fun _ _ _ => False)
    (nearI_own w2 s i j _ (by omega))
    (fun _ _ _ _ _ hs _ _ => hs)
    h0
    (fun x a' W => ∃ Bx, Row W Bx 120 #[.slice A s.bodies.length c, .int .i64 s.nnum, .int .i64 s.nden, .int .i64 s.nstart, .int .i64 x.1] ∧ a' = (⟨#[.agg #[.slice A s.bodies.length c, .int .i64 s.nnum, .int .i64 s.nden, .int .i64 s.nstart], .int .i64 i, .int .i64 j, .int .i64 lo, .int .i64 hi, .pointer (some ⟨w.heap.size, 0, none⟩), .pointer (some ⟨w.heap.size + 1, 0, none⟩), .pointer (some ⟨w.heap.size + 1 + 1, 0, none⟩), undef, undef, .int .i64 0, .int .i64 0, .int .i64 0, .pointer (some ⟨w2.heap.size, 0, none⟩), .pointer (some ⟨Bx, 0, none⟩), undef, .agg #[.slice A s.bodies.length c, .int .i64 s.nnum, .int .i64 s.nden, .int .i64 s.nstart], .bool true, .bool false, .bool false, .agg #[.slice A s.bodies.length c, .int .i64 s.nnum, .int .i64 s.nden, .int .i64 s.nstart], .int .i64 i, .int .i64 j, .bool true, .bool false, .bool false, .bool false, .int .i64 lo, .int .i64 hi, .bool true, .bool false, .bool false, .agg #[.slice A s.bodies.length c, .int .i64 s.nnum, .int .i64 s.nden, .int .i64 s.nstart], .int .i64 lo, .int .i64 hi, daysV (w2.heap.size + 1), .agg #[.slice A s.bodies.length c, .int .i64 s.nnum, .int .i64 s.nden, .int .i64 s.nstart, .int .i64 x.1], undef, undef, undef, undef, undef, undef, undef, undef, undef, undef, undef, undef, undef, undef, undef, undef, undef], []⟩ : Act))
    (fun x a' _ X Y row hs hg hr => by obtain ⟨Bx, h1, h2⟩ := hs; exact ⟨Bx, h1.kept hg fun r e => (hr r e).2, h2⟩)
    ?assign ?body ?done ?stop
  case assign =>
    rintro l pre x W K hi hK
    simp only [skyV]
    gi_wp2
    obtain ⟨⟨v, hO⟩, hB, hz⟩ := hi
    exact hK _ _ ((KeepsOthers.alloc _ _).from _) ⟨Below.heap_alloc _ _ _ (by omega), Below.heap_alloc _ _ _ (by omega)⟩ ⟨⟨v, hO.ext ((Ext.refl _).alloc _)⟩, hB.alloc hB.size _, by simp; omega⟩ ⟨_, Row.new _ _ _, rfl⟩
  case body =>
    rintro l pre x a' W hl ⟨r, hr'⟩ ⟨⟨v, hO⟩, hB, hz⟩ ⟨Bx, rX, rfl⟩ hlt
    have hx := x.2
    have hne1 := hO.nbox rX (by decide)
    have hne2 := hO.far rX (by decide)
    have hE1 : Ext w2 W := hB
    have HE1 := Lib.hid hE1
    have hlen : pre.length < 801 := by omega
    have hb1 := ahead_bounds HK.out i1 i2 i3 i4 (day := x.1) (by omega) (by omega)
    have hl2 : (pre.map Subtype.val).length ≤ 801 := by rw [List.length_map]; omega
    obtain ⟨L, hL⟩ : ∃ L, pre.map Subtype.val = L := ⟨_, rfl⟩
    rw [hL] at hO hl2
    have HL2 := Lib.hid hL
    clear hB hL
    gi_wp2
    refine wpIn_region_later_mix (v0 := v) 9 (by kernel_rfl) (by kernel_rfl) (by kernel_rfl) rfl rfl (by kernel_rfl) ?_ (fun WW hW => ?_)
    · intro y
      have c2 := (hO.box.ext y.ext).cell 0
      simp only [List.getElem?_toArray, List.getElem?_cons_zero] at c2
      simp [go_sem, c2]
    have q1 := Later.block (w := WW) (by rw [hW]; exact rX)
    have q2 := Later.block (w := WW) (by rw [hW]; exact hr1.ext hE1)
    have q3 := Later.block (w := WW) (by rw [hW]; exact hr2.ext hE1)
    have HB := Lib.hid (fun X : Later WW => HM.out.ext ((HE.out.trans (by rw [hW]; exact HE1.out)).trans X.ext))
    simp only [List.take_succ_cons, List.take_zero, List.drop_succ_cons, List.drop_zero, Act.put, List.setIfInBounds_toArray, List.set_cons_succ, List.set_cons_zero]
    clear hE1
    repeat (go_big_quiet_step ((first | (go_at_call 117; exact Later.call (ahead_any s A c _ _ _ _ i j _ HK.out (by exact HB.out _) i1 i2 i3 i4 (by omega) (by omega))) | (go_at_call 126; exact Later.call (round_any _ _ (by omega) (by omega))))))
    refine wpQuiet_nil ?_
    intro y
    go_wp2
    refine ⟨⟨⟨_, y.ext.alloc _⟩, rfl⟩, ?_⟩
    subst hW
    have hz' := Nat.le_trans hz y.ext.size
    have hO2 := (hO.ext y.ext).ext ((Ext.refl _).alloc (.cells #[.int .i64 x.1, .int .i64 (Sp.round (Sp.ahead s i j x.1))] 147))
    have hP2 := (Push.of_ext (bO := w2.heap.size) (v := v) y.ext).trans (Push.of_ext ((Ext.refl _).alloc (.cells #[.int .i64 x.1, .int .i64 (Sp.round (Sp.ahead s i j x.1))] 147)))
    refine wpList_append_lies _ rfl _ _ _ rfl (w2.heap.size + 4) 147 i0 _ 2 16 Tryz.underlying145 hi0 hz0 hz1 hz2 rfl (by omega) v _ _ rfl hO2.own
      ⟨y.world.heap.size, 0, none⟩ 1 1 [.int .i64 x.1, .int .i64 (Sp.round (Sp.ahead s i j x.1))] rfl rfl (World.news_of_block (cs := #[.int .i64 x.1, .int .i64 (Sp.round (Sp.ahead s i j x.1))]) (t := 147) (fr := (0, 0)) (heap_alloc_new _ _)) (by simp [Value.oneCell'])
      (by omega) (by simp only [maxLen]; omega) (by omega) (by simp; omega) _ rfl ?_
    intro gg cap w3 hown1 hgrow hat hlt'
    have hc3 := grown_cell hgrow hO2.box hO2.ne 0
    have hf3 := grown_free hgrow hO2.box hO2.ne 0
    simp only [List.getElem?_toArray, List.getElem?_cons_zero] at hc3
    have hpush := hO2.pushed (Ext.refl _) hown1 hgrow hat
    have hP := hP2.trans hpush.2
    clear q1 q2 q3 hO2 hgrow hown1 hP2
    go_wp2
    refine ⟨Push.keepsFrom hO hP _, ⟨Push.old hO hP (by omega) hz (by omega), Push.old hO hP (by omega) hz (by omega)⟩, ⟨.slice (some ⟨gg, 0, none⟩) (L.length + 1) cap, ?_⟩, HE1.out.trans' (hP.below hO (N := w2.heap.size) (by omega) (by omega) hz), Nat.le_trans hz hP.size⟩
    rw [List.map_append, HL2.out]
    simpa [nearC, Sp.nearD] using hpush.1
  case done =>
    rintro D xs W hD hS ⟨⟨v, hO⟩, hB, hz⟩ hK
    rw [show xs.map Subtype.val = daysL lo (hi + 1 - lo).toNat from hS] at hO
    obtain ⟨A', c', rfl, hp⟩ := near_pairs hO.own
    have cO := hO.box.cell 0
    simp only [List.getElem?_toArray, List.getElem?_cons_zero] at cO
    have hKlt : D < W.heap.size := (Array.getElem?_eq_some_iff.1 hK).1
    gi_wp2
    refine ⟨trivial, (callsIn_wide.2 (best_apart A' c' _ _ W (by omega) (by omega) hp)).mono ?_⟩
    rintro e W2 ⟨rfl, hE4⟩
    have HE4 := Lib.hid hE4
    have hz4 := hE4.size
    clear hE4 cO
    rw [bestK_near]
    simp only [pairC]
    gi_wp2
    refine wpIn_wide.2 ?_
    have cN := (Row.new W2 147 #[.int .i64 (Sp.nearN s i j lo ((hi + 1 - lo).toNat - 1)), .int .i64 (Sp.nearD s i j (Sp.nearN s i j lo ((hi + 1 - lo).toNat - 1)))]).cell
    go_quiet (fail)
    have hE5 : ∀ n, Ext W ((W2.alloc (.cells #[.int .i64 (Sp.nearN s i j lo ((hi + 1 - lo).toNat - 1)), .int .i64 (Sp.nearD s i j (Sp.nearN s i j lo ((hi + 1 - lo).toNat - 1)))] 147)).drewN n) := fun n => (HE4.out.alloc _).drewN n
    have hK5 := fun n => ((hE5 n).block D hKlt).trans hK
    gi_wp2
    refine ⟨by simp, .inl ⟨_, _, rfl, run_takeDeferred (hK5 _), ?_⟩⟩
    refine ⟨_, results_tmp3 rfl _ _ _, ?_, ?_⟩
    · simp only [Sp.nearL]
      rw [show (hi + 1 - lo).toNat - 1 = (hi - lo).toNat by omega]
      rfl
    · have hB' : Ext w2 W := hB
      have hB5 := hB'.trans (hE5 ‹_›)
      exact HE.out.trans (Below.grown hB5 (grownBy_putObj' _ D (.deferred none)) hB5.size (fun k e => by cases e; omega))
  case stop =>
    rintro D c' pre W _ _ h _
    exact h.elim
end Go.Proofs.YtlcddcnmoajpjaaGreatDoor
