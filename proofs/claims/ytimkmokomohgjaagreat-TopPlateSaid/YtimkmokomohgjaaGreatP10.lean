/- Volume 10: TpBest TpNearest TpNearestR TpSame TpKnown20 TpRatesP: walks of the program's functions, and plain laws. -/
import Derived.Carry
import Derived.BigQuiet
import Derived.Laws.MakeOwn
import Derived.Test.YtimkmokomohgjaaGreatP02
import Derived.Test.YtimkmokomohgjaaGreatP03
import Derived.Test.YtimkmokomohgjaaGreatP04
import Derived.Test.YtimkmokomohgjaaGreatP05
import Derived.Test.YtimkmokomohgjaaGreatP06
import Derived.Test.YtimkmokomohgjaaGreatP09
import Derived.Test.YtimkmokomohgjaaGreatP12
import Derived.Test.YtimkmokomohgjaaGreatP13
namespace Go.Proofs.YtimkmokomohgjaaGreat
open Go.RowKit
open Sp (rd)
set_option maxRecDepth 100000
set_option maxHeartbeats 4000000
set_option linter.unusedVariables false
theorem t_bestT_one (b o c : Nat) (V F : Value) (w : World) (h : w.cell? ⟨b, o, none⟩ = some V) :
    Calls Tryz.prog 158 #[.slice (some ⟨b, o, none⟩) 1 c, F] w fun e w' => e = .returned (.tuple #[V, .bool true]) ∧ Ext w w' := by
  go_enter Tryz.func158, Tryz.ntmps158
  go_wp2_with fail
  go_loop [6, 11] (fun v i => (i = .int .i64 0) ∨ (i = .int .i64 1 ∧ v = V)) (fun _ i => 1 - (intOf i).toNat)
  case atStart => exact .inl rfl
  case round =>
    rcases hrel with rfl | ⟨rfl, rfl⟩
    · go_wp2_with fail
      go_round
      case rel => exact .inr ⟨rfl, rfl⟩
      case measure => simp [intOf]
    · go_wp2_with fail
      go_ret2
      exact ⟨rfl, Ext.refl _⟩
theorem t_nearest1_any (p1 n1 d1 p2 n2 d2 : Int) (V1 V2 : Value) (w : World) (h1 : -1000000000 ≤ n1 ∧ n1 ≤ 1000000000) (h2 : -1000000000 ≤ d1 ∧ d1 ≤ 1000000000) (h3 : -1000000000 ≤ n2 ∧ n2 ≤ 1000000000) (h4 : -1000000000 ≤ d2 ∧ d2 ≤ 1000000000) :
    Calls Tryz.prog 155 #[.agg #[.int .i64 p1, .int .i64 n1, .int .i64 d1, V1], .agg #[.int .i64 p2, .int .i64 n2, .int .i64 d2, V2]] w fun e w' => e = .returned (.bool (decide (Tp.cmpF ⟨n1, d1⟩ ⟨n2, d2⟩ < 0))) ∧ Ext w w' := by
  have HC := Lib.hid (fun W => t_compare_any n1 d1 n2 d2 W h1 h2 h3 h4)
  obtain ⟨n, hn⟩ : ∃ n, Tp.cmpF ⟨n1, d1⟩ ⟨n2, d2⟩ = n := ⟨_, rfl⟩
  rw [hn] at HC ⊢
  clear hn
  have HRA : Hid (Row ((w.alloc (.cells #[.int .i64 p1, .int .i64 n1, .int .i64 d1, V1] 221)).alloc (.cells #[.int .i64 p2, .int .i64 n2, .int .i64 d2, V2] 221)) w.heap.size 221 #[.int .i64 p1, .int .i64 n1, .int .i64 d1, V1]) := Lib.hid (blocks2 w _ _).1
  have HRB : Hid (Row ((w.alloc (.cells #[.int .i64 p1, .int .i64 n1, .int .i64 d1, V1] 221)).alloc (.cells #[.int .i64 p2, .int .i64 n2, .int .i64 d2, V2] 221)) (w.heap.size + 1) 221 #[.int .i64 p2, .int .i64 n2, .int .i64 d2, V2]) := Lib.hid (blocks2 w _ _).2
  have HE0 : Hid (Ext w ((w.alloc (.cells #[.int .i64 p1, .int .i64 n1, .int .i64 d1, V1] 221)).alloc (.cells #[.int .i64 p2, .int .i64 n2, .int .i64 d2, V2] 221))) := Lib.hid (((Ext.refl w).alloc _).alloc _)
  have a0 := HRA.out.cell
  have a1 := HRB.out.cell
  go_enter Tryz.func155, Tryz.ntmps155
  go_wp2_with fail
  refine (HC.out _).mono ?_
  rintro e w1 ⟨rfl, hE1⟩
  have HE1 := Lib.hid (HE0.out.trans hE1)
  clear hE1
  dsimp only
  go_wp2_with fail
  go_ret
  exact ⟨rfl, HE1.out⟩
theorem Tp.set4 {w : World} {g : Nat} {t : TypeId} {a b c d : Value} (h : Row w g t #[a, b, c, d]) (x y z v : Value) :
    Row ((((w.setCell ⟨g, 0, none⟩ x).setCell ⟨g, 1, none⟩ y).setCell ⟨g, 2, none⟩ z).setCell ⟨g, 3, none⟩ v) g t #[x, y, z, v] := by
  have := (((h.set_ 0 x).set_ 1 y).set_ 2 z).set_ 3 v
  simpa using this
theorem Tp.far4 {w : World} {g h : Nat} {t : TypeId} {cs : Array Value} (hr : Row w h t cs) (hne : h ≠ g) (x y z v : Value) :
    Row ((((w.setCell ⟨g, 0, none⟩ x).setCell ⟨g, 1, none⟩ y).setCell ⟨g, 2, none⟩ z).setCell ⟨g, 3, none⟩ v) h t cs :=
  (((hr.far (p := ⟨g, 0, none⟩) hne x).far (p := ⟨g, 1, none⟩) hne y).far (p := ⟨g, 2, none⟩) hne z).far (p := ⟨g, 3, none⟩) hne v
theorem Tp.ext4 {w0 w : World} {g : Nat} (h : Ext w0 w) (hg : w0.heap.size ≤ g) (x y z v : Value) :
    Ext w0 ((((w.setCell ⟨g, 0, none⟩ x).setCell ⟨g, 1, none⟩ y).setCell ⟨g, 2, none⟩ z).setCell ⟨g, 3, none⟩ v) :=
  (((h.setCell (p := ⟨g, 0, none⟩) hg x).setCell (p := ⟨g, 1, none⟩) hg y).setCell (p := ⟨g, 2, none⟩) hg z).setCell (p := ⟨g, 3, none⟩) hg v
theorem t_bestF_two (b o c : Nat) (p1 n1 d1 p2 n2 d2 : Int) (A1 A2 : Option Addr) (m1 k1 m2 k2 : Nat) (w : World) (h1 : -1000000000 ≤ n1 ∧ n1 ≤ 1000000000) (h2 : -1000000000 ≤ d1 ∧ d1 ≤ 1000000000) (h3 : -1000000000 ≤ n2 ∧ n2 ≤ 1000000000) (h4 : -1000000000 ≤ d2 ∧ d2 ≤ 1000000000) (hlt : Tp.cmpF ⟨n2, d2⟩ ⟨n1, d1⟩ < 0)
    (c0 : w.cell? ⟨b, o, none⟩ = some (.int .i64 p1) ∧ w.cell? ⟨b, o + 1, none⟩ = some (.int .i64 n1) ∧ w.cell? ⟨b, o + 2, none⟩ = some (.int .i64 d1) ∧ w.cell? ⟨b, o + 3, none⟩ = some (.slice A1 m1 k1))
    (c1 : w.cell? ⟨b, o + 4, none⟩ = some (.int .i64 p2) ∧ w.cell? ⟨b, o + 4 + 1, none⟩ = some (.int .i64 n2) ∧ w.cell? ⟨b, o + 4 + 2, none⟩ = some (.int .i64 d2) ∧ w.cell? ⟨b, o + 4 + 3, none⟩ = some (.slice A2 m2 k2)) :
    Calls Tryz.prog 154 #[.slice (some ⟨b, o, none⟩) 2 c, .func (.func 155) #[] #[]] w fun e w' => e = .returned (.tuple #[.agg #[.int .i64 p2, .int .i64 n2, .int .i64 d2, (.slice A2 m2 k2)], .bool true]) ∧ Ext w w' := by
  have HB := Lib.hid (fun W => t_nearest1_any p2 n2 d2 p1 n1 d1 (.slice A2 m2 k2) (.slice A1 m1 k1) W h3 h4 h1 h2)
  rw [decide_eq_true hlt] at HB
  have HC0 := Lib.hid c0
  have HC1 := Lib.hid c1
  clear c0 c1 hlt
  have HRA : Hid (Row ((w.alloc (.cells #[.int .i64 0, .int .i64 0, .int .i64 0, .slice none 0 0] 221)).alloc (.cells #[.int .i64 0, .int .i64 0, .int .i64 0, .slice none 0 0] 221)) w.heap.size 221 #[.int .i64 0, .int .i64 0, .int .i64 0, .slice none 0 0]) := Lib.hid (blocks2 w _ _).1
  have HRB : Hid (Row ((w.alloc (.cells #[.int .i64 0, .int .i64 0, .int .i64 0, .slice none 0 0] 221)).alloc (.cells #[.int .i64 0, .int .i64 0, .int .i64 0, .slice none 0 0] 221)) (w.heap.size + 1) 221 #[.int .i64 0, .int .i64 0, .int .i64 0, .slice none 0 0]) := Lib.hid (blocks2 w _ _).2
  have HE0 : Hid (Ext w ((w.alloc (.cells #[.int .i64 0, .int .i64 0, .int .i64 0, .slice none 0 0] 221)).alloc (.cells #[.int .i64 0, .int .i64 0, .int .i64 0, .slice none 0 0] 221))) := Lib.hid (((Ext.refl w).alloc _).alloc _)
  go_enter Tryz.func154, Tryz.ntmps154
  go_wp2_with fail
  obtain ⟨W0, hW0⟩ : ∃ W, (w.alloc (.cells #[.int .i64 0, .int .i64 0, .int .i64 0, .slice none 0 0] 221)).alloc (.cells #[.int .i64 0, .int .i64 0, .int .i64 0, .slice none 0 0] 221) = W := ⟨_, rfl⟩
  rw [hW0] at HRA HRB HE0 ⊢
  clear hW0
  go_loopw [11] (fun i wr => ((i = .int .i64 0 ∧ Row wr (w.heap.size + 1) 221 #[.int .i64 0, .int .i64 0, .int .i64 0, .slice none 0 0]) ∨ (i = .int .i64 1 ∧ Row wr (w.heap.size + 1) 221 #[.int .i64 p1, .int .i64 n1, .int .i64 d1, (.slice A1 m1 k1)]) ∨ (i = .int .i64 2 ∧ Row wr (w.heap.size + 1) 221 #[.int .i64 p2, .int .i64 n2, .int .i64 d2, (.slice A2 m2 k2)])) ∧ Row wr w.heap.size 221 #[.int .i64 0, .int .i64 0, .int .i64 0, .slice none 0 0] ∧ Ext w wr) (fun i _ => 2 - (intOf i).toNat)
  case atStart => exact ⟨.inl ⟨rfl, HRB.out⟩, HRA.out, HE0.out⟩
  case round =>
    obtain ⟨hway, hA, hX⟩ := hrel
    have HA := Lib.hid hA
    have HX := Lib.hid hX
    have hz := hX.size
    clear hA hX
    rcases hway with ⟨rfl, hB⟩ | ⟨rfl, hB⟩ | ⟨rfl, hB⟩
    · have HBR := Lib.hid hB
      have q0 := HX.out.cell HC0.out.1
      have q1 := HX.out.cell HC0.out.2.1
      have q2 := HX.out.cell HC0.out.2.2.1
      have q3 := HX.out.cell HC0.out.2.2.2
      have e0 := hB.cell
      have f0 := hB.free
      have j0 := lts hB.lt
      clear hB
      go_wp2_with fail
      go_roundw
      case rel => exact ⟨.inr (.inl ⟨rfl, (Tp.set4 HBR.out _ _ _ _).alloc _⟩), (Tp.far4 HA.out (by omega) _ _ _ _).alloc _, (Tp.ext4 HX.out (by omega) _ _ _ _).alloc _⟩
      case measure => simp [intOf]
    · have HBR := Lib.hid hB
      have q0 := HX.out.cell HC1.out.1
      have q1 := HX.out.cell HC1.out.2.1
      have q2 := HX.out.cell HC1.out.2.2.1
      have q3 := HX.out.cell HC1.out.2.2.2
      have e0 := hB.cell
      have f0 := hB.free
      have j0 := lts hB.lt
      have hN := Row.new wr 221 #[.int .i64 p2, .int .i64 n2, .int .i64 d2, (.slice A2 m2 k2)]
      have HN := Lib.hid hN
      clear hB hN
      go_wp2_with fail
      refine (HB.out _).mono ?_
      rintro e w1 ⟨rfl, hE1⟩
      dsimp only
      have HB1 := Lib.hid ((HBR.out.alloc _).ext hE1)
      have HA1 := Lib.hid ((HA.out.alloc _).ext hE1)
      have HX1 := Lib.hid ((HX.out.alloc _).trans hE1)
      have HN1 := Lib.hid (HN.out.ext hE1)
      clear q0 q1 q2 q3 e0 f0 j0 hE1
      have e1 := HB1.out.cell
      have f1 := HB1.out.free
      have j1 := lts HB1.out.lt
      have e2 := HN1.out.cell
      go_wp2_with fail
      go_roundw
      case rel => exact ⟨.inr (.inr ⟨rfl, Tp.set4 HB1.out _ _ _ _⟩), Tp.far4 HA1.out (by omega) _ _ _ _, Tp.ext4 HX1.out (by omega) _ _ _ _⟩
      case measure => simp [intOf]
    · have HBR := Lib.hid hB
      have e0 := hB.cell
      have a0 := HA.out.cell
      have f0 := HA.out.free
      have j0 := lts HA.out.lt
      clear hB
      go_wp2_with fail
      have r2 := Tp.set4 HA.out (.int .i64 p2) (.int .i64 n2) (.int .i64 d2) (.slice A2 m2 k2)
      have r3 := r2.cell
      exact bodyPost_ret (v := .tuple #[.agg #[.int .i64 p2, .int .i64 n2, .int .i64 d2, (.slice A2 m2 k2)], .bool true]) (by simp [results, Tryz.results154, go_sem, r3]) rfl ⟨rfl, Tp.ext4 HX.out (by omega) _ _ _ _⟩
end Go.Proofs.YtimkmokomohgjaaGreat
namespace Go.Proofs.YtimkmokomohgjaaGreat
open Go.RowKit
open Sp (rd)
set_option maxRecDepth 100000
set_option maxHeartbeats 4000000
set_option linter.unusedVariables false
set_option linter.unusedSimpArgs false
theorem Tp.info_found : (Tryz.prog.info? 221).map (fun i => (i.zero, i.size, i.bytes)) = some (some (.agg #[.int .i64 0, .int .i64 0, .int .i64 0, .slice none 0 0]), 4, 48) := by kernel_rfl
theorem Tp.info_lpair : (Tryz.prog.info? 78).map (fun i => (i.zero, i.size, i.bytes)) = some (some (.slice none 0 0), 1, 24) := by kernel_rfl
/-- What nearest reads. -/
structure Tp.NearestIn (At : Option Addr) (teeth : List Int) (bs os ns bm om nm : Nat) (all1 all2 : List Int) (w : World) : Prop where
  hT : Ints w At teeth
  s1 : ∃ A c, w.cell? ⟨bs, os + 1, none⟩ = some (.slice A all1.length c) ∧ Ints w A all1
  s2 : ∃ A c, w.cell? ⟨bs, os + 2, none⟩ = some (.slice A all2.length c) ∧ Ints w A all2
  marks : ∀ j, j < 2 → j < nm ∧ ∃ A c, w.cell? ⟨bm, om + j, none⟩ = some (.slice A (60 ^ j + 1) c) ∧ Tp.Bits w A (60 ^ j + 1) (Tp.mark teeth j)
theorem Tp.NearestIn.ext {At : Option Addr} {teeth : List Int} {bs os ns bm om nm : Nat} {all1 all2 : List Int} {w w' : World} (h : Tp.NearestIn At teeth bs os ns bm om nm all1 all2 w) (he : Ext w w') : Tp.NearestIn At teeth bs os ns bm om nm all1 all2 w' :=
  ⟨h.hT.ext he, let ⟨A, c, h1, h2⟩ := h.s1; ⟨A, c, he.cell h1, h2.ext he⟩, let ⟨A, c, h1, h2⟩ := h.s2; ⟨A, c, he.cell h1, h2.ext he⟩, fun j hj => let ⟨h1, A, c, h2, h3⟩ := h.marks j hj; ⟨h1, A, c, he.cell h2, h3.ext he⟩⟩
theorem t_nearest_any (a b s : Int) (Av : Option Addr) (nv cv : Nat) (At : Option Addr) (ct : Nat) (teeth : List Int) (bs os ns cs bm om nm cm : Nat) (all1 all2 : List Int) (x1n x1d yn yd n1 e1 n2 e2 fn fd : Int) (l : List Ec.Pair) (w : World)
    (hl : teeth.length ≤ 1000) (ht : ∀ k, k < teeth.length → 1 ≤ rd teeth k ∧ rd teeth k ≤ 16) (hns : 3 ≤ ns ∧ ns ≤ 1000) (hnm : nm ≤ 1000) (hin : Tp.NearestIn At teeth bs os ns bm om nm all1 all2 w) (hll : all1.length ≤ 1000 ∧ all2.length ≤ 1000)
    (ha1 : ∀ k, k < all1.length → 1 ≤ rd all1 k ∧ rd all1 k ≤ 1000000) (ha2 : ∀ k, k < all2.length → 1 ≤ rd all2 k ∧ rd all2 k ≤ 1000000) (hf : (1 ≤ fn ∧ fn ≤ 1000) ∧ (1 ≤ fd ∧ fd ≤ 1000))
    (hN1 : Tp.near all1 ⟨fn, fd⟩ = ([⟨x1n, x1d⟩], ⟨n1, e1⟩)) (hN2 : Tp.near all2 ⟨fn, fd⟩ = ([⟨yn, yd⟩], ⟨n2, e2⟩)) (hb1 : -1000000000 ≤ n1 ∧ n1 ≤ 1000000000) (hb2 : -1000000000 ≤ e1 ∧ e1 ≤ 1000000000) (hb3 : -1000000000 ≤ n2 ∧ n2 ≤ 1000000000) (hb4 : -1000000000 ≤ e2 ∧ e2 ≤ 1000000000) (hlt : Tp.cmpF ⟨n2, e2⟩ ⟨n1, e1⟩ < 0)
    (hs : 1 ≤ s ∧ s ≤ 3) (hl1 : Tp.lets s 1 = true) (hl2 : Tp.lets s 2 = true) (hy1 : 1 ≤ yn ∧ yn ≤ 1000) (hy2 : 1 ≤ yd ∧ yd ≤ 1000) (hF : Tp.firstN (Tp.canP teeth) teeth 2 [] ⟨yn, yd⟩ = some l) :
    Calls Tryz.prog 93 #[.agg #[.int .i64 a, .int .i64 b, .int .i64 2, .int .i64 s, .slice Av nv cv, .slice At teeth.length ct, .slice (some ⟨bs, os, none⟩) ns cs, .slice (some ⟨bm, om, none⟩) nm cm], .agg #[.int .i64 fn, .int .i64 fd]] w fun e w' => ∃ rb ro rc, e = .returned (.tuple #[.slice (some ⟨rb, ro, none⟩) l.length rc, .bool true]) ∧ Pairs w' (some ⟨rb, ro, none⟩) l ∧ Ext w w' := by
  have HIN := Lib.hid hin
  have HNE1 := Lib.hid (fun W (he : Ext w W) => by obtain ⟨A1, c1, h1, h2⟩ := hin.s1; have := t_near_any a b 2 s (.slice Av nv cv) (.slice At teeth.length ct) bs os ns cs (.slice (some ⟨bm, om, none⟩) nm cm) 1 A1 c1 all1 fn fd W (by omega) hns.2 (he.cell h1) (h2.ext he) hll.1 ha1 hf; rw [hN1] at this; exact this)
  have HNE2 := Lib.hid (fun W (he : Ext w W) => by obtain ⟨A1, c1, h1, h2⟩ := hin.s2; have := t_near_any a b 2 s (.slice Av nv cv) (.slice At teeth.length ct) bs os ns cs (.slice (some ⟨bm, om, none⟩) nm cm) 2 A1 c1 all2 fn fd W (by omega) hns.2 (he.cell h1) (h2.ext he) hll.2 ha2 hf; rw [hN2] at this; exact this)
  have HLE := Lib.hid (fun n W (hn : 0 ≤ n ∧ n ≤ 100) => t_lets_any a b 2 s n (.slice Av nv cv) (.slice At teeth.length ct) W hs hn)
  have HL1 := Lib.hid hl1
  have HL2 := Lib.hid hl2
  have HFI := Lib.hid (fun W (he : Ext w W) => by have := t_first_any a b 2 s Av nv cv At ct teeth (some ⟨bs, os, none⟩) ns cs bm om nm cm 2 yn yd W hl ht hnm (by omega) (hin.ext he).hT (hin.ext he).marks hy1 hy2; rw [hF] at this; exact this)
  have HLT := Lib.hid hlt
  obtain ⟨i0, hi0, hi1, hi2, hi3⟩ := info_parts Tp.info_found
  obtain ⟨j0, hj0, hj1, hj2, hj3⟩ := info_parts Tp.info_lpair
  clear hin ht hll ha1 ha2 hf hN1 hN2 hlt hl1 hl2 hF
  have HW0 := Lib.hid (blocks2 w (.cells #[.int .i64 a, .int .i64 b, .int .i64 2, .int .i64 s, .slice Av nv cv, .slice At teeth.length ct, .slice (some ⟨bs, os, none⟩) ns cs, .slice (some ⟨bm, om, none⟩) nm cm] 165) (.cells #[.int .i64 fn, .int .i64 fd] 69)).1
  have HF0 := Lib.hid (blocks2 w (.cells #[.int .i64 a, .int .i64 b, .int .i64 2, .int .i64 s, .slice Av nv cv, .slice At teeth.length ct, .slice (some ⟨bs, os, none⟩) ns cs, .slice (some ⟨bm, om, none⟩) nm cm] 165) (.cells #[.int .i64 fn, .int .i64 fd] 69)).2
  have HX0 : Hid (Ext w ((w.alloc (.cells #[.int .i64 a, .int .i64 b, .int .i64 2, .int .i64 s, .slice Av nv cv, .slice At teeth.length ct, .slice (some ⟨bs, os, none⟩) ns cs, .slice (some ⟨bm, om, none⟩) nm cm] 165)).alloc (.cells #[.int .i64 fn, .int .i64 fd] 69))) := Lib.hid (((Ext.refl w).alloc _).alloc _)
  go_enter Tryz.func93, Tryz.ntmps93
  go_wp2_with fail
  obtain ⟨W0, hW0⟩ : ∃ W, (w.alloc (.cells #[.int .i64 a, .int .i64 b, .int .i64 2, .int .i64 s, .slice Av nv cv, .slice At teeth.length ct, .slice (some ⟨bs, os, none⟩) ns cs, .slice (some ⟨bm, om, none⟩) nm cm] 165)).alloc (.cells #[.int .i64 fn, .int .i64 fd] 69) = W := ⟨_, rfl⟩
  rw [hW0] at HW0 HF0 HX0 ⊢
  have HWR : Hid (Row W0 w.heap.size 165 #[.int .i64 a, .int .i64 b, .int .i64 2, .int .i64 s, .slice Av nv cv, .slice At teeth.length ct, .slice (some ⟨bs, os, none⟩) ns cs, .slice (some ⟨bm, om, none⟩) nm cm]) := HW0
  have HFR : Hid (Row W0 (w.heap.size + 1) 69 #[.int .i64 fn, .int .i64 fd]) := HF0
  clear hW0 HW0 HF0
  go_loopw [6, 7] (fun v i wr => Ext W0 wr ∧ ((i = .int .i64 1 ∧ wr.ownsRow W0.heap.size 221 4 v 0 []) ∨ (i = .int .i64 2 ∧ ∃ A1 c1, wr.ownsRow W0.heap.size 221 4 v 1 [.int .i64 1, .int .i64 n1, .int .i64 e1, .slice A1 1 c1]) ∨ (i = .int .i64 3 ∧ ∃ A1 c1 A2 c2, (∃ b2, wr.ownsRow b2 69 2 (.slice A2 1 c2) 1 (Tp.pc [⟨yn, yd⟩])) ∧ wr.ownsRow W0.heap.size 221 4 v 2 ([.int .i64 1, .int .i64 n1, .int .i64 e1, .slice A1 1 c1] ++ [.int .i64 2, .int .i64 n2, .int .i64 e2, .slice A2 1 c2])))) (fun _ i _ => 3 - (intOf i).toNat)
  case atStart => exact ⟨Ext.refl _, .inl ⟨rfl, by simp [World.ownsRow]⟩⟩
  case round =>
    obtain ⟨hX, hway⟩ := hrel
    have HX := Lib.hid hX
    have hz := hX.size
    have hz2 := HFR.out.lt
    have cW := (HWR.out.ext hX).cell
    have cF := (HFR.out.ext hX).cell
    clear hX
    rcases hway with ⟨rfl, hO⟩ | ⟨rfl, A1, c1, hO⟩ | ⟨rfl, A1, c1, A2, c2, hP2, hO⟩
    · have HO := Lib.hid hO
      obtain ⟨Bo, do_, rfl⟩ := Tp.own_slice hO
      clear hO
      go_wp2_with fail
      refine (HNE1.out _ (HX0.out.trans HX.out)).mono ?_
      rintro e w1 ⟨B3, d3, rfl, hp3, hE1⟩
      simp only [List.length_cons, List.length_nil, Nat.zero_add]
      have HX1 := Lib.hid ((HX.out.trans hE1).alloc (.cells #[.int .i64 n1, .int .i64 e1] 69))
      have HO1 := Lib.hid (own_ext (own_ext HO.out hE1) ((Ext.refl _).alloc (.cells #[.int .i64 n1, .int .i64 e1] 69)))
      have HP1 := Lib.hid (own_ext hp3 ((Ext.refl _).alloc (.cells #[.int .i64 n1, .int .i64 e1] 69)))
      have HR1 := Lib.hid (Row.new w1 69 #[.int .i64 n1, .int .i64 e1])
      have cW1 := (HWR.out.ext HX1.out).cell
      clear cW cF hE1 hp3
      go_wp2_with fail
      refine (HLE.out 1 _ (by omega)).mono ?_
      rintro e w2 ⟨rfl, hE2⟩
      rw [HL1.out]
      have HX2 := Lib.hid (HX1.out.trans hE2)
      have HO2 := Lib.hid (own_ext HO1.out hE2)
      have HP2 := Lib.hid (own_ext HP1.out hE2)
      have cR := (HR1.out.ext hE2).cell
      have hz3 := HX2.out.size
      clear cW1 hE2
      have HOW := Lib.hid (HO2.out.alloc (.cells #[.int .i64 1, .int .i64 n1, .int .i64 e1, .slice B3 1 d3] 221))
      go_wp2_with (at_builtin; refine wpList_append_lies _ rfl _ _ 217 rfl W0.heap.size 221 i0 _ 4 48 Tryz.underlying217 hi0 hi1 hi2 hi3 rfl (by decide) _ 0 [] rfl HOW.out ⟨_, 0, none⟩ 1 1 [.int .i64 1, .int .i64 n1, .int .i64 e1, .slice B3 1 d3] rfl rfl (World.news_of_block (cs := #[.int .i64 1, .int .i64 n1, .int .i64 e1, .slice B3 1 d3]) (t := 221) (fr := (0, 0)) (heap_alloc_new _ _)) (by simp [Value.oneCell']) (by omega) (by simp only [maxLen]; omega) (by omega) (by simp; omega) _ rfl ?_; intro gg cap w5 hown5 hgrow hat hlt5; have HO5 := Lib.hid hown5; have HX5 := Lib.hid ((HX2.out.alloc (.cells #[.int .i64 1, .int .i64 n1, .int .i64 e1, .slice B3 1 d3] 221)).grown hgrow (fun g hg => (by have := (HOW.out.lt g hg).1; omega))); have HP5 := Lib.hid (Tp.own_grown (HP2.out.alloc (.cells #[.int .i64 1, .int .i64 n1, .int .i64 e1, .slice B3 1 d3] 221)) hgrow (Tp.rowOf HOW.out) (by decide)); clear hown5 hgrow hat)
      go_roundw
      case rel => exact ⟨HX5.out, .inr (.inl ⟨rfl, B3, d3, HO5.out⟩)⟩
      case measure => simp [intOf]
    · have HO := Lib.hid hO
      obtain ⟨Bo, do_, rfl⟩ := Tp.own_slice hO
      clear hO
      go_wp2_with fail
      refine (HNE2.out _ (HX0.out.trans HX.out)).mono ?_
      rintro e w1 ⟨B3, d3, rfl, hp3, hE1⟩
      simp only [List.length_cons, List.length_nil, Nat.zero_add]
      have HX1 := Lib.hid ((HX.out.trans hE1).alloc (.cells #[.int .i64 n2, .int .i64 e2] 69))
      have HO1 := Lib.hid (own_ext (own_ext HO.out hE1) ((Ext.refl _).alloc (.cells #[.int .i64 n2, .int .i64 e2] 69)))
      have HP1 := Lib.hid (own_ext hp3 ((Ext.refl _).alloc (.cells #[.int .i64 n2, .int .i64 e2] 69)))
      have HR1 := Lib.hid (Row.new w1 69 #[.int .i64 n2, .int .i64 e2])
      have cW1 := (HWR.out.ext HX1.out).cell
      clear cW cF hE1 hp3
      go_wp2_with fail
      refine (HLE.out 2 _ (by omega)).mono ?_
      rintro e w2 ⟨rfl, hE2⟩
      rw [HL2.out]
      have HX2 := Lib.hid (HX1.out.trans hE2)
      have HO2 := Lib.hid (own_ext HO1.out hE2)
      have HP2 := Lib.hid (own_ext HP1.out hE2)
      have cR := (HR1.out.ext hE2).cell
      have hz3 := HX2.out.size
      clear cW1 hE2
      have HOW := Lib.hid (HO2.out.alloc (.cells #[.int .i64 2, .int .i64 n2, .int .i64 e2, .slice B3 1 d3] 221))
      go_wp2_with (at_builtin; refine wpList_append_lies _ rfl _ _ 217 rfl W0.heap.size 221 i0 _ 4 48 Tryz.underlying217 hi0 hi1 hi2 hi3 rfl (by decide) _ 1 [.int .i64 1, .int .i64 n1, .int .i64 e1, .slice A1 1 c1] rfl HOW.out ⟨_, 0, none⟩ 1 1 [.int .i64 2, .int .i64 n2, .int .i64 e2, .slice B3 1 d3] rfl rfl (World.news_of_block (cs := #[.int .i64 2, .int .i64 n2, .int .i64 e2, .slice B3 1 d3]) (t := 221) (fr := (0, 0)) (heap_alloc_new _ _)) (by simp [Value.oneCell']) (by omega) (by simp only [maxLen]; omega) (by omega) (by simp; omega) _ rfl ?_; intro gg cap w5 hown5 hgrow hat hlt5; have HO5 := Lib.hid hown5; have HX5 := Lib.hid ((HX2.out.alloc (.cells #[.int .i64 2, .int .i64 n2, .int .i64 e2, .slice B3 1 d3] 221)).grown hgrow (fun g hg => (by have := (HOW.out.lt g hg).1; omega))); have HP5 := Lib.hid (Tp.own_grown (HP2.out.alloc (.cells #[.int .i64 2, .int .i64 n2, .int .i64 e2, .slice B3 1 d3] 221)) hgrow (Tp.rowOf HOW.out) (by decide)); clear hown5 hgrow hat)
      go_roundw
      case rel => exact ⟨HX5.out, .inr (.inr ⟨rfl, A1, c1, B3, d3, ⟨_, HP5.out⟩, HO5.out⟩)⟩
      case measure => simp [intOf]
    · obtain ⟨b2, hP2⟩ := hP2
      have hO9 := hO
      obtain ⟨Bo, do_, rfl⟩ := Tp.own_slice hO
      obtain ⟨go, rfl⟩ : ∃ go, Bo = some ⟨go, 0, none⟩ := by
        rcases hO9.2 with ⟨h0, _⟩ | ⟨g, cap, cur, hv, _⟩
        · cases h0
        · cases hv; exact ⟨g, rfl⟩
      have hc := hO9.cells (g := go) rfl
      have hc0 := hc 0 _ rfl; have hc1 := hc 1 _ rfl; have hc2 := hc 2 _ rfl; have hc3 := hc 3 _ rfl; have hc4 := hc 4 _ rfl; have hc5 := hc 5 _ rfl; have hc6 := hc 6 _ rfl; have hc7 := hc 7 _ rfl
      simp only [Nat.add_zero, Nat.zero_add, add0] at hc0 hc1 hc2 hc3 hc4 hc5 hc6 hc7
      obtain ⟨A9, c9, he9, hp9⟩ := Tp.pairs_own (l := [⟨yn, yd⟩]) hP2
      cases he9
      have HP9 := Lib.hid hp9
      have HBF := Lib.hid (t_bestF_two go 0 do_ 1 n1 e1 2 n2 e2 A1 A2 1 c1 1 c2 wr hb1 hb2 hb3 hb4 HLT.out ⟨hc0, hc1, hc2, hc3⟩ ⟨hc4, hc5, hc6, hc7⟩)
      clear hO hO9 hc hc0 hc1 hc2 hc3 hc4 hc5 hc6 hc7 hP2 hp9
      go_wp2_with fail
      refine HBF.out.mono ?_
      rintro e w1 ⟨rfl, hE1⟩
      have HX1 := Lib.hid ((HX.out.trans hE1).alloc (.cells #[.int .i64 2, .int .i64 n2, .int .i64 e2, .slice A2 1 c2] 221))
      have HP1 := Lib.hid ((HP9.out.ext hE1).ext ((Ext.refl _).alloc (.cells #[.int .i64 2, .int .i64 n2, .int .i64 e2, .slice A2 1 c2] 221)))
      have HR1 := Lib.hid (Row.new w1 221 #[.int .i64 2, .int .i64 n2, .int .i64 e2, .slice A2 1 c2])
      have cR := HR1.out.cell
      clear cW cF hE1
      go_wp2_with fail
      obtain ⟨W2, hW2⟩ : ∃ W, w1.alloc (.cells #[.int .i64 2, .int .i64 n2, .int .i64 e2, .slice A2 1 c2] 221) = W := ⟨_, rfl⟩
      obtain ⟨bb, hbb⟩ : ∃ bb, w1.heap.size = bb := ⟨_, rfl⟩
      rw [hW2] at HX1 HP1 HR1 ⊢
      rw [hbb] at HR1 ⊢
      clear cR hW2 hbb
      obtain ⟨wo, hwo⟩ : ∃ wo : World, wo = wr := ⟨_, rfl⟩
      subst hwo
      go_loopw [12, 56] (fun v i wr => Ext W2 wr ∧ ((i = .int .i64 0 ∧ v = .slice none 0 0) ∨ (i = .int .i64 1 ∧ ∃ rb ro rc, Pairs wr (some ⟨rb, ro, none⟩) l ∧ wr.ownsRow W2.heap.size 78 1 v 1 [.slice (some ⟨rb, ro, none⟩) l.length rc]))) (fun _ i _ => 1 - (intOf i).toNat)
      case atStart => exact ⟨Ext.refl _, .inl ⟨rfl, rfl⟩⟩
      case round =>
        obtain ⟨hX3, hway⟩ := hrel
        have HX3 := Lib.hid hX3
        have HXW := Lib.hid (HX1.out.trans hX3)
        rcases hway with ⟨rfl, rfl⟩ | ⟨rfl, rb, ro, rc, hpl, hO⟩
        · have HO : Hid (wr.ownsRow W2.heap.size 78 1 (.slice none 0 0) 0 []) := Lib.hid (by simp [World.ownsRow])
          obtain ⟨b9, o9, rfl, hc9⟩ := (HP1.out.ext hX3) (by simp)
          have y1 := (hc9 0 (by simp)).1
          have y2 := (hc9 0 (by simp)).2
          simp only [Nat.zero_mul, Nat.add_zero, show pd [(⟨yn, yd⟩ : Ec.Pair)] 0 = ⟨yn, yd⟩ from rfl] at y1 y2
          have cW := (HWR.out.ext HXW.out).cell
          have cR := (HR1.out.ext hX3).cell
          have rN := Row.new wr 69 #[.int .i64 yn, .int .i64 yd]
          have HRN := Lib.hid rN
          have HXN := Lib.hid (hX3.alloc (.cells #[.int .i64 yn, .int .i64 yd] 69))
          have HON := Lib.hid (HO.out.alloc (.cells #[.int .i64 yn, .int .i64 yd] 69))
          have cW2 := (HWR.out.ext (HX1.out.trans HXN.out)).cell
          have cR2 := (HR1.out.ext HXN.out).cell
          have cN := rN.cell
          clear hc9 hX3 rN cW cR
          go_wp2_with fail
          refine (HFI.out _ (HX0.out.trans (HX1.out.trans HXN.out))).mono ?_
          rintro e w4 ⟨h4, _, hE4⟩
          obtain ⟨rb, ro, rc, rfl, hpl⟩ := h4 l rfl
          have HX4 := Lib.hid (HXN.out.trans hE4)
          have HPL := Lib.hid hpl
          have HOW := Lib.hid ((own_ext HON.out hE4).alloc (.cells #[.slice (some ⟨rb, ro, none⟩) l.length rc] 78))
          have hz4 := HX4.out.size
          clear h4 hpl hE4 y1 y2 cW2 cR2 cN
          go_wp2_with (at_builtin; refine wpList_append_lies _ rfl _ _ 73 rfl W2.heap.size 78 j0 _ 1 24 Tryz.underlying73 hj0 hj1 hj2 hj3 rfl (by decide) _ 0 [] rfl HOW.out ⟨_, 0, none⟩ 1 1 [.slice (some ⟨rb, ro, none⟩) l.length rc] rfl rfl (World.news_of_block (cs := #[.slice (some ⟨rb, ro, none⟩) l.length rc]) (t := 78) (fr := (0, 0)) (heap_alloc_new _ _)) (by simp [Value.oneCell']) (by omega) (by simp only [maxLen]; omega) (by omega) (by simp; omega) _ rfl ?_; intro gg cap w5 hown5 hgrow hat hlt5; have HO5 := Lib.hid hown5; have HX5 := Lib.hid ((HX4.out.alloc (.cells #[.slice (some ⟨rb, ro, none⟩) l.length rc] 78)).grown hgrow (fun g hg => (HOW.out.lt g hg).1)); have HP5 := Lib.hid (HPL.out.ext (((Ext.refl w4).alloc (.cells #[.slice (some ⟨rb, ro, none⟩) l.length rc] 78)).grown hgrow (fun g hg => (by cases hg)))); clear hown5 hgrow hat)
          go_roundw
          case rel => exact ⟨HX5.out, .inr ⟨rfl, rb, ro, rc, HP5.out, HO5.out⟩⟩
          case measure => simp [intOf]
        · have hO9 := hO
          obtain ⟨Bo, do2, rfl⟩ := Tp.own_slice hO
          obtain ⟨go2, rfl⟩ : ∃ go, Bo = some ⟨go, 0, none⟩ := by
            rcases hO9.2 with ⟨h0, _⟩ | ⟨g, cap, cur, hv, _⟩
            · cases h0
            · cases hv; exact ⟨g, rfl⟩
          have hc0 := hO9.cells (g := go2) rfl 0 _ rfl
          simp only [Nat.add_zero, Nat.zero_add, add0] at hc0
          have HPL := Lib.hid hpl
          have HBT := Lib.hid (fun F => t_bestT_one go2 0 do2 (.slice (some ⟨rb, ro, none⟩) l.length rc) F wr hc0)
          clear hO hO9 hX3 hpl hc0
          go_wp2_with fail
          refine (HBT.out _).mono ?_
          rintro e w4 ⟨rfl, hE4⟩
          have HE := Lib.hid (HX0.out.trans (HXW.out.trans hE4))
          have HPL2 := Lib.hid (HPL.out.ext hE4)
          clear hE4
          go_wp2_with fail
          go_ret2
          exact ⟨rb, ro, rc, rfl, HPL2.out, HE.out⟩
end Go.Proofs.YtimkmokomohgjaaGreat
namespace Go.Proofs.YtimkmokomohgjaaGreat
open Go.RowKit
open Sp (rd)
set_option maxRecDepth 100000
set_option maxHeartbeats 4000000
set_option linter.unusedVariables false
set_option linter.unusedSimpArgs false
theorem Tp.own_some {w : World} {base : Nat} {e : TypeId} {size n d : Nat} {B : Option Addr} {xs : List Value} (h : w.ownsRow base e size (.slice B (n + 1) d) (n + 1) xs) : ∃ g, B = some ⟨g, 0, none⟩ := by
  rcases h.2 with ⟨h0, _⟩ | ⟨g, cap, cur, hv, _⟩
  · cases h0
  · cases hv; exact ⟨g, rfl⟩
theorem Tp.own_getD {w : World} {base g : Nat} {e : TypeId} {n d : Nat} {xs : List Value} (h : w.ownsRow base e 1 (.slice (some ⟨g, 0, none⟩) n d) n xs) {j : Nat} (hj : j < n) : w.cell? ⟨g, 0 + j, none⟩ = some (xs.getD j undef) := by
  have hl : j < xs.length := by rw [h.1]; omega
  have := h.cells (g := g) rfl j (xs.getD j undef) (by simp [List.getD_eq_getElem?_getD, hl])
  rw [Nat.zero_add]
  simpa [add0] using this
theorem Tp.one_srt {B : Nat} {teeth : List Int} {W : World} {v u : Value} {j : Nat} (h : Tp.One B teeth W v u j) : ∃ A c, v = .slice A (Tp.sorted teeth j).length c ∧ Ints W A (Tp.sorted teeth j) := by
  have h1 := h.srt
  obtain ⟨A, c, rfl⟩ := Tp.own_slice h1
  exact ⟨A, c, rfl, (Tp.ints_own h1).1⟩
/-- What prepared lays serves nearest. -/
theorem Tp.nearest_in {w W : World} {teeth : List Int} {At : Option Addr} {xs ys : List Value} {gs gm ds dm : Nat} (hT : Ints W At teeth) (h1 : W.ownsRow (w.heap.size + 3) 48 1 (.slice (some ⟨gs, 0, none⟩) 3 ds) 3 xs) (h2 : W.ownsRow (w.heap.size + 3) 63 1 (.slice (some ⟨gm, 0, none⟩) 3 dm) 3 ys)
    (h : ∀ j, j < 2 + 1 → Tp.One (w.heap.size + 3) teeth W (xs.getD j undef) (ys.getD j undef) j) : Tp.NearestIn At teeth gs 0 3 gm 0 3 (Tp.sorted teeth 1) (Tp.sorted teeth 2) W := by
  refine ⟨hT, ?_, ?_, fun j hj => ⟨by omega, ?_⟩⟩
  · obtain ⟨A, c, e, hi⟩ := Tp.one_srt (h 1 (by omega))
    exact ⟨A, c, by rw [Tp.own_getD h1 (by omega), e], hi⟩
  · obtain ⟨A, c, e, hi⟩ := Tp.one_srt (h 2 (by omega))
    exact ⟨A, c, by rw [Tp.own_getD h1 (by omega), e], hi⟩
  · obtain ⟨g, _, e, hm⟩ := (h j (by omega)).mrk
    exact ⟨_, _, by rw [Tp.own_getD h2 (by omega), e], hm.bits⟩
theorem t_Nearest_R (A : Option Addr) (w : World) (hm : Ints w A [7]) :
    Calls Tryz.prog 34 #[.agg #[.int .i64 6, .int .i64 12, .int .i64 2, .int .i64 1, .slice A 1 1], .agg #[.int .i64 43, .int .i64 30]] w fun e w' => ∃ rb ro rc, e = .returned (.tuple #[.slice (some ⟨rb, ro, none⟩) 2 rc, .int .i64 0]) ∧ Pairs w' (some ⟨rb, ro, none⟩) [⟨12, 10⟩, ⟨12, 10⟩] ∧ Ext w w' := by
  have HM := Lib.hid hm
  have HIR := Lib.hid (fun W h => t_isRule_yes 6 12 2 1 A 1 [7] W h (by decide) (by decide) (by decide) (by decide) (by decide) (by decide) (by decide))
  have HIF := Lib.hid (fun W => t_isFraction_any 43 30 W)
  have HRU := Lib.hid (fun W h => t_ruled_any 6 12 2 1 A 1 [7] 7 W h (by decide) (by decide) (by decide) (by decide))
  rw [Tp.teeth_R] at HRU
  have HPR := Lib.hid (fun At ct W h => (t_prepared_any 6 12 1 A 1 1 At ct [6, 8, 9, 10, 11, 12] 2 W (by decide) h (by decide) (by decide) : Calls Tryz.prog 91 #[.agg #[.int .i64 6, .int .i64 12, .int .i64 2, .int .i64 1, .slice A 1 1, .slice At 6 ct]] W fun e w' => ∃ xs ys Bs ds Bm dm, e = .returned (.agg #[.int .i64 6, .int .i64 12, .int .i64 2, .int .i64 1, .slice A 1 1, .slice At 6 ct, .slice Bs 3 ds, .slice Bm 3 dm]) ∧
      w'.ownsRow (W.heap.size + 3) 48 1 (.slice Bs 3 ds) 3 xs ∧ w'.ownsRow (W.heap.size + 3) 63 1 (.slice Bm 3 dm) 3 ys ∧ (∀ j, j < 2 + 1 → Tp.One (W.heap.size + 3) [6, 8, 9, 10, 11, 12] w' (xs.getD j undef) (ys.getD j undef) j) ∧ Ext W w'))
  have HNE := Lib.hid (fun At ct gs ds gm dm W h => (t_nearest_any 6 12 1 A 1 1 At ct [6, 8, 9, 10, 11, 12] gs 0 3 ds gm 0 3 dm (Tp.sorted [6, 8, 9, 10, 11, 12] 1) (Tp.sorted [6, 8, 9, 10, 11, 12] 2) 11 8 36 25 14 8 5 25 43 30 [⟨12, 10⟩, ⟨12, 10⟩] W (by decide) (by decide) (by decide) (by decide) h (by rw [Tp.sorted_1, Tp.sorted_2]; decide) (by rw [Tp.sorted_1]; decide) (by rw [Tp.sorted_2]; decide) (by decide)
    (by rw [Tp.sorted_1]; exact Tp.near_1) (by rw [Tp.sorted_2]; exact Tp.near_2) (by decide) (by decide) (by decide) (by decide) (by decide) (by decide) (by decide) (by decide) (by decide) (by decide) Tp.first_R))
  have HRA := Lib.hid (show Row _ _ _ _ from (blocks2 w (.cells #[.int .i64 6, .int .i64 12, .int .i64 2, .int .i64 1, .slice A 1 1] 101) (.cells #[.int .i64 43, .int .i64 30] 69)).1)
  have HRB := Lib.hid (show Row _ _ _ _ from (blocks2 w (.cells #[.int .i64 6, .int .i64 12, .int .i64 2, .int .i64 1, .slice A 1 1] 101) (.cells #[.int .i64 43, .int .i64 30] 69)).2)
  have HX0 : Hid (Ext w ((w.alloc (.cells #[.int .i64 6, .int .i64 12, .int .i64 2, .int .i64 1, .slice A 1 1] 101)).alloc (.cells #[.int .i64 43, .int .i64 30] 69))) := Lib.hid (((Ext.refl w).alloc _).alloc _)
  have a0 := HRA.out.cell
  have a1 := HRB.out.cell
  go_enter Tryz.func34, Tryz.ntmps34
  go_wp2_with fail
  refine (HIR.out _ (HM.out.ext HX0.out)).mono ?_
  rintro e w1 ⟨rfl, hE1⟩
  replace HRA := Lib.hid (HRA.out.ext hE1)
  replace HRB := Lib.hid (HRB.out.ext hE1)
  replace HX0 := Lib.hid (HX0.out.trans hE1)
  clear a0 a1 hE1
  have a1 := HRB.out.cell
  go_wp2_with fail
  refine (HIF.out _).mono ?_
  rintro e W2 ⟨rfl, hE2⟩
  rw [show (Sp.inR 43 0 50000 && Sp.inR 30 1 50000) = true from by decide]
  replace HRA := Lib.hid (HRA.out.ext hE2)
  replace HRB := Lib.hid (HRB.out.ext hE2)
  replace HX0 := Lib.hid (HX0.out.trans hE2)
  clear a1 hE2
  dsimp only
  have q0 : W2.cell? ⟨w.heap.size, 0, none⟩ = some (.int .i64 6) := HRA.out.cell 0
  have q1 : W2.cell? ⟨w.heap.size, 1, none⟩ = some (.int .i64 12) := HRA.out.cell 1
  have q2 : W2.cell? ⟨w.heap.size, 2, none⟩ = some (.int .i64 2) := HRA.out.cell 2
  have q3 : W2.cell? ⟨w.heap.size, 3, none⟩ = some (.int .i64 1) := HRA.out.cell 3
  have q4 : W2.cell? ⟨w.heap.size, 4, none⟩ = some (.slice A 1 1) := HRA.out.cell 4
  have q5 : W2.cell? ⟨w.heap.size + 1, 0, none⟩ = some (.int .i64 43) := HRB.out.cell 0
  have q6 : W2.cell? ⟨w.heap.size + 1, 1, none⟩ = some (.int .i64 30) := HRB.out.cell 1
  go_wp2_with fail
  refine Tp.wp_named (fun a0 ha0 => ?_)
  refine Code.wp_mono (Q := fun e a' w' => e = .normal ∧ ∃ rb ro rc, (∃ z17 z18 z19 z20 z21 z16 z22 z23 : Value, a' = ((((((((((a0.put (some 17) z17).put (some 18) z18).put (some 19) z19).put (some 20) z20).put (some 21) z21).put (some 16) z16).put (some 22) z22).put (some 23) z23).put (some 6) (.slice (some ⟨rb, ro, none⟩) 2 rc)).put (some 7) (.bool true))) ∧ Pairs w' (some ⟨rb, ro, none⟩) [⟨12, 10⟩, ⟨12, 10⟩] ∧ Ext W2 w') ?hq ?hr
  case hr =>
    subst ha0
    go_region_held3 (fun w' => w'.cell? ⟨w.heap.size, 0, none⟩ = some (.int .i64 6) ∧ w'.cell? ⟨w.heap.size, 1, none⟩ = some (.int .i64 12) ∧ w'.cell? ⟨w.heap.size, 2, none⟩ = some (.int .i64 2) ∧ w'.cell? ⟨w.heap.size, 3, none⟩ = some (.int .i64 1) ∧ w'.cell? ⟨w.heap.size, 4, none⟩ = some (.slice A 1 1) ∧ w'.cell? ⟨w.heap.size + 1, 0, none⟩ = some (.int .i64 43) ∧ w'.cell? ⟨w.heap.size + 1, 1, none⟩ = some (.int .i64 30))
      (first | exact ⟨q0, q1, q2, q3, q4, q5, q6⟩ | exact ⟨Ext.cell hEc2 q0, Ext.cell hEc2 q1, Ext.cell hEc2 q2, Ext.cell hEc2 q3, Ext.cell hEc2 q4, Ext.cell hEc2 q5, Ext.cell hEc2 q6⟩ | exact ⟨Ext.cell hEb2 q0, Ext.cell hEb2 q1, Ext.cell hEb2 q2, Ext.cell hEb2 q3, Ext.cell hEb2 q4, Ext.cell hEb2 q5, Ext.cell hEb2 q6⟩ | exact ⟨Ext.cell hEa2 q0, Ext.cell hEa2 q1, Ext.cell hEa2 q2, Ext.cell hEa2 q3, Ext.cell hEa2 q4, Ext.cell hEa2 q5, Ext.cell hEa2 q6⟩ | (go_keep; done))
      (first
        | (go_at_call 92; refine (HRU.out _ (HM.out.ext (HX0.out.trans ((Ext.refl W2).drew)))).mono ?_; rintro e wa ⟨Bt, dt, rfl, hTa, hEa⟩; have hEa2 : Ext W2 wa := Ext.trans ((Ext.refl W2).drew) hEa)
        | (go_at_call 91; refine (HPR.out Bt dt _ hTa).mono ?_; rintro e wb ⟨xs, ys, Bs, ds, Bm, dm, rfl, hos, hom, hall, hEb⟩; obtain ⟨gs, rfl⟩ := Tp.own_some hos; obtain ⟨gm, rfl⟩ := Tp.own_some hom; have hni := Tp.nearest_in (hTa.ext hEb) hos hom hall; have hEb2 : Ext W2 wb := Ext.trans hEa2 hEb)
        | (go_at_call 93; refine (HNE.out Bt dt gs ds gm dm _ hni).mono ?_; rintro e wc ⟨rb, ro, rc, rfl, hpl, hEc⟩; have hEc2 : Ext W2 wc := Ext.trans hEb2 hEc))
    all_goals
      exact ⟨rfl, rb, ro, rc, ⟨_, _, _, _, _, _, _, _, rfl⟩, hpl, hEc2⟩
  case hq =>
    rintro e a' w7 ⟨rfl, rb, ro, rc, ⟨z17, z18, z19, z20, z21, z16, z22, z23, rfl⟩, hpl, hE7⟩
    subst ha0
    simp only [Act.put, List.setIfInBounds_toArray, List.set_cons_succ, List.set_cons_zero]
    have HPL := Lib.hid hpl
    have HE := Lib.hid (HX0.out.trans hE7)
    clear hpl hE7 q0 q1 q2 q3 q4 q5 q6
    go_wp2_with fail
    go_ret2
    exact ⟨rb, ro, rc, rfl, HPL.out, HE.out⟩
end Go.Proofs.YtimkmokomohgjaaGreat
namespace Go.Proofs.YtimkmokomohgjaaGreat
open Go.RowKit
open Sp (rd)
set_option maxRecDepth 100000
set_option maxHeartbeats 4000000
set_option linter.unusedVariables false
theorem Tp.neq_pair (a b c d : Int) (w : World) : (binOp .neq 125 (.agg #[.int .i64 a, .int .i64 b]) (.agg #[.int .i64 c, .int .i64 d])).run Tryz.prog w = .ok (.bool (!((a == c) && (b == d)))) w := by
  have hf : (Tryz.prog.fieldsOf 125).toList.map (fun f => (f.name, f.type, f.offset)) = [("Drives", 3, 0), ("Driven", 3, 1)] := by kernel_rfl
  obtain ⟨f1, f2, hfs, p1, p2⟩ := Tp.map_two hf
  obtain ⟨n1, t1, o1⟩ := Tp.field_parts p1
  obtain ⟨n2, t2, o2⟩ := Tp.field_parts p2
  rw [run_neq_struct, run_equalIn_agg w 9999 _ _ _ (by kernel_rfl) (by kernel_rfl), hfs]
  simp [Op.eqFields, n1, t1, o1, n2, t2, o2, part, go_sem]
  by_cases h : a = c <;> by_cases h2 : b = d <;> simp [h, h2]
theorem r1_SameTrains_yes (A B : Option Addr) (c d : Nat) (l : List Ec.Pair) (w : World) (hA : Pairs w A l) (hB : Pairs w B l) (hl : l.length ≤ 100000) :
    Calls Tryz.prog 39 #[.slice A l.length c, .slice B l.length d] w fun e w' => e = .returned (.bool true) ∧ Ext w w' := by
  have HA := Lib.hid hA
  have HB := Lib.hid hB
  have hne : (((l.length : Nat) : Int) != ((l.length : Nat) : Int)) = false := by simp
  clear hA hB
  go_enter Tryz.func39, Tryz.ntmps39
  go_wp2_with fail
  go_loopw [5] (fun i wr => ∃ k : Nat, k ≤ l.length ∧ i = .int .i64 (k : Int) ∧ Ext w wr) (fun i _ => l.length - (intOf i).toNat)
  case atStart => exact ⟨0, Nat.zero_le _, rfl, Ext.refl _⟩
  case round =>
    obtain ⟨k, hk, rfl, hE⟩ := hrel
    have HX := Lib.hid hE
    by_cases hlt : k < l.length
    · obtain ⟨b1, o1, rfl, hc1⟩ := HA.out (by omega)
      obtain ⟨b2, o2, rfl, hc2⟩ := HB.out (by omega)
      have HC1 := Lib.hid (hc1 k hlt)
      have HC2 := Lib.hid (hc2 k hlt)
      have hlt' : (k : Int) < (l.length : Int) := by omega
      obtain ⟨z, hz⟩ : ∃ z, pd l k = z := ⟨_, rfl⟩
      rw [hz] at HC1 HC2
      obtain ⟨zx, zy⟩ := z
      simp only at HC1 HC2
      have hneq : ∀ W, (binOp .neq 125 (.agg #[.int .i64 zx, .int .i64 zy]) (.agg #[.int .i64 zx, .int .i64 zy])).run Tryz.prog W = .ok (.bool false) W := fun W => by rw [Tp.neq_pair]; simp
      clear hc1 hc2 hz hE
      go_wp2_with fail
      refine wp_region_later (by kernel_rfl) (by kernel_rfl) (fun W hW => ?_)
      have hX0 : Ext wr W := by rw [hW]; first | exact Ext.refl _ | exact (Ext.refl _).drewN _
      clear hW
      have HX0 := Lib.hid hX0
      clear hX0
      have u0 := fun X : Later W => (HX.out.trans (HX0.out.trans X.ext)).cell HC1.out.1
      have u1 := fun X : Later W => (HX.out.trans (HX0.out.trans X.ext)).cell HC1.out.2
      have u2 := fun X : Later W => (HX.out.trans (HX0.out.trans X.ext)).cell HC2.out.1
      have u3 := fun X : Later W => (HX.out.trans (HX0.out.trans X.ext)).cell HC2.out.2
      repeat (go_big_quiet_step (fail))
      refine wpQuiet_nil ?_
      rintro ⟨wz, hEz⟩
      dsimp only
      have HEz := Lib.hid (HX.out.trans (HX0.out.trans hEz))
      clear u0 u1 u2 u3 hEz
      go_wp2_with fail
      go_roundw
      case rel => exact ⟨k + 1, by omega, by go_num, HEz.out⟩
      case measure => simp [intOf]; omega
    · obtain rfl : k = l.length := by omega
      clear hE
      go_wp2_with fail
      go_ret
      exact ⟨rfl, HX.out⟩
end Go.Proofs.YtimkmokomohgjaaGreat
namespace Go.Proofs.YtimkmokomohgjaaGreat
open Go.RowKit Go.Shelf
open Sp (rd)
attribute [local go_sem] Oper.semAt_some
set_option maxRecDepth 100000
set_option maxHeartbeats 4000000
set_option linter.unusedVariables false
set_option linter.unusedSimpArgs false
/-- What the rates of law09's piece are. -/
def Tp.RatesP : Prop := ∀ (A B : Option Addr) (w : World), Tp.Links w A [(0, ⟨10, 20⟩), (1, ⟨12, 18⟩), (1, ⟨15, 10⟩)] → Ints w B [2, 3] →
  Calls Tryz.prog 18 #[.agg #[.slice A 3 3, .slice B 2 2]] w fun e w' => ∃ (G H : Nat) (cr cs : Nat), e = .returned (.tuple #[.slice (some ⟨G, 0, none⟩) 4 cr, .slice (some ⟨H, 0, none⟩) 4 cs, .int .i64 0]) ∧ w'.cell? ⟨G, 6, none⟩ = some (.int .i64 3) ∧ w'.cell? ⟨G, 7, none⟩ = some (.int .i64 4) ∧ w'.cell? ⟨H, 3, none⟩ = some (.bool true) ∧ Ext w w'
theorem known20_over (hRates : Tp.RatesP) (w : World) : Calls Tryz.prog 8 #[] w fun e w' => e = .returned (.bool true) ∧ Ext w w' := by
  have HR := Lib.hid hRates
  clear hRates
  go_enter Tryz.func8, Tryz.ntmps8
  go_wp2_with fail
  refine (l1_R_any _).mono ?_
  rintro e w1 ⟨A1, rfl, hA1, hE1⟩
  go_wp2_with fail
  refine (l1_F_any _).mono ?_
  rintro e w2 ⟨rfl, hE2⟩
  go_wp2_with fail
  refine (t_Nearest_R A1 _ (hA1.ext hE2)).mono ?_
  rintro e w3 ⟨rb, ro, rc, rfl, hP3, hE3⟩
  have HX3 := Lib.hid ((hE1.trans hE2).trans hE3)
  have HP3 := Lib.hid hP3
  clear hA1 hE1 hE2 hP3 hE3
  go_wp2_with fail
  refine (l9_P_any _).mono ?_
  rintro e w4 ⟨A4, B4, rfl, hL4, hI4, hE4⟩
  go_wp2_with fail
  refine (HR.out A4 B4 _ hL4 hI4).mono ?_
  rintro e w5 ⟨G, H, cr, cs, rfl, g1, g2, g3, hE5⟩
  have HX5 := Lib.hid ((HX3.out.trans hE4).trans hE5)
  have HP5 := Lib.hid ((HP3.out.ext hE4).ext hE5)
  have G1 := Lib.hid g1
  have G2 := Lib.hid g2
  have G3 := Lib.hid g3
  clear g1 g2 g3 hE4 hE5 hL4 hI4
  go_wp2_with fail
  refine (l_S_any _).mono ?_
  rintro e w6 ⟨A6, c6, rfl, hB6, hE6⟩
  go_wp2_with fail
  refine (skyS_Next A6 c6 _ hB6).mono ?_
  rintro e w7 ⟨rfl, hE7⟩
  have HX7 := Lib.hid ((HX5.out.trans hE6).trans hE7)
  have HP7 := Lib.hid ((HP5.out.ext hE6).ext hE7)
  have G17 := Lib.hid ((hE6.trans hE7).cell G1.out)
  have G27 := Lib.hid ((hE6.trans hE7).cell G2.out)
  have G37 := Lib.hid ((hE6.trans hE7).cell G3.out)
  clear hE6 hE7 hB6 G1 G2 G3
  go_wp2_with fail
  refine (l1_T_any _).mono ?_
  rintro e w8 ⟨A8, rfl, hP8, hE8⟩
  go_wp2_with fail
  refine (r1_SameTrains_yes (some ⟨rb, ro, none⟩) A8 rc 2 [⟨12, 10⟩, ⟨12, 10⟩] _ (HP7.out.ext hE8) hP8 (by decide)).mono ?_
  rintro e w9 ⟨rfl, hE9⟩
  have HX9 := Lib.hid ((HX7.out.trans hE8).trans hE9)
  have g1 := (hE8.trans hE9).cell G17.out
  have g2 := (hE8.trans hE9).cell G27.out
  have g3 := (hE8.trans hE9).cell G37.out
  have he := Tp.eql_fr 3 4 3 4 w9
  clear hE8 hE9 hP8 G17 G27 G37
  dsimp only
  go_wp2_with fail
  go_ret
  exact ⟨by first | rfl | simp, HX9.out⟩
end Go.Proofs.YtimkmokomohgjaaGreat
namespace Go.Proofs.YtimkmokomohgjaaGreat
open Go.RowKit Go.Shelf
open Sp (rd)
set_option linter.unusedVariables false
set_option maxRecDepth 100000
/-- The links of law09's piece. -/
def Tp.linksP : List (Int × Ec.Pair) := [(0, ⟨10, 20⟩), (1, ⟨12, 18⟩), (1, ⟨15, 10⟩)]
theorem Tp.linksP_ok : Tp.LinksOk Tp.linksP := fun i => by
  match i with
  | 0 => exact ⟨by decide, by decide⟩
  | 1 => exact ⟨by decide, by decide⟩
  | 2 => exact ⟨by decide, by decide⟩
  | i + 3 => exact ⟨Int.le_refl _, by show (0 : Int) ≤ ((i + 3 : Nat) : Int); omega⟩
theorem Tp.pieceP_ok : Tp.PieceOk Tp.linksP [2, 3] where
  n1 := by decide
  n5 := by decide
  m1 := by decide
  m4 := by decide
  from_ := Tp.linksP_ok
  pair := by decide +kernel
  far := by decide +kernel
  hand := by decide +kernel
theorem Tp.linksP_train : ∀ i, i < Tp.linksP.length → Ec.trainOk (Tp.trainL Tp.linksP (i + 1)) = true := by decide +kernel
theorem Tp.rates_P : Tp.RatesP := fun A B w hA hB => by
  refine (sh_Rates_over A 3 B 2 2 Tp.linksP w hA Tp.linksP_ok (by decide) Tp.linksP_train (fun W hW => sh_isPiece_yes A 3 B 2 Tp.linksP [2, 3] W (hA.ext hW) (hB.ext hW) Tp.pieceP_ok (by decide))).mono ?_
  rintro e w' ⟨v, u, rfl, h1, h2, hE⟩
  have q1 := Tp.pc_get (Tp.rateL Tp.linksP 3) 3 (by decide)
  have q2 : (pd (Tp.rateL Tp.linksP 3) 3) = ⟨3, 4⟩ := by decide +kernel
  have q3 : (Tp.sameL Tp.linksP 3)[3]? = some true := by decide +kernel
  obtain ⟨G, cr, rfl⟩ : ∃ G cr, v = .slice (some ⟨G, 0, none⟩) 4 cr := by
    rcases h1.2 with ⟨_, h0⟩ | ⟨g, cap, cur, hv, _⟩
    · exact absurd h0 (by decide)
    · exact ⟨g, cap, hv⟩
  obtain ⟨H, cs, rfl⟩ : ∃ H cs, u = .slice (some ⟨H, 0, none⟩) 4 cs := by
    rcases h2.2 with ⟨_, h0⟩ | ⟨g, cap, cur, hv, _⟩
    · exact absurd h0 (by decide)
    · exact ⟨g, cap, hv⟩
  have q4 := World.ownsRow.cellAt h1 6 (by decide)
  have q5 := World.ownsRow.cellAt h1 7 (by decide)
  have q6 := World.ownsRow.cellAt h2 3 (by decide)
  rw [q2] at q1
  refine ⟨G, H, cr, cs, rfl, q4.trans q1.1, q5.trans q1.2, q6.trans ?_, hE⟩
  rw [List.getElem?_map]
  show Option.map _ ((Tp.sameL Tp.linksP 3)[3]?) = _
  rw [q3]
  rfl
theorem known20_true (w : World) : Calls Tryz.prog 8 #[] w fun e w' => e = .returned (.bool true) ∧ Ext w w' := known20_over Tp.rates_P w
end Go.Proofs.YtimkmokomohgjaaGreat
