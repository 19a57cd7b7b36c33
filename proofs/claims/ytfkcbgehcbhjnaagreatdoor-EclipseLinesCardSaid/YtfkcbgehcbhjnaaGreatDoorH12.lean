/- Volume 12 of the texts that the laws of this seat use: EcDarkW EcBallsW EcR7Balls EcR7Balls2 EcPut EcSmall EcKnownP EcGHB: walks of the program's functions, and plain laws. -/
import Derived.Carry
import Derived.Lib.MinMax
import Derived.BigQuiet
import Derived.Test.YtfkcbgehcbhjnaaGreatDoorH01
import Derived.Test.YtfkcbgehcbhjnaaGreatDoorH02
import Derived.Test.YtfkcbgehcbhjnaaGreatDoorH11
import Derived.Test.YtfkcbgehcbhjnaaGreatDoorH03
import Derived.Test.YtfkcbgehcbhjnaaGreatDoorH04
import Derived.Test.YtfkcbgehcbhjnaaGreatDoorH05
import Derived.Test.YtfkcbgehcbhjnaaGreatDoorH06
import Derived.Test.YtfkcbgehcbhjnaaGreatDoorH09
import Derived.Test.YtfkcbgehcbhjnaaGreatDoorH10
namespace Go.Proofs.YtfkcbgehcbhjnaaGreatDoor
open Go.RowKit
open Sp (rd)
set_option maxRecDepth 100000
set_option maxHeartbeats 2000000
set_option linter.unusedVariables false
theorem e_balls_idle (p : Value) (w : World) :
  CallsD Tryz.prog 53 #[p] .returning w fun e u' w' => e = .returned (.tuple #[]) ∧ u' = .returning ∧ w' = w := by
 refine callsD_of_wpS Tryz.func53 rfl fun c₀ cs hu => ?_
 have he : ∀ w, (binOp .eql 20 .nilIface .nilIface).run Tryz.prog w = .ok (.bool true) w := fun _ => by kernel_rfl
 simp only [Tryz.ntmps53, List.size_toArray, List.length_cons, List.length_nil, Nat.reduceAdd, Nat.reduceSub, Array.replicate_succ, Array.replicate_zero, List.push_toArray, List.append_toArray, List.nil_append, List.cons_append]
 apply wpS_seq
 apply wpS_region
 simp [wpOpsS, go_sem, recoverD, hu, Exit.thenS]
 refine wpS_of_wp ?_
 generalize hQ : (fun (e : Exit) (a' : Act) (w' : World) => bodyPostS Tryz.prog Tryz.f53 c₀ cs _ e a' _ w') = Q
 go_wp2
 subst hQ
 cases c₀
 simp_all [bodyPostS, results, Tryz.results53]
theorem e_balls_results (tmps : Array Value) (W : World) (q : Nat) (code : Int) (h2 : tmps.getD 2 undef = .pointer (some ⟨q, 0, none⟩))
  (he : Row W q 24 #[.int .i64 code]) : (results Tryz.f17 tmps).run Tryz.prog W = .ok (.int .i64 code) W := by
 have h2' : tmps[2]?.getD undef = .pointer (some ⟨q, 0, none⟩) := by simpa using h2
 have c0 : W.cell? ⟨q, 0, none⟩ = some (.int .i64 code) := he.cell 0
 simp [results, Tryz.results17, h2', asAddr, go_sem, c0]
theorem e_Balls_ok (l : List Ec.Ball) (A : Option Addr) (c : Nat) (w : World) (hm : BallsAt w A l) (hc : l.length ≤ c) (h : Ec.ballsOk l = true) :
  Calls Tryz.prog 17 #[.slice A l.length c] w fun e w' => e = .returned (.int .i64 0) ∧ Ext w w' := by
 have HM := Lib.hid hm
 have hmf : ∀ (fn : Fn) (first cap : Array Value) (w : World), (Instr.makeFunc fn first cap).run Tryz.prog w = .ok (.func fn first cap) w := fun _ _ _ _ => rfl
 have HRE := Lib.hid (Row.new w 24 #[.int .i64 0])
 have HE0 := Lib.hid ((Ext.refl w).alloc (.cells #[.int .i64 0] 24))
 clear hm
 go_enter_defers Tryz.func17, Tryz.ntmps17
 go_wp2_with fail
 refine (e_apart_ok l A c _ (HM.out.ext HE0.out) hc h).mono ?_
 rintro e W1 ⟨rfl, hE1⟩
 have HR1 := Lib.hid (HRE.out.ext hE1)
 have HE1 := Lib.hid (HE0.out.trans hE1)
 have r0 : W1.cell? ⟨w.heap.size, 0, none⟩ = some (.int .i64 0) := HR1.out.cell 0
 have f0 := HR1.out.free 0
 clear hE1
 go_wp2_with fail
 have HR2 : Hid (Row (W1.setCell ⟨w.heap.size, 0, none⟩ (.int .i64 0)) w.heap.size 24 #[.int .i64 0]) := Lib.hid (by simpa using HR1.out.set_ 0 (.int .i64 0))
 have HE2 := Lib.hid (HE1.out.setCell (p := ⟨w.heap.size, 0, none⟩) (Nat.le_refl _) (.int .i64 0))
 refine leaves_cons (f := 53) (args := #[.pointer (some ⟨w.heap.size, 0, none⟩)]) (by simp) (by simp [go_sem]) ?_
 refine (e_balls_idle _ _).mono ?_
 rintro e u' w'' ⟨rfl, rfl, rfl⟩
 exact ⟨_, e_balls_results _ _ w.heap.size 0 rfl HR2.out, rfl, HE2.out⟩
def drkΦ (l : List Ec.Ball) (k bb o c : Nat) (D ax ay ar bx by_ br sh : Int) (pb : Nat) (w0 : World) (i : Nat) (v : Value) (w : World) : Prop :=
 match i with
 | 0 => v = .int .i64 D
 | 1 => v = .agg #[.int .i64 ax, .int .i64 ay, .int .i64 ar]
 | 2 => v = .slice (some ⟨bb, o, none⟩) l.length c
 | 3 => v = .int .i64 k
 | 4 => v = .pointer (some ⟨bb, o + k * 3, none⟩)
 | 5 => v = .agg #[.int .i64 bx, .int .i64 by_, .int .i64 br]
 | 6 => v = .int .i64 sh
 | _ => v = .int .i64 (max D sh)
theorem drkΦ_mono {l : List Ec.Ball} {k bb o c : Nat} {D ax ay ar bx by_ br sh : Int} {pb : Nat} {w0 : World} (i : Nat) (v : Value) (w w' : World) (h : drkΦ l k bb o c D ax ay ar bx by_ br sh pb w0 i v w) (he : Ext w w') : drkΦ l k bb o c D ax ay ar bx by_ br sh pb w0 i v w' := by
 unfold drkΦ at h ⊢
 split at h <;> first
  | exact h
  | exact MkAt.ext h he
  | exact fun hg => MkAt.ext (h hg) he
theorem e_darkest_any (l : List Ec.Ball) (k : Nat) (A : Option Addr) (c : Nat) (w : World) (hm : BallsAt w A l) (hl : l.length ≤ 1000) (hk : k < l.length) (hb : ∀ i, i < l.length → (-200 ≤ (Ec.ballAt l i).x ∧ (Ec.ballAt l i).x ≤ 200) ∧ (-200 ≤ (Ec.ballAt l i).y ∧ (Ec.ballAt l i).y ≤ 200) ∧ (-200 ≤ (Ec.ballAt l i).r ∧ (Ec.ballAt l i).r ≤ 200)) :
  Calls Tryz.prog 57 #[.slice A l.length c, .int .i64 k] w fun e w' => e = .returned (.int .i64 (Ec.darkest l k)) ∧ Ext w w' := by
 obtain ⟨bb, o, rfl, hcell⟩ := hm (by omega)
 have HM := Lib.hid hcell
 have HBD := Lib.hid hb
 clear hm hcell hb
 go_enter Tryz.func57, Tryz.ntmps57
 go_wp2_with fail
 go_loopw [5, 10] (fun v i wr => ∃ n : Nat, n ≤ l.length ∧ i = .int .i64 n ∧ v = .int .i64 (Ec.darkestN l k n) ∧ Ext w wr) (fun _ i _ => l.length - (intOf i).toNat)
 case atStart => exact ⟨0, Nat.zero_le _, rfl, rfl, Ext.refl _⟩
 case round =>
  obtain ⟨n, hn, rfl, rfl, hE⟩ := hrel
  by_cases hlt : n < l.length
  ·obtain ⟨q1, q2, q3⟩ := HM.out n hlt
   replace q1 := hE.cell q1
   replace q2 := hE.cell q2
   replace q3 := hE.cell q3
   have hb1 := HBD.out n hlt
   have hS : Ec.darkestN l k (n + 1) = if n = k then Ec.darkestN l k n else max (Ec.darkestN l k n) (Ec.shades (Ec.ballAt l n) (Ec.ballAt l k)) := rfl
   obtain ⟨D, hD⟩ : ∃ D, Ec.darkestN l k n = D := ⟨_, rfl⟩
   rw [hD] at hS ⊢
   have HS := Lib.hid hS
   obtain ⟨b, hb⟩ : ∃ b, Ec.ballAt l n = b := ⟨_, rfl⟩
   rw [hb] at q1 q2 q3 hb1 HS
   obtain ⟨ax, ay, ar⟩ := b
   simp only at q1 q2 q3 hb1
   have HE := Lib.hid hE
   have z1 := lts (lt_of_cell q1)
   simp only at z1
   clear hb hE hS hD
   have HB0 := Lib.hid (Row.new wr 51 #[.int .i64 ax, .int .i64 ay, .int .i64 ar])
   have HE1 := Lib.hid (HE.out.alloc (.cells #[.int .i64 ax, .int .i64 ay, .int .i64 ar] 51))
   by_cases hnk : n = k
   ·have HSS := Lib.hid (HS.out.trans (if_pos hnk))
    subst hnk
    clear HS
    go_wp2_with fail
    go_roundw
    case rel => exact ⟨n + 1, by omega, by go_num, by rw [HSS.out], HE1.out⟩
    case measure => simp [intOf]; omega
   ·have HSS := Lib.hid (HS.out.trans (if_neg hnk))
    have e1 : ((n : Int) == (k : Int)) = false := by simp; omega
    have e2 : ((n : Int) != (k : Int)) = true := by simp; omega
    have hb2 := HBD.out k hk
    have hck := HM.out k hk
    obtain ⟨b, hb⟩ : ∃ b, Ec.ballAt l k = b := ⟨_, rfl⟩
    rw [hb] at hb2 hck HSS
    obtain ⟨bx, by_, br⟩ := b
    simp only at hck hb2
    have HSH : Hid (∀ w : World, Calls Tryz.prog 56 #[.agg #[.int .i64 ax, .int .i64 ay, .int .i64 ar], .agg #[.int .i64 bx, .int .i64 by_, .int .i64 br]] w fun e w' => e = .returned (.int .i64 (Ec.shades ⟨ax, ay, ar⟩ ⟨bx, by_, br⟩)) ∧ Ext w w') := Lib.hid fun w => e_shades_any ax ay ar bx by_ br w hb1.1 hb1.2.1 hb1.2.2 hb2.1 hb2.2.1 hb2.2.2
    obtain ⟨sh, hsh⟩ : ∃ sh, Ec.shades ⟨ax, ay, ar⟩ ⟨bx, by_, br⟩ = sh := ⟨_, rfl⟩
    rw [hsh] at HSH HSS
    have HCK0 := Lib.hid (And.intro (HE1.out.cell hck.1) (And.intro (HE1.out.cell hck.2.1) (HE1.out.cell hck.2.2)))
    have hk1 : (k : Int) < (l.length : Int) := by omega
    have hk0 : (0 : Int) ≤ (k : Int) := by omega
    clear hb hsh hck hb1 hb2 HS hnk
    go_wp2_with fail
    clear q1 q2 q3 e1 e2
    obtain ⟨W, hW⟩ : ∃ W, wr.alloc (.cells #[.int .i64 ax, .int .i64 ay, .int .i64 ar] 51) = W := ⟨_, rfl⟩
    obtain ⟨pb, hpb⟩ : ∃ pb, wr.heap.size = pb := ⟨_, rfl⟩
    have HB : Hid (Row W pb 51 #[.int .i64 ax, .int .i64 ay, .int .i64 ar]) := Lib.hid (by rw [← hW, ← hpb]; exact HB0.out)
    have HCK : Hid (W.cell? ⟨bb, o + k * 3, none⟩ = some (.int .i64 bx) ∧ W.cell? ⟨bb, o + k * 3 + 1, none⟩ = some (.int .i64 by_) ∧ W.cell? ⟨bb, o + k * 3 + 2, none⟩ = some (.int .i64 br)) := Lib.hid (by rw [← hW]; exact HCK0.out)
    rw [hW] at HE1 ⊢
    rw [hpb] at z1 ⊢
    clear hW hpb HB0 HCK0
    refine wp_region_free_tail 8 8 (drkΦ l k bb o c D ax ay ar bx by_ br sh pb W) (by kernel_rfl) (by simp) (by kernel_rfl) (by kernel_rfl) (by kernel_rfl) (by kernel_rfl) drkΦ_mono ?hob ?hQ (fun h => absurd h (by omega))
    case hob =>
     intro i o hin ho a wa hE hF
     match i, hin with
     | 0, _ =>
      cases ho
      have h0 : a.tmps[5]?.getD undef = .int .i64 D := evalD (hF.old 5 (by decide))
      refine Ran.value rfl (v := .int .i64 D) (w1 := wa) ?_ ⟨rfl, Ext.refl _⟩
      go_simp
     | 1, _ =>
      cases ho
      have h0 : a.tmps[7]?.getD undef = .pointer (some ⟨pb, 0, none⟩) := evalD (hF.old 7 (by decide))
      have q := (Row.ext (HB.out) hE).cell
      refine Ran.value rfl (v := .agg #[.int .i64 ax, .int .i64 ay, .int .i64 ar]) (w1 := wa) ?_ ⟨rfl, Ext.refl _⟩
      go_simp
     | 2, _ =>
      cases ho
      have h0 : a.tmps[0]?.getD undef = .slice (some ⟨bb, o, none⟩) l.length c := evalD (hF.old 0 (by decide))
      refine Ran.value rfl (v := .slice (some ⟨bb, o, none⟩) l.length c) (w1 := wa) ?_ ⟨rfl, Ext.refl _⟩
      go_simp
     | 3, _ =>
      cases ho
      have h0 : a.tmps[1]?.getD undef = .int .i64 k := evalD (hF.old 1 (by decide))
      refine Ran.value rfl (v := .int .i64 k) (w1 := wa) ?_ ⟨rfl, Ext.refl _⟩
      go_simp
     | 4, _ =>
      cases ho
      have h0 : a.tmps[20]?.getD undef = .slice (some ⟨bb, o, none⟩) l.length c := evalD ((hF.from_ 2 20 rfl (by decide)))
      have h1 : a.tmps[21]?.getD undef = .int .i64 k := evalD ((hF.from_ 3 21 rfl (by decide)))
      refine Ran.value rfl (v := .pointer (some ⟨bb, o + k * 3, none⟩)) (w1 := wa) ?_ ⟨rfl, Ext.refl _⟩
      go_simp
     | 5, _ =>
      cases ho
      have h0 : a.tmps[22]?.getD undef = .pointer (some ⟨bb, o + k * 3, none⟩) := evalD (hF.from_ 4 22 rfl (by decide))
      obtain ⟨c1, c2, c3⟩ := HCK.out
      replace c1 := hE.cell c1
      replace c2 := hE.cell c2
      replace c3 := hE.cell c3
      refine Ran.value rfl (v := .agg #[.int .i64 bx, .int .i64 by_, .int .i64 br]) (w1 := wa) ?_ ⟨rfl, Ext.refl _⟩
      go_simp
     | 6, _ =>
      cases ho
      have h0 : a.tmps[19]?.getD undef = .agg #[.int .i64 ax, .int .i64 ay, .int .i64 ar] := evalD ((hF.from_ 1 19 rfl (by decide)))
      have h1 : a.tmps[23]?.getD undef = .agg #[.int .i64 bx, .int .i64 by_, .int .i64 br] := evalD ((hF.from_ 5 23 rfl (by decide)))
      refine Ran.enter rfl (f := 56) (args := #[.agg #[.int .i64 ax, .int .i64 ay, .int .i64 ar], .agg #[.int .i64 bx, .int .i64 by_, .int .i64 br]]) (w1 := wa) ?_ ?_
      ·go_simp
      ·refine (HSH.out _).mono ?_
       rintro r w1 ⟨rfl, hX⟩
       exact ⟨_, rfl, rfl, hX⟩
     | 7, _ =>
      cases ho
      have h0 : a.tmps[18]?.getD undef = .int .i64 D := evalD ((hF.from_ 0 18 rfl (by decide)))
      have h1 : a.tmps[24]?.getD undef = .int .i64 sh := evalD ((hF.from_ 6 24 rfl (by decide)))
      refine Ran.value rfl (v := .int .i64 (max D sh)) (w1 := wa) ?_ ⟨rfl, Ext.refl _⟩
      go_simp
     | k + 8, hin => omega
    case hQ =>
     intro vs w2 hE hΦ
     have f0 : vs 0 = .int .i64 D := hΦ 0 (by omega)
     have f1 : vs 1 = .agg #[.int .i64 ax, .int .i64 ay, .int .i64 ar] := hΦ 1 (by omega)
     have f2 : vs 2 = .slice (some ⟨bb, o, none⟩) l.length c := hΦ 2 (by omega)
     have f3 : vs 3 = .int .i64 k := hΦ 3 (by omega)
     have f4 : vs 4 = .pointer (some ⟨bb, o + k * 3, none⟩) := hΦ 4 (by omega)
     have f5 : vs 5 = .agg #[.int .i64 bx, .int .i64 by_, .int .i64 br] := hΦ 5 (by omega)
     have f6 : vs 6 = .int .i64 sh := hΦ 6 (by omega)
     have f7 : vs 7 = .int .i64 (max D sh) := hΦ 7 (by omega)
     have hrg : List.range 8 = [0, 1, 2, 3, 4, 5, 6, 7] := rfl
     unfold putAll putS
     simp only [List.length_cons, List.length_nil, List.take_succ_cons, List.take_zero, List.drop_succ_cons, List.drop_zero, Nat.reduceAdd, hrg, List.foldl_cons, List.foldl_nil, dstOf, List.getElem?_cons_succ, List.getElem?_cons_zero, Option.bind_some]
     clear hrg
     rw [f0, f1, f2, f3, f4, f5, f6, f7]
     simp only [Act.put, List.setIfInBounds_toArray, List.set_cons_succ, List.set_cons_zero]
     have HE2 := Lib.hid (HE1.out.trans hE)
     clear hΦ f0 f1 f2 f3 f4 f5 f6 f7 hE
     go_wp2_with fail
     go_roundw
     case rel => exact ⟨n + 1, by omega, by go_num, by rw [HSS.out], HE2.out⟩
     case measure => simp [intOf]; omega
  ·obtain rfl : n = l.length := by omega
   go_wp2_with fail
   go_ret
   exact ⟨rfl, hE⟩
theorem info_word : (Tryz.prog.info? 39).map (fun i => (i.zero, i.size, i.bytes)) = some (some (.int .i64 0), 1, 8) := by kernel_rfl
theorem Ints.of_ownT {w : World} {base : Nat} {t : TypeId} {v : Value} {l : List Int} (h : w.ownsRow base t 1 v l.length (l.map fun x => .int .i64 x)) : ∃ A c, v = .slice A l.length c ∧ Ints w A l := by
 rcases h.2 with ⟨rfl, h0⟩ | ⟨g, cap, cur, hv, _⟩
 ·exact ⟨none, 0, by rw [h0], fun hh => by omega⟩
 ·refine ⟨some ⟨g, 0, none⟩, cap, hv, fun _ => ⟨g, 0, rfl, fun k hk => ?_⟩⟩
  have hc := h.cells (g := g) (by rw [hv]; rfl)
  have h1 := hc k (.int .i64 (rd l k)) (by simp [rd, hk])
  rw [add0] at h1
  simpa using h1
theorem e_Dark_ok (l : List Ec.Ball) (A : Option Addr) (c : Nat) (w : World) (hm : BallsAt w A l) (hc : l.length ≤ c) (h : Ec.ballsOk l = true) :
  Calls Tryz.prog 19 #[.slice A l.length c] w fun e w' => ∃ B d, e = .returned (.tuple #[.slice B (Ec.darkL l).length d, .int .i64 0]) ∧ Ints w' B (Ec.darkL l) ∧ Ext w w' := by
 obtain ⟨⟨l1, l5⟩, hin, _⟩ := ballsIn_of h
 have HM := Lib.hid hm
 have HBD : Hid (∀ i, i < l.length → (-200 ≤ (Ec.ballAt l i).x ∧ (Ec.ballAt l i).x ≤ 200) ∧ (-200 ≤ (Ec.ballAt l i).y ∧ (Ec.ballAt l i).y ≤ 200) ∧ (-200 ≤ (Ec.ballAt l i).r ∧ (Ec.ballAt l i).r ≤ 200)) := Lib.hid fun i hi => by
  obtain ⟨a, b, c, _⟩ := hin i hi
  omega
 have HH := Lib.hid h
 obtain ⟨i0, hi0, hi1, hi2, hi3⟩ := info_parts info_word
 clear hm hin h
 go_enter Tryz.func19, Tryz.ntmps19
 go_wp2_with fail
 refine (e_Balls_ok l A c _ HM.out hc HH.out).mono ?_
 rintro e w1 ⟨rfl, hE1⟩
 have HE1 := Lib.hid hE1
 clear hE1
 go_wp2_with fail
 go_loopw [4, 11] (fun v i wr => ∃ k : Nat, k ≤ l.length ∧ i = .int .i64 k ∧ wr.ownsRow w1.heap.size 39 1 v k (((List.range k).map (Ec.darkest l)).map fun x => .int .i64 x) ∧ Ext w1 wr) (fun _ i _ => l.length - (intOf i).toNat)
 case atStart => exact ⟨0, Nat.zero_le _, rfl, by simp [World.ownsRow], Ext.refl _⟩
 case round =>
  obtain ⟨k, hk, rfl, hown, hX⟩ := hrel
  have hX9 := hX.size
  by_cases hlt : k < l.length
  ·have HX := Lib.hid hX
   have HOW := Lib.hid hown
   clear hX hown
   go_wp2_with fail
   refine (e_darkest_any l k A c _ (HM.out.ext (HE1.out.trans HX.out)) (by omega) hlt HBD.out).mono ?_
   rintro e w3 ⟨rfl, hE3⟩
   have hz3 := hE3.size
   have hown4 := (own_ext HOW.out hE3).alloc (.cells #[.int .i64 (Ec.darkest l k)] 39)
   have HO4 := Lib.hid hown4
   have HX3 := Lib.hid (HX.out.trans hE3)
   clear hE3
   go_wp2_with (at_builtin; refine wpList_append_lies _ rfl _ _ 42 rfl w1.heap.size 39 i0 _ 1 8 Tryz.underlying42 hi0 hi1 hi2 hi3 rfl (by decide) _ k (((List.range k).map (Ec.darkest l)).map fun x => .int .i64 x) rfl hown4 ⟨w3.heap.size, 0, none⟩ 1 1 [.int .i64 (Ec.darkest l k)] rfl rfl (World.news_of_block (cs := #[.int .i64 (Ec.darkest l k)]) (t := 39) (fr := (0, 0)) (heap_alloc_new _ _)) (by simp [Value.oneCell']) (by omega) (by simp only [maxLen]; omega) (by omega) (by simp; omega) _ rfl ?_; intro gg cap w4 hown5 hgrow hat hlt4; have HO5 := Lib.hid hown5; have HG := Lib.hid hgrow; clear hown5 hgrow)
   refine ⟨⟨k + 1, by omega, by go_num, ?_, (HX3.out.alloc _).grown HG.out (fun g hg => (HO4.out.lt g hg).1)⟩, by simp [intOf]; omega⟩
   rw [List.range_succ]
   simpa using HO5.out
  ·obtain rfl : k = l.length := by omega
   have hL : (Ec.darkL l).length = l.length := Ec.darkL_length l
   obtain ⟨B, d, rfl, hI⟩ := Ints.of_ownT (l := Ec.darkL l) (by rw [hL]; exact hown)
   have HI := Lib.hid hI
   have HX := Lib.hid hX
   clear hX hown hI
   go_wp2_with fail
   go_ret2
   exact ⟨B, d, rfl, HI.out, HE1.out.trans HX.out⟩
theorem ta_touches (k : Int) (w : World) : (Instr.typeAssert (.iface 99 (.agg #[.int .i64 k])) 20 99 true).run Tryz.prog w = .ok (.tuple #[.agg #[.int .i64 k], .bool true]) w := by kernel_rfl
theorem e_balls_catch (p : Nat) (x k : Int) (older : List PanicEntry) (w : World) (hr : Row w p 24 #[.int .i64 x]) :
  CallsD Tryz.prog 53 #[.pointer (some ⟨p, 0, none⟩)] (.panicking ({ v := .iface 99 (.agg #[.int .i64 k]), recovered := false } :: older)) w fun e u' w' =>
   e = .returned (.tuple #[]) ∧ u' = .panicking ({ v := .iface 99 (.agg #[.int .i64 k]), recovered := true } :: older) ∧ w' = (w.setCell ⟨p, 0, none⟩ (.int .i64 2)).alloc (.cells #[.int .i64 k] 99) := by
 refine callsD_of_wpS Tryz.func53 rfl fun c₀ cs hu => ?_
 have HR := Lib.hid hr
 have hc := hr.cell
 have hf := hr.free
 have j0 := lts hr.lt
 have hT := ta_touches k
 have he : ∀ w, (binOp .eql 20 (.iface 99 (.agg #[.int .i64 k])) .nilIface).run Tryz.prog w = .ok (.bool false) w := fun _ => by kernel_rfl
 simp only [Tryz.ntmps53, List.size_toArray, List.length_cons, List.length_nil, Nat.reduceAdd, Nat.reduceSub, Array.replicate_succ, Array.replicate_zero, List.push_toArray, List.append_toArray, List.nil_append, List.cons_append]
 apply wpS_seq
 apply wpS_region
 simp [wpOpsS, go_sem, recoverD, hu, Exit.thenS]
 refine wpS_of_wp ?_
 generalize hQ : (fun (e : Exit) (a' : Act) (w' : World) => bodyPostS Tryz.prog Tryz.f53 c₀ cs _ e a' _ w') = Q
 go_wp2
 subst hQ
 simp [bodyPostS, results, Tryz.results53]
theorem e_Balls_any (l : List Ec.Ball) (A : Option Addr) (c : Nat) (w : World) (hm : BallsAt w A l) (hc : l.length ≤ c) (hl : l.length ≤ 1000) :
  Calls Tryz.prog 17 #[.slice A l.length c] w fun e w' => e = .returned (.int .i64 (if Ec.ballsOk l = true then 0 else 2)) ∧ Ext w w' := by
 have HM := Lib.hid hm
 have hmf : ∀ (fn : Fn) (first cap : Array Value) (w : World), (Instr.makeFunc fn first cap).run Tryz.prog w = .ok (.func fn first cap) w := fun _ _ _ _ => rfl
 have HRE := Lib.hid (Row.new w 24 #[.int .i64 0])
 have HE0 := Lib.hid ((Ext.refl w).alloc (.cells #[.int .i64 0] 24))
 clear hm
 go_enter_defers Tryz.func17, Tryz.ntmps17
 go_wp2_with fail
 refine (e_apart_any l A c _ (HM.out.ext HE0.out) hc hl).mono ?_
 rintro e W1 ⟨⟨hok, rfl⟩ | ⟨hok, n, rfl⟩, hE1⟩
 ·have HR1 := Lib.hid (HRE.out.ext hE1)
  have HE1 := Lib.hid (HE0.out.trans hE1)
  have r0 : W1.cell? ⟨w.heap.size, 0, none⟩ = some (.int .i64 0) := HR1.out.cell 0
  have f0 := HR1.out.free 0
  have HOK := Lib.hid hok
  clear hE1 hok
  go_wp2_with fail
  have HR2 : Hid (Row (W1.setCell ⟨w.heap.size, 0, none⟩ (.int .i64 0)) w.heap.size 24 #[.int .i64 0]) := Lib.hid (by simpa using HR1.out.set_ 0 (.int .i64 0))
  have HE2 := Lib.hid (HE1.out.setCell (p := ⟨w.heap.size, 0, none⟩) (Nat.le_refl _) (.int .i64 0))
  refine leaves_cons (f := 53) (args := #[.pointer (some ⟨w.heap.size, 0, none⟩)]) (by simp) (by simp [go_sem]) ?_
  refine (e_balls_idle _ _).mono ?_
  rintro e u' w'' ⟨rfl, rfl, rfl⟩
  exact ⟨_, e_balls_results _ _ w.heap.size 0 rfl HR2.out, by first | rfl | rw [if_pos HOK.out], HE2.out⟩
 ·have HR1 := Lib.hid (HRE.out.ext hE1)
  have HE1 := Lib.hid (HE0.out.trans hE1)
  have HOK := Lib.hid hok
  clear hE1 hok
  have HR2 : Hid (Row ((W1.setCell ⟨w.heap.size, 0, none⟩ (.int .i64 2)).alloc (.cells #[.int .i64 n] 99)) w.heap.size 24 #[.int .i64 2]) := Lib.hid (by simpa using (HR1.out.set_ 0 (.int .i64 2)).alloc (.cells #[.int .i64 n] 99))
  have HE2 := Lib.hid ((HE1.out.setCell (p := ⟨w.heap.size, 0, none⟩) (Nat.le_refl _) (.int .i64 2)).alloc (.cells #[.int .i64 n] 99))
  refine leaves_cons (f := 53) (args := #[.pointer (some ⟨w.heap.size, 0, none⟩)]) (by simp) (by simp [go_sem]) ?_
  refine (e_balls_catch w.heap.size 0 n [] W1 HR1.out).mono ?_
  rintro e u' w'' ⟨rfl, rfl, rfl⟩
  exact ⟨_, e_balls_results _ _ w.heap.size 2 rfl HR2.out, by first | rfl | rw [if_neg (by rw [HOK.out]; decide)], HE2.out⟩
theorem e_Dark_err (l : List Ec.Ball) (A : Option Addr) (c : Nat) (w : World) (hm : BallsAt w A l) (hc : l.length ≤ c) (hl : l.length ≤ 1000) (h : Ec.ballsOk l = false) :
  Calls Tryz.prog 19 #[.slice A l.length c] w fun e w' => e = .returned (.tuple #[.slice none 0 0, .int .i64 2]) ∧ Ext w w' := by
 have HB := Lib.hid (e_Balls_any l A c w hm hc hl)
 rw [if_neg (by rw [h]; decide)] at HB
 clear hm
 go_enter Tryz.func19, Tryz.ntmps19
 go_wp2_with fail
 refine HB.out.mono ?_
 rintro e w1 ⟨rfl, hE⟩
 go_wp2_with fail
 go_ret2
 exact ⟨rfl, hE⟩
end Go.Proofs.YtfkcbgehcbhjnaaGreatDoor
namespace Go.Proofs.YtfkcbgehcbhjnaaGreatDoor
open Go.RowKit
open Sp (rd)
set_option maxRecDepth 100000
set_option maxHeartbeats 4000000
set_option linter.unusedVariables false
structure BallS (b : Ec.Ball) : Prop where
 x : -200 ≤ b.x ∧ b.x ≤ 200
 y : -200 ≤ b.y ∧ b.y ≤ 200
 r : -200 ≤ b.r ∧ b.r ≤ 200
theorem BallIn.s {b : Ec.Ball} (h : BallIn b) : BallS b := ⟨by have := h.x; omega, by have := h.y; omega, by have := h.r; omega⟩
theorem r7_power_any (x y r : Int) (w : World) (hx : -200 ≤ x ∧ x ≤ 200) (hy : -200 ≤ y ∧ y ≤ 200) (hr : -200 ≤ r ∧ r ≤ 200) :
  Calls Tryz.prog 58 #[.agg #[.int .i64 x, .int .i64 y, .int .i64 r]] w fun e w' => e = .returned (.int .i64 (Ec.power ⟨x, y, r⟩)) ∧ Ext w w' := by
 have q1 := sq_bounds hx.1 hx.2
 have q2 := sq_bounds hy.1 hy.2
 have q3 := sq_bounds hr.1 hr.2
 have b0 := (Row.new w 51 #[.int .i64 x, .int .i64 y, .int .i64 r]).cell
 have HE := Lib.hid ((Ext.refl w).alloc (.cells #[.int .i64 x, .int .i64 y, .int .i64 r] 51))
 go_enter Tryz.func58, Tryz.ntmps58
 go_wp2_with fail
 go_ret
 exact ⟨rfl, HE.out⟩
theorem r7_apart_any (ax ay ar bx by_ br : Int) (w : World) (x1 : -200 ≤ ax ∧ ax ≤ 200) (y1 : -200 ≤ ay ∧ ay ≤ 200) (r1 : -200 ≤ ar ∧ ar ≤ 200) (x2 : -200 ≤ bx ∧ bx ≤ 200) (y2 : -200 ≤ by_ ∧ by_ ≤ 200) (r2 : -200 ≤ br ∧ br ≤ 200) :
  Calls Tryz.prog 59 #[.agg #[.int .i64 ax, .int .i64 ay, .int .i64 ar], .agg #[.int .i64 bx, .int .i64 by_, .int .i64 br]] w fun e w' => e = .returned (.bool (Ec.apart ⟨ax, ay, ar⟩ ⟨bx, by_, br⟩)) ∧ Ext w w' := by
 have HV : Hid (Ec.apart ⟨ax, ay, ar⟩ ⟨bx, by_, br⟩ = decide ((ar + br) * (ar + br) < (ax - bx) * (ax - bx) + (ay - by_) * (ay - by_))) := Lib.hid rfl
 obtain ⟨X, hX⟩ : ∃ X, ax - bx = X := ⟨_, rfl⟩
 obtain ⟨Y, hY⟩ : ∃ Y, ay - by_ = Y := ⟨_, rfl⟩
 obtain ⟨R, hR⟩ : ∃ R, ar + br = R := ⟨_, rfl⟩
 have q1 := sq_bounds (x := X) (B := 400) (by omega) (by omega)
 have q2 := sq_bounds (x := Y) (B := 400) (by omega) (by omega)
 have q3 := sq_bounds (x := R) (B := 400) (by omega) (by omega)
 rw [hX, hY, hR] at HV
 have HRA : Hid (Row ((w.alloc (.cells #[.int .i64 ax, .int .i64 ay, .int .i64 ar] 51)).alloc (.cells #[.int .i64 bx, .int .i64 by_, .int .i64 br] 51)) w.heap.size 51 #[.int .i64 ax, .int .i64 ay, .int .i64 ar]) := Lib.hid (blocks2 w _ _).1
 have HRB : Hid (Row ((w.alloc (.cells #[.int .i64 ax, .int .i64 ay, .int .i64 ar] 51)).alloc (.cells #[.int .i64 bx, .int .i64 by_, .int .i64 br] 51)) (w.heap.size + 1) 51 #[.int .i64 bx, .int .i64 by_, .int .i64 br]) := Lib.hid (blocks2 w _ _).2
 have HE0 : Hid (Ext w ((w.alloc (.cells #[.int .i64 ax, .int .i64 ay, .int .i64 ar] 51)).alloc (.cells #[.int .i64 bx, .int .i64 by_, .int .i64 br] 51))) := Lib.hid (((Ext.refl w).alloc _).alloc _)
 have a0 := HRA.out.cell
 have a1 := HRB.out.cell
 go_enter Tryz.func59, Tryz.ntmps59
 go_wp2_with fail
 go_quiet (fail)
 go_wp2_with fail
 go_ret
 exact ⟨by rw [HV.out] <;> rfl, HE0.out.drewN _⟩
theorem r7_Before_any (ax ay ar bx by_ br : Int) (w : World) (x1 : -200 ≤ ax ∧ ax ≤ 200) (y1 : -200 ≤ ay ∧ ay ≤ 200) (r1 : -200 ≤ ar ∧ ar ≤ 200) (x2 : -200 ≤ bx ∧ bx ≤ 200) (y2 : -200 ≤ by_ ∧ by_ ≤ 200) (r2 : -200 ≤ br ∧ br ≤ 200) :
  Calls Tryz.prog 26 #[.agg #[.int .i64 ax, .int .i64 ay, .int .i64 ar], .agg #[.int .i64 bx, .int .i64 by_, .int .i64 br]] w fun e w' => e = .returned (.bool (decide (Ec.power ⟨ax, ay, ar⟩ < Ec.power ⟨bx, by_, br⟩))) ∧ Ext w w' := by
 have HPA := Lib.hid (fun W => r7_power_any ax ay ar W x1 y1 r1)
 have HPB := Lib.hid (fun W => r7_power_any bx by_ br W x2 y2 r2)
 generalize Ec.power ⟨ax, ay, ar⟩ = PA at *
 generalize Ec.power ⟨bx, by_, br⟩ = PB at *
 have HRA : Hid (Row ((w.alloc (.cells #[.int .i64 ax, .int .i64 ay, .int .i64 ar] 51)).alloc (.cells #[.int .i64 bx, .int .i64 by_, .int .i64 br] 51)) w.heap.size 51 #[.int .i64 ax, .int .i64 ay, .int .i64 ar]) := Lib.hid (blocks2 w _ _).1
 have HRB : Hid (Row ((w.alloc (.cells #[.int .i64 ax, .int .i64 ay, .int .i64 ar] 51)).alloc (.cells #[.int .i64 bx, .int .i64 by_, .int .i64 br] 51)) (w.heap.size + 1) 51 #[.int .i64 bx, .int .i64 by_, .int .i64 br]) := Lib.hid (blocks2 w _ _).2
 have HE0 : Hid (Ext w ((w.alloc (.cells #[.int .i64 ax, .int .i64 ay, .int .i64 ar] 51)).alloc (.cells #[.int .i64 bx, .int .i64 by_, .int .i64 br] 51))) := Lib.hid (((Ext.refl w).alloc _).alloc _)
 go_enter Tryz.func26, Tryz.ntmps26
 go_wp2_with fail
 refine wp_region_later (by kernel_rfl) (by kernel_rfl) (fun W hW => ?_)
 subst hW
 have y1 := fun X : Later ((w.alloc (.cells #[.int .i64 ax, .int .i64 ay, .int .i64 ar] 51)).alloc (.cells #[.int .i64 bx, .int .i64 by_, .int .i64 br] 51)) => (HRA.out.ext X.ext).cell
 have y2 := fun X : Later ((w.alloc (.cells #[.int .i64 ax, .int .i64 ay, .int .i64 ar] 51)).alloc (.cells #[.int .i64 bx, .int .i64 by_, .int .i64 br] 51)) => (HRB.out.ext X.ext).cell
 go_big_quiet_step (fail)
 go_big_quiet_step ((go_at_call 58; exact Later.call (HPA.out _)))
 go_big_quiet_step (fail)
 go_big_quiet_step ((go_at_call 58; exact Later.call (HPB.out _)))
 repeat (go_big_quiet_step (fail))
 refine wpQuiet_nil ?_
 rintro ⟨w3, hE3⟩
 dsimp only
 go_wp2_with fail
 go_ret
 exact ⟨rfl, HE0.out.trans hE3⟩
theorem shades_ways (ax ay ar bx by_ br PA PB R D P : Int) (hPA : Ec.power ⟨ax, ay, ar⟩ = PA) (hPB : Ec.power ⟨bx, by_, br⟩ = PB) (hR : ar * br = R) (hD : ax * bx + ay * by_ = D) (hP : PA * PB = P) :
  Ec.shades ⟨ax, ay, ar⟩ ⟨bx, by_, br⟩ = if PA < PB then (if br * br * (ax * ax + ay * ay) ≤ ar * ar * (bx * bx + by_ * by_) ∧ 0 ≤ D - R ∧ P ≤ (D - R) * (D - R) then 3 else if 0 < D + R ∧ P < (D + R) * (D + R) then 2 else 1) else 1 := by
 unfold Ec.shades Ec.darkB Ec.partB Ec.norm2 Ec.dot
 simp only [hPA, hPB, hR, hD, hP, Bool.and_eq_true, decide_eq_true_eq]
 have e1 : (R ≤ D) = (0 ≤ D - R) := propext (by omega)
 have e2 : (-R < D) = (0 < D + R) := propext (by omega)
 simp only [e1, e2]
theorem r7_Shades_any (ax ay ar bx by_ br : Int) (w : World) (x1 : -200 ≤ ax ∧ ax ≤ 200) (y1 : -200 ≤ ay ∧ ay ≤ 200) (r1 : -200 ≤ ar ∧ ar ≤ 200) (x2 : -200 ≤ bx ∧ bx ≤ 200) (y2 : -200 ≤ by_ ∧ by_ ≤ 200) (r2 : -200 ≤ br ∧ br ≤ 200) :
  Calls Tryz.prog 24 #[.agg #[.int .i64 ax, .int .i64 ay, .int .i64 ar], .agg #[.int .i64 bx, .int .i64 by_, .int .i64 br]] w fun e w' => e = .returned (.int .i64 (Ec.shades ⟨ax, ay, ar⟩ ⟨bx, by_, br⟩)) ∧ Ext w w' := by
 have HPA := Lib.hid (fun W => r7_power_any ax ay ar W x1 y1 r1)
 have HPB := Lib.hid (fun W => r7_power_any bx by_ br W x2 y2 r2)
 have HBF := Lib.hid (fun W => r7_Before_any ax ay ar bx by_ br W x1 y1 r1 x2 y2 r2)
 have q1 := sq_bounds x1.1 x1.2
 have q2 := sq_bounds y1.1 y1.2
 have q3 := sq_bounds r1.1 r1.2
 have q4 := sq_bounds x2.1 x2.2
 have q5 := sq_bounds y2.1 y2.2
 have q6 := sq_bounds r2.1 r2.2
 have p1 := prod_lim x1.1 x1.2 x2.1 x2.2
 have p2 := prod_lim y1.1 y1.2 y2.1 y2.2
 have p3 := prod_lim r1.1 r1.2 r2.1 r2.2
 have hpa : Ec.power ⟨ax, ay, ar⟩ = ax * ax + ay * ay - ar * ar := rfl
 have hpb : Ec.power ⟨bx, by_, br⟩ = bx * bx + by_ * by_ - br * br := rfl
 obtain ⟨PA, hPA⟩ : ∃ PA, Ec.power ⟨ax, ay, ar⟩ = PA := ⟨_, rfl⟩
 obtain ⟨PB, hPB⟩ : ∃ PB, Ec.power ⟨bx, by_, br⟩ = PB := ⟨_, rfl⟩
 have n1 : -120000 ≤ PA ∧ PA ≤ 120000 := by omega
 have n2 : -120000 ≤ PB ∧ PB ≤ 120000 := by omega
 have p4 := prod_lim n1.1 n1.2 n2.1 n2.2
 obtain ⟨R, hR⟩ : ∃ R, ar * br = R := ⟨_, rfl⟩
 obtain ⟨D, hD⟩ : ∃ D, ax * bx + ay * by_ = D := ⟨_, rfl⟩
 obtain ⟨P, hP⟩ : ∃ P, PA * PB = P := ⟨_, rfl⟩
 have HV := Lib.hid (shades_ways ax ay ar bx by_ br PA PB R D P hPA hPB hR hD hP)
 have m1 := prod_lim (x := br * br) (y := ax * ax + ay * ay) (A := 40000) (B := 80000) (by omega) (by omega) (by omega) (by omega)
 have m2 := prod_lim (x := ar * ar) (y := bx * bx + by_ * by_) (A := 40000) (B := 80000) (by omega) (by omega) (by omega) (by omega)
 have s1 := sq_bounds (x := D - R) (B := 120000) (by omega) (by omega)
 have s2 := sq_bounds (x := D + R) (B := 120000) (by omega) (by omega)
 rw [hPA] at HPA
 rw [hPB] at HPB
 rw [hPA, hPB] at HBF
 have dl : -120000 ≤ D - R ∧ D - R ≤ 120000 := by omega
 have dl2 : -120000 ≤ D + R ∧ D + R ≤ 120000 := by omega
 clear hpa hpb hPA hPB
 have HRA : Hid (Row ((w.alloc (.cells #[.int .i64 ax, .int .i64 ay, .int .i64 ar] 51)).alloc (.cells #[.int .i64 bx, .int .i64 by_, .int .i64 br] 51)) w.heap.size 51 #[.int .i64 ax, .int .i64 ay, .int .i64 ar]) := Lib.hid (blocks2 w _ _).1
 have HRB : Hid (Row ((w.alloc (.cells #[.int .i64 ax, .int .i64 ay, .int .i64 ar] 51)).alloc (.cells #[.int .i64 bx, .int .i64 by_, .int .i64 br] 51)) (w.heap.size + 1) 51 #[.int .i64 bx, .int .i64 by_, .int .i64 br]) := Lib.hid (blocks2 w _ _).2
 have HE0 : Hid (Ext w ((w.alloc (.cells #[.int .i64 ax, .int .i64 ay, .int .i64 ar] 51)).alloc (.cells #[.int .i64 bx, .int .i64 by_, .int .i64 br] 51))) := Lib.hid (((Ext.refl w).alloc _).alloc _)
 have a0 := HRA.out.cell
 have a1 := HRB.out.cell
 go_enter Tryz.func24, Tryz.ntmps24
 go_wp2_with fail
 refine (HBF.out _).mono ?_
 rintro e w1 ⟨rfl, hE1⟩
 have HRA1 := Lib.hid (HRA.out.ext hE1)
 have HRB1 := Lib.hid (HRB.out.ext hE1)
 have HE1 := Lib.hid (HE0.out.trans hE1)
 clear a0 a1 hE1
 by_cases c1 : PA < PB
 case neg =>
  rw [if_neg c1] at HV
  rw [decide_eq_false c1]
  go_wp2_with fail
  go_ret
  exact ⟨by rw [HV.out] <;> rfl, HE1.out⟩
 rw [if_pos c1] at HV
 rw [decide_eq_true c1]
 clear c1
 have a0 := HRA1.out.cell
 have a1 := HRB1.out.cell
 go_wp2_with fail
 go_quiet (fail)
 clear hD hR p1 p2 p3
 go_wp2_with fail
 clear a0 a1
 refine wp_region_later (by kernel_rfl) (by kernel_rfl) (fun W hW => ?_)
 have hD : Ext w1 W := by rw [hW]; exact (Ext.refl _).drewN _
 have HD := Lib.hid hD
 have HE2 := Lib.hid (HE1.out.trans hD)
 clear hW hD
 have u1 := fun X : Later W => (HRA1.out.ext (HD.out.trans X.ext)).cell
 have u2 := fun X : Later W => (HRB1.out.ext (HD.out.trans X.ext)).cell
 go_big_quiet_step (fail)
 go_big_quiet_step ((go_at_call 58; exact Later.call (HPA.out _)))
 go_big_quiet_step (fail)
 go_big_quiet_step ((go_at_call 58; exact Later.call (HPB.out _)))
 repeat (go_big_quiet_step (fail))
 refine wpQuiet_nil ?_
 rintro ⟨w3, hE3⟩
 dsimp only
 clear u1 u2
 have a0 := (HRA1.out.ext (HD.out.trans hE3)).cell
 have a1 := (HRB1.out.ext (HD.out.trans hE3)).cell
 have HE3 := Lib.hid (HE2.out.trans hE3)
 clear hE3
 try rw [hP]
 clear hP p4
 by_cases cw : br * br * (ax * ax + ay * ay) ≤ ar * ar * (bx * bx + by_ * by_)
 case neg =>
  have HV := Lib.hid (HV.out.trans (if_neg (fun h => cw h.1)))
  by_cases d0 : 0 < D + R
  ·by_cases d1 : P < (D + R) * (D + R)
   ·go_wp2_with fail
    go_ret
    exact ⟨by rw [HV.out, if_pos ⟨d0, d1⟩] <;> rfl, HE3.out⟩
   ·go_wp2_with fail
    go_ret
    exact ⟨by rw [HV.out, if_neg (fun h => absurd h.2 (Int.not_lt.2 d1))] <;> rfl, HE3.out⟩
  ·go_wp2_with fail
   go_ret
   exact ⟨by rw [HV.out, if_neg (fun h => absurd h.1 (Int.not_lt.2 d0))] <;> rfl, HE3.out⟩
 by_cases c2 : 0 ≤ D - R
 case neg =>
  have HV := Lib.hid (HV.out.trans (if_neg (fun h => c2 h.2.1)))
  by_cases d0 : 0 < D + R
  ·by_cases d1 : P < (D + R) * (D + R)
   ·go_wp2_with fail
    go_ret
    exact ⟨by rw [HV.out, if_pos ⟨d0, d1⟩] <;> rfl, HE3.out⟩
   ·go_wp2_with fail
    go_ret
    exact ⟨by rw [HV.out, if_neg (fun h => absurd h.2 (Int.not_lt.2 d1))] <;> rfl, HE3.out⟩
  ·go_wp2_with fail
   go_ret
   exact ⟨by rw [HV.out, if_neg (fun h => absurd h.1 (Int.not_lt.2 d0))] <;> rfl, HE3.out⟩
 by_cases c3 : P ≤ (D - R) * (D - R)
 case neg =>
  have HV := Lib.hid (HV.out.trans (if_neg (fun h => c3 h.2.2)))
  by_cases d0 : 0 < D + R
  ·by_cases d1 : P < (D + R) * (D + R)
   ·go_wp2_with fail
    go_ret
    exact ⟨by rw [HV.out, if_pos ⟨d0, d1⟩] <;> rfl, HE3.out⟩
   ·go_wp2_with fail
    go_ret
    exact ⟨by rw [HV.out, if_neg (fun h => absurd h.2 (Int.not_lt.2 d1))] <;> rfl, HE3.out⟩
  ·go_wp2_with fail
   go_ret
   exact ⟨by rw [HV.out, if_neg (fun h => absurd h.1 (Int.not_lt.2 d0))] <;> rfl, HE3.out⟩
 go_wp2_with fail
 go_ret
 exact ⟨by rw [HV.out, if_pos ⟨cw, c2, c3⟩] <;> rfl, HE3.out⟩
theorem one_eq (x y r : Int) : Ec.oneOk ⟨x, y, r⟩ = (Sp.inR x (-100) 100 && (Sp.inR y (-100) 100 && (Sp.inR r 1 20 && !decide (Ec.power ⟨x, y, r⟩ ≤ 0)))) := by
 rw [Bool.eq_iff_iff]
 simp only [Ec.oneOk, Sp.inR, Bool.and_eq_true, decide_eq_true_eq, Bool.not_eq_true', decide_eq_false_iff_not]
 omega
theorem r7_Ball_any (l : List Ec.Ball) (A : Option Addr) (c : Nat) (n : Int) (w : World) (hl : l.length ≤ 100000) : Calls Tryz.prog 23 #[.slice A l.length c, .int .i64 n] w fun e w' => e = .returned (.bool (Ec.isBall l n)) ∧ w = w' := by
 have HV : Hid (Ec.isBall l n = Sp.inR n 0 ((l.length : Int) - 1)) := Lib.hid rfl
 go_enter Tryz.func23, Tryz.ntmps23
 go_wp2_with fail
 refine (r7_in_any _ _ _ _).mono ?_
 rintro e w1 ⟨rfl, rfl⟩
 rw [← HV.out]
 go_wp2_with fail
 go_ret
 exact ⟨rfl, rfl⟩
theorem r7_Balls_any (l : List Ec.Ball) (A : Option Addr) (c : Nat) (w : World) (hm : BallsAt w A l) (hl : l.length ≤ 1000) :
  Calls Tryz.prog 20 #[.slice A l.length c] w fun e w' => e = .returned (.bool (Ec.ballsOk l)) ∧ Ext w w' := by
 have HM := Lib.hid hm
 clear hm
 go_enter Tryz.func20, Tryz.ntmps20
 go_wp2_with fail
 go_loopw [3] (fun i wr => ∃ k : Nat, k ≤ l.length ∧ i = .int .i64 k ∧ (∀ j, j < k → Ec.fitsB l j = true) ∧ Ext w wr) (fun i _ => l.length - (intOf i).toNat)
 case atStart => exact ⟨0, Nat.zero_le _, rfl, fun j hj => absurd hj (Nat.not_lt_zero _), Ext.refl _⟩
 case round =>
  obtain ⟨k, hk, rfl, hfit, hE⟩ := hrel
  have HFIT := Lib.hid hfit
  clear hfit
  by_cases hlt : k < l.length
  ·obtain ⟨bb, o, rfl, hcell⟩ := HM.out (by omega)
   have HCL := Lib.hid hcell
   obtain ⟨q1, q2, q3⟩ := hcell k hlt
   replace q1 := hE.cell q1
   replace q2 := hE.cell q2
   replace q3 := hE.cell q3
   have HNB := Lib.hid (fun h => not_balls (l := l) hlt h)
   have HN1 := Lib.hid (fun h => not_fits_one (l := l) (k := k) h)
   have HN2 := Lib.hid (fun j (hj : j < k) h => not_fits_two (l := l) (k := k) (j := j) hj h)
   have HFK := Lib.hid ((Ec.fits_iff l k).2)
   have HBI : Hid (∀ j, j < k → BallIn (Ec.ballAt l j)) := Lib.hid fun j hj => fits_one (HFIT.out j hj)
   obtain ⟨b, hb⟩ : ∃ b, Ec.ballAt l k = b := ⟨_, rfl⟩
   rw [hb] at q1 q2 q3 HN1 HFK
   have HN2' : Hid (∀ j, j < k → Ec.apart (Ec.ballAt l j) b = false → Ec.fitsB l k = false) := Lib.hid (by rw [← hb]; exact HN2.out)
   obtain ⟨ax, ay, ar⟩ := b
   simp only at q1 q2 q3
   have HE := Lib.hid hE
   have z1 := lts (lt_of_cell q1)
   simp only at z1
   clear hb hE HN2 hcell
   have HONE := Lib.hid (one_eq ax ay ar)
   have HNB2 := Lib.hid HNB.out
   have HB0 := Lib.hid (Row.new wr 51 #[.int .i64 ax, .int .i64 ay, .int .i64 ar])
   have HE1 := Lib.hid (HE.out.alloc (.cells #[.int .i64 ax, .int .i64 ay, .int .i64 ar] 51))
   cases c1 : Sp.inR ax (-100) 100
   ·have HF := Lib.hid (HNB.out (HN1.out (by rw [HONE.out, c1]; rfl)))
    go_wp2_with fail
    refine (r7_in_any _ _ _ _).mono ?_
    rintro e w1 ⟨rfl, rfl⟩
    rw [c1]
    go_wp2_with fail
    go_ret
    exact ⟨by rw [HF.out] <;> rfl, HE1.out⟩
   cases c2 : Sp.inR ay (-100) 100
   ·have HF := Lib.hid (HNB.out (HN1.out (by rw [HONE.out, c1, c2]; rfl)))
    go_wp2_with fail
    refine (r7_in_any _ _ _ _).mono ?_
    rintro e w1 ⟨rfl, rfl⟩
    rw [c1]
    go_wp2_with fail
    refine (r7_in_any _ _ _ _).mono ?_
    rintro e w1 ⟨rfl, rfl⟩
    rw [c2]
    go_wp2_with fail
    go_ret
    exact ⟨by rw [HF.out] <;> rfl, HE1.out⟩
   cases c3 : Sp.inR ar 1 20
   ·have HF := Lib.hid (HNB.out (HN1.out (by rw [HONE.out, c1, c2, c3]; rfl)))
    go_wp2_with fail
    refine (r7_in_any _ _ _ _).mono ?_
    rintro e w1 ⟨rfl, rfl⟩
    rw [c1]
    go_wp2_with fail
    refine (r7_in_any _ _ _ _).mono ?_
    rintro e w1 ⟨rfl, rfl⟩
    rw [c2]
    go_wp2_with fail
    refine (r7_in_any _ _ _ _).mono ?_
    rintro e w1 ⟨rfl, rfl⟩
    rw [c3]
    go_wp2_with fail
    go_ret
    exact ⟨by rw [HF.out] <;> rfl, HE1.out⟩
   have b1 := inR_iff.1 c1
   have b2 := inR_iff.1 c2
   have b3 := inR_iff.1 c3
   have HPW := Lib.hid (fun W => r7_power_any ax ay ar W (by omega) (by omega) (by omega))
   have HAP := Lib.hid (fun j (hj : j < k) W => r7_apart_any (Ec.ballAt l j).x (Ec.ballAt l j).y (Ec.ballAt l j).r ax ay ar W (HBI.out j hj).s.x (HBI.out j hj).s.y (HBI.out j hj).s.r (by omega) (by omega) (by omega))
   obtain ⟨PA, hPA⟩ : ∃ P, Ec.power ⟨ax, ay, ar⟩ = P := ⟨_, rfl⟩
   rw [hPA] at HPW HONE
   clear hPA b1 b2 b3
   go_wp2_with fail
   refine (r7_in_any _ _ _ _).mono ?_
   rintro e w1 ⟨rfl, rfl⟩
   rw [c1]
   go_wp2_with fail
   refine (r7_in_any _ _ _ _).mono ?_
   rintro e w1 ⟨rfl, rfl⟩
   rw [c2]
   go_wp2_with fail
   refine (r7_in_any _ _ _ _).mono ?_
   rintro e w1 ⟨rfl, rfl⟩
   rw [c3]
   have HONE' : Hid (Ec.oneOk ⟨ax, ay, ar⟩ = !decide (PA ≤ 0)) := Lib.hid (by rw [HONE.out, c1, c2, c3]; rfl)
   clear c1 c2 c3 HONE
   go_wp2_with fail
   refine (HPW.out _).mono ?_
   rintro e w1 ⟨rfl, hE1⟩
   have HB1 := Lib.hid (HB0.out.ext hE1)
   have HE2 := Lib.hid (HE1.out.trans hE1)
   have HEX := Lib.hid (HE.out)
   clear hE1 q1 q2 q3
   by_cases hp : PA ≤ 0
   ·have HF := Lib.hid (HNB.out (HN1.out (by rw [HONE'.out, decide_eq_true hp]; rfl)))
    go_wp2_with fail
    go_ret
    exact ⟨by rw [HF.out] <;> rfl, HE2.out⟩
   have HON := Lib.hid (show Ec.oneOk ⟨ax, ay, ar⟩ = true by rw [HONE'.out, decide_eq_false hp]; rfl)
   obtain ⟨pb, hpb⟩ : ∃ pb, wr.heap.size = pb := ⟨_, rfl⟩
   rw [hpb] at HB1 z1 ⊢
   clear hpb HB0 HNB HN1
   have k9 : (k : Int) ≤ 1000 := by omega
   go_wp2_with fail
   obtain ⟨wo, rfl⟩ : ∃ wo : World, wo = wr := ⟨_, rfl⟩
   go_loopw [5] (fun i wx => ∃ j : Nat, j ≤ k ∧ i = .int .i64 j ∧ (∀ i, i < j → Ec.apart (Ec.ballAt l i) ⟨ax, ay, ar⟩ = true) ∧ Ext w1 wx) (fun i _ => k - (intOf i).toNat)
   case atStart => exact ⟨0, Nat.zero_le _, rfl, fun j hj => absurd hj (Nat.not_lt_zero _), Ext.refl _⟩
   case round =>
    obtain ⟨j, hj, rfl, hap, hX⟩ := hrel
    have HA := Lib.hid hap
    clear hap
    have HX := Lib.hid hX
    have HB3 := Lib.hid (HB1.out.ext hX)
    clear hX
    by_cases hjk : j < k
    ·obtain ⟨s1, s2, s3⟩ := HCL.out j (by omega)
     have HNJ := Lib.hid (fun h => HNB2.out (HN2'.out j hjk h))
     have HAJ := Lib.hid (HAP.out j hjk)
     have HNX : Hid (Ec.apart (Ec.ballAt l j) ⟨ax, ay, ar⟩ = true → ∀ i, i < j + 1 → Ec.apart (Ec.ballAt l i) ⟨ax, ay, ar⟩ = true) := Lib.hid (fun h i hi => by
      rcases Nat.lt_or_ge i j with h1 | h1
      ·exact HA.out i h1
      ·obtain rfl : i = j := by omega
       exact h)
     obtain ⟨B, hB⟩ : ∃ B, Ec.ballAt l j = B := ⟨_, rfl⟩
     rw [hB] at s1 s2 s3 HNJ HAJ HNX
     obtain ⟨cx, cy, cr⟩ := B
     simp only at s1 s2 s3 HAJ
     have HS := Lib.hid (And.intro (HE2.out.cell s1) (And.intro (HE2.out.cell s2) (HE2.out.cell s3)))
     obtain ⟨ap, hap⟩ : ∃ ap, Ec.apart ⟨cx, cy, cr⟩ ⟨ax, ay, ar⟩ = ap := ⟨_, rfl⟩
     rw [hap] at HNJ HAJ HNX
     have j1 : (j : Int) < (l.length : Int) := by omega
     have z3 := HB3.out.lt
     clear s1 s2 s3 hB hap
     go_wp2_with fail
     refine wp_region_later (by kernel_rfl) (by kernel_rfl) (fun W hW => ?_)
     subst hW
     have u1 := fun X : Later W => X.ext.cell (HX.out.cell HS.out.1)
     have u2 := fun X : Later W => X.ext.cell (HX.out.cell HS.out.2.1)
     have u3 := fun X : Later W => X.ext.cell (HX.out.cell HS.out.2.2)
     have u4 := fun X : Later W => (HB3.out.ext X.ext).cell
     repeat (go_big_quiet_step (fail))
     go_big_quiet_step ((go_at_call 59; exact Later.call (HAJ.out _)))
     repeat (go_big_quiet_step (fail))
     refine wpQuiet_nil ?_
     rintro ⟨wz, hEz⟩
     dsimp only
     clear u1 u2 u3 u4
     cases ap
     ·have HF := Lib.hid (HNJ.out rfl)
      go_wp2_with fail
      go_ret
      exact ⟨by rw [HF.out] <;> rfl, (HE2.out.trans HX.out).trans hEz⟩
     ·have HN := Lib.hid (HNX.out rfl)
      go_wp2_with fail
      go_roundw
      case rel => exact ⟨j + 1, by omega, by go_num, HN.out, HX.out.trans hEz⟩
      case measure => simp [intOf]; omega
    ·obtain rfl : j = k := by omega
     have HFJ := Lib.hid (HFK.out ⟨HON.out, HA.out⟩)
     clear hjk
     go_wp2_with fail
     go_roundw
     case rel =>
      refine ⟨j + 1, by omega, by go_num, fun i hi => ?_, HE2.out.trans HX.out⟩
      rcases Nat.lt_or_ge i j with h1 | h1
      ·exact HFIT.out i h1
      ·obtain rfl : i = j := by omega
       exact HFJ.out
     case measure => simp [intOf]; omega
  ·obtain rfl : k = l.length := by omega
   have HOK : Hid (Ec.ballsOk l = Sp.inR (l.length : Int) 1 5) := Lib.hid (by unfold Ec.ballsOk; rw [(Ec.fitN_iff _ _).2 HFIT.out, Bool.true_and])
   go_wp2_with fail
   refine (r7_in_any _ _ _ _).mono ?_
   rintro e w1 ⟨rfl, rfl⟩
   rw [← HOK.out]
   go_wp2_with fail
   go_ret
   exact ⟨rfl, hE⟩
theorem r7_darkest_any (l : List Ec.Ball) (k : Nat) (A : Option Addr) (c : Nat) (w : World) (hm : BallsAt w A l) (hl : l.length ≤ 1000) (hk : k < l.length) (hb : ∀ i, i < l.length → BallS (Ec.ballAt l i)) :
  Calls Tryz.prog 60 #[.slice A l.length c, .int .i64 k] w fun e w' => e = .returned (.int .i64 (Ec.darkest l k)) ∧ Ext w w' := by
 obtain ⟨bb, o, rfl, hcell⟩ := hm (by omega)
 have HM := Lib.hid hcell
 have HBD := Lib.hid hb
 clear hm hcell hb
 go_enter Tryz.func60, Tryz.ntmps60
 go_wp2_with fail
 go_loopw [5, 6] (fun v i wr => ∃ n : Nat, n ≤ l.length ∧ i = .int .i64 n ∧ v = .int .i64 (Ec.darkestN l k n) ∧ Ext w wr) (fun _ i _ => l.length - (intOf i).toNat)
 case atStart => exact ⟨0, Nat.zero_le _, rfl, rfl, Ext.refl _⟩
 case round =>
  obtain ⟨n, hn, rfl, rfl, hE⟩ := hrel
  by_cases hlt : n < l.length
  ·have hS : Ec.darkestN l k (n + 1) = if n = k then Ec.darkestN l k n else max (Ec.darkestN l k n) (Ec.shades (Ec.ballAt l n) (Ec.ballAt l k)) := rfl
   obtain ⟨D, hD⟩ : ∃ D, Ec.darkestN l k n = D := ⟨_, rfl⟩
   rw [hD] at hS ⊢
   have HS := Lib.hid hS
   have HE := Lib.hid hE
   clear hE hS hD
   by_cases hnk : n = k
   ·have HSS := Lib.hid (HS.out.trans (if_pos hnk))
    subst hnk
    clear HS
    go_wp2_with fail
    go_roundw
    case rel => exact ⟨n + 1, by omega, by go_num, by rw [HSS.out], HE.out⟩
    case measure => simp [intOf]; omega
   ·have HSS := Lib.hid (HS.out.trans (if_neg hnk))
    have e1 : ((n : Int) == (k : Int)) = false := by simp; omega
    have e2 : ((n : Int) != (k : Int)) = true := by simp; omega
    have hb1 := HBD.out n hlt
    have hb2 := HBD.out k hk
    have hcn := HM.out n hlt
    have hck := HM.out k hk
    obtain ⟨b, hb⟩ : ∃ b, Ec.ballAt l n = b := ⟨_, rfl⟩
    rw [hb] at hb1 hcn HSS
    obtain ⟨ax, ay, ar⟩ := b
    obtain ⟨b, hb'⟩ : ∃ b, Ec.ballAt l k = b := ⟨_, rfl⟩
    rw [hb'] at hb2 hck HSS
    obtain ⟨bx, by_, br⟩ := b
    simp only at hck hcn
    have HSH := Lib.hid (fun w => r7_Shades_any ax ay ar bx by_ br w hb1.x hb1.y hb1.r hb2.x hb2.y hb2.r)
    obtain ⟨sh, hsh⟩ : ∃ sh, Ec.shades ⟨ax, ay, ar⟩ ⟨bx, by_, br⟩ = sh := ⟨_, rfl⟩
    rw [hsh] at HSH HSS
    have HC := Lib.hid (And.intro (HE.out.cell hcn.1) (And.intro (HE.out.cell hcn.2.1) (HE.out.cell hcn.2.2)))
    have HCK := Lib.hid (And.intro (HE.out.cell hck.1) (And.intro (HE.out.cell hck.2.1) (HE.out.cell hck.2.2)))
    have hk1 : (k : Int) < (l.length : Int) := by omega
    have hk0 : (0 : Int) ≤ (k : Int) := by omega
    have hn1 : (n : Int) < (l.length : Int) := by omega
    clear hb hb' hsh hck hcn hb1 hb2 HS hnk
    go_wp2_with fail
    clear e1 e2
    refine wp_region_later (by kernel_rfl) (by kernel_rfl) (fun W hW => ?_)
    subst hW
    have u1 := fun X : Later W => X.ext.cell HC.out.1
    have u2 := fun X : Later W => X.ext.cell HC.out.2.1
    have u3 := fun X : Later W => X.ext.cell HC.out.2.2
    have u4 := fun X : Later W => X.ext.cell HCK.out.1
    have u5 := fun X : Later W => X.ext.cell HCK.out.2.1
    have u6 := fun X : Later W => X.ext.cell HCK.out.2.2
    repeat (go_big_quiet_step (fail))
    go_big_quiet_step ((go_at_call 24; exact Later.call (HSH.out _)))
    repeat (go_big_quiet_step (fail))
    refine wpQuiet_nil ?_
    rintro ⟨wz, hEz⟩
    dsimp only
    clear u1 u2 u3 u4 u5 u6
    go_wp2_with fail
    go_roundw
    case rel => exact ⟨n + 1, by omega, by go_num, by rw [HSS.out], HE.out.trans hEz⟩
    case measure => simp [intOf]; omega
  ·obtain rfl : n = l.length := by omega
   go_wp2_with fail
   go_ret
   exact ⟨rfl, hE⟩
theorem ballsS_of {l : List Ec.Ball} (h : Ec.ballsOk l = true) : ∀ i, i < l.length → BallS (Ec.ballAt l i) := fun i hi => BallIn.s ((ballsIn_of h).2.1 i hi)
theorem r7_Dark_any (l : List Ec.Ball) (A : Option Addr) (c : Nat) (w : World) (hm : BallsAt w A l) (hb : ∀ i, i < l.length → BallS (Ec.ballAt l i)) (hl : l.length ≤ 1000) :
  Calls Tryz.prog 22 #[.slice A l.length c] w fun e w' => ∃ B d, e = .returned (.slice B (Ec.darkL l).length d) ∧ Ints w' B (Ec.darkL l) ∧ Ext w w' := by
 have HM := Lib.hid hm
 have HBD := Lib.hid hb
 obtain ⟨i0, hi0, hi1, hi2, hi3⟩ := info_parts info_word
 clear hm hb
 go_enter Tryz.func22, Tryz.ntmps22
 go_wp2_with fail
 go_loopw [3, 4] (fun v i wr => ∃ k : Nat, k ≤ l.length ∧ i = .int .i64 k ∧ wr.ownsRow w.heap.size 39 1 v k (((List.range k).map (Ec.darkest l)).map fun x => .int .i64 x) ∧ Ext w wr) (fun _ i _ => l.length - (intOf i).toNat)
 case atStart => exact ⟨0, Nat.zero_le _, rfl, by simp [World.ownsRow], Ext.refl _⟩
 case round =>
  obtain ⟨k, hk, rfl, hown, hX⟩ := hrel
  have hX9 := hX.size
  by_cases hlt : k < l.length
  ·have HX := Lib.hid hX
   have HOW := Lib.hid hown
   clear hX hown
   go_wp2_with fail
   refine (r7_darkest_any l k A c _ (HM.out.ext HX.out) (by omega) hlt HBD.out).mono ?_
   rintro e w3 ⟨rfl, hE3⟩
   have hz3 := hE3.size
   have hown4 := (own_ext HOW.out hE3).alloc (.cells #[.int .i64 (Ec.darkest l k)] 39)
   have HO4 := Lib.hid hown4
   have HX3 := Lib.hid (HX.out.trans hE3)
   clear hE3
   go_wp2_with (at_builtin; refine wpList_append_lies _ rfl _ _ 42 rfl w.heap.size 39 i0 _ 1 8 Tryz.underlying42 hi0 hi1 hi2 hi3 rfl (by decide) _ k (((List.range k).map (Ec.darkest l)).map fun x => .int .i64 x) rfl hown4 ⟨w3.heap.size, 0, none⟩ 1 1 [.int .i64 (Ec.darkest l k)] rfl rfl (World.news_of_block (cs := #[.int .i64 (Ec.darkest l k)]) (t := 39) (fr := (0, 0)) (heap_alloc_new _ _)) (by simp [Value.oneCell']) (by omega) (by simp only [maxLen]; omega) (by omega) (by simp; omega) _ rfl ?_; intro gg cap w4 hown5 hgrow hat hlt4; have HO5 := Lib.hid hown5; have HG := Lib.hid hgrow; clear hown5 hgrow)
   go_roundw
   case rel =>
    refine ⟨k + 1, by omega, by go_num, ?_, (HX3.out.alloc _).grown HG.out (fun g hg => (HO4.out.lt g hg).1)⟩
    rw [List.range_succ]
    simpa using HO5.out
   case measure => simp [intOf]; omega
  ·obtain rfl : k = l.length := by omega
   have hL : (Ec.darkL l).length = l.length := Ec.darkL_length l
   obtain ⟨B, d, rfl, hI⟩ := Ints.of_ownT (l := Ec.darkL l) (by rw [hL]; exact hown)
   have HI := Lib.hid hI
   have HX := Lib.hid hX
   clear hX hown hI
   go_wp2_with fail
   go_ret
   exact ⟨B, d, rfl, HI.out, HX.out⟩
end Go.Proofs.YtfkcbgehcbhjnaaGreatDoor
namespace Go.Proofs.YtfkcbgehcbhjnaaGreatDoor
open Go.RowKit
open Sp (rd)
set_option maxRecDepth 100000
set_option maxHeartbeats 2000000
set_option linter.unusedVariables false
def ballCells (l : List Ec.Ball) : List Value := l.flatMap fun b => [.int .i64 b.x, .int .i64 b.y, .int .i64 b.r]
theorem ballCells_length (l : List Ec.Ball) : (ballCells l).length = l.length * 3 := by
 induction l with
 | nil => rfl
 | cons b l ih =>
  rw [show ballCells (b :: l) = .int .i64 b.x :: .int .i64 b.y :: .int .i64 b.r :: ballCells l from rfl]
  simp only [List.length_cons, ih]
  omega
theorem ballCells_append (l m : List Ec.Ball) : ballCells (l ++ m) = ballCells l ++ ballCells m := by simp [ballCells]
theorem ballCells_get : ∀ (l : List Ec.Ball) (k : Nat) (hk : k < l.length), (ballCells l)[k * 3]? = some (.int .i64 (Ec.ballAt l k).x) ∧ (ballCells l)[k * 3 + 1]? = some (.int .i64 (Ec.ballAt l k).y) ∧ (ballCells l)[k * 3 + 2]? = some (.int .i64 (Ec.ballAt l k).r)
 | b :: l, 0, _ => ⟨rfl, rfl, rfl⟩
 | b :: l, k + 1, hk => by
  have ih := ballCells_get l k (by simpa using hk)
  rw [show ballCells (b :: l) = .int .i64 b.x :: .int .i64 b.y :: .int .i64 b.r :: ballCells l from rfl, show (k + 1) * 3 = k * 3 + 1 + 1 + 1 by omega]
  exact ih
theorem ballCells_set : ∀ (l : List Ec.Ball) (k : Nat) (hk : k < l.length) (x y r : Int), (((ballCells l).set (k * 3) (.int .i64 x)).set (k * 3 + 1) (.int .i64 y)).set (k * 3 + 2) (.int .i64 r) = ballCells (l.set k ⟨x, y, r⟩)
 | b :: l, 0, _, x, y, r => rfl
 | b :: l, k + 1, hk, x, y, r => by
  have ih := ballCells_set l k (by simpa using hk) x y r
  rw [show ballCells (b :: l) = .int .i64 b.x :: .int .i64 b.y :: .int .i64 b.r :: ballCells l from rfl, show (k + 1) * 3 = k * 3 + 1 + 1 + 1 by omega]
  simp only [List.set_cons_succ, ih]
  rfl
theorem BallsAt.of_own {w : World} {base g cap n : Nat} {l : List Ec.Ball} (h : w.ownsRow base 51 3 (.slice (some ⟨g, 0, none⟩) n cap) n (ballCells l)) (hn : n = l.length) : BallsAt w (some ⟨g, 0, none⟩) l := fun _ =>
 ⟨g, 0, rfl, fun k hk => by
  have hg := ballCells_get l k hk
  have h0 := h.cellAt (k * 3) (by omega)
  have h1 := h.cellAt (k * 3 + 1) (by omega)
  have h2 := h.cellAt (k * 3 + 2) (by omega)
  rw [hg.1] at h0
  rw [hg.2.1] at h1
  rw [hg.2.2] at h2
  simp only [Nat.zero_add]
  exact ⟨h0, h1, h2⟩⟩
theorem own_cap {w : World} {base g cap n size : Nat} {t : TypeId} {xs : List Value} (h : w.ownsRow base t size (.slice (some ⟨g, 0, none⟩) n cap) n xs) : n ≤ cap := by
 rcases h.2 with ⟨e, _⟩ | ⟨g', cap', cur, e, _, _, hc, _⟩
 ·cases e
 ·cases e
  exact hc
theorem balls_news {w : World} {b o : Nat} {l : List Ec.Ball} (h : ∀ k, k < l.length → w.cell? ⟨b, o + k * 3, none⟩ = some (.int .i64 (Ec.ballAt l k).x) ∧ w.cell? ⟨b, o + k * 3 + 1, none⟩ = some (.int .i64 (Ec.ballAt l k).y) ∧ w.cell? ⟨b, o + k * 3 + 2, none⟩ = some (.int .i64 (Ec.ballAt l k).r)) :
  ∀ j u, (ballCells l)[j]? = some u → w.cell? ((⟨b, o, none⟩ : Addr).add j) = some u := by
 intro j u hj
 have hlt : j < l.length * 3 := by
  rw [← ballCells_length]
  exact (List.getElem?_eq_some_iff.1 hj).1
 have hk : j / 3 < l.length := by omega
 have hg := ballCells_get l (j / 3) hk
 have hc := h (j / 3) hk
 rw [show (⟨b, o, none⟩ : Addr).add j = ⟨b, o + j, none⟩ by simp [Addr.add]]
 rcases (show j % 3 = 0 ∨ j % 3 = 1 ∨ j % 3 = 2 by omega) with hm | hm | hm
 ·have e : j / 3 * 3 = j := by omega
  have e2 : o + j / 3 * 3 = o + j := by omega
  rw [e] at hg
  rw [e2] at hc
  rw [hc.1, ← hg.1, hj]
 ·have e : j / 3 * 3 + 1 = j := by omega
  have e2 : o + j / 3 * 3 + 1 = o + j := by omega
  rw [e] at hg
  rw [e2] at hc
  rw [hc.2.1, ← hg.2.1, hj]
 ·have e : j / 3 * 3 + 2 = j := by omega
  have e2 : o + j / 3 * 3 + 2 = o + j := by omega
  rw [e] at hg
  rw [e2] at hc
  rw [hc.2.2, ← hg.2.2, hj]
theorem balls_one (l : List Ec.Ball) : ∀ u ∈ ballCells l, u.oneCell' = true := by
 intro u hu
 obtain ⟨b, _, hb⟩ := List.mem_flatMap.1 hu
 simp only [List.mem_cons, List.not_mem_nil, or_false] at hb
 rcases hb with rfl | rfl | rfl <;> rfl
theorem info_ball : (Tryz.prog.info? 51).map (fun i => (i.zero, i.size, i.bytes)) = some (some (.agg #[.int .i64 0, .int .i64 0, .int .i64 0]), 3, 24) := by kernel_rfl
theorem wpList_append_balls {w : World} {ops : Array Oper} {rest : List Oper} {o : Oper} {a : Act} {Q : Exit → Act → World → Prop} (hgd : o.guard = none) (s x : Operand)
  (ho : o.op = .call { callee := .builtin .append, args := #[s, x], argTypes := #[37, 37] })
  (l : List Ec.Ball) (A : Option Addr) (c : Nat) (hs : a.eval s = .slice none 0 0) (hx : a.eval x = .slice A l.length c) (hm : BallsAt w A l) (h0 : 0 < l.length) (hl : l.length ≤ 1000) (H : Nat) (hH : w.heap.size = H)
  (h : ∀ cap w', w'.ownsRow H 51 3 (.slice (some ⟨H, 0, none⟩) l.length cap) l.length (ballCells l) → Ext w w' → H < w'.heap.size → wpList Tryz.prog ops Q rest (a.put o.dst (.slice (some ⟨H, 0, none⟩) l.length cap)) w') :
  wpList Tryz.prog ops Q (o :: rest) a w := by
 obtain ⟨i0, hi0, hi1, hi2, hi3⟩ := info_parts info_ball
 obtain ⟨b, off, rfl, hc⟩ := hm h0
 refine wpList_append_lies w hgd s x 37 ho H 51 i0 _ 3 24 Tryz.underlying37 hi0 hi1 hi2 hi3 rfl (by decide) (.slice none 0 0) 0 [] hs (World.ownsRow_nil _ _ _ _) ⟨b, off, none⟩ l.length c (ballCells l) hx (ballCells_length l) (balls_news hc) (balls_one l) h0 (by simp only [maxLen]; omega) (by omega) (by omega) H hH ?_
 intro g cap w' hown hg hat hlt
 rcases hat with hat | rfl
 ·cases hat
 ·rw [Nat.zero_add, List.nil_append] at hown
  rw [Nat.zero_add]
  exact h cap w' hown ((Ext.refl w).grown hg (fun q hq => by cases hq)) hlt
theorem r7_Put_any (l : List Ec.Ball) (A : Option Addr) (c k : Nat) (x y r : Int) (w : World) (hm : BallsAt w A l) (hk : k < l.length) (hl : l.length ≤ 1000) :
  Calls Tryz.prog 28 #[.slice A l.length c, .int .i64 k, .agg #[.int .i64 x, .int .i64 y, .int .i64 r]] w fun e w' => ∃ g cap, e = .returned (.slice (some ⟨g, 0, none⟩) l.length cap) ∧ l.length ≤ cap ∧ w.heap.size ≤ g ∧ BallsAt w' (some ⟨g, 0, none⟩) (Ec.putB l k ⟨x, y, r⟩) ∧ Ext w w' := by
 have HM := Lib.hid hm
 have HR0 := Lib.hid (Row.new w 51 #[.int .i64 x, .int .i64 y, .int .i64 r])
 have HE0 := Lib.hid ((Ext.refl w).alloc (.cells #[.int .i64 x, .int .i64 y, .int .i64 r] 51))
 have HG := Lib.hid (ballCells_get l k hk)
 have hk1 : (k : Int) < (l.length : Int) := by omega
 clear hm
 go_enter Tryz.func28, Tryz.ntmps28
 go_wp2_with (at_builtin; refine wpList_append_balls rfl _ _ rfl l A c rfl rfl (HM.out.ext HE0.out) (by omega) hl (w.heap.size + 1) (by simp) ?_; intro cap w1 ho hE1 hlt; have HO := Lib.hid ho; have HE1 := Lib.hid (HE0.out.trans hE1); have q := (HR0.out.ext hE1).cell; have t0 := (ho.cellAt (k * 3) (by omega)).trans HG.out.1; have t1 := (ho.cellAt (k * 3 + 1) (by omega)).trans HG.out.2.1; have t2 := (ho.cellAt (k * 3 + 2) (by omega)).trans HG.out.2.2; have f0 := ho.frozenAt (k * 3); have f1 := ho.frozenAt (k * 3 + 1); have f2 := ho.frozenAt (k * 3 + 2); clear ho hE1)
 have HO1 := (((HO.out.stored (k * 3) (.int .i64 x)).1.stored (k * 3 + 1) (.int .i64 y)).1.stored (k * 3 + 2) (.int .i64 r)).1
 rw [ballCells_set l k hk] at HO1
 have HC := own_cap HO1
 have HE2 := ((HE1.out.setCell (p := ⟨w.heap.size + 1, k * 3, none⟩) (Nat.le_succ _) (.int .i64 x)).setCell (p := ⟨w.heap.size + 1, k * 3 + 1, none⟩) (Nat.le_succ _) (.int .i64 y)).setCell (p := ⟨w.heap.size + 1, k * 3 + 2, none⟩) (Nat.le_succ _) (.int .i64 r)
 go_ret
 exact ⟨w.heap.size + 1, cap, rfl, HC, Nat.le_succ _, BallsAt.of_own HO1 (by simp [Ec.putB]), HE2⟩
theorem info_pair : (Tryz.prog.info? 143).map (fun i => (i.zero, i.size, i.bytes)) = some (some (.agg #[.int .i64 0, .int .i64 0]), 2, 16) := by kernel_rfl
def pairCells (l : List Ec.Pair) : List Value := l.flatMap fun m => [.int .i64 m.drives, .int .i64 m.driven]
theorem pairCells_append (l m : List Ec.Pair) : pairCells (l ++ m) = pairCells l ++ pairCells m := by simp [pairCells]
theorem pairCells_get (l : List Ec.Pair) : ∀ k (hk : k < l.length), (pairCells l)[k * 2]? = some (.int .i64 (pd l k).drives) ∧ (pairCells l)[k * 2 + 1]? = some (.int .i64 (pd l k).driven) := by
 induction l with
 | nil => intro k hk; simp at hk
 | cons m l ih =>
  intro k hk
  cases k with
  | zero => simp [pairCells, pd]
  | succ k =>
   have := ih k (by simpa using hk)
   have e : pairCells (m :: l) = [.int .i64 m.drives, .int .i64 m.driven] ++ pairCells l := by simp [pairCells]
   have e2 : pd (m :: l) (k + 1) = pd l k := by simp [pd]
   rw [e, e2, show (k + 1) * 2 = (k * 2) + 2 by omega, show (k * 2) + 2 + 1 = (k * 2 + 1) + 2 by omega]
   simpa using this
def Keeps (B : Nat) (w w' : World) : Prop := ∀ q v, B ≤ q.block → w.cell? q = some v → w'.cell? q = some v
theorem Keeps.of_ext {B : Nat} {w w1 w' : World} (h : Ext w w1) (hk : Keeps B w1 w') : Keeps B w w' := fun q v hq hc => hk q v hq (h.cell hc)
theorem Ext.keeps {w w' : World} (h : Ext w w') (B : Nat) : Keeps B w w' := fun _ _ _ hc => h.cell hc
theorem Keeps.mono {B C : Nat} {w w' : World} (h : Keeps B w w') (hb : B ≤ C) : Keeps C w w' := fun q v hq hc => h q v (by omega) hc
theorem Keeps.trans {B : Nat} {w w1 w' : World} (h : Keeps B w w1) (hk : Keeps B w1 w') : Keeps B w w' := fun q v hq hc => hk q v hq (h q v hq hc)
theorem Keeps.setCell {B : Nat} {w w' : World} (h : Keeps B w w') {p : Addr} (hp : p.block < B) (u : Value) : Keeps B w (w'.setCell p u) := fun q v hq hc => by
 rw [World.cell?_setCell_far w' p q u (by omega)]
 exact h q v hq hc
theorem Keeps.sets {B g : Nat} {w : World} (hg : g < B) : ∀ (vs : List Value) (i : Nat) (W : World), Keeps B w W → Keeps B w (setsAt W g i vs)
 | [], _, _, h => h
 | v :: vs, i, _, h => Keeps.sets hg vs (i + 1) _ (h.setCell (p := ⟨g, i, none⟩) hg v)
def HiP (B : Nat) (w : World) (A : Option Addr) (l : List Ec.Pair) : Prop := ∀ w', Keeps B w w' → Pairs w' A l
theorem HiP.ext {B : Nat} {w w1 : World} {A : Option Addr} {l : List Ec.Pair} (h : HiP B w A l) (he : Ext w w1) : HiP B w1 A l := fun w' hk => h w' (hk.of_ext he)
theorem HiP.mono {B C : Nat} {w : World} {A : Option Addr} {l : List Ec.Pair} (h : HiP B w A l) (hc : C ≤ B) : HiP C w A l := fun w' hk => h w' (hk.mono hc)
theorem Pairs.of_own {w : World} {base : Nat} {v : Value} {l : List Ec.Pair} (h : w.ownsRow base 143 2 v l.length (pairCells l)) : ∃ A c, v = .slice A l.length c ∧ HiP base w A l := by
 rcases h.2 with ⟨rfl, h0⟩ | ⟨g, cap, cur, hv, hb, _⟩
 ·exact ⟨none, 0, by rw [h0], fun _ _ hh => by omega⟩
 ·refine ⟨some ⟨g, 0, none⟩, cap, hv, fun w' hk _ => ⟨g, 0, rfl, fun k hk' => ?_⟩⟩
  have hc := h.cells (g := g) (by rw [hv]; rfl)
  have h1 := hc _ _ (pairCells_get l k hk').1
  have h2 := hc _ _ (pairCells_get l k hk').2
  rw [add0] at h1 h2
  exact ⟨hk _ _ hb (by simpa using h1), hk _ _ hb (by simpa using h2)⟩
theorem l7_train_any (l : List Ec.Pair) (A : Option Addr) (c : Nat) (w : World) (hm : Pairs w A l) (hl : l.length ≤ 1000) :
  Calls Tryz.prog 65 #[.slice A (2 * l.length) c] w fun e w' => ∃ B d, e = .returned (.slice B l.length d) ∧ HiP w.heap.size w' B l ∧ Ext w w' := by
 have HM := Lib.hid hm
 obtain ⟨i0, hi0, hi1, hi2, hi3⟩ := info_parts info_pair
 obtain ⟨N, hN⟩ : ∃ N, 2 * l.length = N := ⟨_, rfl⟩
 rw [hN]
 have hN9 : (N : Int) ≤ 2000 := by omega
 clear hm
 go_enter Tryz.func65, Tryz.ntmps65
 go_wp2_with fail
 go_loopw [3, 4] (fun v i wr => ∃ k : Nat, k ≤ l.length ∧ i = .int .i64 ((2 * k : Nat) : Int) ∧ wr.ownsRow w.heap.size 143 2 v k (pairCells (l.take k)) ∧ Ext w wr) (fun _ i _ => 2 * l.length - (intOf i).toNat)
 case atStart => exact ⟨0, Nat.zero_le _, rfl, by simp [World.ownsRow, pairCells], Ext.refl _⟩
 case round =>
  obtain ⟨k, hk, rfl, hown, hX⟩ := hrel
  have hX9 := hX.size
  by_cases hlt : k < l.length
  ·obtain ⟨b, o, rfl, hcell⟩ := HM.out (by omega)
   obtain ⟨q1, q2⟩ := hcell k hlt
   replace q1 := hX.cell q1
   replace q2 := hX.cell q2
   have htake : l.take (k + 1) = l.take k ++ [pd l k] := by
    rw [List.take_succ_eq_append_getElem hlt]
    unfold pd
    rw [List.getD_eq_getElem?_getD, List.getElem?_eq_getElem hlt]
    rfl
   have HT := Lib.hid htake
   obtain ⟨m, hm⟩ : ∃ m, pd l k = m := ⟨_, rfl⟩
   rw [hm] at q1 q2 HT
   obtain ⟨x, y⟩ := m
   simp only at q1 q2
   obtain ⟨j, hj⟩ : ∃ j : Nat, 2 * k = j := ⟨_, rfl⟩
   rw [hj]
   rw [show o + k * 2 = o + j by omega] at q1
   rw [show o + k * 2 + 1 = o + (j + 1) by omega] at q2
   have hj1 : (j : Int) + 1 < (N : Int) := by omega
   have HJ := Lib.hid hj
   have HNN := Lib.hid hN
   have hj9 : ((j : Int) + 1).toNat = j + 1 := by omega
   have HX := Lib.hid hX
   have HOW := Lib.hid hown
   clear hX hown hcell htake hm hj hN hk
   have q1c := q1
   have q2c := q2
   go_wp2_with fail
   clear q1 q2
   refine wp_region_later_mix (v0 := u3) 11 (by kernel_rfl) (by kernel_rfl) rfl rfl (by kernel_rfl) ?_ (fun W hW => ?_)
   ·intro x
    rfl
   subst hW
   have y1 := fun X : Later W => X.ext.cell q1c
   have y2 := fun X : Later W => X.ext.cell q2c
   clear q1c q2c
   simp only [List.take_succ_cons, List.take_zero, List.drop_succ_cons, List.drop_zero, Act.put, List.setIfInBounds_toArray, List.set_cons_succ, List.set_cons_zero]
   repeat (go_big_quiet_step (fail))
   refine wpQuiet_nil ?_
   rintro ⟨w4, hE4⟩
   dsimp only
   go_wp2
   have hz4 := hE4.size
   refine ⟨⟨⟨_, hE4.alloc _⟩, rfl⟩, ?_⟩
   have hown4 := (ownsRow_of_block HOW.out (fun g hg => hE4.block g (HOW.out.lt g hg).2)).alloc (.cells #[.int .i64 x, .int .i64 y] 143)
   have HO4 := Lib.hid hown4
   clear hown4
   refine wpList_append_lies _ rfl _ _ 73 rfl w.heap.size 143 i0 _ 2 16 Tryz.underlying73 hi0 hi1 hi2 hi3 rfl (by decide) u3 k (pairCells (l.take k)) rfl HO4.out ⟨w4.heap.size, 0, none⟩ 1 1 [.int .i64 x, .int .i64 y] rfl rfl (World.news_of_block (cs := #[.int .i64 x, .int .i64 y]) (t := 143) (fr := (0, 0)) (heap_alloc_new _ _)) (by simp [Value.oneCell']) (by omega) (by simp only [maxLen]; omega) (by omega) (by simp; omega) _ rfl ?_
   intro gg cap w5 hown5 hgrow hat hlt4
   have HO5 := Lib.hid hown5
   have HX5 := Lib.hid (((HX.out.trans hE4).alloc _).grown hgrow (fun g hg => (HO4.out.lt g hg).1))
   clear hown5 hgrow hat hE4 y1 y2
   go_wp2
   refine NoPanic.normal ?_
   go_wp2_with fail
   have hk2 := HJ.out
   refine ⟨⟨k + 1, by omega, by rw [show 2 * (k + 1) = j + 2 by omega]; go_num, ?_, HX5.out⟩, by simp [intOf]; omega⟩
   rw [HT.out]
   simpa [pairCells_append, pairCells] using HO5.out
  ·obtain rfl : k = l.length := by omega
   rw [List.take_length] at hown
   obtain ⟨B, d, rfl, hP⟩ := Pairs.of_own hown
   have HP := Lib.hid hP
   have HX := Lib.hid hX
   clear hX hown hP
   rw [hN]
   go_wp2_with fail
   go_ret
   exact ⟨B, d, rfl, HP.out, HX.out⟩
theorem r7_SameWords_any (A1 A2 : Option Addr) (c1 c2 : Nat) (l1 l2 : List Int) (w : World) (q1 : Ints w A1 l1) (q2 : Ints w A2 l2) (n1 : l1.length ≤ 100000) (n2 : l2.length ≤ 100000) :
  Calls Tryz.prog 21 #[.slice A1 l1.length c1, .slice A2 l2.length c2] w fun e w' => e = .returned (.bool (decide (l1 = l2))) ∧ Ext w w' := by
 by_cases hl : l1.length = l2.length
 ·have HQ1 := Lib.hid q1
  have HQ2 := Lib.hid q2
  clear q1 q2
  rw [← hl]
  go_enter Tryz.func21, Tryz.ntmps21
  go_wp2_with fail
  go_loopw [5] (fun i wr => ∃ k : Nat, k ≤ l1.length ∧ i = .int .i64 k ∧ l1.take k = l2.take k ∧ Ext w wr) (fun i _ => l1.length - (intOf i).toNat)
  case atStart => exact ⟨0, Nat.zero_le _, rfl, rfl, Ext.refl _⟩
  case round =>
   obtain ⟨k, hk, rfl, htk, hE⟩ := hrel
   by_cases hlt : k < l1.length
   ·obtain ⟨b1, o1, rfl, p1⟩ := HQ1.out (by omega)
    obtain ⟨b2, o2, rfl, p2⟩ := HQ2.out (by omega)
    have hlt2 : k < l2.length := by omega
    have a0 := hE.cell (p1 k hlt)
    have d0 := hE.cell (p2 k hlt2)
    have HNX := Lib.hid (fun he => take_eq_succ htk hlt hlt2 he)
    have HNE := Lib.hid (fun (he : ¬ l1[k] = l2[k]) (hh : l1 = l2) => he (by subst hh; rfl))
    clear p1 p2 htk
    by_cases he : l1[k] = l2[k]
    ·have HX := Lib.hid (HNX.out he)
     rw [getrd hlt] at he HNE HNX
     rw [getrd hlt2] at he HNE HNX
     clear HNX HNE
     rw [he] at a0
     go_wp2_with fail
     go_quiet (fail)
     go_wp2_with fail
     refine ⟨⟨k + 1, by omega, by go_num, HX.out, hE.drewN _⟩, by simp [intOf]; omega⟩
    ·have HN2 : Hid (¬ l1 = l2) := Lib.hid (HNE.out he)
     rw [getrd hlt, getrd hlt2] at he
     clear HNX HNE
     go_wp2_with fail
     go_quiet (fail)
     go_wp2_with fail
     go_ret
     exact ⟨ret_bool (by simp [HN2.out]), hE.drewN _⟩
   ·obtain rfl : k = l1.length := by omega
    have HE := Lib.hid hE
    have HEQ : Hid (l1 = l2) := Lib.hid (by rw [List.take_length] at htk; rw [htk, hl, List.take_length])
    clear htk hE hl
    go_wp2_with fail
    go_ret
    exact ⟨ret_bool (by simp [HEQ.out]), HE.out⟩
 ·have HNE : Hid (¬ l1 = l2) := Lib.hid (fun h => hl (by rw [h]))
  have hl' : ¬ ((l1.length : Int) = (l2.length : Int)) := by omega
  clear q1 q2 hl
  go_enter Tryz.func21, Tryz.ntmps21
  go_wp2_with fail
  go_ret
  exact ⟨ret_bool (by simp [HNE.out]), Ext.refl _⟩
end Go.Proofs.YtfkcbgehcbhjnaaGreatDoor
namespace Go.Proofs.YtfkcbgehcbhjnaaGreatDoor
open Sp (rd)
set_option maxRecDepth 100000
def skyG : Sp.Sky := ⟨[⟨360, 1, 0, [0]⟩, ⟨27, 1, 0, [0, 300, 0, -300]⟩], 1800, 1, 1000⟩
def engG : Ec.Engine := ⟨skyG, [⟨4, 16⟩, ⟨4, 36⟩, ⟨4, 40⟩], [⟨4, 11⟩, ⟨4, 39⟩], [⟨4, 32⟩, ⟨4, 60⟩, ⟨4, 60⟩], [10, 20, 40], 1900, 600, 0⟩
def engH : Ec.Engine := ⟨skyG, [⟨4, 16⟩, ⟨4, 36⟩, ⟨4, 40⟩], [⟨4, 11⟩, ⟨4, 39⟩], [⟨4, 32⟩, ⟨4, 60⟩, ⟨4, 60⟩], [10, 20, 40], 0, 313, 0⟩
def ballsB : List Ec.Ball := [⟨10, 0, 3⟩, ⟨20, 0, 4⟩, ⟨20, 8, 3⟩]
def textKE : Bs := [101, 99, 108, 105, 112, 115, 101, 115, 32, 49, 10, 102, 117, 108, 108, 32, 49, 53, 32, 52, 54, 51, 10, 101, 110, 100, 32, 48, 56, 57, 10]
theorem kG : Ec.engineOk engG = true := by decide +kernel
theorem kH : Ec.engineOk engH = true := by decide +kernel
theorem kHands : Ec.sunAt engG [] 15 = 900 ∧ Ec.moonAt engG [] 15 = 12083 ∧ Ec.nodeAt engG [] 15 = 820 := by decide +kernel
theorem kOffs : Ec.sunOff engG [] 15 = 0 ∧ Ec.moonOff engG [] 15 = 83 ∧ Ec.nodeOff engG [] 15 = 0 := by decide +kernel
theorem kFore : Ec.foreL engG [] 1 44 = [⟨15, true, 463⟩, ⟨29, false, 1110⟩] := by decide +kernel
theorem kMiss : Ec.missedL engG [] 1 44 0 = [⟨30, false, 1893⟩] := by decide +kernel
theorem kWithin : Ec.withinO engG [] 1 44 = some 1 := by decide +kernel
theorem kUntil : Ec.untilI engG [] 1 44 0 = 29 := by decide +kernel
theorem kWidens : Ec.widens engH [] 1 44 0 = 150 := by decide +kernel
theorem kSet : Ec.docSet (goodB engG 1 44 0) 3 = some [0] := by decide +kernel
theorem kSetP : Ec.progSet (goodB engG 1 44 0) 3 = some [0] := by rw [Ec.prog_doc]; exact kSet
theorem kBalls : Ec.ballsOk ballsB = true := by decide +kernel
theorem kDark : Ec.darkL ballsB = [1, 3, 2] := by decide +kernel
theorem kTextE : Ec.textE [⟨15, true, 463⟩] = textKE := by decide +kernel
theorem kNumE : Ec.EclNum [⟨15, true, 463⟩] := ⟨fun e he => by rw [List.mem_singleton.1 he]; decide, fun e he => by rw [List.mem_singleton.1 he]; decide⟩
theorem kParseE : Ec.parseE textKE = some [⟨15, true, 463⟩] := (Ec.parse_iffE _ _).2 ⟨kTextE, kNumE⟩
end Go.Proofs.YtfkcbgehcbhjnaaGreatDoor
namespace Go.Proofs.YtfkcbgehcbhjnaaGreatDoor
open Go.RowKit
open Sp (rd)
set_option maxRecDepth 100000
set_option maxHeartbeats 2000000
set_option linter.unusedVariables false
def TrainV (B : Nat) (w : World) (v : Value) (l : List Ec.Pair) : Prop := ∃ A c, v = .slice A l.length c ∧ HiP B w A l
theorem TrainV.ext {B : Nat} {w w' : World} {v : Value} {l : List Ec.Pair} (h : TrainV B w v l) (he : Ext w w') : TrainV B w' v l := let ⟨A, c, e, hP⟩ := h; ⟨A, c, e, hP.ext he⟩
def EngV (B : Nat) (w : World) (v : Value) : Prop := ∃ p : EP, v = .agg #[.slice p.Ab engG.sky.bodies.length p.cb, .int .i64 engG.sky.nnum, .int .i64 engG.sky.nden, .int .i64 engG.sky.nstart, .slice p.As engG.sun.length p.cs, .slice p.Am engG.moon.length p.cm, .slice p.An engG.node.length p.cn, .slice p.Af engG.feasts.length p.cf, .int .i64 engG.nw, .int .i64 engG.fl, .int .i64 engG.wide] ∧ p.At = none ∧ p.ct = 0 ∧ ∀ w', Keeps B w w' → EngAt w' p engG
theorem EngV.ext {B : Nat} {w w' : World} {v : Value} (h : EngV B w v) (he : Ext w w') : EngV B w' v := let ⟨p, e, h1, h2, hP⟩ := h; ⟨p, e, h1, h2, fun W hk => hP W (hk.of_ext he)⟩
def EngVH (w : World) (v : Value) : Prop := ∃ p : EP, v = .agg #[.slice p.Ab engH.sky.bodies.length p.cb, .int .i64 engH.sky.nnum, .int .i64 engH.sky.nden, .int .i64 engH.sky.nstart, .slice p.As engH.sun.length p.cs, .slice p.Am engH.moon.length p.cm, .slice p.An engH.node.length p.cn, .slice p.Af engH.feasts.length p.cf, .int .i64 engH.nw, .int .i64 engH.fl, .int .i64 engH.wide] ∧ p.At = none ∧ p.ct = 0 ∧ EngAt w p engH
theorem sun_row {w : World} {b : Nat} (h : Row w b 3 #[.int .i64 4, .int .i64 16, .int .i64 4, .int .i64 36, .int .i64 4, .int .i64 40]) : Pairs w (some ⟨b, 0, none⟩) engG.sun := fun _ => ⟨b, 0, rfl, fun k hk => by
 have q := h.cell
 match k, hk with
 | 0, _ => exact ⟨(q 0).trans rfl, (q 1).trans rfl⟩
 | 1, _ => exact ⟨(q 2).trans rfl, (q 3).trans rfl⟩
 | 2, _ => exact ⟨(q 4).trans rfl, (q 5).trans rfl⟩
 | k + 3, hk => exact absurd hk (by simp [engG])⟩
theorem moon_row {w : World} {b : Nat} (h : Row w b 3 #[.int .i64 4, .int .i64 11, .int .i64 4, .int .i64 39]) : Pairs w (some ⟨b, 0, none⟩) engG.moon := fun _ => ⟨b, 0, rfl, fun k hk => by
 have q := h.cell
 match k, hk with
 | 0, _ => exact ⟨(q 0).trans rfl, (q 1).trans rfl⟩
 | 1, _ => exact ⟨(q 2).trans rfl, (q 3).trans rfl⟩
 | k + 2, hk => exact absurd hk (by simp [engG])⟩
theorem node_row {w : World} {b : Nat} (h : Row w b 3 #[.int .i64 4, .int .i64 32, .int .i64 4, .int .i64 60, .int .i64 4, .int .i64 60]) : Pairs w (some ⟨b, 0, none⟩) engG.node := fun _ => ⟨b, 0, rfl, fun k hk => by
 have q := h.cell
 match k, hk with
 | 0, _ => exact ⟨(q 0).trans rfl, (q 1).trans rfl⟩
 | 1, _ => exact ⟨(q 2).trans rfl, (q 3).trans rfl⟩
 | 2, _ => exact ⟨(q 4).trans rfl, (q 5).trans rfl⟩
 | k + 3, hk => exact absurd hk (by simp [engG])⟩
theorem feasts_row {w w' : World} {B b : Nat} (hb : B ≤ b) (h : Row w b 3 #[.int .i64 10, .int .i64 20, .int .i64 40]) (hK : Keeps B w w') : Ints w' (some ⟨b, 0, none⟩) engG.feasts := fun _ => ⟨b, 0, rfl, fun k hk => by
 have q := fun i v h1 => hK ⟨b, i, none⟩ v hb ((h.cell i).trans h1)
 match k, hk with
 | 0, _ => exact q 0 _ rfl
 | 1, _ => exact q 1 _ rfl
 | 2, _ => exact q 2 _ rfl
 | k + 3, hk => exact absurd hk (by simp [engG])⟩
def gΦ (B bb sb : Nat) (w0 : World) (i : Nat) (v : Value) (w : World) : Prop :=
 match i with
 | 0 => v = .agg #[.slice (some ⟨bb, 0, none⟩) 2 2, .int .i64 1800, .int .i64 1, .int .i64 1000]
 | 1 => MkAt w0 v w 3 6 #[.int .i64 4, .int .i64 16, .int .i64 4, .int .i64 36, .int .i64 4, .int .i64 40]
 | 2 => TrainV B w v engG.sun
 | 3 => MkAt w0 v w 3 4 #[.int .i64 4, .int .i64 11, .int .i64 4, .int .i64 39]
 | 4 => TrainV B w v engG.moon
 | 5 => MkAt w0 v w 3 6 #[.int .i64 4, .int .i64 32, .int .i64 4, .int .i64 60, .int .i64 4, .int .i64 60]
 | 6 => TrainV B w v engG.node
 | 7 => MkAt w0 v w 3 3 #[.int .i64 10, .int .i64 20, .int .i64 40]
 | _ => EngV B w v
theorem gΦ_mono {B bb sb : Nat} {w0 : World} (i : Nat) (v : Value) (w w' : World) (h : gΦ B bb sb w0 i v w) (he : Ext w w') : gΦ B bb sb w0 i v w' := by
 unfold gΦ at h ⊢
 split at h <;> first
  | exact h
  | exact TrainV.ext h he
  | exact EngV.ext h he
  | exact MkAt.ext h he
  | exact fun hg => MkAt.ext (h hg) he
theorem bodyAt_row {w : World} {g o h c : Nat} {cs rs : Array Value} {B : Sp.Body} (h1 : ∀ i v, cs[i]? = some v → w.cell? ⟨g, i, none⟩ = some v) (h2 : ∀ i v, rs[i]? = some v → w.cell? ⟨h, i, none⟩ = some v) (c0 : cs[o]? = some (.int .i64 B.num)) (c1 : cs[o + 1]? = some (.int .i64 B.den)) (c2 : cs[o + 2]? = some (.int .i64 B.start))
  (c3 : cs[o + 3]? = some (.slice (some ⟨h, 0, none⟩) B.road.length c)) (hr : ∀ k, k < B.road.length → rs[k]? = some (.int .i64 (rd B.road k))) : BodyAt w g o B :=
 ⟨h1 _ _ c0, h1 _ _ c1, h1 _ _ c2, _, _, h1 _ _ c3, fun _ => ⟨h, 0, rfl, fun k hk => by rw [Nat.zero_add]; exact h2 _ _ (hr k hk)⟩⟩
theorem blocks5 (w : World) (c1 c2 c3 c4 c5 : Array Value) (t1 t2 t3 t4 t5 : TypeId) :
  Row (((((w.alloc (.cells c1 t1)).alloc (.cells c2 t2)).alloc (.cells c3 t3)).alloc (.cells c4 t4)).alloc (.cells c5 t5)) w.heap.size t1 c1 ∧
  Row (((((w.alloc (.cells c1 t1)).alloc (.cells c2 t2)).alloc (.cells c3 t3)).alloc (.cells c4 t4)).alloc (.cells c5 t5)) (w.heap.size + 1) t2 c2 ∧
  Row (((((w.alloc (.cells c1 t1)).alloc (.cells c2 t2)).alloc (.cells c3 t3)).alloc (.cells c4 t4)).alloc (.cells c5 t5)) (w.heap.size + 1 + 1) t3 c3 ∧
  Row (((((w.alloc (.cells c1 t1)).alloc (.cells c2 t2)).alloc (.cells c3 t3)).alloc (.cells c4 t4)).alloc (.cells c5 t5)) (w.heap.size + 1 + 1 + 1) t4 c4 ∧
  Row (((((w.alloc (.cells c1 t1)).alloc (.cells c2 t2)).alloc (.cells c3 t3)).alloc (.cells c4 t4)).alloc (.cells c5 t5)) (w.heap.size + 1 + 1 + 1 + 1) t5 c5 := by
 have h1 := ((((Row.new w t1 c1).alloc (.cells c2 t2)).alloc (.cells c3 t3)).alloc (.cells c4 t4)).alloc (.cells c5 t5)
 have h2 := (((Row.new (w.alloc (.cells c1 t1)) t2 c2).alloc (.cells c3 t3)).alloc (.cells c4 t4)).alloc (.cells c5 t5)
 have h3 := ((Row.new ((w.alloc (.cells c1 t1)).alloc (.cells c2 t2)) t3 c3).alloc (.cells c4 t4)).alloc (.cells c5 t5)
 have h4 := (Row.new (((w.alloc (.cells c1 t1)).alloc (.cells c2 t2)).alloc (.cells c3 t3)) t4 c4).alloc (.cells c5 t5)
 have h5 := Row.new ((((w.alloc (.cells c1 t1)).alloc (.cells c2 t2)).alloc (.cells c3 t3)).alloc (.cells c4 t4)) t5 c5
 simp only [World.size_alloc] at h2 h3 h4 h5
 exact ⟨h1, h2, h3, h4, h5⟩
theorem l7_G_any (w : World) : Calls Tryz.prog 33 #[] w fun e w' => ∃ v, e = .returned v ∧ EngV w.heap.size w' v ∧ Ext w w' := by
 go_enter Tryz.func33, Tryz.ntmps33
 go_wp2_with fail
 obtain ⟨b1, b2, b3, b4, b5⟩ := blocks5 w #[.slice none 0 0, .int .i64 0, .int .i64 0, .int .i64 0, .slice none 0 0, .slice none 0 0, .slice none 0 0, .slice none 0 0, .int .i64 0, .int .i64 0, .int .i64 0] #[.int .i64 0] #[.int .i64 0, .int .i64 300, .int .i64 0, .int .i64 (-300)] #[.int .i64 360, .int .i64 1, .int .i64 0, .slice (some ⟨w.heap.size + 1, 0, none⟩) 1 1, .int .i64 27, .int .i64 1, .int .i64 0, .slice (some ⟨w.heap.size + 1 + 1, 0, none⟩) 4 4] #[.slice (some ⟨w.heap.size + 1 + 1 + 1, 0, none⟩) 2 2, .int .i64 1800, .int .i64 1, .int .i64 1000] 76 3 3 110 72
 have HE1 := Lib.hid (((((Ext.refl w).alloc (.cells #[.slice none 0 0, .int .i64 0, .int .i64 0, .int .i64 0, .slice none 0 0, .slice none 0 0, .slice none 0 0, .slice none 0 0, .int .i64 0, .int .i64 0, .int .i64 0] 76)).alloc (.cells #[.int .i64 0] 3)).alloc (.cells #[.int .i64 0, .int .i64 300, .int .i64 0, .int .i64 (-300)] 3)).alloc (.cells #[.int .i64 360, .int .i64 1, .int .i64 0, .slice (some ⟨w.heap.size + 1, 0, none⟩) 1 1, .int .i64 27, .int .i64 1, .int .i64 0, .slice (some ⟨w.heap.size + 1 + 1, 0, none⟩) 4 4] 110) |>.alloc (.cells #[.slice (some ⟨w.heap.size + 1 + 1 + 1, 0, none⟩) 2 2, .int .i64 1800, .int .i64 1, .int .i64 1000] 72))
 obtain ⟨bb, hbb⟩ : ∃ bb, w.heap.size + 1 + 1 + 1 = bb := ⟨_, rfl⟩
 obtain ⟨sb, hsb⟩ : ∃ sb, bb + 1 = sb := ⟨_, rfl⟩
 obtain ⟨B, hB⟩ : ∃ B, w.heap.size + 1 = B := ⟨_, rfl⟩
 have HBd : Hid (∀ w', Keeps (w.heap.size + 1) (((((w.alloc (.cells #[.slice none 0 0, .int .i64 0, .int .i64 0, .int .i64 0, .slice none 0 0, .slice none 0 0, .slice none 0 0, .slice none 0 0, .int .i64 0, .int .i64 0, .int .i64 0] 76)).alloc (.cells #[.int .i64 0] 3)).alloc (.cells #[.int .i64 0, .int .i64 300, .int .i64 0, .int .i64 (-300)] 3)).alloc (.cells #[.int .i64 360, .int .i64 1, .int .i64 0, .slice (some ⟨w.heap.size + 1, 0, none⟩) 1 1, .int .i64 27, .int .i64 1, .int .i64 0, .slice (some ⟨w.heap.size + 1 + 1, 0, none⟩) 4 4] 110)).alloc (.cells #[.slice (some ⟨w.heap.size + 1 + 1 + 1, 0, none⟩) 2 2, .int .i64 1800, .int .i64 1, .int .i64 1000] 72)) w' → Bodies w' (some ⟨w.heap.size + 1 + 1 + 1, 0, none⟩) engG.sky.bodies) := Lib.hid (fun w' hK _ => ⟨w.heap.size + 1 + 1 + 1, 0, rfl, fun k hk => by
  have d2 := fun i v h1 => hK ⟨w.heap.size + 1, i, none⟩ v (by simp) ((b2.cell i).trans h1)
  have d3 := fun i v h1 => hK ⟨w.heap.size + 1 + 1, i, none⟩ v (by simp) ((b3.cell i).trans h1)
  have d4 := fun i v h1 => hK ⟨w.heap.size + 1 + 1 + 1, i, none⟩ v (by simp) ((b4.cell i).trans h1)
  match k, hk with
  | 0, _ => exact bodyAt_row (c := 1) d4 d2 rfl rfl rfl rfl (fun k hk => by match k, hk with | 0, _ => rfl)
  | 1, _ => exact bodyAt_row (c := 4) d4 d3 rfl rfl rfl rfl (fun k hk => by match k, hk with | 0, _ => rfl | 1, _ => rfl | 2, _ => rfl | 3, _ => rfl)
  | n + 2, h => exact absurd h (by simp [engG, skyG])⟩)
 have HR0 := Lib.hid b1
 have HSr := Lib.hid b5
 clear b1 b2 b3 b4 b5
 obtain ⟨W, hW⟩ : ∃ W, ((((w.alloc (.cells #[.slice none 0 0, .int .i64 0, .int .i64 0, .int .i64 0, .slice none 0 0, .slice none 0 0, .slice none 0 0, .slice none 0 0, .int .i64 0, .int .i64 0, .int .i64 0] 76)).alloc (.cells #[.int .i64 0] 3)).alloc (.cells #[.int .i64 0, .int .i64 300, .int .i64 0, .int .i64 (-300)] 3)).alloc (.cells #[.int .i64 360, .int .i64 1, .int .i64 0, .slice (some ⟨w.heap.size + 1, 0, none⟩) 1 1, .int .i64 27, .int .i64 1, .int .i64 0, .slice (some ⟨w.heap.size + 1 + 1, 0, none⟩) 4 4] 110)).alloc (.cells #[.slice (some ⟨w.heap.size + 1 + 1 + 1, 0, none⟩) 2 2, .int .i64 1800, .int .i64 1, .int .i64 1000] 72) = W := ⟨_, rfl⟩
 have HBo : Hid (∀ w', Keeps B W w' → Bodies w' (some ⟨bb, 0, none⟩) engG.sky.bodies) := Lib.hid (by rw [← hW, ← hbb, ← hB]; exact HBd.out)
 have HBB : Hid (B ≤ W.heap.size) := Lib.hid (by rw [← hW, ← hB]; simp only [World.size_alloc]; omega)
 have HBw := Lib.hid hB
 have HS : Hid (Row W sb 72 #[.slice (some ⟨bb, 0, none⟩) 2 2, .int .i64 1800, .int .i64 1, .int .i64 1000]) := Lib.hid (by rw [← hW, ← hsb, ← hbb]; exact HSr.out)
 have HR : Hid (Row W w.heap.size 76 #[.slice none 0 0, .int .i64 0, .int .i64 0, .int .i64 0, .slice none 0 0, .slice none 0 0, .slice none 0 0, .slice none 0 0, .int .i64 0, .int .i64 0, .int .i64 0]) := Lib.hid (by rw [← hW]; exact HR0.out)
 have HE : Hid (Ext w W) := Lib.hid (by rw [← hW]; exact HE1.out)
 rw [hW, hbb, hsb]
 clear HBd HR0 HSr HE1 hW hbb hsb hB
 refine wp_region_free_tail 9 9 (gΦ B bb sb W) (by kernel_rfl) (by simp) (by kernel_rfl) (by kernel_rfl) (by kernel_rfl) (by kernel_rfl) gΦ_mono ?hob ?hQ (fun h => absurd h (by omega))
 case hob =>
  intro i o hin ho a wa hE hF
  match i, hin with
  | 0, _ =>
   cases ho
   have h0 : a.tmps[1]?.getD undef = .pointer (some ⟨sb, 0, none⟩) := evalD (hF.old 1 (by decide))
   have q := (Row.ext (HS.out) hE).cell
   refine Ran.value rfl (v := .agg #[.slice (some ⟨bb, 0, none⟩) 2 2, .int .i64 1800, .int .i64 1, .int .i64 1000]) (w1 := wa) ?_ ⟨rfl, Ext.refl _⟩
   go_simp
  | 1, _ =>
   cases ho
   refine Ran.value rfl (v := .slice (some ⟨wa.heap.size, 0, none⟩) 6 6) (w1 := wa.alloc (.cells #[.int .i64 4, .int .i64 16, .int .i64 4, .int .i64 36, .int .i64 4, .int .i64 40] 3)) ?_ ⟨⟨wa.heap.size, rfl, hE.size, Row.new _ _ _⟩, (Ext.refl _).alloc _⟩
   go_simp
  | 2, _ =>
   cases ho
   obtain ⟨b_h0, h0, hb_h0, hr_h0⟩ : MkAt W (a.eval (.tmp 13)) wa 3 6 #[.int .i64 4, .int .i64 16, .int .i64 4, .int .i64 36, .int .i64 4, .int .i64 40] := (hF.from_ 1 13 rfl (by decide))
   replace h0 := evalD h0
   refine Ran.enter rfl (f := 65) (args := #[.slice (some ⟨b_h0, 0, none⟩) 6 6]) (w1 := wa) ?_ ?_
   ·go_simp
   ·refine (l7_train_any engG.sun (some ⟨b_h0, 0, none⟩) 6 wa (sun_row hr_h0) (by decide)).mono ?_
    rintro r w1 ⟨B1, d, rfl, hP, hX⟩
    exact ⟨_, rfl, ⟨B1, d, rfl, hP.mono (Nat.le_trans HBB.out hE.size)⟩, hX⟩
  | 3, _ =>
   cases ho
   refine Ran.value rfl (v := .slice (some ⟨wa.heap.size, 0, none⟩) 4 4) (w1 := wa.alloc (.cells #[.int .i64 4, .int .i64 11, .int .i64 4, .int .i64 39] 3)) ?_ ⟨⟨wa.heap.size, rfl, hE.size, Row.new _ _ _⟩, (Ext.refl _).alloc _⟩
   go_simp
  | 4, _ =>
   cases ho
   obtain ⟨b_h0, h0, hb_h0, hr_h0⟩ : MkAt W (a.eval (.tmp 15)) wa 3 4 #[.int .i64 4, .int .i64 11, .int .i64 4, .int .i64 39] := (hF.from_ 3 15 rfl (by decide))
   replace h0 := evalD h0
   refine Ran.enter rfl (f := 65) (args := #[.slice (some ⟨b_h0, 0, none⟩) 4 4]) (w1 := wa) ?_ ?_
   ·go_simp
   ·refine (l7_train_any engG.moon (some ⟨b_h0, 0, none⟩) 4 wa (moon_row hr_h0) (by decide)).mono ?_
    rintro r w1 ⟨B1, d, rfl, hP, hX⟩
    exact ⟨_, rfl, ⟨B1, d, rfl, hP.mono (Nat.le_trans HBB.out hE.size)⟩, hX⟩
  | 5, _ =>
   cases ho
   refine Ran.value rfl (v := .slice (some ⟨wa.heap.size, 0, none⟩) 6 6) (w1 := wa.alloc (.cells #[.int .i64 4, .int .i64 32, .int .i64 4, .int .i64 60, .int .i64 4, .int .i64 60] 3)) ?_ ⟨⟨wa.heap.size, rfl, hE.size, Row.new _ _ _⟩, (Ext.refl _).alloc _⟩
   go_simp
  | 6, _ =>
   cases ho
   obtain ⟨b_h0, h0, hb_h0, hr_h0⟩ : MkAt W (a.eval (.tmp 17)) wa 3 6 #[.int .i64 4, .int .i64 32, .int .i64 4, .int .i64 60, .int .i64 4, .int .i64 60] := (hF.from_ 5 17 rfl (by decide))
   replace h0 := evalD h0
   refine Ran.enter rfl (f := 65) (args := #[.slice (some ⟨b_h0, 0, none⟩) 6 6]) (w1 := wa) ?_ ?_
   ·go_simp
   ·refine (l7_train_any engG.node (some ⟨b_h0, 0, none⟩) 6 wa (node_row hr_h0) (by decide)).mono ?_
    rintro r w1 ⟨B1, d, rfl, hP, hX⟩
    exact ⟨_, rfl, ⟨B1, d, rfl, hP.mono (Nat.le_trans HBB.out hE.size)⟩, hX⟩
  | 7, _ =>
   cases ho
   refine Ran.value rfl (v := .slice (some ⟨wa.heap.size, 0, none⟩) 3 3) (w1 := wa.alloc (.cells #[.int .i64 10, .int .i64 20, .int .i64 40] 3)) ?_ ⟨⟨wa.heap.size, rfl, hE.size, Row.new _ _ _⟩, (Ext.refl _).alloc _⟩
   go_simp
  | 8, _ =>
   cases ho
   have h12 : a.tmps[12]?.getD undef = .agg #[.slice (some ⟨bb, 0, none⟩) 2 2, .int .i64 1800, .int .i64 1, .int .i64 1000] := evalD ((hF.from_ 0 12 rfl (by decide)))
   obtain ⟨A_h14, c_h14, h14, P_h14⟩ : TrainV B wa (a.eval (.tmp 14)) engG.sun := hF.from_ 2 14 rfl (by decide)
   replace h14 := evalD h14
   obtain ⟨A_h16, c_h16, h16, P_h16⟩ : TrainV B wa (a.eval (.tmp 16)) engG.moon := hF.from_ 4 16 rfl (by decide)
   replace h16 := evalD h16
   obtain ⟨A_h18, c_h18, h18, P_h18⟩ : TrainV B wa (a.eval (.tmp 18)) engG.node := hF.from_ 6 18 rfl (by decide)
   replace h18 := evalD h18
   obtain ⟨b_h19, h19, hb_h19, hr_h19⟩ : MkAt W (a.eval (.tmp 19)) wa 3 3 #[.int .i64 10, .int .i64 20, .int .i64 40] := (hF.from_ 7 19 rfl (by decide))
   replace h19 := evalD h19
   have hv : EngV B wa (.agg #[.slice (some ⟨bb, 0, none⟩) 2 2, .int .i64 1800, .int .i64 1, .int .i64 1000, .slice A_h14 3 c_h14, .slice A_h16 2 c_h16, .slice A_h18 3 c_h18, .slice (some ⟨b_h19, 0, none⟩) 3 3, .int .i64 1900, .int .i64 600, .int .i64 0]) :=
    ⟨⟨some ⟨bb, 0, none⟩, 2, A_h14, c_h14, A_h16, c_h16, A_h18, c_h18, some ⟨b_h19, 0, none⟩, 3, none, 0⟩, rfl, rfl, rfl, fun w' hk => ⟨HBo.out w' (hk.of_ext hE), P_h14 w' hk, P_h16 w' hk, P_h18 w' hk, feasts_row (Nat.le_trans HBB.out hb_h19) hr_h19 hk⟩⟩
   refine Ran.value rfl (v := .agg #[.slice (some ⟨bb, 0, none⟩) 2 2, .int .i64 1800, .int .i64 1, .int .i64 1000, .slice A_h14 3 c_h14, .slice A_h16 2 c_h16, .slice A_h18 3 c_h18, .slice (some ⟨b_h19, 0, none⟩) 3 3, .int .i64 1900, .int .i64 600, .int .i64 0]) (w1 := wa) ?_ ⟨hv, Ext.refl _⟩
   clear hv
   go_simp
   exact ⟨rfl, rfl, rfl⟩
  | k + 9, hin => omega
 case hQ =>
  intro vs w2 hE hΦ
  have f8 : EngV B w2 (vs 8) := hΦ 8 (by omega)
  obtain ⟨v8, hv8⟩ : ∃ v8, vs 8 = v8 := ⟨_, rfl⟩
  have hrg : List.range 9 = [0, 1, 2, 3, 4, 5, 6, 7, 8] := rfl
  unfold putAll putS
  simp only [List.length_cons, List.length_nil, List.take_succ_cons, List.take_zero, List.drop_succ_cons, List.drop_zero, Nat.reduceAdd, hrg, List.foldl_cons, List.foldl_nil, dstOf, List.getElem?_cons_succ, List.getElem?_cons_zero, Option.bind_some]
  clear hrg
  rw [hv8] at f8 ⊢
  generalize vs 0 = v0
  generalize vs 1 = v1
  generalize vs 2 = v2
  generalize vs 3 = v3
  generalize vs 4 = v4
  generalize vs 5 = v5
  generalize vs 6 = v6
  generalize vs 7 = v7
  clear hv8 hΦ vs
  simp only [Act.put, List.setIfInBounds_toArray, List.set_cons_succ, List.set_cons_zero]
  obtain ⟨p, rfl, hp1, hp2, hEng⟩ := f8
  have hr2 := HR.out.ext hE
  have HR2 := Lib.hid hr2
  have HEn := Lib.hid hEng
  have HE2 := Lib.hid (HE.out.trans hE)
  have hz := hr2.lt
  have r0 := hr2.cell
  have fz := hr2.free
  clear hE hEng hr2
  go_wp2
  all_goals clear r0 fz
  obtain ⟨W3, hW3⟩ : ∃ W3, setsAt w2 w.heap.size 0 [.slice p.Ab engG.sky.bodies.length p.cb, .int .i64 engG.sky.nnum, .int .i64 engG.sky.nden, .int .i64 engG.sky.nstart, .slice p.As engG.sun.length p.cs, .slice p.Am engG.moon.length p.cm, .slice p.An engG.node.length p.cn, .slice p.Af engG.feasts.length p.cf, .int .i64 engG.nw, .int .i64 engG.fl, .int .i64 engG.wide] = W3 := ⟨_, rfl⟩
  have hR3 : Row W3 w.heap.size 76 #[.slice p.Ab engG.sky.bodies.length p.cb, .int .i64 engG.sky.nnum, .int .i64 engG.sky.nden, .int .i64 engG.sky.nstart, .slice p.As engG.sun.length p.cs, .slice p.Am engG.moon.length p.cm, .slice p.An engG.node.length p.cn, .slice p.Af engG.feasts.length p.cf, .int .i64 engG.nw, .int .i64 engG.fl, .int .i64 engG.wide] := by rw [← hW3]; exact Row.sets (cs := [.slice none 0 0, .int .i64 0, .int .i64 0, .int .i64 0, .slice none 0 0, .slice none 0 0, .slice none 0 0, .slice none 0 0, .int .i64 0, .int .i64 0, .int .i64 0]) HR2.out _ rfl
  have hE3 : Ext w W3 := by rw [← hW3]; exact Ext.sets (Nat.le_refl _) _ _ _ HE2.out
  have hK3 : Keeps B w2 W3 := by rw [← hW3]; exact Keeps.sets (by have := HBw.out; omega) _ _ _ (fun _ _ _ hc => hc)
  simp only [setsAt, Nat.reduceAdd] at hW3
  rw [hW3]
  clear hW3
  refine bodyPost_ret (results_cell_row rfl _ _ w.heap.size 76 _ (0, 0) _ rfl hR3 Tryz.underlying76 rfl (by kernel_rfl)) rfl ?_
  refine ⟨_, rfl, ⟨p, rfl, hp1, hp2, fun w' hk => HEn.out w' (hK3.trans (hk.mono (by have := HBw.out; omega)))⟩, hE3⟩
theorem l7_H_any (w : World) : Calls Tryz.prog 40 #[] w fun e w' => ∃ v, e = .returned v ∧ EngVH w' v ∧ Ext w w' := by
 go_enter Tryz.func40, Tryz.ntmps40
 have HR0 := Lib.hid (Row.new w 76 #[.slice none 0 0, .int .i64 0, .int .i64 0, .int .i64 0, .slice none 0 0, .slice none 0 0, .slice none 0 0, .slice none 0 0, .int .i64 0, .int .i64 0, .int .i64 0])
 have HE0 := Lib.hid ((Ext.refl w).alloc (.cells #[.slice none 0 0, .int .i64 0, .int .i64 0, .int .i64 0, .slice none 0 0, .slice none 0 0, .slice none 0 0, .slice none 0 0, .int .i64 0, .int .i64 0, .int .i64 0] 76))
 go_wp2_with fail
 refine (l7_G_any _).mono ?_
 rintro e w1 ⟨v, rfl, ⟨p, rfl, hp1, hp2, hEn⟩, hE1⟩
 have HR1 := Lib.hid (HR0.out.ext hE1)
 have HE1 := Lib.hid (HE0.out.trans hE1)
 have HEn := Lib.hid hEn
 have hz1 := hE1.size
 simp only [World.size_alloc] at hz1
 have HRl := HR1.out.lt
 clear HR0 HE0 hE1 hEn
 rename_i Q K1 a1 K a
 have A1 := Lib.hid a1
 clear a1
 have HRT := Lib.hid (Row.new w1 76 #[.slice p.Ab engG.sky.bodies.length p.cb, .int .i64 engG.sky.nnum, .int .i64 engG.sky.nden, .int .i64 engG.sky.nstart, .slice p.As engG.sun.length p.cs, .slice p.Am engG.moon.length p.cm, .slice p.An engG.node.length p.cn, .slice p.Af engG.feasts.length p.cf, .int .i64 engG.nw, .int .i64 engG.fl, .int .i64 engG.wide])
 have HR2 := Lib.hid (HR1.out.alloc (.cells #[.slice p.Ab engG.sky.bodies.length p.cb, .int .i64 engG.sky.nnum, .int .i64 engG.sky.nden, .int .i64 engG.sky.nstart, .slice p.As engG.sun.length p.cs, .slice p.Am engG.moon.length p.cm, .slice p.An engG.node.length p.cn, .slice p.Af engG.feasts.length p.cf, .int .i64 engG.nw, .int .i64 engG.fl, .int .i64 engG.wide] 76))
 have HE2 := Lib.hid (HE1.out.alloc (.cells #[.slice p.Ab engG.sky.bodies.length p.cb, .int .i64 engG.sky.nnum, .int .i64 engG.sky.nden, .int .i64 engG.sky.nstart, .slice p.As engG.sun.length p.cs, .slice p.Am engG.moon.length p.cm, .slice p.An engG.node.length p.cn, .slice p.Af engG.feasts.length p.cf, .int .i64 engG.nw, .int .i64 engG.fl, .int .i64 engG.wide] 76))
 have HK2 := Lib.hid (((Ext.refl w1).alloc (.cells #[.slice p.Ab engG.sky.bodies.length p.cb, .int .i64 engG.sky.nnum, .int .i64 engG.sky.nden, .int .i64 engG.sky.nstart, .slice p.As engG.sun.length p.cs, .slice p.Am engG.moon.length p.cm, .slice p.An engG.node.length p.cn, .slice p.Af engG.feasts.length p.cf, .int .i64 engG.nw, .int .i64 engG.fl, .int .i64 engG.wide] 76)).keeps (w.heap.size + 1))
 have hz2 : (w1.alloc (.cells #[.slice p.Ab engG.sky.bodies.length p.cb, .int .i64 engG.sky.nnum, .int .i64 engG.sky.nden, .int .i64 engG.sky.nstart, .slice p.As engG.sun.length p.cs, .slice p.Am engG.moon.length p.cm, .slice p.An engG.node.length p.cn, .slice p.Af engG.feasts.length p.cf, .int .i64 engG.nw, .int .i64 engG.fl, .int .i64 engG.wide] 76)).heap.size = w1.heap.size + 1 := World.size_alloc _ _
 go_wp2_with fail
 refine A1.out _ _ ?_
 clear A1
 obtain ⟨W2, hW2⟩ : ∃ W2, w1.alloc (.cells #[.slice p.Ab engG.sky.bodies.length p.cb, .int .i64 engG.sky.nnum, .int .i64 engG.sky.nden, .int .i64 engG.sky.nstart, .slice p.As engG.sun.length p.cs, .slice p.Am engG.moon.length p.cm, .slice p.An engG.node.length p.cn, .slice p.Af engG.feasts.length p.cf, .int .i64 engG.nw, .int .i64 engG.fl, .int .i64 engG.wide] 76) = W2 := ⟨_, rfl⟩
 rw [hW2] at HRT HR2 HE2 HK2 hz2 ⊢
 clear hW2
 obtain ⟨g, hg⟩ : ∃ g, w1.heap.size = g := ⟨_, rfl⟩
 rw [hg] at HRT hz1 hz2 HRl ⊢
 have HRT3 : Hid (Row ((W2.setCell ⟨g, 8, none⟩ (.int .i64 0)).setCell ⟨g, 9, none⟩ (.int .i64 313)) g 76 #[.slice p.Ab engH.sky.bodies.length p.cb, .int .i64 engH.sky.nnum, .int .i64 engH.sky.nden, .int .i64 engH.sky.nstart, .slice p.As engH.sun.length p.cs, .slice p.Am engH.moon.length p.cm, .slice p.An engH.node.length p.cn, .slice p.Af engH.feasts.length p.cf, .int .i64 engH.nw, .int .i64 engH.fl, .int .i64 engH.wide]) := Lib.hid (((HRT.out.set_ 8 (.int .i64 0)).set_ 9 (.int .i64 313)))
 have HR3 : Hid (Row ((W2.setCell ⟨g, 8, none⟩ (.int .i64 0)).setCell ⟨g, 9, none⟩ (.int .i64 313)) w.heap.size 76 #[.slice none 0 0, .int .i64 0, .int .i64 0, .int .i64 0, .slice none 0 0, .slice none 0 0, .slice none 0 0, .slice none 0 0, .int .i64 0, .int .i64 0, .int .i64 0]) := Lib.hid ((HR2.out.far (p := ⟨g, 8, none⟩) (by simp; omega) _).far (p := ⟨g, 9, none⟩) (by simp; omega) _)
 have HE3 : Hid (Ext w ((W2.setCell ⟨g, 8, none⟩ (.int .i64 0)).setCell ⟨g, 9, none⟩ (.int .i64 313))) := Lib.hid ((HE2.out.setCell (p := ⟨g, 8, none⟩) (by simp; omega) _).setCell (p := ⟨g, 9, none⟩) (by simp; omega) _)
 have r0 := HRT.out.cell
 have f0 := HRT.out.free
 have hk3 : Keeps (w.heap.size + 1) w1 ((W2.setCell ⟨g, 8, none⟩ (.int .i64 0)).setCell ⟨g, 9, none⟩ (.int .i64 313)) := fun q v hq hc => by
  have hlt := lt_of_cell hc
  rw [World.cell?_setCell_far _ _ _ _ (by simp; omega), World.cell?_setCell_far _ _ _ _ (by simp; omega)]
  exact HK2.out q v hq hc
 apply wp_seq_k
 intro K5 h5
 have H5 := Lib.hid h5
 clear h5
 go_wp2_with fail
 refine H5.out _ _ ?_
 clear H5 r0 f0
 have hE2 := HEn.out
 simp only [World.size_alloc] at hE2
 obtain ⟨W3, hW3⟩ : ∃ W3, (W2.setCell ⟨g, 8, none⟩ (.int .i64 0)).setCell ⟨g, 9, none⟩ (.int .i64 313) = W3 := ⟨_, rfl⟩
 rw [hW3] at HRT3 HR3 HE3 hk3 ⊢
 have HEn2 := Lib.hid (fun w' (hk : Keeps (w.heap.size + 1) W3 w') => hE2 w' (hk3.trans hk))
 clear hW3 hk3 hE2 HEn HR1 HE1 HRT HR2 HE2 HK2
 have r0 := HRT3.out.cell
 have r1 := HR3.out.cell
 have f1 := HR3.out.free
 go_wp2_with fail
 all_goals clear r0 r1 f1
 obtain ⟨W5, hW5⟩ : ∃ W5, setsAt W3 w.heap.size 0 [.slice p.Ab engH.sky.bodies.length p.cb, .int .i64 engH.sky.nnum, .int .i64 engH.sky.nden, .int .i64 engH.sky.nstart, .slice p.As engH.sun.length p.cs, .slice p.Am engH.moon.length p.cm, .slice p.An engH.node.length p.cn, .slice p.Af engH.feasts.length p.cf, .int .i64 engH.nw, .int .i64 engH.fl, .int .i64 engH.wide] = W5 := ⟨_, rfl⟩
 have hR5 : Row W5 w.heap.size 76 #[.slice p.Ab engH.sky.bodies.length p.cb, .int .i64 engH.sky.nnum, .int .i64 engH.sky.nden, .int .i64 engH.sky.nstart, .slice p.As engH.sun.length p.cs, .slice p.Am engH.moon.length p.cm, .slice p.An engH.node.length p.cn, .slice p.Af engH.feasts.length p.cf, .int .i64 engH.nw, .int .i64 engH.fl, .int .i64 engH.wide] := by rw [← hW5]; exact Row.sets (cs := [.slice none 0 0, .int .i64 0, .int .i64 0, .int .i64 0, .slice none 0 0, .slice none 0 0, .slice none 0 0, .slice none 0 0, .int .i64 0, .int .i64 0, .int .i64 0]) HR3.out _ rfl
 have hE5 : Ext w W5 := by rw [← hW5]; exact Ext.sets (Nat.le_refl _) _ _ _ HE3.out
 have hK5 : Keeps (w.heap.size + 1) W3 W5 := by rw [← hW5]; exact Keeps.sets (Nat.lt_succ_self _) _ _ _ (fun _ _ _ hc => hc)
 simp only [setsAt, Nat.reduceAdd] at hW5
 rw [hW5]
 clear hW5
 have hG := HEn2.out W5 hK5
 refine bodyPost_ret (results_cell_row rfl _ _ w.heap.size 76 _ (0, 0) _ rfl hR5 Tryz.underlying76 rfl (by kernel_rfl)) rfl ?_
 exact ⟨_, rfl, ⟨p, rfl, hp1, hp2, ⟨hG.bodies, hG.sun, hG.moon, hG.node, hG.feasts⟩⟩, hE5⟩
theorem l7_B_any (w : World) : Calls Tryz.prog 42 #[] w fun e w' => ∃ A, e = .returned (.slice A 3 3) ∧ BallsAt w' A ballsB ∧ Ext w w' := by
 go_enter Tryz.func42, Tryz.ntmps42
 go_wp2_with fail
 have q := (Row.new w 51 #[.int .i64 10, .int .i64 0, .int .i64 3, .int .i64 20, .int .i64 0, .int .i64 4, .int .i64 20, .int .i64 8, .int .i64 3]).cell
 go_ret
 refine ⟨_, rfl, fun _ => ⟨w.heap.size, 0, rfl, fun k hk => ?_⟩, (Ext.refl w).alloc _⟩
 match k, hk with
 | 0, _ => exact ⟨(q 0).trans rfl, (q 1).trans rfl, (q 2).trans rfl⟩
 | 1, _ => exact ⟨(q 3).trans rfl, (q 4).trans rfl, (q 5).trans rfl⟩
 | 2, _ => exact ⟨(q 6).trans rfl, (q 7).trans rfl, (q 8).trans rfl⟩
 | k + 3, hk => exact absurd hk (by simp [ballsB])
end Go.Proofs.YtfkcbgehcbhjnaaGreatDoor
