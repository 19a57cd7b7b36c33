/- Volume 12 of the texts that the laws of this seat use: EcGHB EcRPrint EcPars EcRead EcKnown EcRef1: walks of the program's functions, and plain laws. -/
import Derived.Carry
import Derived.BigQuiet
import Derived.Test.YtcbodpnmndbgnaaGreatDoorG11
import Derived.Test.YtcbodpnmndbgnaaGreatDoorG03
import Derived.Test.YtcbodpnmndbgnaaGreatDoorG06
import Derived.Test.YtcbodpnmndbgnaaGreatDoorG07
import Derived.Test.YtcbodpnmndbgnaaGreatDoorG08
import Derived.Test.YtcbodpnmndbgnaaGreatDoorG09
import Derived.Test.YtcbodpnmndbgnaaGreatDoorG10
namespace Go.Proofs.YtcbodpnmndbgnaaGreatDoor
open Go.RowKit
open Sp (rd)
set_option maxRecDepth 100000
set_option maxHeartbeats 2000000
set_option linter.unusedVariables false
def TrainV (B : Nat) (w : World) (v : Value) (l : List Ec.Pair) : Prop := ∃ A c, v = .slice A l.length c ∧ HiP B w A l
theorem TrainV.ext {B : Nat} {w w' : World} {v : Value} {l : List Ec.Pair} (h : TrainV B w v l) (he : Ext w w') : TrainV B w' v l := let ⟨A, c, e, hP⟩ := h; ⟨A, c, e, hP.ext he⟩
def EngV (B : Nat) (w : World) (v : Value) : Prop := ∃ p : EP, v = .agg #[.slice p.Ab engG.sky.bodies.length p.cb, .int .i64 engG.sky.nnum, .int .i64 engG.sky.nden, .int .i64 engG.sky.nstart, .slice p.As engG.sun.length p.cs, .slice p.Am engG.moon.length p.cm, .slice p.An engG.node.length p.cn, .slice p.Af engG.feasts.length p.cf, .int .i64 engG.nw, .int .i64 engG.fl, .int .i64 engG.wide] ∧ p.At = none ∧ p.ct = 0 ∧ ∀ w', Keeps B w w' → EngAt w' p engG
theorem EngV.ext {B : Nat} {w w' : World} {v : Value} (h : EngV B w v) (he : Ext w w') : EngV B w' v := let ⟨p, e, h1, h2, hP⟩ := h; ⟨p, e, h1, h2, fun W hk => hP W (hk.of_ext he)⟩
def EngVH (w : World) (v : Value) : Prop := ∃ p : EP, v = .agg #[.slice p.Ab engH.sky.bodies.length p.cb, .int .i64 engH.sky.nnum, .int .i64 engH.sky.nden, .int .i64 engH.sky.nstart, .slice p.As engH.sun.length p.cs, .slice p.Am engH.moon.length p.cm, .slice p.An engH.node.length p.cn, .slice p.Af engH.feasts.length p.cf, .int .i64 engH.nw, .int .i64 engH.fl, .int .i64 engH.wide] ∧ p.At = none ∧ p.ct = 0 ∧ EngAt w p engH
theorem sun_row {w : World} {b : Nat} (h : Row w b 3 #[.int .i64 4, .int .i64 16, .int .i64 4, .int .i64 36, .int .i64 4, .int .i64 40]) : Pairs w (some ⟨b, 0, none⟩) engG.sun := fun _ => ⟨b, 0, rfl, fun k hk => by
 have q := h.cell
 match k, hk with
 | 0, _ => exact ⟨(q 0).trans rfl, (q 1).trans rfl⟩
 | 1, _ => exact ⟨(q 2).trans rfl, (q 3).trans rfl⟩
 | 2, _ => exact ⟨(q 4).trans rfl, (q 5).trans rfl⟩
 | k + 3, hk => exact absurd hk (by simp [engG])⟩
theorem moon_row {w : World} {b : Nat} (h : Row w b 3 #[.int .i64 4, .int .i64 11, .int .i64 4, .int .i64 39]) : Pairs w (some ⟨b, 0, none⟩) engG.moon := fun _ => ⟨b, 0, rfl, fun k hk => by
 have q := h.cell
 match k, hk with
 | 0, _ => exact ⟨(q 0).trans rfl, (q 1).trans rfl⟩
 | 1, _ => exact ⟨(q 2).trans rfl, (q 3).trans rfl⟩
 | k + 2, hk => exact absurd hk (by simp [engG])⟩
theorem node_row {w : World} {b : Nat} (h : Row w b 3 #[.int .i64 4, .int .i64 32, .int .i64 4, .int .i64 60, .int .i64 4, .int .i64 60]) : Pairs w (some ⟨b, 0, none⟩) engG.node := fun _ => ⟨b, 0, rfl, fun k hk => by
 have q := h.cell
 match k, hk with
 | 0, _ => exact ⟨(q 0).trans rfl, (q 1).trans rfl⟩
 | 1, _ => exact ⟨(q 2).trans rfl, (q 3).trans rfl⟩
 | 2, _ => exact ⟨(q 4).trans rfl, (q 5).trans rfl⟩
 | k + 3, hk => exact absurd hk (by simp [engG])⟩
theorem feasts_row {w w' : World} {B b : Nat} (hb : B ≤ b) (h : Row w b 3 #[.int .i64 10, .int .i64 20, .int .i64 40]) (hK : Keeps B w w') : Ints w' (some ⟨b, 0, none⟩) engG.feasts := fun _ => ⟨b, 0, rfl, fun k hk => by
 have q := fun i v h1 => hK ⟨b, i, none⟩ v hb ((h.cell i).trans h1)
 match k, hk with
 | 0, _ => exact q 0 _ rfl
 | 1, _ => exact q 1 _ rfl
 | 2, _ => exact q 2 _ rfl
 | k + 3, hk => exact absurd hk (by simp [engG])⟩
def gΦ (B bb sb : Nat) (w0 : World) (i : Nat) (v : Value) (w : World) : Prop :=
 match i with
 | 0 => v = .agg #[.slice (some ⟨bb, 0, none⟩) 2 2, .int .i64 1800, .int .i64 1, .int .i64 1000]
 | 1 => MkAt w0 v w 3 6 #[.int .i64 4, .int .i64 16, .int .i64 4, .int .i64 36, .int .i64 4, .int .i64 40]
 | 2 => TrainV B w v engG.sun
 | 3 => MkAt w0 v w 3 4 #[.int .i64 4, .int .i64 11, .int .i64 4, .int .i64 39]
 | 4 => TrainV B w v engG.moon
 | 5 => MkAt w0 v w 3 6 #[.int .i64 4, .int .i64 32, .int .i64 4, .int .i64 60, .int .i64 4, .int .i64 60]
 | 6 => TrainV B w v engG.node
 | 7 => MkAt w0 v w 3 3 #[.int .i64 10, .int .i64 20, .int .i64 40]
 | _ => EngV B w v
theorem gΦ_mono {B bb sb : Nat} {w0 : World} (i : Nat) (v : Value) (w w' : World) (h : gΦ B bb sb w0 i v w) (he : Ext w w') : gΦ B bb sb w0 i v w' := by
 unfold gΦ at h ⊢
 split at h <;> first
  | exact h
  | exact TrainV.ext h he
  | exact EngV.ext h he
  | exact MkAt.ext h he
  | exact fun hg => MkAt.ext (h hg) he
theorem bodyAt_row {w : World} {g o h c : Nat} {cs rs : Array Value} {B : Sp.Body} (h1 : ∀ i v, cs[i]? = some v → w.cell? ⟨g, i, none⟩ = some v) (h2 : ∀ i v, rs[i]? = some v → w.cell? ⟨h, i, none⟩ = some v) (c0 : cs[o]? = some (.int .i64 B.num)) (c1 : cs[o + 1]? = some (.int .i64 B.den)) (c2 : cs[o + 2]? = some (.int .i64 B.start))
  (c3 : cs[o + 3]? = some (.slice (some ⟨h, 0, none⟩) B.road.length c)) (hr : ∀ k, k < B.road.length → rs[k]? = some (.int .i64 (rd B.road k))) : BodyAt w g o B :=
 ⟨h1 _ _ c0, h1 _ _ c1, h1 _ _ c2, _, _, h1 _ _ c3, fun _ => ⟨h, 0, rfl, fun k hk => by rw [Nat.zero_add]; exact h2 _ _ (hr k hk)⟩⟩
theorem blocks5 (w : World) (c1 c2 c3 c4 c5 : Array Value) (t1 t2 t3 t4 t5 : TypeId) :
  Row (((((w.alloc (.cells c1 t1)).alloc (.cells c2 t2)).alloc (.cells c3 t3)).alloc (.cells c4 t4)).alloc (.cells c5 t5)) w.heap.size t1 c1 ∧
  Row (((((w.alloc (.cells c1 t1)).alloc (.cells c2 t2)).alloc (.cells c3 t3)).alloc (.cells c4 t4)).alloc (.cells c5 t5)) (w.heap.size + 1) t2 c2 ∧
  Row (((((w.alloc (.cells c1 t1)).alloc (.cells c2 t2)).alloc (.cells c3 t3)).alloc (.cells c4 t4)).alloc (.cells c5 t5)) (w.heap.size + 1 + 1) t3 c3 ∧
  Row (((((w.alloc (.cells c1 t1)).alloc (.cells c2 t2)).alloc (.cells c3 t3)).alloc (.cells c4 t4)).alloc (.cells c5 t5)) (w.heap.size + 1 + 1 + 1) t4 c4 ∧
  Row (((((w.alloc (.cells c1 t1)).alloc (.cells c2 t2)).alloc (.cells c3 t3)).alloc (.cells c4 t4)).alloc (.cells c5 t5)) (w.heap.size + 1 + 1 + 1 + 1) t5 c5 := by
 have h1 := ((((Row.new w t1 c1).alloc (.cells c2 t2)).alloc (.cells c3 t3)).alloc (.cells c4 t4)).alloc (.cells c5 t5)
 have h2 := (((Row.new (w.alloc (.cells c1 t1)) t2 c2).alloc (.cells c3 t3)).alloc (.cells c4 t4)).alloc (.cells c5 t5)
 have h3 := ((Row.new ((w.alloc (.cells c1 t1)).alloc (.cells c2 t2)) t3 c3).alloc (.cells c4 t4)).alloc (.cells c5 t5)
 have h4 := (Row.new (((w.alloc (.cells c1 t1)).alloc (.cells c2 t2)).alloc (.cells c3 t3)) t4 c4).alloc (.cells c5 t5)
 have h5 := Row.new ((((w.alloc (.cells c1 t1)).alloc (.cells c2 t2)).alloc (.cells c3 t3)).alloc (.cells c4 t4)) t5 c5
 simp only [World.size_alloc] at h2 h3 h4 h5
 exact ⟨h1, h2, h3, h4, h5⟩
theorem l7_G_any (w : World) : Calls Tryz.prog 62 #[] w fun e w' => ∃ v, e = .returned v ∧ EngV w.heap.size w' v ∧ Ext w w' := by
 go_enter Tryz.func62, Tryz.ntmps62
 go_wp2_with fail
 obtain ⟨b1, b2, b3, b4, b5⟩ := blocks5 w #[.slice none 0 0, .int .i64 0, .int .i64 0, .int .i64 0, .slice none 0 0, .slice none 0 0, .slice none 0 0, .slice none 0 0, .int .i64 0, .int .i64 0, .int .i64 0] #[.int .i64 0] #[.int .i64 0, .int .i64 300, .int .i64 0, .int .i64 (-300)] #[.int .i64 360, .int .i64 1, .int .i64 0, .slice (some ⟨w.heap.size + 1, 0, none⟩) 1 1, .int .i64 27, .int .i64 1, .int .i64 0, .slice (some ⟨w.heap.size + 1 + 1, 0, none⟩) 4 4] #[.slice (some ⟨w.heap.size + 1 + 1 + 1, 0, none⟩) 2 2, .int .i64 1800, .int .i64 1, .int .i64 1000] 32 3 3 46 28
 have HE1 := Lib.hid (((((Ext.refl w).alloc (.cells #[.slice none 0 0, .int .i64 0, .int .i64 0, .int .i64 0, .slice none 0 0, .slice none 0 0, .slice none 0 0, .slice none 0 0, .int .i64 0, .int .i64 0, .int .i64 0] 32)).alloc (.cells #[.int .i64 0] 3)).alloc (.cells #[.int .i64 0, .int .i64 300, .int .i64 0, .int .i64 (-300)] 3)).alloc (.cells #[.int .i64 360, .int .i64 1, .int .i64 0, .slice (some ⟨w.heap.size + 1, 0, none⟩) 1 1, .int .i64 27, .int .i64 1, .int .i64 0, .slice (some ⟨w.heap.size + 1 + 1, 0, none⟩) 4 4] 46) |>.alloc (.cells #[.slice (some ⟨w.heap.size + 1 + 1 + 1, 0, none⟩) 2 2, .int .i64 1800, .int .i64 1, .int .i64 1000] 28))
 obtain ⟨bb, hbb⟩ : ∃ bb, w.heap.size + 1 + 1 + 1 = bb := ⟨_, rfl⟩
 obtain ⟨sb, hsb⟩ : ∃ sb, bb + 1 = sb := ⟨_, rfl⟩
 obtain ⟨B, hB⟩ : ∃ B, w.heap.size + 1 = B := ⟨_, rfl⟩
 have HBd : Hid (∀ w', Keeps (w.heap.size + 1) (((((w.alloc (.cells #[.slice none 0 0, .int .i64 0, .int .i64 0, .int .i64 0, .slice none 0 0, .slice none 0 0, .slice none 0 0, .slice none 0 0, .int .i64 0, .int .i64 0, .int .i64 0] 32)).alloc (.cells #[.int .i64 0] 3)).alloc (.cells #[.int .i64 0, .int .i64 300, .int .i64 0, .int .i64 (-300)] 3)).alloc (.cells #[.int .i64 360, .int .i64 1, .int .i64 0, .slice (some ⟨w.heap.size + 1, 0, none⟩) 1 1, .int .i64 27, .int .i64 1, .int .i64 0, .slice (some ⟨w.heap.size + 1 + 1, 0, none⟩) 4 4] 46)).alloc (.cells #[.slice (some ⟨w.heap.size + 1 + 1 + 1, 0, none⟩) 2 2, .int .i64 1800, .int .i64 1, .int .i64 1000] 28)) w' → Bodies w' (some ⟨w.heap.size + 1 + 1 + 1, 0, none⟩) engG.sky.bodies) := Lib.hid (fun w' hK _ => ⟨w.heap.size + 1 + 1 + 1, 0, rfl, fun k hk => by
  have d2 := fun i v h1 => hK ⟨w.heap.size + 1, i, none⟩ v (by simp) ((b2.cell i).trans h1)
  have d3 := fun i v h1 => hK ⟨w.heap.size + 1 + 1, i, none⟩ v (by simp) ((b3.cell i).trans h1)
  have d4 := fun i v h1 => hK ⟨w.heap.size + 1 + 1 + 1, i, none⟩ v (by simp) ((b4.cell i).trans h1)
  match k, hk with
  | 0, _ => exact bodyAt_row (c := 1) d4 d2 rfl rfl rfl rfl (fun k hk => by match k, hk with | 0, _ => rfl)
  | 1, _ => exact bodyAt_row (c := 4) d4 d3 rfl rfl rfl rfl (fun k hk => by match k, hk with | 0, _ => rfl | 1, _ => rfl | 2, _ => rfl | 3, _ => rfl)
  | n + 2, h => exact absurd h (by simp [engG, skyG])⟩)
 have HR0 := Lib.hid b1
 have HSr := Lib.hid b5
 clear b1 b2 b3 b4 b5
 obtain ⟨W, hW⟩ : ∃ W, ((((w.alloc (.cells #[.slice none 0 0, .int .i64 0, .int .i64 0, .int .i64 0, .slice none 0 0, .slice none 0 0, .slice none 0 0, .slice none 0 0, .int .i64 0, .int .i64 0, .int .i64 0] 32)).alloc (.cells #[.int .i64 0] 3)).alloc (.cells #[.int .i64 0, .int .i64 300, .int .i64 0, .int .i64 (-300)] 3)).alloc (.cells #[.int .i64 360, .int .i64 1, .int .i64 0, .slice (some ⟨w.heap.size + 1, 0, none⟩) 1 1, .int .i64 27, .int .i64 1, .int .i64 0, .slice (some ⟨w.heap.size + 1 + 1, 0, none⟩) 4 4] 46)).alloc (.cells #[.slice (some ⟨w.heap.size + 1 + 1 + 1, 0, none⟩) 2 2, .int .i64 1800, .int .i64 1, .int .i64 1000] 28) = W := ⟨_, rfl⟩
 have HBo : Hid (∀ w', Keeps B W w' → Bodies w' (some ⟨bb, 0, none⟩) engG.sky.bodies) := Lib.hid (by rw [← hW, ← hbb, ← hB]; exact HBd.out)
 have HBB : Hid (B ≤ W.heap.size) := Lib.hid (by rw [← hW, ← hB]; simp only [World.size_alloc]; omega)
 have HBw := Lib.hid hB
 have HS : Hid (Row W sb 28 #[.slice (some ⟨bb, 0, none⟩) 2 2, .int .i64 1800, .int .i64 1, .int .i64 1000]) := Lib.hid (by rw [← hW, ← hsb, ← hbb]; exact HSr.out)
 have HR : Hid (Row W w.heap.size 32 #[.slice none 0 0, .int .i64 0, .int .i64 0, .int .i64 0, .slice none 0 0, .slice none 0 0, .slice none 0 0, .slice none 0 0, .int .i64 0, .int .i64 0, .int .i64 0]) := Lib.hid (by rw [← hW]; exact HR0.out)
 have HE : Hid (Ext w W) := Lib.hid (by rw [← hW]; exact HE1.out)
 rw [hW, hbb, hsb]
 clear HBd HR0 HSr HE1 hW hbb hsb hB
 refine wp_region_free_tail 9 9 (gΦ B bb sb W) (by kernel_rfl) (by simp) (by kernel_rfl) (by kernel_rfl) (by kernel_rfl) (by kernel_rfl) gΦ_mono ?hob ?hQ (fun h => absurd h (by omega))
 case hob =>
  intro i o hin ho a wa hE hF
  match i, hin with
  | 0, _ =>
   cases ho
   have h0 : a.tmps[1]?.getD undef = .pointer (some ⟨sb, 0, none⟩) := evalD (hF.old 1 (by decide))
   have q := (Row.ext (HS.out) hE).cell
   refine Ran.value rfl (v := .agg #[.slice (some ⟨bb, 0, none⟩) 2 2, .int .i64 1800, .int .i64 1, .int .i64 1000]) (w1 := wa) ?_ ⟨rfl, Ext.refl _⟩
   go_simp
  | 1, _ =>
   cases ho
   refine Ran.value rfl (v := .slice (some ⟨wa.heap.size, 0, none⟩) 6 6) (w1 := wa.alloc (.cells #[.int .i64 4, .int .i64 16, .int .i64 4, .int .i64 36, .int .i64 4, .int .i64 40] 3)) ?_ ⟨⟨wa.heap.size, rfl, hE.size, Row.new _ _ _⟩, (Ext.refl _).alloc _⟩
   go_simp
  | 2, _ =>
   cases ho
   obtain ⟨b_h0, h0, hb_h0, hr_h0⟩ : MkAt W (a.eval (.tmp 13)) wa 3 6 #[.int .i64 4, .int .i64 16, .int .i64 4, .int .i64 36, .int .i64 4, .int .i64 40] := (hF.from_ 1 13 rfl (by decide))
   replace h0 := evalD h0
   refine Ran.enter rfl (f := 115) (args := #[.slice (some ⟨b_h0, 0, none⟩) 6 6]) (w1 := wa) ?_ ?_
   ·go_simp
   ·refine (l7_train_any engG.sun (some ⟨b_h0, 0, none⟩) 6 wa (sun_row hr_h0) (by decide)).mono ?_
    rintro r w1 ⟨B1, d, rfl, hP, hX⟩
    exact ⟨_, rfl, ⟨B1, d, rfl, hP.mono (Nat.le_trans HBB.out hE.size)⟩, hX⟩
  | 3, _ =>
   cases ho
   refine Ran.value rfl (v := .slice (some ⟨wa.heap.size, 0, none⟩) 4 4) (w1 := wa.alloc (.cells #[.int .i64 4, .int .i64 11, .int .i64 4, .int .i64 39] 3)) ?_ ⟨⟨wa.heap.size, rfl, hE.size, Row.new _ _ _⟩, (Ext.refl _).alloc _⟩
   go_simp
  | 4, _ =>
   cases ho
   obtain ⟨b_h0, h0, hb_h0, hr_h0⟩ : MkAt W (a.eval (.tmp 15)) wa 3 4 #[.int .i64 4, .int .i64 11, .int .i64 4, .int .i64 39] := (hF.from_ 3 15 rfl (by decide))
   replace h0 := evalD h0
   refine Ran.enter rfl (f := 115) (args := #[.slice (some ⟨b_h0, 0, none⟩) 4 4]) (w1 := wa) ?_ ?_
   ·go_simp
   ·refine (l7_train_any engG.moon (some ⟨b_h0, 0, none⟩) 4 wa (moon_row hr_h0) (by decide)).mono ?_
    rintro r w1 ⟨B1, d, rfl, hP, hX⟩
    exact ⟨_, rfl, ⟨B1, d, rfl, hP.mono (Nat.le_trans HBB.out hE.size)⟩, hX⟩
  | 5, _ =>
   cases ho
   refine Ran.value rfl (v := .slice (some ⟨wa.heap.size, 0, none⟩) 6 6) (w1 := wa.alloc (.cells #[.int .i64 4, .int .i64 32, .int .i64 4, .int .i64 60, .int .i64 4, .int .i64 60] 3)) ?_ ⟨⟨wa.heap.size, rfl, hE.size, Row.new _ _ _⟩, (Ext.refl _).alloc _⟩
   go_simp
  | 6, _ =>
   cases ho
   obtain ⟨b_h0, h0, hb_h0, hr_h0⟩ : MkAt W (a.eval (.tmp 17)) wa 3 6 #[.int .i64 4, .int .i64 32, .int .i64 4, .int .i64 60, .int .i64 4, .int .i64 60] := (hF.from_ 5 17 rfl (by decide))
   replace h0 := evalD h0
   refine Ran.enter rfl (f := 115) (args := #[.slice (some ⟨b_h0, 0, none⟩) 6 6]) (w1 := wa) ?_ ?_
   ·go_simp
   ·refine (l7_train_any engG.node (some ⟨b_h0, 0, none⟩) 6 wa (node_row hr_h0) (by decide)).mono ?_
    rintro r w1 ⟨B1, d, rfl, hP, hX⟩
    exact ⟨_, rfl, ⟨B1, d, rfl, hP.mono (Nat.le_trans HBB.out hE.size)⟩, hX⟩
  | 7, _ =>
   cases ho
   refine Ran.value rfl (v := .slice (some ⟨wa.heap.size, 0, none⟩) 3 3) (w1 := wa.alloc (.cells #[.int .i64 10, .int .i64 20, .int .i64 40] 3)) ?_ ⟨⟨wa.heap.size, rfl, hE.size, Row.new _ _ _⟩, (Ext.refl _).alloc _⟩
   go_simp
  | 8, _ =>
   cases ho
   have h12 : a.tmps[12]?.getD undef = .agg #[.slice (some ⟨bb, 0, none⟩) 2 2, .int .i64 1800, .int .i64 1, .int .i64 1000] := evalD ((hF.from_ 0 12 rfl (by decide)))
   obtain ⟨A_h14, c_h14, h14, P_h14⟩ : TrainV B wa (a.eval (.tmp 14)) engG.sun := hF.from_ 2 14 rfl (by decide)
   replace h14 := evalD h14
   obtain ⟨A_h16, c_h16, h16, P_h16⟩ : TrainV B wa (a.eval (.tmp 16)) engG.moon := hF.from_ 4 16 rfl (by decide)
   replace h16 := evalD h16
   obtain ⟨A_h18, c_h18, h18, P_h18⟩ : TrainV B wa (a.eval (.tmp 18)) engG.node := hF.from_ 6 18 rfl (by decide)
   replace h18 := evalD h18
   obtain ⟨b_h19, h19, hb_h19, hr_h19⟩ : MkAt W (a.eval (.tmp 19)) wa 3 3 #[.int .i64 10, .int .i64 20, .int .i64 40] := (hF.from_ 7 19 rfl (by decide))
   replace h19 := evalD h19
   have hv : EngV B wa (.agg #[.slice (some ⟨bb, 0, none⟩) 2 2, .int .i64 1800, .int .i64 1, .int .i64 1000, .slice A_h14 3 c_h14, .slice A_h16 2 c_h16, .slice A_h18 3 c_h18, .slice (some ⟨b_h19, 0, none⟩) 3 3, .int .i64 1900, .int .i64 600, .int .i64 0]) :=
    ⟨⟨some ⟨bb, 0, none⟩, 2, A_h14, c_h14, A_h16, c_h16, A_h18, c_h18, some ⟨b_h19, 0, none⟩, 3, none, 0⟩, rfl, rfl, rfl, fun w' hk => ⟨HBo.out w' (hk.of_ext hE), P_h14 w' hk, P_h16 w' hk, P_h18 w' hk, feasts_row (Nat.le_trans HBB.out hb_h19) hr_h19 hk⟩⟩
   refine Ran.value rfl (v := .agg #[.slice (some ⟨bb, 0, none⟩) 2 2, .int .i64 1800, .int .i64 1, .int .i64 1000, .slice A_h14 3 c_h14, .slice A_h16 2 c_h16, .slice A_h18 3 c_h18, .slice (some ⟨b_h19, 0, none⟩) 3 3, .int .i64 1900, .int .i64 600, .int .i64 0]) (w1 := wa) ?_ ⟨hv, Ext.refl _⟩
   clear hv
   go_simp
   exact ⟨rfl, rfl, rfl⟩
  | k + 9, hin => omega
 case hQ =>
  intro vs w2 hE hΦ
  have f8 : EngV B w2 (vs 8) := hΦ 8 (by omega)
  obtain ⟨v8, hv8⟩ : ∃ v8, vs 8 = v8 := ⟨_, rfl⟩
  have hrg : List.range 9 = [0, 1, 2, 3, 4, 5, 6, 7, 8] := rfl
  unfold putAll putS
  simp only [List.length_cons, List.length_nil, List.take_succ_cons, List.take_zero, List.drop_succ_cons, List.drop_zero, Nat.reduceAdd, hrg, List.foldl_cons, List.foldl_nil, dstOf, List.getElem?_cons_succ, List.getElem?_cons_zero, Option.bind_some]
  clear hrg
  rw [hv8] at f8 ⊢
  generalize vs 0 = v0
  generalize vs 1 = v1
  generalize vs 2 = v2
  generalize vs 3 = v3
  generalize vs 4 = v4
  generalize vs 5 = v5
  generalize vs 6 = v6
  generalize vs 7 = v7
  clear hv8 hΦ vs
  simp only [Act.put, List.setIfInBounds_toArray, List.set_cons_succ, List.set_cons_zero]
  obtain ⟨p, rfl, hp1, hp2, hEng⟩ := f8
  have hr2 := HR.out.ext hE
  have HR2 := Lib.hid hr2
  have HEn := Lib.hid hEng
  have HE2 := Lib.hid (HE.out.trans hE)
  have hz := hr2.lt
  have r0 := hr2.cell
  have fz := hr2.free
  clear hE hEng hr2
  go_wp2
  all_goals clear r0 fz
  obtain ⟨W3, hW3⟩ : ∃ W3, setsAt w2 w.heap.size 0 [.slice p.Ab engG.sky.bodies.length p.cb, .int .i64 engG.sky.nnum, .int .i64 engG.sky.nden, .int .i64 engG.sky.nstart, .slice p.As engG.sun.length p.cs, .slice p.Am engG.moon.length p.cm, .slice p.An engG.node.length p.cn, .slice p.Af engG.feasts.length p.cf, .int .i64 engG.nw, .int .i64 engG.fl, .int .i64 engG.wide] = W3 := ⟨_, rfl⟩
  have hR3 : Row W3 w.heap.size 32 #[.slice p.Ab engG.sky.bodies.length p.cb, .int .i64 engG.sky.nnum, .int .i64 engG.sky.nden, .int .i64 engG.sky.nstart, .slice p.As engG.sun.length p.cs, .slice p.Am engG.moon.length p.cm, .slice p.An engG.node.length p.cn, .slice p.Af engG.feasts.length p.cf, .int .i64 engG.nw, .int .i64 engG.fl, .int .i64 engG.wide] := by rw [← hW3]; exact Row.sets (cs := [.slice none 0 0, .int .i64 0, .int .i64 0, .int .i64 0, .slice none 0 0, .slice none 0 0, .slice none 0 0, .slice none 0 0, .int .i64 0, .int .i64 0, .int .i64 0]) HR2.out _ rfl
  have hE3 : Ext w W3 := by rw [← hW3]; exact Ext.sets (Nat.le_refl _) _ _ _ HE2.out
  have hK3 : Keeps B w2 W3 := by rw [← hW3]; exact Keeps.sets (by have := HBw.out; omega) _ _ _ (fun _ _ _ hc => hc)
  simp only [setsAt, Nat.reduceAdd] at hW3
  rw [hW3]
  clear hW3
  refine bodyPost_ret (results_cell_row rfl _ _ w.heap.size 32 _ (0, 0) _ rfl hR3 Tryz.underlying32 rfl (by kernel_rfl)) rfl ?_
  refine ⟨_, rfl, ⟨p, rfl, hp1, hp2, fun w' hk => HEn.out w' (hK3.trans (hk.mono (by have := HBw.out; omega)))⟩, hE3⟩
theorem l7_H_any (w : World) : Calls Tryz.prog 63 #[] w fun e w' => ∃ v, e = .returned v ∧ EngVH w' v ∧ Ext w w' := by
 go_enter Tryz.func63, Tryz.ntmps63
 have HR0 := Lib.hid (Row.new w 32 #[.slice none 0 0, .int .i64 0, .int .i64 0, .int .i64 0, .slice none 0 0, .slice none 0 0, .slice none 0 0, .slice none 0 0, .int .i64 0, .int .i64 0, .int .i64 0])
 have HE0 := Lib.hid ((Ext.refl w).alloc (.cells #[.slice none 0 0, .int .i64 0, .int .i64 0, .int .i64 0, .slice none 0 0, .slice none 0 0, .slice none 0 0, .slice none 0 0, .int .i64 0, .int .i64 0, .int .i64 0] 32))
 go_wp2_with fail
 refine (l7_G_any _).mono ?_
 rintro e w1 ⟨v, rfl, ⟨p, rfl, hp1, hp2, hEn⟩, hE1⟩
 have HR1 := Lib.hid (HR0.out.ext hE1)
 have HE1 := Lib.hid (HE0.out.trans hE1)
 have HEn := Lib.hid hEn
 have hz1 := hE1.size
 simp only [World.size_alloc] at hz1
 have HRl := HR1.out.lt
 clear HR0 HE0 hE1 hEn
 rename_i Q K1 a1 K a
 have A1 := Lib.hid a1
 clear a1
 have HRT := Lib.hid (Row.new w1 32 #[.slice p.Ab engG.sky.bodies.length p.cb, .int .i64 engG.sky.nnum, .int .i64 engG.sky.nden, .int .i64 engG.sky.nstart, .slice p.As engG.sun.length p.cs, .slice p.Am engG.moon.length p.cm, .slice p.An engG.node.length p.cn, .slice p.Af engG.feasts.length p.cf, .int .i64 engG.nw, .int .i64 engG.fl, .int .i64 engG.wide])
 have HR2 := Lib.hid (HR1.out.alloc (.cells #[.slice p.Ab engG.sky.bodies.length p.cb, .int .i64 engG.sky.nnum, .int .i64 engG.sky.nden, .int .i64 engG.sky.nstart, .slice p.As engG.sun.length p.cs, .slice p.Am engG.moon.length p.cm, .slice p.An engG.node.length p.cn, .slice p.Af engG.feasts.length p.cf, .int .i64 engG.nw, .int .i64 engG.fl, .int .i64 engG.wide] 32))
 have HE2 := Lib.hid (HE1.out.alloc (.cells #[.slice p.Ab engG.sky.bodies.length p.cb, .int .i64 engG.sky.nnum, .int .i64 engG.sky.nden, .int .i64 engG.sky.nstart, .slice p.As engG.sun.length p.cs, .slice p.Am engG.moon.length p.cm, .slice p.An engG.node.length p.cn, .slice p.Af engG.feasts.length p.cf, .int .i64 engG.nw, .int .i64 engG.fl, .int .i64 engG.wide] 32))
 have HK2 := Lib.hid (((Ext.refl w1).alloc (.cells #[.slice p.Ab engG.sky.bodies.length p.cb, .int .i64 engG.sky.nnum, .int .i64 engG.sky.nden, .int .i64 engG.sky.nstart, .slice p.As engG.sun.length p.cs, .slice p.Am engG.moon.length p.cm, .slice p.An engG.node.length p.cn, .slice p.Af engG.feasts.length p.cf, .int .i64 engG.nw, .int .i64 engG.fl, .int .i64 engG.wide] 32)).keeps (w.heap.size + 1))
 have hz2 : (w1.alloc (.cells #[.slice p.Ab engG.sky.bodies.length p.cb, .int .i64 engG.sky.nnum, .int .i64 engG.sky.nden, .int .i64 engG.sky.nstart, .slice p.As engG.sun.length p.cs, .slice p.Am engG.moon.length p.cm, .slice p.An engG.node.length p.cn, .slice p.Af engG.feasts.length p.cf, .int .i64 engG.nw, .int .i64 engG.fl, .int .i64 engG.wide] 32)).heap.size = w1.heap.size + 1 := World.size_alloc _ _
 go_wp2_with fail
 refine A1.out _ _ ?_
 clear A1
 obtain ⟨W2, hW2⟩ : ∃ W2, w1.alloc (.cells #[.slice p.Ab engG.sky.bodies.length p.cb, .int .i64 engG.sky.nnum, .int .i64 engG.sky.nden, .int .i64 engG.sky.nstart, .slice p.As engG.sun.length p.cs, .slice p.Am engG.moon.length p.cm, .slice p.An engG.node.length p.cn, .slice p.Af engG.feasts.length p.cf, .int .i64 engG.nw, .int .i64 engG.fl, .int .i64 engG.wide] 32) = W2 := ⟨_, rfl⟩
 rw [hW2] at HRT HR2 HE2 HK2 hz2 ⊢
 clear hW2
 obtain ⟨g, hg⟩ : ∃ g, w1.heap.size = g := ⟨_, rfl⟩
 rw [hg] at HRT hz1 hz2 HRl ⊢
 have HRT3 : Hid (Row ((W2.setCell ⟨g, 8, none⟩ (.int .i64 0)).setCell ⟨g, 9, none⟩ (.int .i64 313)) g 32 #[.slice p.Ab engH.sky.bodies.length p.cb, .int .i64 engH.sky.nnum, .int .i64 engH.sky.nden, .int .i64 engH.sky.nstart, .slice p.As engH.sun.length p.cs, .slice p.Am engH.moon.length p.cm, .slice p.An engH.node.length p.cn, .slice p.Af engH.feasts.length p.cf, .int .i64 engH.nw, .int .i64 engH.fl, .int .i64 engH.wide]) := Lib.hid (((HRT.out.set_ 8 (.int .i64 0)).set_ 9 (.int .i64 313)))
 have HR3 : Hid (Row ((W2.setCell ⟨g, 8, none⟩ (.int .i64 0)).setCell ⟨g, 9, none⟩ (.int .i64 313)) w.heap.size 32 #[.slice none 0 0, .int .i64 0, .int .i64 0, .int .i64 0, .slice none 0 0, .slice none 0 0, .slice none 0 0, .slice none 0 0, .int .i64 0, .int .i64 0, .int .i64 0]) := Lib.hid ((HR2.out.far (p := ⟨g, 8, none⟩) (by simp; omega) _).far (p := ⟨g, 9, none⟩) (by simp; omega) _)
 have HE3 : Hid (Ext w ((W2.setCell ⟨g, 8, none⟩ (.int .i64 0)).setCell ⟨g, 9, none⟩ (.int .i64 313))) := Lib.hid ((HE2.out.setCell (p := ⟨g, 8, none⟩) (by simp; omega) _).setCell (p := ⟨g, 9, none⟩) (by simp; omega) _)
 have r0 := HRT.out.cell
 have f0 := HRT.out.free
 have hk3 : Keeps (w.heap.size + 1) w1 ((W2.setCell ⟨g, 8, none⟩ (.int .i64 0)).setCell ⟨g, 9, none⟩ (.int .i64 313)) := fun q v hq hc => by
  have hlt := lt_of_cell hc
  rw [World.cell?_setCell_far _ _ _ _ (by simp; omega), World.cell?_setCell_far _ _ _ _ (by simp; omega)]
  exact HK2.out q v hq hc
 apply wp_seq_k
 intro K5 h5
 have H5 := Lib.hid h5
 clear h5
 go_wp2_with fail
 refine H5.out _ _ ?_
 clear H5 r0 f0
 have hE2 := HEn.out
 simp only [World.size_alloc] at hE2
 obtain ⟨W3, hW3⟩ : ∃ W3, (W2.setCell ⟨g, 8, none⟩ (.int .i64 0)).setCell ⟨g, 9, none⟩ (.int .i64 313) = W3 := ⟨_, rfl⟩
 rw [hW3] at HRT3 HR3 HE3 hk3 ⊢
 have HEn2 := Lib.hid (fun w' (hk : Keeps (w.heap.size + 1) W3 w') => hE2 w' (hk3.trans hk))
 clear hW3 hk3 hE2 HEn HR1 HE1 HRT HR2 HE2 HK2
 have r0 := HRT3.out.cell
 have r1 := HR3.out.cell
 have f1 := HR3.out.free
 go_wp2_with fail
 all_goals clear r0 r1 f1
 obtain ⟨W5, hW5⟩ : ∃ W5, setsAt W3 w.heap.size 0 [.slice p.Ab engH.sky.bodies.length p.cb, .int .i64 engH.sky.nnum, .int .i64 engH.sky.nden, .int .i64 engH.sky.nstart, .slice p.As engH.sun.length p.cs, .slice p.Am engH.moon.length p.cm, .slice p.An engH.node.length p.cn, .slice p.Af engH.feasts.length p.cf, .int .i64 engH.nw, .int .i64 engH.fl, .int .i64 engH.wide] = W5 := ⟨_, rfl⟩
 have hR5 : Row W5 w.heap.size 32 #[.slice p.Ab engH.sky.bodies.length p.cb, .int .i64 engH.sky.nnum, .int .i64 engH.sky.nden, .int .i64 engH.sky.nstart, .slice p.As engH.sun.length p.cs, .slice p.Am engH.moon.length p.cm, .slice p.An engH.node.length p.cn, .slice p.Af engH.feasts.length p.cf, .int .i64 engH.nw, .int .i64 engH.fl, .int .i64 engH.wide] := by rw [← hW5]; exact Row.sets (cs := [.slice none 0 0, .int .i64 0, .int .i64 0, .int .i64 0, .slice none 0 0, .slice none 0 0, .slice none 0 0, .slice none 0 0, .int .i64 0, .int .i64 0, .int .i64 0]) HR3.out _ rfl
 have hE5 : Ext w W5 := by rw [← hW5]; exact Ext.sets (Nat.le_refl _) _ _ _ HE3.out
 have hK5 : Keeps (w.heap.size + 1) W3 W5 := by rw [← hW5]; exact Keeps.sets (Nat.lt_succ_self _) _ _ _ (fun _ _ _ hc => hc)
 simp only [setsAt, Nat.reduceAdd] at hW5
 rw [hW5]
 clear hW5
 have hG := HEn2.out W5 hK5
 refine bodyPost_ret (results_cell_row rfl _ _ w.heap.size 32 _ (0, 0) _ rfl hR5 Tryz.underlying32 rfl (by kernel_rfl)) rfl ?_
 exact ⟨_, rfl, ⟨p, rfl, hp1, hp2, ⟨hG.bodies, hG.sun, hG.moon, hG.node, hG.feasts⟩⟩, hE5⟩
theorem l7_B_any (w : World) : Calls Tryz.prog 65 #[] w fun e w' => ∃ A, e = .returned (.slice A 3 3) ∧ BallsAt w' A ballsB ∧ Ext w w' := by
 go_enter Tryz.func65, Tryz.ntmps65
 go_wp2_with fail
 have q := (Row.new w 145 #[.int .i64 10, .int .i64 0, .int .i64 3, .int .i64 20, .int .i64 0, .int .i64 4, .int .i64 20, .int .i64 8, .int .i64 3]).cell
 go_ret
 refine ⟨_, rfl, fun _ => ⟨w.heap.size, 0, rfl, fun k hk => ?_⟩, (Ext.refl w).alloc _⟩
 match k, hk with
 | 0, _ => exact ⟨(q 0).trans rfl, (q 1).trans rfl, (q 2).trans rfl⟩
 | 1, _ => exact ⟨(q 3).trans rfl, (q 4).trans rfl, (q 5).trans rfl⟩
 | 2, _ => exact ⟨(q 6).trans rfl, (q 7).trans rfl, (q 8).trans rfl⟩
 | k + 3, hk => exact absurd hk (by simp [ballsB])
end Go.Proofs.YtcbodpnmndbgnaaGreatDoor
namespace Go.Proofs.YtcbodpnmndbgnaaGreatDoor
open Go.RowKit
open Sp (rd)
open Ec (wEcl wNew wFull eWord eLine tabE checkE textE EclNum)
set_option maxRecDepth 100000 in
set_option maxHeartbeats 4000000 in
theorem r7_Print_any (l : List Sp.Ecl) (A : Option Addr) (c : Nat) (w : World) (hm : EclAt w A l) (h : EclNum l) (hfew : l.length ≤ 1000) :
  Calls Tryz.prog 68 #[.slice A l.length c] w fun e w' => e = .returned (.string (bs (textE l))) ∧ Ext w w' := by
 have HM := Lib.hid hm
 have HS := Lib.hid h
 clear hm h
 obtain ⟨i0, hi0, hz0, hz1, hz2⟩ := info_parts info_string
 have hil := itoa_small (n := (l.length : Int)) (by omega) (by omega)
 have HL0 : Hid (lineL wEcl [(l.length : Int)] = [101, 99, 108, 105, 112, 115, 101, 115, 32] ++ Lib.itoa (l.length : Int)) := Lib.hid (by simp [lineL, wEcl])
 have HD0 := Lib.hid (fun W => r_Decimal_any (l.length : Int) W (by omega) (by omega))
 obtain ⟨I0, hI0⟩ : ∃ I0, Lib.itoa (l.length : Int) = I0 := ⟨_, rfl⟩
 rw [hI0] at HL0 hil HD0
 have g0 : ∀ W : World, (Op.stringOp .add ⟨#[101, 99, 108, 105, 112, 115, 101, 115, 32]⟩ (bs I0)).run Tryz.prog W = .ok (.string (bs ([101, 99, 108, 105, 112, 115, 101, 115, 32] ++ I0))) W := add_str [101, 99, 108, 105, 112, 115, 101, 115, 32] I0 (by simp; omega)
 obtain ⟨L0, hL0⟩ : ∃ L0, [101, 99, 108, 105, 112, 115, 101, 115, 32] ++ I0 = L0 := ⟨_, rfl⟩
 rw [hL0] at g0 HL0
 clear hI0 hL0
 go_enter Tryz.func68, Tryz.ntmps68
 go_wp2_with fail
 refine (HD0.out _).mono ?_
 rintro e w1 ⟨rfl, hE1⟩
 have HE := Lib.hid hE1
 have hzz := hE1.size
 clear hE1
 go_wp2_with fail
 go_loopw [3, 4] (fun v i wr => TextRelE w1 l v i wr) (fun _ i _ => l.length - (intOf i).toNat)
 case atStart => exact ⟨0, Nat.zero_le _, rfl, by have := ownsRow_new w1 9 #[.string (bs L0)] 1 w1.heap.size rfl (by decide) (Nat.le_refl _); simpa [strCells1, linesE, HL0.out] using this, (Ext.refl w1).alloc _⟩
 case round =>
  obtain ⟨k, hk, rfl, hown, hX⟩ := hrel
  by_cases hlt : k < l.length
  ·obtain ⟨b, o, rfl, hc⟩ := (HM.out.ext (HE.out.trans hX)) (by omega)
   obtain ⟨q1, q2, q3⟩ := hc k hlt
   have hsz := hX.size
   have HSUCC := Lib.hid (linesE_succ l k hlt)
   have hmem := List.getElem_mem hlt
   have hn1 := HS.out.day _ hmem
   have hn2 := HS.out.far _ hmem
   have HX := Lib.hid hX
   have HOW := Lib.hid hown
   obtain ⟨m, hm⟩ : ∃ m, l[k] = m := ⟨_, rfl⟩
   rw [hm] at q1 q2 q3 HSUCC hn1 hn2
   have hli := eLine_is m
   have hw4 := eWord_len m.full
   have hd5 := itoa_small hn1.1 hn1.2
   have hf5 := itoa_small hn2.1 hn2.2
   obtain ⟨md, mf, mr⟩ := m
   simp only at q1 q2 q3 hli hw4 hd5 hf5 hn1 hn2
   have HD1 := Lib.hid (fun W => r_Decimal_any md W (by omega) (by omega))
   have HD2 := Lib.hid (fun W => r_Decimal_any mr W (by omega) (by omega))
   obtain ⟨I1, hI1⟩ : ∃ I1, Lib.itoa md = I1 := ⟨_, rfl⟩
   obtain ⟨I2, hI2⟩ : ∃ I2, Lib.itoa mr = I2 := ⟨_, rfl⟩
   rw [hI1] at hli hd5 HD1
   rw [hI2] at hli hf5 HD2
   cases mf
   ·have f1 : ∀ W : World, (Op.stringOp .add ⟨#[110, 101, 119]⟩ ⟨#[32]⟩).run Tryz.prog W = .ok (.string (bs (([110, 101, 119] : Bs) ++ [32]))) W := add_str ([110, 101, 119] : Bs) [32] (by decide)
    have f2 : ∀ W : World, (Op.stringOp .add (bs (([110, 101, 119] : Bs) ++ [32])) (bs I1)).run Tryz.prog W = .ok (.string (bs (([110, 101, 119] : Bs) ++ [32] ++ I1))) W := add_str _ _ (by simp; omega)
    have f3 : ∀ W : World, (Op.stringOp .add (bs (([110, 101, 119] : Bs) ++ [32] ++ I1)) ⟨#[32]⟩).run Tryz.prog W = .ok (.string (bs (([110, 101, 119] : Bs) ++ [32] ++ I1 ++ [32]))) W := add_str _ [32] (by simp; omega)
    have f4 : ∀ W : World, (Op.stringOp .add (bs (([110, 101, 119] : Bs) ++ [32] ++ I1 ++ [32])) (bs I2)).run Tryz.prog W = .ok (.string (bs (([110, 101, 119] : Bs) ++ [32] ++ I1 ++ [32] ++ I2))) W := add_str _ _ (by simp; omega)
    have hli2 : eLine ⟨md, false, mr⟩ = ([110, 101, 119] : Bs) ++ [32] ++ I1 ++ [32] ++ I2 := hli
    rw [← hli2] at f4
    obtain ⟨x, hx⟩ : ∃ x, eLine ⟨md, false, mr⟩ = x := ⟨_, rfl⟩
    rw [hx] at f4 HSUCC
    generalize ([110, 101, 119] : Bs) ++ [32] = T1 at f1 f2 f3 f4
    generalize T1 ++ I1 = T2 at f2 f3 f4
    generalize T2 ++ [32] = T3 at f3 f4
    clear hc hX hown hmem hm hli hli2 hI1 hI2 hx
    have q1c := q1
    have q3c := q3
    go_wp2_with fail
    clear q1 q2 q3
    refine wp_region_later_mix (v0 := u3) 18 (by kernel_rfl) (by kernel_rfl) rfl rfl (by kernel_rfl) ?_ (fun W hW => ?_)
    ·intro x
     rfl
    subst hW
    have y1 := fun X : Later W => X.ext.cell q1c
    have y3 := fun X : Later W => X.ext.cell q3c
    clear q1c q3c
    simp only [List.take_succ_cons, List.take_zero, List.drop_succ_cons, List.drop_zero, Act.put, List.setIfInBounds_toArray, List.set_cons_succ, List.set_cons_zero]
    repeat (go_big_quiet_step (fail))
    go_big_quiet_step ((go_at_call 121; exact Later.call (HD1.out _)))
    repeat (go_big_quiet_step (fail))
    go_big_quiet_step ((go_at_call 121; exact Later.call (HD2.out _)))
    repeat (go_big_quiet_step (fail))
    refine wpQuiet_nil ?_
    rintro ⟨w4, hE4⟩
    dsimp only
    go_wp2
    have hz4 := hE4.size
    refine ⟨⟨⟨_, hE4.alloc _⟩, rfl⟩, ?_⟩
    have hown4 := (ownsRow_of_block HOW.out (fun g hg => hE4.block g (HOW.out.lt g hg).2)).alloc (.cells #[.string (bs x)] 9)
    have HO4 := Lib.hid hown4
    clear hown4
    refine wpList_append_own_at _ rfl _ _ 151 rfl w1.heap.size 9 i0 _ 1 16 Tryz.underlying151 hi0 hz0 hz1 hz2 rfl (by decide) _ (k + 1) (strCells1 (linesE l k)) rfl HO4.out ⟨w4.heap.size, 0, none⟩ 1 1 [.string (bs x)] rfl rfl (World.news_of_block (cs := #[.string (bs x)]) (t := 9) (fr := (0, 0)) (heap_alloc_new _ _)) (by simp [Value.oneCell']) (by simp only [maxLen]; omega) (by omega) (by simp; omega) ?_
    intro v5 w5 hown6 hgrow6 _ _
    have HO6 := Lib.hid hown6
    have HX5 := Lib.hid (((HX.out.trans hE4).alloc _).grown hgrow6 (fun g hg => (HO4.out.lt g hg).1))
    clear hown6 hgrow6 hE4 y1 y3
    go_wp2
    refine NoPanic.normal ?_
    go_wp2_with fail
    go_roundw
    case measure => simp [intOf]; omega
    case rel =>
     refine ⟨k + 1, by omega, by go_num, ?_, HX5.out⟩
     rw [HSUCC.out]
     simpa [strCells1] using HO6.out
   ·have f1 : ∀ W : World, (Op.stringOp .add ⟨#[102, 117, 108, 108]⟩ ⟨#[32]⟩).run Tryz.prog W = .ok (.string (bs (([102, 117, 108, 108] : Bs) ++ [32]))) W := add_str ([102, 117, 108, 108] : Bs) [32] (by decide)
    have f2 : ∀ W : World, (Op.stringOp .add (bs (([102, 117, 108, 108] : Bs) ++ [32])) (bs I1)).run Tryz.prog W = .ok (.string (bs (([102, 117, 108, 108] : Bs) ++ [32] ++ I1))) W := add_str _ _ (by simp; omega)
    have f3 : ∀ W : World, (Op.stringOp .add (bs (([102, 117, 108, 108] : Bs) ++ [32] ++ I1)) ⟨#[32]⟩).run Tryz.prog W = .ok (.string (bs (([102, 117, 108, 108] : Bs) ++ [32] ++ I1 ++ [32]))) W := add_str _ [32] (by simp; omega)
    have f4 : ∀ W : World, (Op.stringOp .add (bs (([102, 117, 108, 108] : Bs) ++ [32] ++ I1 ++ [32])) (bs I2)).run Tryz.prog W = .ok (.string (bs (([102, 117, 108, 108] : Bs) ++ [32] ++ I1 ++ [32] ++ I2))) W := add_str _ _ (by simp; omega)
    have hli2 : eLine ⟨md, true, mr⟩ = ([102, 117, 108, 108] : Bs) ++ [32] ++ I1 ++ [32] ++ I2 := hli
    rw [← hli2] at f4
    obtain ⟨x, hx⟩ : ∃ x, eLine ⟨md, true, mr⟩ = x := ⟨_, rfl⟩
    rw [hx] at f4 HSUCC
    generalize ([102, 117, 108, 108] : Bs) ++ [32] = T1 at f1 f2 f3 f4
    generalize T1 ++ I1 = T2 at f2 f3 f4
    generalize T2 ++ [32] = T3 at f3 f4
    clear hc hX hown hmem hm hli hli2 hI1 hI2 hx
    have q1c := q1
    have q3c := q3
    go_wp2_with fail
    clear q1 q2 q3
    refine wp_region_later_mix (v0 := u3) 18 (by kernel_rfl) (by kernel_rfl) rfl rfl (by kernel_rfl) ?_ (fun W hW => ?_)
    ·intro x
     rfl
    subst hW
    have y1 := fun X : Later W => X.ext.cell q1c
    have y3 := fun X : Later W => X.ext.cell q3c
    clear q1c q3c
    simp only [List.take_succ_cons, List.take_zero, List.drop_succ_cons, List.drop_zero, Act.put, List.setIfInBounds_toArray, List.set_cons_succ, List.set_cons_zero]
    repeat (go_big_quiet_step (fail))
    go_big_quiet_step ((go_at_call 121; exact Later.call (HD1.out _)))
    repeat (go_big_quiet_step (fail))
    go_big_quiet_step ((go_at_call 121; exact Later.call (HD2.out _)))
    repeat (go_big_quiet_step (fail))
    refine wpQuiet_nil ?_
    rintro ⟨w4, hE4⟩
    dsimp only
    go_wp2
    have hz4 := hE4.size
    refine ⟨⟨⟨_, hE4.alloc _⟩, rfl⟩, ?_⟩
    have hown4 := (ownsRow_of_block HOW.out (fun g hg => hE4.block g (HOW.out.lt g hg).2)).alloc (.cells #[.string (bs x)] 9)
    have HO4 := Lib.hid hown4
    clear hown4
    refine wpList_append_own_at _ rfl _ _ 151 rfl w1.heap.size 9 i0 _ 1 16 Tryz.underlying151 hi0 hz0 hz1 hz2 rfl (by decide) _ (k + 1) (strCells1 (linesE l k)) rfl HO4.out ⟨w4.heap.size, 0, none⟩ 1 1 [.string (bs x)] rfl rfl (World.news_of_block (cs := #[.string (bs x)]) (t := 9) (fr := (0, 0)) (heap_alloc_new _ _)) (by simp [Value.oneCell']) (by simp only [maxLen]; omega) (by omega) (by simp; omega) ?_
    intro v5 w5 hown6 hgrow6 _ _
    have HO6 := Lib.hid hown6
    have HX5 := Lib.hid (((HX.out.trans hE4).alloc _).grown hgrow6 (fun g hg => (HO4.out.lt g hg).1))
    clear hown6 hgrow6 hE4 y1 y3
    go_wp2
    refine NoPanic.normal ?_
    go_wp2_with fail
    go_roundw
    case measure => simp [intOf]; omega
    case rel =>
     refine ⟨k + 1, by omega, by go_num, ?_, HX5.out⟩
     rw [HSUCC.out]
     simpa [strCells1] using HO6.out
  ·obtain rfl : k = l.length := by omega
   have hsz := hX.size
   have HEW := Lib.hid hX
   have hown7 : wr.ownsRow w1.heap.size 9 1 u3 (tabE l).length (strCells1 (tabE l)) := by
    rw [Ec.tabE_length, ← linesE_all]
    exact hown
   obtain ⟨A5, c5, rfl, hc5, hI5⟩ := Strs.of_own hown7
   have HI5 := Lib.hid hI5
   have hshort := tabE_short HS.out hfew
   have hlenL := Ec.tabE_length l
   have HTX : Hid (textE l = Lib.join (tabE l) [10] ++ [10] ++ endL (checkE (tabE l)) ++ [10]) := Lib.hid rfl
   clear hX hown hown7 hI5 hlt
   obtain ⟨L, hL⟩ : ∃ L, tabE l = L := ⟨_, rfl⟩
   rw [hL] at hshort hlenL HTX HI5 hc5 ⊢
   have hLl : L.length ≤ 1002 := by omega
   have hL1 : 1 ≤ L.length := by omega
   have HSH := Lib.hid hshort
   obtain ⟨w5, rfl⟩ : ∃ w5 : World, w5 = wr := ⟨_, rfl⟩
   clear hshort hlenL hL
   have hL64 : (L.length : Int) ≤ 1002 := by omega
   go_wp2_with fail
   go_loop [6, 7, 8] (fun o v i => ∃ k : Nat, k ≤ L.length ∧ i = .int .i64 k ∧ v = .int .i64 (checkN L k) ∧ o = .string (bs (outL L k))) (fun _ _ i => L.length - (intOf i).toNat)
   case atStart => exact ⟨0, Nat.zero_le _, rfl, rfl, rfl⟩
   case round =>
    obtain ⟨k, hk, rfl, rfl, rfl⟩ := hrel
    by_cases hlt : k < L.length
    ·obtain ⟨b, o, rfl, hc⟩ := HI5.out (by omega)
     have c0 := hc k hlt
     have hxs := HSH.out (L.getD k []) (by rw [List.getD_eq_getElem?_getD, List.getElem?_eq_getElem hlt]; exact List.getElem_mem hlt)
     have hcb := checkN_bound L k HSH.out hk hLl
     have HSTEP : Hid (checkN L (k + 1) = checkN L k + sumN (L.getD k []) k (L.getD k []).length) := Lib.hid rfl
     have HSB : Hid (∀ j, j ≤ (L.getD k []).length → sumN (L.getD k []) k j ≤ 136000000000000) := Lib.hid (fun j hj => sumN_bound _ k j hxs hj (by omega))
     have hol := outL_length L k HSH.out (by omega)
     have HOUT : Hid (outL L (k + 1) = outL L k ++ L.getD k [] ++ [10]) := Lib.hid rfl
     obtain ⟨y, hy⟩ : ∃ y, L.getD k [] = y := ⟨_, rfl⟩
     rw [hy] at c0 hxs HSTEP HSB HOUT
     obtain ⟨O, hO⟩ : ∃ O, outL L k = O := ⟨_, rfl⟩
     rw [hO] at hol HOUT ⊢
     have g1 := add_str O y (by omega)
     have g2 : ∀ W : World, (Op.stringOp .add (bs (O ++ y)) ⟨#[10]⟩).run Tryz.prog W = .ok (.string (bs (O ++ y ++ [10]))) W := add_str (O ++ y) [10] (by simp; omega)
     clear hO
     obtain ⟨C, hC⟩ : ∃ C, checkN L k = C := ⟨_, rfl⟩
     rw [hC] at hcb HSTEP ⊢
     have hC9 : (C : Int) ≤ 137000000000000000 := by omega
     have hlt' : (k : Int) < (L.length : Int) := by omega
     have hxs' : (y.length : Int) ≤ 23000 := by omega
     have hsz : (bs y).size = y.length := bs_size y
     clear hc hy hC hcb hxs hlt
     go_wp2_with fail
     go_loop [7, 9] (fun v i => ∃ j : Nat, j ≤ y.length ∧ i = .int .i64 j ∧ v = .int .i64 ((C + sumN y k j : Nat) : Int)) (fun _ i => y.length - (intOf i).toNat)
     case atStart => exact ⟨0, Nat.zero_le _, rfl, rfl⟩
     case round =>
      obtain ⟨j, hj, rfl, rfl⟩ := hrel
      by_cases hlt2 : j < y.length
      ·have hix := index_bs y j hlt2
       have hcc : ((y.getD j 0).toNat : Int) ≤ 255 := by have := (y.getD j 0).toNat_lt; omega
       have HST2 : Hid (sumN y k (j + 1) = sumN y k j + (y.getD j 0).toNat * (j + 1) * (k + 1)) := Lib.hid rfl
       have hsb := HSB.out j hj
       obtain ⟨q, hq⟩ : ∃ q, (y.getD j 0).toNat = q := ⟨_, rfl⟩
       rw [hq] at hix hcc HST2
       obtain ⟨D, hD⟩ : ∃ D, C + sumN y k j = D := ⟨_, rfl⟩
       have HD := Lib.hid hD
       rw [hD]
       have hD9 : (D : Int) ≤ 138000000000000000 := by omega
       have p1 : 0 ≤ (q : Int) * ((j : Int) + 1) := Int.mul_nonneg (by omega) (by omega)
       have p2 := mul_bounds (a := (q : Int)) (b := (j : Int) + 1) (A := 255) (B := 23000) (by omega) (by omega) (by omega) (by omega)
       have p3 : 0 ≤ (q : Int) * ((j : Int) + 1) * ((k : Int) + 1) := Int.mul_nonneg p1 (by omega)
       have p4 := mul_bounds (a := (q : Int) * ((j : Int) + 1)) (b := (k : Int) + 1) (A := 5865000) (B := 1003) (by omega) (by omega) (by omega) (by omega)
       have p5 : (q : Int) * ((j : Int) + 1) ≤ 5865000 := by omega
       have p6 : (q : Int) * ((j : Int) + 1) * ((k : Int) + 1) ≤ 5882595000 := by omega
       have hlt3 : (j : Int) < (y.length : Int) := by omega
       have HLT2 := Lib.hid hlt2
       clear hsb hq hD p2 p4 hlt2 hj
       go_wp2_with fail
       go_round
       case rel =>
        refine ⟨j + 1, by have := HLT2.out; omega, by go_num, congrArg (Value.int .i64) ?_⟩
        rw [HST2.out, ← Nat.add_assoc, HD.out]
        simp
       case measure => have := HLT2.out; simp [intOf]; omega
      ·obtain rfl : j = y.length := by omega
       rw [← HSTEP.out]
       clear hlt2 hj
       go_wp2_with fail
       go_round
       case rel => exact ⟨k + 1, by omega, by go_num, rfl, by rw [HOUT.out]; simp⟩
       case measure => simp [intOf]; omega
    ·obtain rfl : k = L.length := by omega
     clear hlt hk
     have hcb := checkN_bound L L.length HSH.out (Nat.le_refl _) hLl
     have hol := outL_length L L.length HSH.out (Nat.le_refl _)
     have hjl2 : L.length * (23000 + 1) ≤ 1002 * 23001 := Nat.mul_le_mul hLl (Nat.le_refl _)
     have hJ9 : (outL L L.length).length ≤ 23047002 := by omega
     have HOJ := Lib.hid (outL_join L (by intro h; rw [h] at hL1; simp at hL1))
     obtain ⟨ck, hck⟩ : ∃ ck : Nat, ((checkN L L.length : Nat) : Int) % 139 = (ck : Int) := ⟨checkN L L.length % 139, by omega⟩
     have hck2 : checkE L = ck := by unfold checkE; omega
     have HCK := Lib.hid hck2
     have hck9 : (ck : Int) < 139 := by omega
     have hck0 : (0 : Int) ≤ (ck : Int) := by omega
     have hcb9 : ((checkN L L.length : Nat) : Int) ≤ 137000000000000000 := by omega
     have ht9 : ((checkN L L.length : Nat) : Int).tmod 139 = (ck : Int) := by rw [Int.tmod_eq_emod_of_nonneg (by omega)]; exact hck
     clear hcb hjl2 hol hck2
     have hl1 := Lib.itoa_length_le ((ck : Int) / 100) (by omega) (by omega)
     have hl2 := Lib.itoa_length_le ((ck : Int) / 10 % 10) (by omega) (by omega)
     have hl3 := Lib.itoa_length_le ((ck : Int) % 10) (by omega) (by omega)
     have HJT : Hid (textE l = outL L L.length ++ [101, 110, 100, 32] ++ Lib.itoa ((ck : Int) / 100) ++ Lib.itoa ((ck : Int) / 10 % 10) ++ Lib.itoa ((ck : Int) % 10) ++ [10]) := Lib.hid (by
      rw [HTX.out, HCK.out, HOJ.out]
      unfold endL
      have e1 : ((ck / 100 : Nat) : Int) = (ck : Int) / 100 := by omega
      have e2 : ((ck / 10 % 10 : Nat) : Int) = (ck : Int) / 10 % 10 := by omega
      have e3 : ((ck % 10 : Nat) : Int) = (ck : Int) % 10 := by omega
      rw [e1, e2, e3]
      simp)
     have hI1 := fun W => r_Decimal_any ((ck : Int) / 100) W (by omega) (by omega)
     have hI2 := fun W => r_Decimal_any ((ck : Int) / 10 % 10) W (by omega) (by omega)
     have hI3 := fun W => r_Decimal_any ((ck : Int) % 10) W (by omega) (by omega)
     generalize outL L L.length = J at *
     generalize Lib.itoa ((ck : Int) / 100) = I1 at *
     generalize Lib.itoa ((ck : Int) / 10 % 10) = I2 at *
     generalize Lib.itoa ((ck : Int) % 10) = I3 at *
     have f1 : ∀ W : World, (Op.stringOp .add (bs J) ⟨#[101, 110, 100, 32]⟩).run Tryz.prog W = .ok (.string (bs (J ++ [101, 110, 100, 32]))) W := add_str J [101, 110, 100, 32] (by simp; omega)
     have f2 : ∀ W : World, (Op.stringOp .add (bs (J ++ [101, 110, 100, 32])) (bs I1)).run Tryz.prog W = .ok (.string (bs (J ++ [101, 110, 100, 32] ++ I1))) W := add_str _ _ (by simp; omega)
     have f3 : ∀ W : World, (Op.stringOp .add (bs (J ++ [101, 110, 100, 32] ++ I1)) (bs I2)).run Tryz.prog W = .ok (.string (bs (J ++ [101, 110, 100, 32] ++ I1 ++ I2))) W := add_str _ _ (by simp; omega)
     have f4 : ∀ W : World, (Op.stringOp .add (bs (J ++ [101, 110, 100, 32] ++ I1 ++ I2)) (bs I3)).run Tryz.prog W = .ok (.string (bs (J ++ [101, 110, 100, 32] ++ I1 ++ I2 ++ I3))) W := add_str _ _ (by simp; omega)
     have f5 : ∀ W : World, (Op.stringOp .add (bs (J ++ [101, 110, 100, 32] ++ I1 ++ I2 ++ I3)) ⟨#[10]⟩).run Tryz.prog W = .ok (.string (bs (J ++ [101, 110, 100, 32] ++ I1 ++ I2 ++ I3 ++ [10]))) W := add_str _ [10] (by simp; omega)
     generalize J ++ [101, 110, 100, 32] = T1 at *
     generalize T1 ++ I1 = T2 at *
     generalize T2 ++ I2 = T3 at *
     generalize T3 ++ I3 = T4 at *
     generalize T4 ++ [10] = T5 at *
     have K1 := Lib.hid hI1
     have K2 := Lib.hid hI2
     have K3 := Lib.hid hI3
     have HE6 := Lib.hid (HE.out.trans HEW.out)
     clear hI1 hI2 hI3 hJ9
     go_wp2_with fail
     refine (K1.out _).mono ?_
     rintro e w7 ⟨rfl, hE7⟩
     have HE7 := Lib.hid (HE6.out.trans hE7)
     clear hE7
     go_wp2_with fail
     refine (K2.out _).mono ?_
     rintro e w8 ⟨rfl, hE8⟩
     have HE8 := Lib.hid (HE7.out.trans hE8)
     clear hE8
     go_wp2_with fail
     refine (K3.out _).mono ?_
     rintro e w9 ⟨rfl, hE9⟩
     have HE9 := Lib.hid (HE8.out.trans hE9)
     clear hE9
     go_wp2_with fail
     go_ret
     exact ⟨by rw [HJT.out]; rfl, HE9.out⟩
end Go.Proofs.YtcbodpnmndbgnaaGreatDoor
namespace Go.Proofs.YtcbodpnmndbgnaaGreatDoor
open Go.RowKit
open Sp (rd)
open Ec (wEcl wNew wFull eWord eLine tabE checkE textE numE numFineE parseE midE eclP EclNum)
set_option maxRecDepth 100000
set_option maxHeartbeats 1000000
theorem eclP_parts {y : Bs} {e : Sp.Ecl} (h : eclP y = some e) : ∃ d f, sp1 32 y = [eWord e.full, d, f] ∧ numE d = some e.day ∧ numE f = some e.far := by
 unfold eclP at h
 split at h
 ·rename_i w d f hs
  split at h
  ·rename_i hw
   obtain ⟨day, h1, h2⟩ := Option.bind_eq_some_iff.1 h
   obtain ⟨far, h3, h4⟩ := Option.bind_eq_some_iff.1 h2
   obtain rfl := Option.some.inj h4
   refine ⟨d, f, ?_, h1, h3⟩
   rw [hs]
   rcases hw with rfl | rfl
   ·rfl
   ·rfl
  ·cases h
 ·cases h
structure ParsFine (x : Bs) (l : List Sp.Ecl) : Prop where
 three : 3 ≤ (sp1 10 x).length
 len : (sp1 10 x).length = l.length + 3
 at_ : ∀ k, (hk : k < l.length) → eclP ((sp1 10 x).getD (1 + k) []) = some l[k]
 text : textE l = x
 num : EclNum l
theorem parsFine_of {x : Bs} {l : List Sp.Ecl} (h : parseE x = some l) : ParsFine x l := by
 have hp := (Ec.parse_iffE x l).1 h
 unfold parseE at h
 split at h
 ·cases h
 ·rename_i h3
  obtain ⟨r, h1, h2⟩ := Option.bind_eq_some_iff.1 h
  split at h2
  ·obtain rfl := Option.some.inj h2
   have h4 := mapM_some.1 h1
   have hml : (midE x).length = (sp1 10 x).length - 3 := by unfold midE; rw [List.length_take, List.length_drop]; omega
   have h5 : (midE x).length = r.length := by have := congrArg List.length h4; simpa using this
   refine ⟨by omega, by omega, fun k hk => ?_, hp.1, hp.2⟩
   have h6 : ((midE x).map eclP)[k]? = (r.map some)[k]? := by rw [h4]
   have hk2 : k < (midE x).length := by omega
   simp only [List.getElem?_map, List.getElem?_eq_getElem hk, List.getElem?_eq_getElem hk2, Option.map_some, Option.some.injEq] at h6
   have h7 : (midE x)[k] = (sp1 10 x).getD (1 + k) [] := by
    have : (midE x)[k]? = (sp1 10 x)[1 + k]? := by unfold midE; rw [List.getElem?_take, if_pos (by omega), List.getElem?_drop]
    rw [List.getElem?_eq_getElem hk2] at this
    rw [List.getD_eq_getElem?_getD, ← this]
    rfl
   rw [← h7]
   exact h6
  ·cases h2
theorem join_ge (L : List Bs) : L.length ≤ (Lib.join L [10]).length + 1 := by
 cases L with
 | nil => simp
 | cons x r =>
  rw [Lib.join_cons, List.length_append]
  have : r.length ≤ (Lib.joinTail [10] r).length := by
   induction r with
   | nil => simp
   | cons y r ih =>
    simp only [Lib.joinTail, List.map_cons, List.flatten_cons, List.length_append, List.length_cons, List.length_nil] at ih ⊢
    omega
  simp only [List.length_cons]
  omega
def ParRelE (w2 : World) (l : List Sp.Ecl) (v i : Value) (wr : World) : Prop :=
 ∃ k : Nat, k ≤ l.length ∧ i = .int .i64 k ∧ wr.ownsRow w2.heap.size 59 3 v (l.take k).length (eclCells (l.take k)) ∧ Ext w2 wr
theorem e_number_ok (D : Bs) (n : Int) (w : World) (hV : Env w) (hx : D.length ≤ 100000) (h : numE D = some n) : Calls Tryz.prog 161 #[.string (bs D)] w fun e w' => e = .returned (.int .i64 n) ∧ Ext w w' := by
 refine (e_number_any D w hV hx).mono ?_
 rintro e w' ⟨hE, ⟨m, hm, rfl⟩ | ⟨hno, _⟩⟩
 ·obtain rfl : n = m := Option.some.inj (h.symm.trans hm)
  exact ⟨rfl, hE⟩
 ·rw [h] at hno; cases hno
theorem e_parsed_ok (x : Bs) (l : List Sp.Ecl) (w : World) (hV : Env w) (hx : x.length ≤ 900) (hp : parseE x = some l) :
  Calls Tryz.prog 119 #[.string (bs x)] w fun e w' => ∃ v, e = .returned v ∧ EclVal w' v l ∧ Ext w w' := by
 have hF := parsFine_of hp
 have HV := Lib.hid hV
 have HF := Lib.hid hF
 have HLE := Lib.hid (sp1_le 10 x)
 have hsx := bs_size x
 have hlen := hF.len
 have hll : l.length ≤ 1000 := by
  have h1 : (textE l).length ≤ 900 := by rw [hF.text]; exact hx
  have h2 := Ec.tabE_length l
  have h3 : (tabE l).length ≤ (Lib.join (tabE l) [10]).length + 1 := join_ge (tabE l)
  have h4 : (Lib.join (tabE l) [10]).length ≤ (textE l).length := by unfold textE; simp only [List.length_append]; omega
  omega
 clear hV hF hp
 go_enter Tryz.func119, Tryz.ntmps119
 go_wp2_with fail
 refine (split_any 10 x _ HV.out (by omega)).mono ?_
 rintro e w1 ⟨rfl, hw1⟩
 have HE1 : Hid (Ext w w1) := Lib.hid (by rw [hw1]; exact (Ext.refl w).alloc _)
 have HR1 : Hid (Row w1 w.heap.size 9 (strCells1 (sp1 10 x)).toArray) := Lib.hid (by rw [hw1]; exact Row.new _ _ _)
 obtain ⟨L, hL⟩ : ∃ L, sp1 10 x = L := ⟨_, rfl⟩
 have HFL : Hid (∀ k, (hk : k < l.length) → eclP (L.getD (1 + k) []) = some l[k]) := Lib.hid (by rw [← hL]; exact HF.out.at_)
 have HF3 : Hid (textE l = x ∧ EclNum l) := Lib.hid ⟨HF.out.text, HF.out.num⟩
 rw [hL] at HR1 HLE hlen ⊢
 have l1 : (3 : Int) ≤ (L.length : Int) := by omega
 have HLEN := Lib.hid hlen
 clear hw1 hL HF hlen
 go_wp2_with fail
 refine (e_sure_ok _ _).mono ?_
 rintro e w2 ⟨rfl, rfl⟩
 have l2 : (2 : Int) ≤ (L.length : Int) := by omega
 have l3 : (1 : Int) ≤ (L.length : Int) - 2 := by omega
 have l4 : (L.length : Int) ≤ 2000 := by have := HLEN.out; omega
 have l5 : (0 : Int) ≤ (L.length : Int) - 2 := by omega
 have l6 : (L.length : Int) - 2 ≤ (L.length : Int) := by omega
 go_wp2_with fail
 rw [show L.length - 2 - 1 = l.length by have := HLEN.out; omega]
 have HIN : Hid (∀ k, k < l.length → ∃ y, eclP y = some (l.getD k Ec.noEcl) ∧ y.length ≤ 900 ∧ w1.cell? ⟨w.heap.size, 1 + k, none⟩ = some (.string (bs y))) := Lib.hid fun k hk => by
  have hk2 : 1 + k < L.length := by have := HLEN.out; omega
  refine ⟨L.getD (1 + k) [], ?_, ?_, ?_⟩
  ·rw [HFL.out k hk, List.getD_eq_getElem?_getD, List.getElem?_eq_getElem hk]; rfl
  ·refine Nat.le_trans (HLE.out _ ?_) hx
   rw [List.getD_eq_getElem?_getD, List.getElem?_eq_getElem hk2]; exact List.getElem_mem hk2
  ·rw [HR1.out.cell (1 + k)]
   simp [strCells1, hk2]
 have hz2 := HE1.out.size
 obtain ⟨i0, hi0, hi1, hi2, hi3⟩ := info_parts info_ecl
 obtain ⟨B, hB⟩ : ∃ B, w.heap.size = B := ⟨_, rfl⟩
 have hBl : B < w1.heap.size := by have := HR1.out.lt; omega
 rw [hB] at HIN HR1 ⊢
 clear l1 l2 l3 l4 l5 l6 HLEN HFL HLE hB
 go_loopw [4, 23] (fun v i wr => ParRelE w1 l v i wr) (fun _ i _ => l.length - (intOf i).toNat)
 case atStart => exact ⟨0, Nat.zero_le _, rfl, by simp [eclCells, World.ownsRow], Ext.refl _⟩
 case round =>
  obtain ⟨k, hk, rfl, hown, hX⟩ := hrel
  have hszX := hX.size
  by_cases hlt : k < l.length
  ·obtain ⟨y, hy, hyl, hc⟩ := HIN.out k hlt
   replace hc := hX.cell hc
   obtain ⟨d, f, hs, hd, hf⟩ := eclP_parts hy
   have hle := sp1_le 32 y
   rw [hs] at hle
   have hdl := hle d (by simp)
   have hfl := hle f (by simp)
   have hsucc : l.take (k + 1) = l.take k ++ [l.getD k Ec.noEcl] := by
    rw [List.take_succ_eq_append_getElem hlt, List.getD_eq_getElem?_getD, List.getElem?_eq_getElem hlt]; rfl
   have hle2 : (l.take k).length ≤ 1000 := by rw [List.length_take]; omega
   obtain ⟨e, he⟩ : ∃ e, l.getD k Ec.noEcl = e := ⟨_, rfl⟩
   rw [he] at hs hd hf hsucc
   have HSUCC := Lib.hid hsucc
   have HSP := Lib.hid hs
   have HD := Lib.hid hd
   have HFR := Lib.hid hf
   have HX := Lib.hid hX
   have HOW := Lib.hid hown
   have hsl := split_any 32 y wr (HV.out.ext (HE1.out.trans hX)) (by omega)
   rw [hs] at hsl
   have HSL := Lib.hid hsl
   obtain ⟨ed, ef, er⟩ := e
   clear hy hle hsucc he hs hd hf hX hown hsl
   have z1 := lts (lt_of_cell hc)
   simp only at z1
   go_wp2_with fail
   refine HSL.out.mono ?_
   rintro e w3 ⟨rfl, hw3⟩
   have HE3 : Hid (Ext wr w3) := Lib.hid (by rw [hw3]; exact (Ext.refl wr).alloc _)
   have HR3 : Hid (Row w3 wr.heap.size 9 #[.string (bs (eWord ef)), .string (bs d), .string (bs f)]) := Lib.hid (by rw [hw3]; exact Row.new _ _ _)
   clear hw3 hc
   simp only [List.length_cons, List.length_nil, Nat.reduceAdd]
   go_wp2_with fail
   have hq1 : ((bs (eWord false)).toList == (bs (eWord true)).toList) = false := by rw [toList_bs, toList_bs]; decide
   have hq2 : ((bs (eWord true)).toList == (bs (eWord true)).toList) = true := by rw [toList_bs]; decide
   have hq3 : ((bs (eWord false)).toList == (bs (eWord false)).toList) = true := by rw [toList_bs]; decide
   have HEF : Hid (∀ W : World, W = W) := Lib.hid fun _ => rfl
   cases ef
   ·refine wp_region_later (by kernel_rfl) (by kernel_rfl) (fun W hW => ?_)
    have y1 := Later.block (w := W) (by rw [hW]; exact HR3.out)
    repeat (go_big_quiet_step ((first | (go_at_call 160; exact Later.call (e_word_any _ _)) | (go_at_call 159; exact Later.call ((e_sure_ok _ _).mono fun _ _ ⟨a, b⟩ => ⟨a, b ▸ Ext.refl _⟩)))))
    refine wpQuiet_nil ?_
    rintro ⟨w4, hE4⟩
    subst hW
    dsimp only
    have HX4 := Lib.hid ((HX.out.trans HE3.out).trans hE4)
    have HR4 := Lib.hid (HR3.out.ext hE4)
    have HOW4 := Lib.hid (own_ext HOW.out (HE3.out.trans hE4))
    have c4 := HR4.out.cell
    have hz4 := HR4.out.lt
    clear y1 hE4
    go_wp2_with fail
    refine (e_number_ok d ed _ (HV.out.ext (HE1.out.trans HX4.out)) (by omega) HD.out).mono ?_
    rintro e w5 ⟨rfl, hE5⟩
    have HX5 := Lib.hid (HX4.out.trans hE5)
    have HR5 := Lib.hid (HR4.out.ext hE5)
    have HOW5 := Lib.hid (own_ext HOW4.out hE5)
    clear c4 hE5
    have c5 := HR5.out.cell
    go_wp2_with fail
    refine (e_number_ok f er _ (HV.out.ext (HE1.out.trans HX5.out)) (by omega) HFR.out).mono ?_
    rintro e w6 ⟨rfl, hE6⟩
    have HX6 := Lib.hid (HX5.out.trans hE6)
    have HR6 := Lib.hid (HR5.out.ext hE6)
    have HOW6 := Lib.hid (own_ext HOW5.out hE6)
    clear c5 hE6
    go_wp2_with fail
    refine wp_region_later_mix (v0 := u4) 9 (by kernel_rfl) (by kernel_rfl) rfl rfl (by kernel_rfl) ?_ (fun W hW => ?_)
    ·intro X
     rfl
    have y1 := fun X : Later W => ((by rw [hW]; exact HR6.out : Row W wr.heap.size 9 _).ext X.ext).cell
    subst hW
    simp only [List.take_succ_cons, List.take_zero, List.drop_succ_cons, List.drop_zero, Act.put, List.setIfInBounds_toArray, List.set_cons_succ, List.set_cons_zero]
    repeat (go_big_quiet_step ((first | (go_at_call 160; exact Later.call (e_word_any _ _)))))
    refine wpQuiet_nil ?_
    rintro ⟨w7, hE7⟩
    dsimp only
    go_wp2
    have hz7 := hE7.size
    have hz6 := HX6.out.size
    refine ⟨⟨⟨_, hE7.alloc _⟩, rfl⟩, ?_⟩
    have hown7 := (own_ext HOW6.out hE7).alloc (.cells #[.int .i64 ed, .bool false, .int .i64 er] 59)
    have HO7 := Lib.hid hown7
    clear hown7
    refine wpList_append_lies _ rfl _ _ 50 rfl w1.heap.size 59 i0 _ 3 24 Tryz.underlying50 hi0 hi1 hi2 hi3 rfl (by decide) _ (l.take k).length (eclCells (l.take k)) rfl HO7.out ⟨w7.heap.size, 0, none⟩ 1 1 [.int .i64 ed, .bool false, .int .i64 er] rfl rfl (World.news_of_block (cs := #[.int .i64 ed, .bool false, .int .i64 er]) (t := 59) (fr := (0, 0)) (heap_alloc_new _ _)) (by simp [Value.oneCell']) (by omega) (by simp only [maxLen]; omega) (by omega) (by simp; omega) _ rfl ?_
    intro gg cap w8 hown8 hgrow hat hlt4
    have HO8 := Lib.hid hown8
    have HX8 := Lib.hid (((HX6.out.trans hE7).alloc _).grown hgrow (fun g hg => (HO7.out.lt g hg).1))
    clear hown8 hgrow hat hE7 y1
    go_wp2
    refine NoPanic.normal ?_
    go_wp2_with fail
    go_roundw
    case measure => simp [intOf]; omega
    case rel =>
     refine ⟨k + 1, by omega, by go_num, ?_, HX8.out⟩
     rw [HSUCC.out]
     have hmin : min k l.length = k := by omega
     simpa [eclCells_append, eclCells, hmin] using HO8.out
   ·refine wp_region_later (by kernel_rfl) (by kernel_rfl) (fun W hW => ?_)
    have y1 := Later.block (w := W) (by rw [hW]; exact HR3.out)
    repeat (go_big_quiet_step ((first | (go_at_call 160; exact Later.call (e_word_any _ _)) | (go_at_call 159; exact Later.call ((e_sure_ok _ _).mono fun _ _ ⟨a, b⟩ => ⟨a, b ▸ Ext.refl _⟩)))))
    refine wpQuiet_nil ?_
    rintro ⟨w4, hE4⟩
    subst hW
    dsimp only
    have HX4 := Lib.hid ((HX.out.trans HE3.out).trans hE4)
    have HR4 := Lib.hid (HR3.out.ext hE4)
    have HOW4 := Lib.hid (own_ext HOW.out (HE3.out.trans hE4))
    have c4 := HR4.out.cell
    have hz4 := HR4.out.lt
    clear y1 hE4
    go_wp2_with fail
    refine (e_number_ok d ed _ (HV.out.ext (HE1.out.trans HX4.out)) (by omega) HD.out).mono ?_
    rintro e w5 ⟨rfl, hE5⟩
    have HX5 := Lib.hid (HX4.out.trans hE5)
    have HR5 := Lib.hid (HR4.out.ext hE5)
    have HOW5 := Lib.hid (own_ext HOW4.out hE5)
    clear c4 hE5
    have c5 := HR5.out.cell
    go_wp2_with fail
    refine (e_number_ok f er _ (HV.out.ext (HE1.out.trans HX5.out)) (by omega) HFR.out).mono ?_
    rintro e w6 ⟨rfl, hE6⟩
    have HX6 := Lib.hid (HX5.out.trans hE6)
    have HR6 := Lib.hid (HR5.out.ext hE6)
    have HOW6 := Lib.hid (own_ext HOW5.out hE6)
    clear c5 hE6
    go_wp2_with fail
    refine wp_region_later_mix (v0 := u4) 9 (by kernel_rfl) (by kernel_rfl) rfl rfl (by kernel_rfl) ?_ (fun W hW => ?_)
    ·intro X
     rfl
    have y1 := fun X : Later W => ((by rw [hW]; exact HR6.out : Row W wr.heap.size 9 _).ext X.ext).cell
    subst hW
    simp only [List.take_succ_cons, List.take_zero, List.drop_succ_cons, List.drop_zero, Act.put, List.setIfInBounds_toArray, List.set_cons_succ, List.set_cons_zero]
    repeat (go_big_quiet_step ((first | (go_at_call 160; exact Later.call (e_word_any _ _)))))
    refine wpQuiet_nil ?_
    rintro ⟨w7, hE7⟩
    dsimp only
    go_wp2
    have hz7 := hE7.size
    have hz6 := HX6.out.size
    refine ⟨⟨⟨_, hE7.alloc _⟩, rfl⟩, ?_⟩
    have hown7 := (own_ext HOW6.out hE7).alloc (.cells #[.int .i64 ed, .bool true, .int .i64 er] 59)
    have HO7 := Lib.hid hown7
    clear hown7
    refine wpList_append_lies _ rfl _ _ 50 rfl w1.heap.size 59 i0 _ 3 24 Tryz.underlying50 hi0 hi1 hi2 hi3 rfl (by decide) _ (l.take k).length (eclCells (l.take k)) rfl HO7.out ⟨w7.heap.size, 0, none⟩ 1 1 [.int .i64 ed, .bool true, .int .i64 er] rfl rfl (World.news_of_block (cs := #[.int .i64 ed, .bool true, .int .i64 er]) (t := 59) (fr := (0, 0)) (heap_alloc_new _ _)) (by simp [Value.oneCell']) (by omega) (by simp only [maxLen]; omega) (by omega) (by simp; omega) _ rfl ?_
    intro gg cap w8 hown8 hgrow hat hlt4
    have HO8 := Lib.hid hown8
    have HX8 := Lib.hid (((HX6.out.trans hE7).alloc _).grown hgrow (fun g hg => (HO7.out.lt g hg).1))
    clear hown8 hgrow hat hE7 y1
    go_wp2
    refine NoPanic.normal ?_
    go_wp2_with fail
    go_roundw
    case measure => simp [intOf]; omega
    case rel =>
     refine ⟨k + 1, by omega, by go_num, ?_, HX8.out⟩
     rw [HSUCC.out]
     have hmin : min k l.length = k := by omega
     simpa [eclCells_append, eclCells, hmin] using HO8.out
  ·obtain rfl : k = l.length := by omega
   rw [List.take_length] at hown
   have hv := EclVal.of_own hown
   have HVL := Lib.hid hv
   have HX := Lib.hid hX
   obtain ⟨A5, c5, rfl, hA5⟩ := hv
   have HA5 := Lib.hid hA5
   clear hown hX hA5
   go_wp2_with fail
   refine (e_text_any l A5 c5 _ (HV.out.ext (HE1.out.trans HX.out)) HA5.out HF3.out.2 hll).mono ?_
   rintro e w6 ⟨rfl, hE6⟩
   rw [HF3.out.1]
   have hq : ((bs x).toList == (bs x).toList) = true := by simp
   have HE6 := Lib.hid ((HE1.out.trans HX.out).trans hE6)
   have HVL6 := Lib.hid (HVL.out.ext hE6)
   clear hE6
   go_wp2_with fail
   refine (e_sure_ok _ _).mono ?_
   rintro e w7 ⟨rfl, rfl⟩
   go_wp2_with fail
   go_ret
   exact ⟨_, rfl, HVL6.out, HE6.out⟩
theorem e_isList_one (A : Option Addr) (c : Nat) (d f : Int) (b : Bool) (w : World) (hm : EclAt w A [⟨d, b, f⟩]) (h1 : 1 ≤ d ∧ d ≤ 20000) (h2 : 0 ≤ f ∧ f ≤ 5400) :
  Calls Tryz.prog 120 #[.slice A 1 c] w fun e w' => e = .returned (.bool true) ∧ Ext w w' := by
 obtain ⟨b0, o, rfl, hk⟩ := hm (by simp)
 obtain ⟨q1, q2, q3⟩ := hk 0 (by simp)
 simp only [Nat.zero_mul, Nat.add_zero, List.getElem_cons_zero] at q1 q2 q3
 have HQ := Lib.hid (And.intro q1 (And.intro q2 q3))
 clear hk hm q1 q2 q3
 go_enter Tryz.func120, Tryz.ntmps120
 go_wp2_with fail
 go_loopw [7] (fun i wr => (i = .int .i64 0 ∨ i = .int .i64 1) ∧ Ext w wr) (fun i _ => 1 - (intOf i).toNat)
 case atStart => exact ⟨.inl rfl, Ext.refl _⟩
 case round =>
  obtain ⟨rfl | rfl, hE⟩ := hrel
  ·obtain ⟨q1, q2, q3⟩ := HQ.out
   replace q1 := hE.cell q1
   replace q2 := hE.cell q2
   replace q3 := hE.cell q3
   have HE := Lib.hid hE
   have z1 := lts (lt_of_cell q1)
   simp only at z1
   clear hE
   have c1 : Sp.inR d 1 20000 = true := inR_iff.2 h1
   have c2 : Sp.isLimit f = true := inR_iff.2 h2
   go_wp2_with fail
   refine (e_in_any _ _ _ _).mono ?_
   rintro e w1 ⟨rfl, rfl⟩
   rw [c1]
   go_wp2_with fail
   refine (e_isLimit_any _ _).mono ?_
   rintro e w1 ⟨rfl, rfl⟩
   rw [c2]
   go_wp2_with fail
   clear q1 q2 q3
   go_quiet (fail)
   go_wp2
   go_roundw
   case rel => exact ⟨.inr rfl, (HE.out.alloc _).drewN _⟩
   case measure => simp [intOf]
  ·have HE := Lib.hid hE
   clear hE
   go_wp2_with fail
   go_ret
   exact ⟨rfl, HE.out⟩
theorem e_catch_idle (p q : Value) (w : World) :
  CallsD Tryz.prog 118 #[p, q] .returning w fun e u' w' => e = .returned (.tuple #[]) ∧ u' = .returning ∧ w' = w := by
 refine callsD_of_wpS Tryz.func118 rfl fun c₀ cs hu => ?_
 have he : ∀ w, (binOp .eql 20 .nilIface .nilIface).run Tryz.prog w = .ok (.bool true) w := fun _ => by kernel_rfl
 simp only [Tryz.ntmps118, List.size_toArray, List.length_cons, List.length_nil, Nat.reduceAdd, Nat.reduceSub, Array.replicate_succ, Array.replicate_zero, List.push_toArray, List.append_toArray, List.nil_append, List.cons_append]
 apply wpS_seq
 apply wpS_region
 simp [wpOpsS, go_sem, recoverD, hu, Exit.thenS]
 refine wpS_of_wp ?_
 generalize hQ : (fun (e : Exit) (a' : Act) (w' : World) => bodyPostS Tryz.prog Tryz.f118 c₀ cs _ e a' _ w') = Q
 go_wp2
 subst hQ
 cases c₀
 simp_all [bodyPostS, results, Tryz.results118]
theorem cell_keep {W : World} {g b i : Nat} {u : Value} (hb : b ≠ g) : (W.setCell ⟨g, 0, none⟩ u).cell? ⟨b, i, none⟩ = W.cell? ⟨b, i, none⟩ := World.cell?_setCell_other _ _ _ _ (fun h => hb (congrArg Addr.block h).symm)
theorem EclAt.far {W : World} {A : Option Addr} {l : List Sp.Ecl} (h : EclAt W A l) {g : Nat} {t : TypeId} {v : Value} (hr : Row W g t #[v]) (u : Value) : EclAt (W.setCell ⟨g, 0, none⟩ u) A l := fun h0 =>
 let ⟨b, o, e, hk⟩ := h h0
 have hb : b ≠ g := by
  rintro rfl
  have h1 := (hk 0 h0).2.1
  rw [hr.cell] at h1
  simp at h1
 have keep : ∀ (i : Nat) (x : Value), W.cell? ⟨b, i, none⟩ = some x → (W.setCell ⟨g, 0, none⟩ u).cell? ⟨b, i, none⟩ = some x := fun i x hx => by
  exact (cell_keep hb).trans hx
 ⟨b, o, e, fun k hk' => ⟨keep _ _ (hk k hk').1, keep _ _ (hk k hk').2.1, keep _ _ (hk k hk').2.2⟩⟩
theorem e_read_results (tmps : Array Value) (W : World) (p q : Nat) (x0 : Value) (code : Int) (h2 : tmps.getD 2 undef = .pointer (some ⟨p, 0, none⟩)) (h3 : tmps.getD 3 undef = .pointer (some ⟨q, 0, none⟩)) (hr : Row W p 50 #[x0])
  (he : Row W q 40 #[.int .i64 code]) : (results Tryz.f66 tmps).run Tryz.prog W = .ok (.tuple #[x0, .int .i64 code]) W := by
 have h2' : tmps[2]?.getD undef = .pointer (some ⟨p, 0, none⟩) := by simpa using h2
 have h3' : tmps[3]?.getD undef = .pointer (some ⟨q, 0, none⟩) := by simpa using h3
 have c0 : W.cell? ⟨q, 0, none⟩ = some (.int .i64 code) := he.cell 0
 have r0 : W.cell? ⟨p, 0, none⟩ = some x0 := hr.cell 0
 simp [results, Tryz.results66, h2', h3', asAddr, go_sem, c0, r0]
theorem e_Read_ok (x : Bs) (l : List Sp.Ecl) (w : World) (hV : Env w) (hx : x.length ≤ 400) (hp : parseE x = some l)
  (hL : ∀ A c W, EclAt W A l → Calls Tryz.prog 120 #[.slice A l.length c] W fun e w' => e = .returned (.bool true) ∧ Ext W w') :
  Calls Tryz.prog 66 #[.string (bs x)] w fun e w' => ∃ v, e = .returned (.tuple #[v, .int .i64 0]) ∧ EclVal w' v l ∧ Ext w w' := by
 have HV := Lib.hid hV
 have HP := Lib.hid hp
 have HL := Lib.hid hL
 have hsx := bs_size x
 have hmf : ∀ (fn : Fn) (first cap : Array Value) (w : World), (Instr.makeFunc fn first cap).run Tryz.prog w = .ok (.func fn first cap) w := fun _ _ _ _ => rfl
 clear hV hp hL
 have HE0 : Hid (Ext w ((w.alloc (.cells #[.slice none 0 0] 50)).alloc (.cells #[.int .i64 0] 40))) := Lib.hid (((Ext.refl w).alloc _).alloc _)
 have HRO : Hid (Row ((w.alloc (.cells #[.slice none 0 0] 50)).alloc (.cells #[.int .i64 0] 40)) w.heap.size 50 #[.slice none 0 0]) := Lib.hid (blocks2 w _ _).1
 have HRE : Hid (Row ((w.alloc (.cells #[.slice none 0 0] 50)).alloc (.cells #[.int .i64 0] 40)) (w.heap.size + 1) 40 #[.int .i64 0]) := Lib.hid (blocks2 w _ _).2
 have hlen' : ¬ ((400 : Int) < (x.length : Int)) := by omega
 go_enter_defers Tryz.func66, Tryz.ntmps66
 go_wp2_with fail
 refine (e_parsed_ok x l _ (HV.out.ext HE0.out) (by omega) HP.out).mono ?_
 rintro e W1 ⟨v, rfl, hv, hE1⟩
 have HO1 := Lib.hid (HRO.out.ext hE1)
 have HR1 := Lib.hid (HRE.out.ext hE1)
 have HE1 := Lib.hid (HE0.out.trans hE1)
 have r0 : W1.cell? ⟨w.heap.size, 0, none⟩ = some (.slice none 0 0) := HO1.out.cell 0
 have f0 := HO1.out.free 0
 obtain ⟨A, c, rfl, hA⟩ := hv
 have HA1 := Lib.hid (show EclAt W1 A l from hA)
 clear hE1 hA
 go_wp2_with fail
 have HO2 : Hid (Row (W1.setCell ⟨w.heap.size, 0, none⟩ (.slice A l.length c)) w.heap.size 50 #[.slice A l.length c]) := Lib.hid (by simpa using HO1.out.set_ 0 (.slice A l.length c))
 have HR2 := Lib.hid (HR1.out.far (p := ⟨w.heap.size, 0, none⟩) (by simp) (.slice A l.length c))
 have HE2 := Lib.hid (HE1.out.setCell (p := ⟨w.heap.size, 0, none⟩) (Nat.le_refl _) (.slice A l.length c))
 have HA2 := Lib.hid (EclAt.far HA1.out HO1.out (.slice A l.length c))
 obtain ⟨W2, hW2⟩ : ∃ W2, W1.setCell ⟨w.heap.size, 0, none⟩ (.slice A l.length c) = W2 := ⟨_, rfl⟩
 rw [hW2] at HO2 HR2 HE2 HA2 ⊢
 clear hW2 r0 f0
 refine (HL.out A c W2 HA2.out).mono ?_
 rintro e W3 ⟨rfl, hE3⟩
 have HO3 := Lib.hid (HO2.out.ext hE3)
 have HR3 := Lib.hid (HR2.out.ext hE3)
 have HE3 := Lib.hid (HE2.out.trans hE3)
 have HA3 := Lib.hid (HA2.out.ext hE3)
 have r0 : W3.cell? ⟨w.heap.size, 0, none⟩ = some (.slice A l.length c) := HO3.out.cell 0
 have f0 := HO3.out.free 0
 have e0 : W3.cell? ⟨w.heap.size + 1, 0, none⟩ = some (.int .i64 0) := HR3.out.cell 0
 have k0 := HR3.out.free 0
 clear hE3
 have HO5 : Hid (Row ((W3.setCell ⟨w.heap.size, 0, none⟩ (.slice A l.length c)).setCell ⟨w.heap.size + 1, 0, none⟩ (.int .i64 0)) w.heap.size 50 #[.slice A l.length c]) := Lib.hid (by simpa using (HO3.out.set_ 0 (.slice A l.length c)).far (p := ⟨w.heap.size + 1, 0, none⟩) (by simp) (.int .i64 0))
 have HR5 : Hid (Row ((W3.setCell ⟨w.heap.size, 0, none⟩ (.slice A l.length c)).setCell ⟨w.heap.size + 1, 0, none⟩ (.int .i64 0)) (w.heap.size + 1) 40 #[.int .i64 0]) := Lib.hid (by simpa using (HR3.out.far (p := ⟨w.heap.size, 0, none⟩) (by simp) (.slice A l.length c)).set_ 0 (.int .i64 0))
 have HE5 := Lib.hid ((HE3.out.setCell (p := ⟨w.heap.size, 0, none⟩) (Nat.le_refl _) (.slice A l.length c)).setCell (p := ⟨w.heap.size + 1, 0, none⟩) (Nat.le_succ _) (.int .i64 0))
 have HA5 := Lib.hid (EclAt.far (EclAt.far HA3.out HO3.out (.slice A l.length c)) (HR3.out.far (p := ⟨w.heap.size, 0, none⟩) (by simp) (.slice A l.length c)) (.int .i64 0))
 go_wp2_with fail
 refine leaves_cons (f := 118) (args := #[.pointer (some ⟨w.heap.size, 0, none⟩), .pointer (some ⟨w.heap.size + 1, 0, none⟩)]) (by simp) (by simp [go_sem]) ?_
 refine (e_catch_idle _ _ _).mono ?_
 rintro e u' w'' ⟨rfl, rfl, rfl⟩
 exact ⟨_, e_read_results _ _ w.heap.size (w.heap.size + 1) _ 0 rfl rfl HO5.out HR5.out, _, rfl, ⟨A, c, rfl, HA5.out⟩, HE5.out⟩
end Go.Proofs.YtcbodpnmndbgnaaGreatDoor
namespace Go.Proofs.YtcbodpnmndbgnaaGreatDoor
open Go.RowKit
open Sp (rd)
set_option maxRecDepth 100000
set_option maxHeartbeats 2000000
theorem short_of {l : List Sp.Body} (h : l = skyG.bodies) : Short l := by
 subst h
 exact ⟨by decide, fun k hk => by
  match k, hk with
  | 0, _ => decide
  | 1, _ => decide
  | n + 2, h => exact absurd h (by simp [skyG])⟩
theorem shortG : EngShort engG := ⟨short_of rfl, by decide, by decide, by decide, by decide⟩
theorem shortH : EngShort engH := ⟨short_of rfl, by decide, by decide, by decide, by decide⟩
theorem engSet0 {w : World} {p : EP} {e : Ec.Engine} (h : EngAt w p e) : EngSet w p e [] := ⟨h, fun h => absurd h (by simp)⟩
theorem ints_row {w : World} {g : Nat} {t : TypeId} {cs : Array Value} {l : List Int} (h : Row w g t cs) (hc : ∀ k, k < l.length → cs[k]? = some (.int .i64 (rd l k))) : Ints w (some ⟨g, 0, none⟩) l :=
 fun _ => ⟨g, 0, rfl, fun k hk => by rw [Nat.zero_add]; exact (h.cell _).trans (hc k hk)⟩
theorem ecls_row {w : World} {g c n : Nat} {t : TypeId} {cs : Array Value} {l : List Sp.Ecl} (h : Row w g t cs) (hn : n = l.length ∧ cs.toList = eclCells l) : EclVal w (.slice (some ⟨g, 0, none⟩) n c) l := by
 obtain ⟨rfl, hc⟩ := hn
 refine ⟨_, _, rfl, fun _ => ⟨g, 0, rfl, fun k hk => ?_⟩⟩
 obtain ⟨a, b, d⟩ := eclCells_get l k hk
 rw [← hc] at a b d
 rw [Nat.zero_add]
 exact ⟨(h.cell _).trans (by simpa using a), (h.cell _).trans (by simpa using b), (h.cell _).trans (by simpa using d)⟩
theorem neq_hands (a b c x y z : Int) (w : World) : (binOp .neq 39 (.agg #[.int .i64 a, .int .i64 b, .int .i64 c]) (.agg #[.int .i64 x, .int .i64 y, .int .i64 z])).run Tryz.prog w = .ok (.bool (!((a == x) && (b == y) && (c == z)))) w := by
 have hf : (Tryz.prog.fieldsOf 39).toList.map (fun f => (f.name, f.type, f.offset)) = [("Sun", 3, 0), ("Moon", 3, 1), ("Node", 3, 2)] := by kernel_rfl
 obtain ⟨f1, f2, f3, hfs, p1, p2, p3⟩ := map_three hf
 obtain ⟨n1, t1, o1⟩ := field_parts p1
 obtain ⟨n2, t2, o2⟩ := field_parts p2
 obtain ⟨n3, t3, o3⟩ := field_parts p3
 rw [run_neq_struct, run_equalIn_agg w 9999 _ _ _ (by kernel_rfl) (by kernel_rfl), hfs]
 simp [Op.eqFields, n1, t1, o1, n2, t2, o2, n3, t3, o3, part, go_sem]
 by_cases h : a = x <;> by_cases h2 : b = y <;> by_cases h3 : c = z <;> simp [h, h2, h3]
theorem kTextV : bs (Ec.textE [⟨15, true, 463⟩]) = ⟨#[101, 99, 108, 105, 112, 115, 101, 115, 32, 49, 10, 102, 117, 108, 108, 32, 49, 53, 32, 52, 54, 51, 10, 101, 110, 100, 32, 48, 56, 57, 10]⟩ := by rw [kTextE]; rfl
theorem k_G (w : World) : Calls Tryz.prog 62 #[] w fun e w' => ∃ Ab cb As cs Am cm An cn Af cf, e = .returned (.agg #[.slice Ab 2 cb, .int .i64 1800, .int .i64 1, .int .i64 1000, .slice As 3 cs, .slice Am 2 cm, .slice An 3 cn, .slice Af 3 cf, .int .i64 1900, .int .i64 600, .int .i64 0]) ∧ EngAt w' ⟨Ab, cb, As, cs, Am, cm, An, cn, Af, cf, none, 0⟩ engG ∧ Ext w w' := by
 refine (l7_G_any w).mono ?_
 rintro e w' ⟨v, rfl, ⟨⟨Ab, cb, As, cs, Am, cm, An, cn, Af, cf, At, ct⟩, rfl, h1, h2, hE⟩, hX⟩
 dsimp only at h1 h2
 subst h1 h2
 exact ⟨Ab, cb, As, cs, Am, cm, An, cn, Af, cf, rfl, hE w' (fun _ _ _ hc => hc), hX⟩
theorem k_H (w : World) : Calls Tryz.prog 63 #[] w fun e w' => ∃ Ab cb As cs Am cm An cn Af cf, e = .returned (.agg #[.slice Ab 2 cb, .int .i64 1800, .int .i64 1, .int .i64 1000, .slice As 3 cs, .slice Am 2 cm, .slice An 3 cn, .slice Af 3 cf, .int .i64 0, .int .i64 313, .int .i64 0]) ∧ EngAt w' ⟨Ab, cb, As, cs, Am, cm, An, cn, Af, cf, none, 0⟩ engH ∧ Ext w w' := by
 refine (l7_H_any w).mono ?_
 rintro e w' ⟨v, rfl, ⟨⟨Ab, cb, As, cs, Am, cm, An, cn, Af, cf, At, ct⟩, rfl, h1, h2, hE⟩, hX⟩
 dsimp only at h1 h2
 subst h1 h2
 exact ⟨Ab, cb, As, cs, Am, cm, An, cn, Af, cf, rfl, hE, hX⟩
theorem k_Hands {Ab : Option Addr} {cb : Nat} {As : Option Addr} {cs : Nat} {Am : Option Addr} {cm : Nat} {An : Option Addr} {cn : Nat} {Af : Option Addr} {cf : Nat} (w : World) (h : EngAt w ⟨Ab, cb, As, cs, Am, cm, An, cn, Af, cf, none, 0⟩ engG) : Calls Tryz.prog 29 #[.agg #[.slice Ab 2 cb, .int .i64 1800, .int .i64 1, .int .i64 1000, .slice As 3 cs, .slice Am 2 cm, .slice An 3 cn, .slice Af 3 cf, .int .i64 1900, .int .i64 600, .int .i64 0], .slice none 0 0, .int .i64 15] w fun r w' => r = .returned (.tuple #[.agg #[.int .i64 900, .int .i64 12083, .int .i64 820], .int .i64 0]) ∧ Ext w w' := by
 refine (e_Hands_ok ⟨Ab, cb, As, cs, Am, cm, An, cn, Af, cf, none, 0⟩ engG [] 15 w (engSet0 h) shortG (by decide) kG (by decide) (by decide)).mono ?_
 rintro r w' ⟨rfl, hX⟩
 exact ⟨by unfold handsF; rw [kHands.1, kHands.2.1, kHands.2.2], hX⟩
theorem k_Off {Ab : Option Addr} {cb : Nat} {As : Option Addr} {cs : Nat} {Am : Option Addr} {cm : Nat} {An : Option Addr} {cn : Nat} {Af : Option Addr} {cf : Nat} (w : World) (h : EngAt w ⟨Ab, cb, As, cs, Am, cm, An, cn, Af, cf, none, 0⟩ engG) : Calls Tryz.prog 21 #[.agg #[.slice Ab 2 cb, .int .i64 1800, .int .i64 1, .int .i64 1000, .slice As 3 cs, .slice Am 2 cm, .slice An 3 cn, .slice Af 3 cf, .int .i64 1900, .int .i64 600, .int .i64 0], .slice none 0 0, .int .i64 15] w fun r w' => r = .returned (.tuple #[.agg #[.int .i64 0, .int .i64 83, .int .i64 0], .int .i64 0]) ∧ Ext w w' := by
 refine (e_Off_ok ⟨Ab, cb, As, cs, Am, cm, An, cn, Af, cf, none, 0⟩ engG [] 15 w (engSet0 h) shortG (by decide) kG (by decide) (by decide)).mono ?_
 rintro r w' ⟨rfl, hX⟩
 exact ⟨by rw [kOffs.1, kOffs.2.1, kOffs.2.2], hX⟩
theorem k_Foretells {Ab : Option Addr} {cb : Nat} {As : Option Addr} {cs : Nat} {Am : Option Addr} {cm : Nat} {An : Option Addr} {cn : Nat} {Af : Option Addr} {cf : Nat} (w : World) (h : EngAt w ⟨Ab, cb, As, cs, Am, cm, An, cn, Af, cf, none, 0⟩ engG) : Calls Tryz.prog 25 #[.agg #[.slice Ab 2 cb, .int .i64 1800, .int .i64 1, .int .i64 1000, .slice As 3 cs, .slice Am 2 cm, .slice An 3 cn, .slice Af 3 cf, .int .i64 1900, .int .i64 600, .int .i64 0], .slice none 0 0, .int .i64 1, .int .i64 44] w fun r w' => ∃ v, r = .returned (.tuple #[v, .int .i64 0]) ∧ EclVal w' v [⟨15, true, 463⟩, ⟨29, false, 1110⟩] ∧ Ext w w' := by
 refine (e_Foretells_ok ⟨Ab, cb, As, cs, Am, cm, An, cn, Af, cf, none, 0⟩ engG [] 1 44 w (engSet0 h) shortG (by decide) kG (by decide) (by decide)).mono ?_
 rintro r w' ⟨v, rfl, hv, hX⟩
 rw [kFore] at hv
 exact ⟨v, rfl, hv, hX⟩
theorem k_Missed {Ab : Option Addr} {cb : Nat} {As : Option Addr} {cs : Nat} {Am : Option Addr} {cm : Nat} {An : Option Addr} {cn : Nat} {Af : Option Addr} {cf : Nat} (w : World) (h : EngAt w ⟨Ab, cb, As, cs, Am, cm, An, cn, Af, cf, none, 0⟩ engG) : Calls Tryz.prog 39 #[.agg #[.slice Ab 2 cb, .int .i64 1800, .int .i64 1, .int .i64 1000, .slice As 3 cs, .slice Am 2 cm, .slice An 3 cn, .slice Af 3 cf, .int .i64 1900, .int .i64 600, .int .i64 0], .slice none 0 0, .int .i64 1, .int .i64 44, .int .i64 0] w fun r w' => ∃ v, r = .returned (.tuple #[v, .int .i64 0]) ∧ EclVal w' v [⟨30, false, 1893⟩] ∧ Ext w w' := by
 refine (e_Missed_ok ⟨Ab, cb, As, cs, Am, cm, An, cn, Af, cf, none, 0⟩ engG [] 1 44 0 w (engSet0 h) shortG (by decide) kG (by decide) (by decide) (by decide)).mono ?_
 rintro r w' ⟨v, rfl, hv, hX⟩
 rw [kMiss] at hv
 exact ⟨v, rfl, hv, hX⟩
theorem k_Within {Ab : Option Addr} {cb : Nat} {As : Option Addr} {cs : Nat} {Am : Option Addr} {cm : Nat} {An : Option Addr} {cn : Nat} {Af : Option Addr} {cf : Nat} (w : World) (h : EngAt w ⟨Ab, cb, As, cs, Am, cm, An, cn, Af, cf, none, 0⟩ engG) : Calls Tryz.prog 34 #[.agg #[.slice Ab 2 cb, .int .i64 1800, .int .i64 1, .int .i64 1000, .slice As 3 cs, .slice Am 2 cm, .slice An 3 cn, .slice Af 3 cf, .int .i64 1900, .int .i64 600, .int .i64 0], .slice none 0 0, .int .i64 1, .int .i64 44] w fun r w' => r = .returned (.tuple #[.int .i64 1, .int .i64 0]) ∧ Ext w w' := by
 refine (e_Within_ok ⟨Ab, cb, As, cs, Am, cm, An, cn, Af, cf, none, 0⟩ engG [] 1 44 w (engSet0 h) shortG (by decide) kG (by decide) (by decide)).mono ?_
 rintro r w' ⟨rfl, hX⟩
 exact ⟨by rw [kWithin]; rfl, hX⟩
theorem k_Until {Ab : Option Addr} {cb : Nat} {As : Option Addr} {cs : Nat} {Am : Option Addr} {cm : Nat} {An : Option Addr} {cn : Nat} {Af : Option Addr} {cf : Nat} (w : World) (h : EngAt w ⟨Ab, cb, As, cs, Am, cm, An, cn, Af, cf, none, 0⟩ engG) : Calls Tryz.prog 35 #[.agg #[.slice Ab 2 cb, .int .i64 1800, .int .i64 1, .int .i64 1000, .slice As 3 cs, .slice Am 2 cm, .slice An 3 cn, .slice Af 3 cf, .int .i64 1900, .int .i64 600, .int .i64 0], .slice none 0 0, .int .i64 1, .int .i64 44, .int .i64 0] w fun r w' => r = .returned (.tuple #[.int .i64 29, .int .i64 0]) ∧ Ext w w' := by
 refine (e_Until_ok ⟨Ab, cb, As, cs, Am, cm, An, cn, Af, cf, none, 0⟩ engG [] 1 44 0 w (engSet0 h) shortG (by decide) kG (by decide) (by decide) (by decide)).mono ?_
 rintro r w' ⟨rfl, hX⟩
 exact ⟨by rw [kUntil]; rfl, hX⟩
theorem k_Widens {Ab : Option Addr} {cb : Nat} {As : Option Addr} {cs : Nat} {Am : Option Addr} {cm : Nat} {An : Option Addr} {cn : Nat} {Af : Option Addr} {cf : Nat} (w : World) (h : EngAt w ⟨Ab, cb, As, cs, Am, cm, An, cn, Af, cf, none, 0⟩ engH) : Calls Tryz.prog 40 #[.agg #[.slice Ab 2 cb, .int .i64 1800, .int .i64 1, .int .i64 1000, .slice As 3 cs, .slice Am 2 cm, .slice An 3 cn, .slice Af 3 cf, .int .i64 0, .int .i64 313, .int .i64 0], .slice none 0 0, .int .i64 1, .int .i64 44, .int .i64 0] w fun r w' => r = .returned (.tuple #[.int .i64 150, .int .i64 0]) ∧ Ext w w' := by
 refine (e_Widens_ok ⟨Ab, cb, As, cs, Am, cm, An, cn, Af, cf, none, 0⟩ engH [] 1 44 0 w (engSet0 h) shortH (by decide) kH (by decide) (by decide) (by decide)).mono ?_
 rintro r w' ⟨rfl, hX⟩
 exact ⟨by rw [kWidens]; rfl, hX⟩
theorem k_Settings {Ab : Option Addr} {cb : Nat} {As : Option Addr} {cs : Nat} {Am : Option Addr} {cm : Nat} {An : Option Addr} {cn : Nat} {Af : Option Addr} {cf : Nat} (w : World) (h : EngAt w ⟨Ab, cb, As, cs, Am, cm, An, cn, Af, cf, none, 0⟩ engG) : Calls Tryz.prog 41 #[.agg #[.slice Ab 2 cb, .int .i64 1800, .int .i64 1, .int .i64 1000, .slice As 3 cs, .slice Am 2 cm, .slice An 3 cn, .slice Af 3 cf, .int .i64 1900, .int .i64 600, .int .i64 0], .int .i64 1, .int .i64 44, .int .i64 0] w fun r w' => ∃ A c, r = .returned (.tuple #[.slice A 1 c, .int .i64 0]) ∧ Ints w' A [0] ∧ Ext w w' := by
 refine (e_Settings_ok ⟨Ab, cb, As, cs, Am, cm, An, cn, Af, cf, none, 0⟩ engG 1 44 0 w h shortG kG (by decide) (by decide)).mono ?_
 rintro r w' ⟨hS, hX⟩
 rw [show engG.feasts.length = 3 from rfl, kSetP] at hS
 obtain ⟨A, c, rfl, hI⟩ := hS
 exact ⟨A, c, rfl, hI, hX⟩
theorem k_Dark {A : Option Addr} (w : World) (h : BallsAt w A ballsB) : Calls Tryz.prog 64 #[.slice A 3 3] w fun r w' => ∃ B d, r = .returned (.tuple #[.slice B 3 d, .int .i64 0]) ∧ Ints w' B [1, 3, 2] ∧ Ext w w' := by
 refine (e_Dark_ok ballsB A 3 w h (by decide) kBalls).mono ?_
 rintro r w' ⟨B, d, rfl, hI, hX⟩
 rw [kDark] at hI ⊢
 exact ⟨B, d, rfl, hI, hX⟩
theorem k_Read (w : World) (hV : Env w) : Calls Tryz.prog 66 #[.string ⟨#[101, 99, 108, 105, 112, 115, 101, 115, 32, 49, 10, 102, 117, 108, 108, 32, 49, 53, 32, 52, 54, 51, 10, 101, 110, 100, 32, 48, 56, 57, 10]⟩] w fun r w' => ∃ A c, r = .returned (.tuple #[.slice A 1 c, .int .i64 0]) ∧ EclAt w' A [⟨15, true, 463⟩] ∧ Ext w w' := by
 refine (e_Read_ok textKE [⟨15, true, 463⟩] w hV (by decide) kParseE (fun A c W hm => e_isList_one A c 15 463 true W hm (by decide) (by decide))).mono ?_
 rintro r w' ⟨v, rfl, ⟨A, c, rfl, hv⟩, hX⟩
 exact ⟨A, c, rfl, hv, hX⟩
theorem l7_known_any (w : World) (hV : Env w) : Calls Tryz.prog 20 #[] w fun e w' => e = .returned (.bool true) ∧ Ext w w' := by
 have HV := Lib.hid hV
 clear hV
 go_enter Tryz.func20, Tryz.ntmps20
 go_wp2_with fail
 have E0 : Ext w w := Ext.refl w
 refine (k_G _).mono ?_
 rintro e w1 ⟨Ab, cb, As, cs, Am, cm, An, cn, Af, cf, rfl, B, F⟩
 have E1 := E0.trans F
 clear F E0
 go_wp2_with fail
 refine (k_Hands _ B).mono ?_
 rintro e w2 ⟨rfl, F⟩
 have E2 := E1.trans F
 clear F E1
 clear B
 go_wp2_with fail
 have F := (Ext.refl w2).alloc (.cells #[.int .i64 900, .int .i64 12083, .int .i64 820] 39)
 have RH := Row.new w2 39 #[.int .i64 900, .int .i64 12083, .int .i64 820]
 have E3 := E2.trans F
 have hz3 : (w2.alloc (.cells #[.int .i64 900, .int .i64 12083, .int .i64 820] 39)).heap.size = w2.heap.size + 1 := World.size_alloc _ _
 generalize hw3 : w2.alloc (.cells #[.int .i64 900, .int .i64 12083, .int .i64 820] 39) = w3 at *
 clear F E2 hw3
 obtain ⟨gh, hgh⟩ : ∃ gh, w2.heap.size = gh := ⟨_, rfl⟩
 rw [hgh] at RH ⊢
 clear hgh hz3
 refine (k_G _).mono ?_
 rintro e w4 ⟨Ab, cb, As, cs, Am, cm, An, cn, Af, cf, rfl, B, F⟩
 replace RH := RH.ext F
 have E4 := E3.trans F
 clear F E3
 go_wp2_with fail
 refine (k_Off _ B).mono ?_
 rintro e w5 ⟨rfl, F⟩
 replace RH := RH.ext F
 have E5 := E4.trans F
 clear F E4
 clear B
 go_wp2_with fail
 have F := (Ext.refl w5).alloc (.cells #[.int .i64 0, .int .i64 83, .int .i64 0] 39)
 have RO := Row.new w5 39 #[.int .i64 0, .int .i64 83, .int .i64 0]
 replace RH := RH.ext F
 have E6 := E5.trans F
 have hz6 : (w5.alloc (.cells #[.int .i64 0, .int .i64 83, .int .i64 0] 39)).heap.size = w5.heap.size + 1 := World.size_alloc _ _
 generalize hw6 : w5.alloc (.cells #[.int .i64 0, .int .i64 83, .int .i64 0] 39) = w6 at *
 clear F E5 hw6
 obtain ⟨go, hgo⟩ : ∃ go, w5.heap.size = go := ⟨_, rfl⟩
 rw [hgo] at RO ⊢
 clear hgo hz6
 refine (k_G _).mono ?_
 rintro e w7 ⟨Ab, cb, As, cs, Am, cm, An, cn, Af, cf, rfl, B, F⟩
 replace RH := RH.ext F
 replace RO := RO.ext F
 have E7 := E6.trans F
 clear F E6
 go_wp2_with fail
 refine (k_Foretells _ B).mono ?_
 rintro e w8 ⟨vf, rfl, HF, F⟩
 replace RH := RH.ext F
 replace RO := RO.ext F
 have E8 := E7.trans F
 clear F E7
 clear B
 go_wp2_with fail
 refine (k_G _).mono ?_
 rintro e w9 ⟨Ab, cb, As, cs, Am, cm, An, cn, Af, cf, rfl, B, F⟩
 replace RH := RH.ext F
 replace RO := RO.ext F
 replace HF := HF.ext F
 have E9 := E8.trans F
 clear F E8
 go_wp2_with fail
 refine (k_Missed _ B).mono ?_
 rintro e w10 ⟨vm, rfl, HM, F⟩
 replace RH := RH.ext F
 replace RO := RO.ext F
 replace HF := HF.ext F
 have E10 := E9.trans F
 clear F E9
 clear B
 go_wp2_with fail
 refine (k_G _).mono ?_
 rintro e w11 ⟨Ab, cb, As, cs, Am, cm, An, cn, Af, cf, rfl, B, F⟩
 replace RH := RH.ext F
 replace RO := RO.ext F
 replace HF := HF.ext F
 replace HM := HM.ext F
 have E11 := E10.trans F
 clear F E10
 go_wp2_with fail
 refine (k_Within _ B).mono ?_
 rintro e w12 ⟨rfl, F⟩
 replace RH := RH.ext F
 replace RO := RO.ext F
 replace HF := HF.ext F
 replace HM := HM.ext F
 have E12 := E11.trans F
 clear F E11
 clear B
 go_wp2_with fail
 refine (k_G _).mono ?_
 rintro e w13 ⟨Ab, cb, As, cs, Am, cm, An, cn, Af, cf, rfl, B, F⟩
 replace RH := RH.ext F
 replace RO := RO.ext F
 replace HF := HF.ext F
 replace HM := HM.ext F
 have E13 := E12.trans F
 clear F E12
 go_wp2_with fail
 refine (k_Until _ B).mono ?_
 rintro e w14 ⟨rfl, F⟩
 replace RH := RH.ext F
 replace RO := RO.ext F
 replace HF := HF.ext F
 replace HM := HM.ext F
 have E14 := E13.trans F
 clear F E13
 clear B
 go_wp2_with fail
 refine (k_H _).mono ?_
 rintro e w15 ⟨Ab, cb, As, cs, Am, cm, An, cn, Af, cf, rfl, B, F⟩
 replace RH := RH.ext F
 replace RO := RO.ext F
 replace HF := HF.ext F
 replace HM := HM.ext F
 have E15 := E14.trans F
 clear F E14
 go_wp2_with fail
 refine (k_Widens _ B).mono ?_
 rintro e w16 ⟨rfl, F⟩
 replace RH := RH.ext F
 replace RO := RO.ext F
 replace HF := HF.ext F
 replace HM := HM.ext F
 have E16 := E15.trans F
 clear F E15
 clear B
 go_wp2_with fail
 refine (k_G _).mono ?_
 rintro e w17 ⟨Ab, cb, As, cs, Am, cm, An, cn, Af, cf, rfl, B, F⟩
 replace RH := RH.ext F
 replace RO := RO.ext F
 replace HF := HF.ext F
 replace HM := HM.ext F
 have E17 := E16.trans F
 clear F E16
 go_wp2_with fail
 refine (k_Settings _ B).mono ?_
 rintro e w18 ⟨A1, c1, rfl, HS, F⟩
 replace RH := RH.ext F
 replace RO := RO.ext F
 replace HF := HF.ext F
 replace HM := HM.ext F
 have E18 := E17.trans F
 clear F E17
 clear B
 go_wp2_with fail
 refine (l7_B_any _).mono ?_
 rintro e w19 ⟨A2, rfl, B, F⟩
 replace RH := RH.ext F
 replace RO := RO.ext F
 replace HF := HF.ext F
 replace HM := HM.ext F
 replace HS := HS.ext F
 have E19 := E18.trans F
 clear F E18
 go_wp2_with fail
 refine (k_Dark _ B).mono ?_
 rintro e w20 ⟨A3, c3, rfl, HD, F⟩
 replace RH := RH.ext F
 replace RO := RO.ext F
 replace HF := HF.ext F
 replace HM := HM.ext F
 replace HS := HS.ext F
 have E20 := E19.trans F
 clear F E19
 clear B
 go_wp2_with fail
 refine (k_Read _ (HV.out.ext E20)).mono ?_
 rintro e w21 ⟨A4, c4, rfl, HR, F⟩
 replace RH := RH.ext F
 replace RO := RO.ext F
 replace HF := HF.ext F
 replace HM := HM.ext F
 replace HS := HS.ext F
 replace HD := HD.ext F
 have E21 := E20.trans F
 clear F E20
 have sh := RH.cell
 have so := RO.cell
 have eh := neq_hands 900 12083 820 900 12083 820
 have eo := neq_hands 0 83 0 0 83 0
 go_wp2_with fail
 clear sh so eh eo RH RO
 have F := (Ext.refl w21).alloc (.cells #[.int .i64 15, .bool true, .int .i64 463, .int .i64 29, .bool false, .int .i64 1110] 59)
 have R1 := Row.new w21 59 #[.int .i64 15, .bool true, .int .i64 463, .int .i64 29, .bool false, .int .i64 1110]
 replace HF := HF.ext F
 replace HM := HM.ext F
 replace HS := HS.ext F
 replace HD := HD.ext F
 replace HR := HR.ext F
 have E22 := E21.trans F
 have hz22 : (w21.alloc (.cells #[.int .i64 15, .bool true, .int .i64 463, .int .i64 29, .bool false, .int .i64 1110] 59)).heap.size = w21.heap.size + 1 := World.size_alloc _ _
 generalize hw22 : w21.alloc (.cells #[.int .i64 15, .bool true, .int .i64 463, .int .i64 29, .bool false, .int .i64 1110] 59) = w22 at *
 clear F E21 hw22
 refine (r_SameEclipses_any vf _ [⟨15, true, 463⟩, ⟨29, false, 1110⟩] [⟨15, true, 463⟩, ⟨29, false, 1110⟩] w22 HF (ecls_row R1 ⟨rfl, rfl⟩) (by decide) (by decide)).mono ?_
 rintro e w23 ⟨rfl, F⟩
 replace HF := HF.ext F
 replace HM := HM.ext F
 replace HS := HS.ext F
 replace HD := HD.ext F
 replace HR := HR.ext F
 have E23 := E22.trans F
 clear F E22
 simp only [decide_true]
 clear R1 HF
 go_wp2_with fail
 have F := (Ext.refl w23).alloc (.cells #[.int .i64 30, .bool false, .int .i64 1893] 59)
 have R1 := Row.new w23 59 #[.int .i64 30, .bool false, .int .i64 1893]
 replace HM := HM.ext F
 replace HS := HS.ext F
 replace HD := HD.ext F
 replace HR := HR.ext F
 have E24 := E23.trans F
 have hz24 : (w23.alloc (.cells #[.int .i64 30, .bool false, .int .i64 1893] 59)).heap.size = w23.heap.size + 1 := World.size_alloc _ _
 generalize hw24 : w23.alloc (.cells #[.int .i64 30, .bool false, .int .i64 1893] 59) = w24 at *
 clear F E23 hw24
 refine (r_SameEclipses_any vm _ [⟨30, false, 1893⟩] [⟨30, false, 1893⟩] w24 HM (ecls_row R1 ⟨rfl, rfl⟩) (by decide) (by decide)).mono ?_
 rintro e w25 ⟨rfl, F⟩
 replace HM := HM.ext F
 replace HS := HS.ext F
 replace HD := HD.ext F
 replace HR := HR.ext F
 have E25 := E24.trans F
 clear F E24
 simp only [decide_true]
 clear R1 HM
 go_wp2_with fail
 have F := (Ext.refl w25).alloc (.cells #[.int .i64 0] 3)
 have R1 := Row.new w25 3 #[.int .i64 0]
 replace HS := HS.ext F
 replace HD := HD.ext F
 replace HR := HR.ext F
 have E26 := E25.trans F
 have hz26 : (w25.alloc (.cells #[.int .i64 0] 3)).heap.size = w25.heap.size + 1 := World.size_alloc _ _
 generalize hw26 : w25.alloc (.cells #[.int .i64 0] 3) = w26 at *
 clear F E25 hw26
 refine (r_Same_any _ _ [0] [0] w26 ⟨A1, c1, rfl, HS⟩ ⟨_, _, rfl, ints_row R1 (fun k hk => by match k, hk with | 0, _ => rfl)⟩ (by decide) (by decide)).mono ?_
 rintro e w27 ⟨rfl, F⟩
 replace HS := HS.ext F
 replace HD := HD.ext F
 replace HR := HR.ext F
 have E27 := E26.trans F
 clear F E26
 simp only [decide_true]
 clear R1 HS
 go_wp2_with fail
 have F := (Ext.refl w27).alloc (.cells #[.int .i64 1, .int .i64 3, .int .i64 2] 96)
 have R1 := Row.new w27 96 #[.int .i64 1, .int .i64 3, .int .i64 2]
 replace HD := HD.ext F
 replace HR := HR.ext F
 have E28 := E27.trans F
 have hz28 : (w27.alloc (.cells #[.int .i64 1, .int .i64 3, .int .i64 2] 96)).heap.size = w27.heap.size + 1 := World.size_alloc _ _
 generalize hw28 : w27.alloc (.cells #[.int .i64 1, .int .i64 3, .int .i64 2] 96) = w28 at *
 clear F E27 hw28
 refine (r7_SameWords_any A3 _ c3 _ [1, 3, 2] [1, 3, 2] w28 HD (ints_row R1 (fun k hk => by match k, hk with | 0, _ => rfl | 1, _ => rfl | 2, _ => rfl)) (by decide) (by decide)).mono ?_
 rintro e w29 ⟨rfl, F⟩
 replace HD := HD.ext F
 replace HR := HR.ext F
 have E29 := E28.trans F
 clear F E28
 simp only [decide_true]
 clear R1 HD
 go_wp2_with fail
 refine (r7_Print_any [⟨15, true, 463⟩] A4 c4 w29 HR kNumE (by decide)).mono ?_
 rintro e w30 ⟨rfl, F⟩
 replace HR := HR.ext F
 have E30 := E29.trans F
 clear F E29
 rw [kTextV]
 go_wp2_with fail
 go_ret
 exact ⟨rfl, E30⟩
end Go.Proofs.YtcbodpnmndbgnaaGreatDoor
namespace Go.Proofs.YtcbodpnmndbgnaaGreatDoor
open Go.RowKit
open Sp (rd)
set_option maxRecDepth 100000
set_option maxHeartbeats 2000000
set_option linter.unusedVariables false
theorem r1_in_any (x lo hi : Int) (w : World) : Calls Tryz.prog 60 #[.int .i64 x, .int .i64 lo, .int .i64 hi] w fun e w' => e = .returned (.bool (Sp.inR x lo hi)) ∧ w = w' := by
 by_cases h1 : lo ≤ x <;> by_cases h2 : x ≤ hi <;>
 ·go_enter Tryz.func60, Tryz.ntmps60
  go_wp2_with fail
  all_goals
   go_ret
   exact ⟨ret_bool (by simp [Sp.inR, h1, h2]), rfl⟩
theorem r1_in_ext (x lo hi : Int) (w : World) : Calls Tryz.prog 60 #[.int .i64 x, .int .i64 lo, .int .i64 hi] w fun e w' => e = .returned (.bool (Sp.inR x lo hi)) ∧ Ext w w' := by
 refine (r1_in_any x lo hi w).mono ?_
 rintro e w' ⟨rfl, rfl⟩
 exact ⟨rfl, Ext.refl _⟩
theorem r7_in_any (x lo hi : Int) (w : World) : Calls Tryz.prog 61 #[.int .i64 x, .int .i64 lo, .int .i64 hi] w fun e w' => e = .returned (.bool (Sp.inR x lo hi)) ∧ w = w' := by
 by_cases h1 : lo ≤ x <;> by_cases h2 : x ≤ hi <;>
 ·go_enter Tryz.func61, Tryz.ntmps61
  go_wp2_with fail
  all_goals
   go_ret
   exact ⟨ret_bool (by simp [Sp.inR, h1, h2]), rfl⟩
theorem r1_Teeth_any (n : Int) (w : World) : Calls Tryz.prog 113 #[.int .i64 n] w fun e w' => e = .returned (.bool (Ec.isTeeth n)) ∧ w = w' := by
 go_enter Tryz.func113, Tryz.ntmps113
 go_wp2_with fail
 refine (r1_in_any n 4 60 _).mono ?_
 rintro e w' ⟨rfl, rfl⟩
 go_wp2_with fail
 go_ret
 exact ⟨rfl, rfl⟩
theorem r7_Late_any (n : Int) (w : World) : Calls Tryz.prog 37 #[.int .i64 n] w fun e w' => e = .returned (.bool (Ec.isLate n)) ∧ w = w' := by
 go_enter Tryz.func37, Tryz.ntmps37
 go_wp2_with fail
 refine (r7_in_any n 0 30 _).mono ?_
 rintro e w' ⟨rfl, rfl⟩
 go_wp2_with fail
 go_ret
 exact ⟨rfl, rfl⟩
theorem r7_Span_any (lo hi : Int) (w : World) : Calls Tryz.prog 26 #[.int .i64 lo, .int .i64 hi] w fun e w' => e = .returned (.bool (Ec.isSpan lo hi)) ∧ w = w' := by
 by_cases h1 : 1 ≤ lo ∧ lo ≤ 9000
 ·obtain ⟨d1, d2⟩ := h1
  have h1' : Sp.inR lo 1 9000 = true := inR_iff.2 ⟨d1, d2⟩
  by_cases h2 : lo ≤ hi ∧ hi ≤ 9000
  ·obtain ⟨d3, d4⟩ := h2
   have h2' : Sp.inR hi lo 9000 = true := inR_iff.2 ⟨d3, d4⟩
   go_enter Tryz.func26, Tryz.ntmps26
   go_wp2_with (go_at_call 61; refine (r7_in_any _ _ _ _).mono ?_; rintro e w' ⟨rfl, rfl⟩)
   all_goals
    go_ret
    exact ⟨ret_bool (by simp_all [Ec.isSpan]), rfl⟩
  ·have h2' : Sp.inR hi lo 9000 = false := inR_no.2 h2
   clear h2
   go_enter Tryz.func26, Tryz.ntmps26
   go_wp2_with (go_at_call 61; refine (r7_in_any _ _ _ _).mono ?_; rintro e w' ⟨rfl, rfl⟩)
   all_goals
    go_ret
    exact ⟨ret_bool (by simp_all [Ec.isSpan]), rfl⟩
 ·have h1' : Sp.inR lo 1 9000 = false := inR_no.2 h1
  clear h1
  go_enter Tryz.func26, Tryz.ntmps26
  go_wp2_with (go_at_call 61; refine (r7_in_any _ _ _ _).mono ?_; rintro e w' ⟨rfl, rfl⟩)
  all_goals
   go_ret
   exact ⟨ret_bool (by simp_all [Ec.isSpan]), rfl⟩
theorem r1_Feasts_any (A : Option Addr) (c : Nat) (l : List Int) (w : World) (hm : Ints w A l) (hl : l.length ≤ 100000) :
  Calls Tryz.prog 58 #[.slice A l.length c] w fun e w' => e = .returned (.bool (Ec.feastsOk l)) ∧ Ext w w' := by
 have HM := Lib.hid hm
 clear hm
 go_enter Tryz.func58, Tryz.ntmps58
 go_wp2_with fail
 go_loopw [3] (fun i wr => ∃ k : Nat, k ≤ l.length ∧ i = .int .i64 k ∧ Ec.risingN l 1 10000 k = true ∧ Ext w wr) (fun i _ => l.length - (intOf i).toNat)
 case atStart => exact ⟨0, Nat.zero_le _, rfl, rfl, Ext.refl _⟩
 case round =>
  obtain ⟨k, hk, rfl, hq, hE⟩ := hrel
  have HQ := Lib.hid hq
  have HE := Lib.hid hE
  clear hq
  by_cases hlt : k < l.length
  ·obtain ⟨b, o, rfl, hc⟩ := HM.out (by omega)
   have ck := hE.cell (hc k hlt)
   cases hv : Sp.inR (rd l k) 1 10000
   ·have HN := Lib.hid (rising_no (l := l) (lo := 1) (hi := 10000) hlt (by simp [Ec.risingN, hv]))
    clear hE hc
    go_wp2_with fail
    refine wp_region_later (by kernel_rfl) (by kernel_rfl) (fun W hW => ?_)
    subst hW
    have y0 := fun X : Later W => X.ext.cell ck
    clear ck
    repeat (go_big_quiet_step (fail))
    go_big_quiet_step ((go_at_call 60; exact Later.call (r1_in_ext _ _ _ _)))
    repeat (go_big_quiet_step (fail))
    refine wpQuiet_nil ?_
    rintro ⟨w3, hE3⟩
    dsimp only
    have HE3 := Lib.hid (HE.out.trans hE3)
    clear hE3 y0
    go_wp2_with fail
    go_ret
    exact ⟨ret_bool (by simp [Ec.feastsOk, HN.out]), HE3.out⟩
   ·rcases Nat.eq_zero_or_pos k with h0 | h0
    ·subst h0
     simp only [Nat.add_zero] at ck
     have HS : Hid (Ec.risingN l 1 10000 1 = true) := Lib.hid (by simp [Ec.risingN, hv])
     clear hE hc
     go_wp2_with fail
     refine wp_region_later (by kernel_rfl) (by kernel_rfl) (fun W hW => ?_)
     subst hW
     have y0 := fun X : Later W => X.ext.cell ck
     clear ck
     repeat (go_big_quiet_step (fail))
     go_big_quiet_step ((go_at_call 60; exact Later.call (r1_in_ext _ _ _ _)))
     repeat (go_big_quiet_step (fail))
     refine wpQuiet_nil ?_
     rintro ⟨w3, hE3⟩
     dsimp only
     have HE3 := Lib.hid (HE.out.trans hE3)
     clear hE3 y0
     go_wp2_with fail
     go_roundw
     case rel => exact ⟨1, by omega, rfl, HS.out, HE3.out⟩
     case measure => simp [intOf]; omega
    ·have cp := hE.cell (hc (k - 1) (by omega))
     have hk0 : (0 : Int) < (k : Int) := by omega
     by_cases hle : rd l k ≤ rd l (k - 1)
     ·have HN := Lib.hid (rising_no (l := l) (lo := 1) (hi := 10000) hlt (by simp [Ec.risingN]; intro _ _; exact ⟨by omega, hle⟩))
      clear hE hc
      go_wp2_with fail
      refine wp_region_later (by kernel_rfl) (by kernel_rfl) (fun W hW => ?_)
      subst hW
      have y0 := fun X : Later W => X.ext.cell ck
      have y1 := fun X : Later W => X.ext.cell cp
      clear ck cp
      repeat (go_big_quiet_step (fail))
      go_big_quiet_step ((go_at_call 60; exact Later.call (r1_in_ext _ _ _ _)))
      repeat (go_big_quiet_step (fail))
      refine wpQuiet_nil ?_
      rintro ⟨w3, hE3⟩
      dsimp only
      have HE3 := Lib.hid (HE.out.trans hE3)
      clear hE3 y0 y1
      go_wp2_with fail
      go_ret
      exact ⟨ret_bool (by simp [Ec.feastsOk, HN.out]), HE3.out⟩
     ·have HS := Lib.hid (show Ec.risingN l 1 10000 (k + 1) = true by simp [Ec.risingN, HQ.out, hv]; right; omega)
      clear hE hc
      go_wp2_with fail
      refine wp_region_later (by kernel_rfl) (by kernel_rfl) (fun W hW => ?_)
      subst hW
      have y0 := fun X : Later W => X.ext.cell ck
      have y1 := fun X : Later W => X.ext.cell cp
      clear ck cp
      repeat (go_big_quiet_step (fail))
      go_big_quiet_step ((go_at_call 60; exact Later.call (r1_in_ext _ _ _ _)))
      repeat (go_big_quiet_step (fail))
      refine wpQuiet_nil ?_
      rintro ⟨w3, hE3⟩
      dsimp only
      have HE3 := Lib.hid (HE.out.trans hE3)
      clear hE3 y0 y1
      go_wp2_with fail
      go_roundw
      case rel => exact ⟨k + 1, by omega, by go_num, HS.out, HE3.out⟩
      case measure => simp [intOf]; omega
  ·obtain rfl : k = l.length := by omega
   go_wp2_with fail
   go_ret
   exact ⟨ret_bool (by simp [Ec.feastsOk, Ec.rising, HQ.out]; omega), HE.out⟩
theorem r1_Set_any (B A : Option Addr) (n d c : Nat) (l : List Int) (w : World) (hn : n ≤ 100000) (hm : Ints w A l) (hl : l.length ≤ 100000) :
  Calls Tryz.prog 17 #[.slice B n d, .slice A l.length c] w fun e w' => e = .returned (.bool (Ec.rising l 0 ((n : Int) - 1))) ∧ Ext w w' := by
 have HM := Lib.hid hm
 clear hm
 go_enter Tryz.func17, Tryz.ntmps17
 go_wp2_with fail
 go_loopw [5] (fun i wr => ∃ k : Nat, k ≤ l.length ∧ i = .int .i64 k ∧ Ec.risingN l 0 (n - 1) k = true ∧ Ext w wr) (fun i _ => l.length - (intOf i).toNat)
 case atStart => exact ⟨0, Nat.zero_le _, rfl, rfl, Ext.refl _⟩
 case round =>
  obtain ⟨k, hk, rfl, hq, hE⟩ := hrel
  have HQ := Lib.hid hq
  have HE := Lib.hid hE
  clear hq
  by_cases hlt : k < l.length
  ·obtain ⟨b, o, rfl, hc⟩ := HM.out (by omega)
   have ck := hE.cell (hc k hlt)
   cases hv : Sp.inR (rd l k) 0 (n - 1)
   ·have HN := Lib.hid (rising_no (l := l) (lo := 0) (hi := (n - 1)) hlt (by simp [Ec.risingN, hv]))
    clear hE hc
    go_wp2_with fail
    refine wp_region_later (by kernel_rfl) (by kernel_rfl) (fun W hW => ?_)
    subst hW
    have y0 := fun X : Later W => X.ext.cell ck
    clear ck
    repeat (go_big_quiet_step (fail))
    go_big_quiet_step ((go_at_call 60; exact Later.call (r1_in_ext _ _ _ _)))
    repeat (go_big_quiet_step (fail))
    refine wpQuiet_nil ?_
    rintro ⟨w3, hE3⟩
    dsimp only
    have HE3 := Lib.hid (HE.out.trans hE3)
    clear hE3 y0
    go_wp2_with fail
    go_ret
    exact ⟨ret_bool (by rw [HN.out]), HE3.out⟩
   ·rcases Nat.eq_zero_or_pos k with h0 | h0
    ·subst h0
     simp only [Nat.add_zero] at ck
     have HS : Hid (Ec.risingN l 0 (n - 1) 1 = true) := Lib.hid (by simp [Ec.risingN, hv])
     clear hE hc
     go_wp2_with fail
     refine wp_region_later (by kernel_rfl) (by kernel_rfl) (fun W hW => ?_)
     subst hW
     have y0 := fun X : Later W => X.ext.cell ck
     clear ck
     repeat (go_big_quiet_step (fail))
     go_big_quiet_step ((go_at_call 60; exact Later.call (r1_in_ext _ _ _ _)))
     repeat (go_big_quiet_step (fail))
     refine wpQuiet_nil ?_
     rintro ⟨w3, hE3⟩
     dsimp only
     have HE3 := Lib.hid (HE.out.trans hE3)
     clear hE3 y0
     go_wp2_with fail
     go_roundw
     case rel => exact ⟨1, by omega, rfl, HS.out, HE3.out⟩
     case measure => simp [intOf]; omega
    ·have cp := hE.cell (hc (k - 1) (by omega))
     have hk0 : (0 : Int) < (k : Int) := by omega
     by_cases hle : rd l k ≤ rd l (k - 1)
     ·have HN := Lib.hid (rising_no (l := l) (lo := 0) (hi := (n - 1)) hlt (by simp [Ec.risingN]; intro _ _; exact ⟨by omega, hle⟩))
      clear hE hc
      go_wp2_with fail
      refine wp_region_later (by kernel_rfl) (by kernel_rfl) (fun W hW => ?_)
      subst hW
      have y0 := fun X : Later W => X.ext.cell ck
      have y1 := fun X : Later W => X.ext.cell cp
      clear ck cp
      repeat (go_big_quiet_step (fail))
      go_big_quiet_step ((go_at_call 60; exact Later.call (r1_in_ext _ _ _ _)))
      repeat (go_big_quiet_step (fail))
      refine wpQuiet_nil ?_
      rintro ⟨w3, hE3⟩
      dsimp only
      have HE3 := Lib.hid (HE.out.trans hE3)
      clear hE3 y0 y1
      go_wp2_with fail
      go_ret
      exact ⟨ret_bool (by rw [HN.out]), HE3.out⟩
     ·have HS := Lib.hid (show Ec.risingN l 0 (n - 1) (k + 1) = true by simp [Ec.risingN, HQ.out, hv]; right; omega)
      clear hE hc
      go_wp2_with fail
      refine wp_region_later (by kernel_rfl) (by kernel_rfl) (fun W hW => ?_)
      subst hW
      have y0 := fun X : Later W => X.ext.cell ck
      have y1 := fun X : Later W => X.ext.cell cp
      clear ck cp
      repeat (go_big_quiet_step (fail))
      go_big_quiet_step ((go_at_call 60; exact Later.call (r1_in_ext _ _ _ _)))
      repeat (go_big_quiet_step (fail))
      refine wpQuiet_nil ?_
      rintro ⟨w3, hE3⟩
      dsimp only
      have HE3 := Lib.hid (HE.out.trans hE3)
      clear hE3 y0 y1
      go_wp2_with fail
      go_roundw
      case rel => exact ⟨k + 1, by omega, by go_num, HS.out, HE3.out⟩
      case measure => simp [intOf]; omega
  ·obtain rfl : k = l.length := by omega
   go_wp2_with fail
   go_ret
   exact ⟨ret_bool (by rw [Ec.rising, HQ.out]), HE.out⟩
theorem train_no {l : List Ec.Pair} {k : Nat} (hk : k < l.length) (h : Ec.pairOk (pd l k) = false) : Ec.trainOk l = false := by
 cases hr : Ec.trainOk l
 ·rfl
 ·simp only [Ec.trainOk, Bool.and_eq_true, List.all_eq_true] at hr
  have := hr.2 (pd l k) (by unfold pd; rw [List.getD_eq_getElem?_getD, List.getElem?_eq_getElem hk]; exact List.getElem_mem hk)
  rw [h] at this
  exact absurd this (by simp)
theorem train_take {l : List Ec.Pair} {k : Nat} (hk : k < l.length) (h : (l.take k).all Ec.pairOk = true) (hb : Ec.pairOk (pd l k) = true) : (l.take (k + 1)).all Ec.pairOk = true := by
 rw [List.take_succ_eq_append_getElem hk, List.all_append, h]
 unfold pd at hb
 rw [List.getD_eq_getElem?_getD, List.getElem?_eq_getElem hk] at hb
 simpa using hb
theorem r1_Train_any (A : Option Addr) (c : Nat) (l : List Ec.Pair) (w : World) (hm : Pairs w A l) (hl : l.length ≤ 100000) :
  Calls Tryz.prog 57 #[.slice A l.length c] w fun e w' => e = .returned (.bool (Ec.trainOk l)) ∧ w = w' := by
 have HM := Lib.hid hm
 clear hm
 go_enter Tryz.func57, Tryz.ntmps57
 go_wp2_with fail
 go_loop [3] (fun i => ∃ k : Nat, k ≤ l.length ∧ i = .int .i64 k ∧ (l.take k).all Ec.pairOk = true) (fun i => l.length - (intOf i).toNat)
 case atStart => exact ⟨0, Nat.zero_le _, rfl, rfl⟩
 case round =>
  obtain ⟨k, hk, rfl, hq⟩ := hrel
  have HQ := Lib.hid hq
  clear hq
  by_cases hlt : k < l.length
  ·obtain ⟨b, o, rfl, hc⟩ := HM.out (by omega)
   obtain ⟨c1, c2⟩ := hc k hlt
   have HNO := Lib.hid (fun h => train_no hlt h)
   have HYE := Lib.hid (fun h => train_take hlt HQ.out h)
   obtain ⟨m, hm⟩ : ∃ m, pd l k = m := ⟨_, rfl⟩
   rw [hm] at c1 c2 HNO HYE
   obtain ⟨x, y⟩ := m
   simp only at c1 c2
   clear hc hm
   cases hx : Ec.isTeeth x
   ·have HN := Lib.hid (HNO.out (by simp [Ec.pairOk, hx]))
    clear HNO HYE
    go_wp2_with fail
    refine (r1_Teeth_any _ _).mono ?_
    rintro e w' ⟨rfl, rfl⟩
    rw [hx]
    go_wp2_with fail
    go_ret
    exact ⟨ret_bool (by rw [HN.out]), rfl⟩
   ·cases hy : Ec.isTeeth y
    ·have HN := Lib.hid (HNO.out (by simp [Ec.pairOk, hy]))
     clear HNO HYE
     go_wp2_with fail
     refine (r1_Teeth_any _ _).mono ?_
     rintro e w' ⟨rfl, rfl⟩
     rw [hx]
     go_wp2_with fail
     refine (r1_Teeth_any _ _).mono ?_
     rintro e w' ⟨rfl, rfl⟩
     rw [hy]
     go_wp2_with fail
     go_ret
     exact ⟨ret_bool (by rw [HN.out]), rfl⟩
    ·have HS := Lib.hid (HYE.out (by simp [Ec.pairOk, hx, hy]))
     clear HNO HYE
     go_wp2_with fail
     refine (r1_Teeth_any _ _).mono ?_
     rintro e w' ⟨rfl, rfl⟩
     rw [hx]
     go_wp2_with fail
     refine (r1_Teeth_any _ _).mono ?_
     rintro e w' ⟨rfl, rfl⟩
     rw [hy]
     go_wp2_with fail
     go_round
     case rel => exact ⟨k + 1, by omega, by go_num, HS.out⟩
     case measure => simp [intOf]; omega
  ·obtain rfl : k = l.length := by omega
   have HA : Hid (l.all Ec.pairOk = true) := Lib.hid (by have := HQ.out; rwa [List.take_length] at this)
   go_wp2_with fail
   refine (r1_in_any _ _ _ _).mono ?_
   rintro e w' ⟨rfl, rfl⟩
   go_wp2_with fail
   go_ret
   exact ⟨ret_bool (by simp [Ec.trainOk, HA.out]), rfl⟩
end Go.Proofs.YtcbodpnmndbgnaaGreatDoor
