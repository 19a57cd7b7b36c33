/- Volume 4 of the texts that the laws of this seat use: EcHand EcAt EcCells EcAsk EcFree EcFree2 EcRan EcBalls EcDark: walks of the program's functions, and plain laws. -/
import Derived.Outline
import Derived.Carry
import Derived.Great.Frames
import Derived.Test.YtcbodpnmndbgnaaGreatDoorG01
import Derived.Test.YtcbodpnmndbgnaaGreatDoorG02
import Derived.Test.YtcbodpnmndbgnaaGreatDoorG03
namespace Go.Proofs.YtcbodpnmndbgnaaGreatDoor
open Go.RowKit
open Sp (rd)
set_option maxRecDepth 100000
set_option maxHeartbeats 1000000
theorem e_sun_any (p : EP) (e : Ec.Engine) (set : List Int) (M : Nat) (day : Int) (w : World) (hK : Fine e set) (hm : EngSet w p e set) (h1 : 0 ≤ day) (h2 : day ≤ 9030) :
  Calls Tryz.prog 123 #[.agg #[.slice p.Ab e.sky.bodies.length p.cb, .int .i64 e.sky.nnum, .int .i64 e.sky.nden, .int .i64 e.sky.nstart, .slice p.As e.sun.length p.cs, .slice p.Am e.moon.length p.cm, .slice p.An e.node.length p.cn, .slice p.Af e.feasts.length p.cf, .int .i64 e.nw, .int .i64 e.fl, .int .i64 e.wide, .slice p.At set.length p.ct, .map (some M)], .int .i64 day] w fun r w' => r = .returned (.int .i64 (Ec.sunAt e set day)) ∧ Ext w w' := by
 have hn2 := hK.sky.n2
 have hB := hK.sky.body (i := 0) (by omega) (by omega)
 obtain ⟨k1, k2, k3, k4, k5, k6, k7, _, _, _⟩ := hB
 have hT := (engineOk_parts hK.eng).1.1
 have hs := shown_bounds hT (Sp.body e.sky 0).den (Sp.body e.sky 0).num e.feasts set day k1
 obtain ⟨b, o, hb, hBA⟩ := hm.eng.bodies.at_ (i := 0) (by omega) (by omega)
 obtain ⟨hnum, hden, hstart, A, rc, hroad, _⟩ := hBA
 have hlt := lts (lt_of_cell hnum)
 simp only [Int.reduceToNat, Nat.reduceMul, Nat.add_zero] at hnum hden hstart hroad hlt
 have hFIN : Hid (Ec.sunAt e set day = ((Sp.body e.sky 0).start + Ec.shown e.sun (Sp.body e.sky 0).den (Sp.body e.sky 0).num e.feasts set day) % 21600) := Lib.hid rfl
 have HK := Lib.hid hK
 obtain ⟨Ab, cb, As, cs, Am, cm, An, cn, Af, cf, At, ct⟩ := p
 obtain rfl : Ab = some ⟨b, o, none⟩ := hb
 have HM := Lib.hid hm
 clear hK hm
 rw [hFIN.out]
 dsimp only
 generalize (Sp.body e.sky 0).num = num at *
 generalize (Sp.body e.sky 0).den = den at *
 generalize (Sp.body e.sky 0).start = start at *
 obtain ⟨HS, hHS⟩ : ∃ S, Ec.shown e.sun den num e.feasts set day = S := ⟨_, rfl⟩
 have HSH := Lib.hid hHS
 rw [hHS] at hs ⊢
 clear hHS hFIN
 go_enter Tryz.func123, Tryz.ntmps123
 go_wp2_with fail
 refine wp_region_later (by kernel_rfl) (by kernel_rfl) (fun W hW => ?_)
 have q1 := Later.block (w := W) (by rw [hW]; exact (blocks2 _ _ _).1)
 have q2 := Later.block (w := W) (by rw [hW]; exact (blocks2 _ _ _).2)
 have hE0 : Ext w W := by rw [hW]; exact ((Ext.refl _).alloc _).alloc _
 clear hW hnum hden hstart hroad hlt
 have HB := Lib.hid (fun x : Later W => HM.out.ext (hE0.trans x.ext))
 have HCS := Lib.hid (fun x : Later W => by have := e_shown_any ⟨some ⟨b, o, none⟩, cb, As, cs, Am, cm, An, cn, Af, cf, At, ct⟩ e set M As cs e.sun num den day x.world HK.out (HB.out x) (HB.out x).eng.sun hT (by omega) (by omega) (by omega) (by omega) (by omega) (by omega); rw [HSH.out] at this; exact this)
 repeat (go_big_quiet_step ((first | (go_at_call 163; exact Later.call (HCS.out _)) | (go_at_call 131; exact Later.call ((e_around_any _ _ (by omega) (by omega)).mono fun _ _ ⟨h, h'⟩ => ⟨h, h' ▸ Ext.refl _⟩)))))
 refine wpQuiet_nil ?_
 rintro ⟨W1, hE⟩
 go_wp2
 go_ret
 exact ⟨rfl, hE0.trans hE⟩
theorem e_moon_any (p : EP) (e : Ec.Engine) (set : List Int) (M : Nat) (day : Int) (w : World) (hK : Fine e set) (hm : EngSet w p e set) (h1 : 0 ≤ day) (h2 : day ≤ 9030) :
  Calls Tryz.prog 124 #[.agg #[.slice p.Ab e.sky.bodies.length p.cb, .int .i64 e.sky.nnum, .int .i64 e.sky.nden, .int .i64 e.sky.nstart, .slice p.As e.sun.length p.cs, .slice p.Am e.moon.length p.cm, .slice p.An e.node.length p.cn, .slice p.Af e.feasts.length p.cf, .int .i64 e.nw, .int .i64 e.fl, .int .i64 e.wide, .slice p.At set.length p.ct, .map (some M)], .int .i64 day] w fun r w' => r = .returned (.int .i64 (Ec.moonAt e set day)) ∧ Ext w w' := by
 have hn2 := hK.sky.n2
 have hB := hK.sky.body (i := 1) (by omega) (by omega)
 obtain ⟨k1, k2, k3, k4, k5, k6, k7, _, _, _⟩ := hB
 have hT := (engineOk_parts hK.eng).1.2.1
 have hs := shown_bounds hT (Sp.body e.sky 1).den (Sp.body e.sky 1).num e.feasts set day k1
 obtain ⟨b, o, hb, hBA⟩ := hm.eng.bodies.at_ (i := 1) (by omega) (by omega)
 obtain ⟨hnum, hden, hstart, A, rc, hroad, _⟩ := hBA
 have hlt := lts (lt_of_cell hnum)
 simp only [Int.reduceToNat, Nat.reduceMul] at hnum hden hstart hroad hlt
 have hFIN : Hid (Ec.moonAt e set day = ((Sp.body e.sky 1).start + Ec.shown e.moon (Sp.body e.sky 1).den (Sp.body e.sky 1).num e.feasts set day) % 21600) := Lib.hid rfl
 have HK := Lib.hid hK
 obtain ⟨Ab, cb, As, cs, Am, cm, An, cn, Af, cf, At, ct⟩ := p
 obtain rfl : Ab = some ⟨b, o, none⟩ := hb
 have HM := Lib.hid hm
 clear hK hm
 rw [hFIN.out]
 dsimp only
 generalize (Sp.body e.sky 1).num = num at *
 generalize (Sp.body e.sky 1).den = den at *
 generalize (Sp.body e.sky 1).start = start at *
 obtain ⟨HS, hHS⟩ : ∃ S, Ec.shown e.moon den num e.feasts set day = S := ⟨_, rfl⟩
 have HSH := Lib.hid hHS
 rw [hHS] at hs ⊢
 clear hHS hFIN
 go_enter Tryz.func124, Tryz.ntmps124
 go_wp2_with fail
 refine wp_region_later (by kernel_rfl) (by kernel_rfl) (fun W hW => ?_)
 have q1 := Later.block (w := W) (by rw [hW]; exact (blocks2 _ _ _).1)
 have q2 := Later.block (w := W) (by rw [hW]; exact (blocks2 _ _ _).2)
 have hE0 : Ext w W := by rw [hW]; exact ((Ext.refl _).alloc _).alloc _
 clear hW hnum hden hstart hroad hlt
 have HB := Lib.hid (fun x : Later W => HM.out.ext (hE0.trans x.ext))
 have HCS := Lib.hid (fun x : Later W => by have := e_shown_any ⟨some ⟨b, o, none⟩, cb, As, cs, Am, cm, An, cn, Af, cf, At, ct⟩ e set M Am cm e.moon num den day x.world HK.out (HB.out x) (HB.out x).eng.moon hT (by omega) (by omega) (by omega) (by omega) (by omega) (by omega); rw [HSH.out] at this; exact this)
 repeat (go_big_quiet_step ((first | (go_at_call 163; exact Later.call (HCS.out _)) | (go_at_call 131; exact Later.call ((e_around_any _ _ (by omega) (by omega)).mono fun _ _ ⟨h, h'⟩ => ⟨h, h' ▸ Ext.refl _⟩)))))
 refine wpQuiet_nil ?_
 rintro ⟨W1, hE⟩
 go_wp2
 go_ret
 exact ⟨rfl, hE0.trans hE⟩
theorem e_node_any (p : EP) (e : Ec.Engine) (set : List Int) (M : Nat) (day : Int) (w : World) (hK : Fine e set) (hm : EngSet w p e set) (h1 : 0 ≤ day) (h2 : day ≤ 9030) :
  Calls Tryz.prog 125 #[.agg #[.slice p.Ab e.sky.bodies.length p.cb, .int .i64 e.sky.nnum, .int .i64 e.sky.nden, .int .i64 e.sky.nstart, .slice p.As e.sun.length p.cs, .slice p.Am e.moon.length p.cm, .slice p.An e.node.length p.cn, .slice p.Af e.feasts.length p.cf, .int .i64 e.nw, .int .i64 e.fl, .int .i64 e.wide, .slice p.At set.length p.ct, .map (some M)], .int .i64 day] w fun r w' => r = .returned (.int .i64 (Ec.nodeAt e set day)) ∧ Ext w w' := by
 obtain ⟨_, _, k1, k2, k3, k4, _, k5, k6, _⟩ := hK.sky
 have hT := (engineOk_parts hK.eng).1.2.2
 have hs := shown_bounds hT e.sky.nden e.sky.nnum e.feasts set day k1
 have hFIN : Hid (Ec.nodeAt e set day = (e.sky.nstart - Ec.shown e.node e.sky.nden e.sky.nnum e.feasts set day) % 21600) := Lib.hid rfl
 have HK := Lib.hid hK
 have HM := Lib.hid hm
 clear hK hm
 rw [hFIN.out]
 obtain ⟨HS, hHS⟩ : ∃ S, Ec.shown e.node e.sky.nden e.sky.nnum e.feasts set day = S := ⟨_, rfl⟩
 have HSH := Lib.hid hHS
 rw [hHS] at hs ⊢
 clear hHS hFIN
 go_enter Tryz.func125, Tryz.ntmps125
 go_wp2_with fail
 refine wp_region_later (by kernel_rfl) (by kernel_rfl) (fun W hW => ?_)
 have q1 := Later.block (w := W) (by rw [hW]; exact blocks1 _ _)
 have hE0 : Ext w W := by rw [hW]; exact (Ext.refl _).alloc _
 clear hW
 have HB := Lib.hid (fun x : Later W => HM.out.ext (hE0.trans x.ext))
 have HCS := Lib.hid (fun x : Later W => by have := e_shown_any p e set M p.An p.cn e.node e.sky.nnum e.sky.nden day x.world HK.out (HB.out x) (HB.out x).eng.node hT (by omega) (by omega) (by omega) (by omega) (by omega) (by omega); rw [HSH.out] at this; exact this)
 repeat (go_big_quiet_step ((first | (go_at_call 163; exact Later.call (HCS.out _)) | (go_at_call 131; exact Later.call ((e_around_any _ _ (by omega) (by omega)).mono fun _ _ ⟨h, h'⟩ => ⟨h, h' ▸ Ext.refl _⟩)))))
 refine wpQuiet_nil ?_
 rintro ⟨W1, hE⟩
 go_wp2
 go_ret
 exact ⟨rfl, hE0.trans hE⟩
def handsF (e : Ec.Engine) (set : List Int) (d : Int) : Value := .agg #[.int .i64 (Ec.sunAt e set d), .int .i64 (Ec.moonAt e set d), .int .i64 (Ec.nodeAt e set d)]
abbrev Seen (e : Ec.Engine) (set : List Int) (M : Nat) (w : World) : Prop := Cache Tryz.prog 3 (handsF e set) M w
abbrev Move (e : Ec.Engine) (set : List Int) (M : Nat) (w w' : World) : Prop := Step Tryz.prog 3 (handsF e set) M w w'
theorem und_seen : Tryz.prog.underlying 98 = some (.map 3 39) := Tryz.underlying98
theorem zero_hands (w : World) : (zeroValue 39).run Tryz.prog w = .ok (.agg #[.int .i64 0, .int .i64 0, .int .i64 0]) w := by kernel_rfl
theorem pickF0 (x0 x1 x2 : Value) (w : World) : (Instr.index 155 (.agg #[x0, x1, x2]) (.int .i64 0)).run Tryz.prog w = .ok x0 w := by kernel_rfl
theorem pickF1 (x0 x1 x2 : Value) (w : World) : (Instr.index 155 (.agg #[x0, x1, x2]) (.int .i64 1)).run Tryz.prog w = .ok x1 w := by kernel_rfl
theorem pickF2 (x0 x1 x2 : Value) (w : World) : (Instr.index 155 (.agg #[x0, x1, x2]) (.int .i64 2)).run Tryz.prog w = .ok x2 w := by kernel_rfl
theorem hand_bounds {e : Ec.Engine} {set : List Int} (d : Int) : (0 ≤ Ec.sunAt e set d ∧ Ec.sunAt e set d < 21600) ∧ (0 ≤ Ec.moonAt e set d ∧ Ec.moonAt e set d < 21600) ∧ (0 ≤ Ec.nodeAt e set d ∧ Ec.nodeAt e set d < 21600) :=
 ⟨emod_bounds _ 21600 (by omega), emod_bounds _ 21600 (by omega), emod_bounds _ 21600 (by omega)⟩
theorem e_at_any (p : EP) (e : Ec.Engine) (set : List Int) (M : Nat) (day : Int) (w : World) (hK : Fine e set) (hm : EngSet w p e set) (hc : Seen e set M w) (h1 : 0 ≤ day) (h2 : day ≤ 9030) :
  Calls Tryz.prog 71 #[.agg #[.slice p.Ab e.sky.bodies.length p.cb, .int .i64 e.sky.nnum, .int .i64 e.sky.nden, .int .i64 e.sky.nstart, .slice p.As e.sun.length p.cs, .slice p.Am e.moon.length p.cm, .slice p.An e.node.length p.cn, .slice p.Af e.feasts.length p.cf, .int .i64 e.nw, .int .i64 e.fl, .int .i64 e.wide, .slice p.At set.length p.ct, .map (some M)], .int .i64 day] w fun r w' => r = .returned (.agg #[.int .i64 (Ec.sunAt e set day), .int .i64 (Ec.moonAt e set day), .int .i64 (Ec.nodeAt e set day)]) ∧ Move e set M w w' := by
 have hwf : (Lit.int .i64 day).wf = true := WalkArith.wf_i64 (by omega)
 have hE0 : Ext w ((w.alloc (.cells #[.slice p.Ab e.sky.bodies.length p.cb, .int .i64 e.sky.nnum, .int .i64 e.sky.nden, .int .i64 e.sky.nstart, .slice p.As e.sun.length p.cs, .slice p.Am e.moon.length p.cm, .slice p.An e.node.length p.cn, .slice p.Af e.feasts.length p.cf, .int .i64 e.nw, .int .i64 e.fl, .int .i64 e.wide, .slice p.At set.length p.ct, .map (some M)] 100)).alloc (.cells #[.int .i64 0, .int .i64 0, .int .i64 0] 39)) := ((Ext.refl w).alloc _).alloc _
 have hmf : ∀ (fn : Fn) (first cap : Array Value) (w : World), (Instr.makeFunc fn first cap).run Tryz.prog w = .ok (.func fn first cap) w := fun _ _ _ _ => rfl
 rcases (hc.ext hE0).lookup Tryz.underlying3 und_seen (zero_hands _) hwf with hr | hr
 ·have HK := Lib.hid hK
  have HM := Lib.hid hm
  have HC := Lib.hid hc
  have i0 := pickF0
  have i1 := pickF1
  have i2 := pickF2
  clear hK hm hc hE0
  go_enter Tryz.func71, Tryz.ntmps71
  go_wp2_with fail
  have hE4 : Ext w ((((w.alloc (.cells #[.slice p.Ab e.sky.bodies.length p.cb, .int .i64 e.sky.nnum, .int .i64 e.sky.nden, .int .i64 e.sky.nstart, .slice p.As e.sun.length p.cs, .slice p.Am e.moon.length p.cm, .slice p.An e.node.length p.cn, .slice p.Af e.feasts.length p.cf, .int .i64 e.nw, .int .i64 e.fl, .int .i64 e.wide, .slice p.At set.length p.ct, .map (some M)] 100)).alloc (.cells #[.int .i64 0, .int .i64 0, .int .i64 0] 39)).alloc (.cells #[.int .i64 0, .int .i64 0, .int .i64 0] 39)).alloc (.cells #[.int .i64 0, .int .i64 0, .int .i64 0] 154)) := ((((Ext.refl w).alloc _).alloc _).alloc _).alloc _
  have rX : Row ((((w.alloc (.cells #[.slice p.Ab e.sky.bodies.length p.cb, .int .i64 e.sky.nnum, .int .i64 e.sky.nden, .int .i64 e.sky.nstart, .slice p.As e.sun.length p.cs, .slice p.Am e.moon.length p.cm, .slice p.An e.node.length p.cn, .slice p.Af e.feasts.length p.cf, .int .i64 e.nw, .int .i64 e.fl, .int .i64 e.wide, .slice p.At set.length p.ct, .map (some M)] 100)).alloc (.cells #[.int .i64 0, .int .i64 0, .int .i64 0] 39)).alloc (.cells #[.int .i64 0, .int .i64 0, .int .i64 0] 39)).alloc (.cells #[.int .i64 0, .int .i64 0, .int .i64 0] 154)) w.heap.size 100 #[.slice p.Ab e.sky.bodies.length p.cb, .int .i64 e.sky.nnum, .int .i64 e.sky.nden, .int .i64 e.sky.nstart, .slice p.As e.sun.length p.cs, .slice p.Am e.moon.length p.cm, .slice p.An e.node.length p.cn, .slice p.Af e.feasts.length p.cf, .int .i64 e.nw, .int .i64 e.fl, .int .i64 e.wide, .slice p.At set.length p.ct, .map (some M)] := (((Row.new w _ _).alloc _).alloc _).alloc _
  have rR : Row ((((w.alloc (.cells #[.slice p.Ab e.sky.bodies.length p.cb, .int .i64 e.sky.nnum, .int .i64 e.sky.nden, .int .i64 e.sky.nstart, .slice p.As e.sun.length p.cs, .slice p.Am e.moon.length p.cm, .slice p.An e.node.length p.cn, .slice p.Af e.feasts.length p.cf, .int .i64 e.nw, .int .i64 e.fl, .int .i64 e.wide, .slice p.At set.length p.ct, .map (some M)] 100)).alloc (.cells #[.int .i64 0, .int .i64 0, .int .i64 0] 39)).alloc (.cells #[.int .i64 0, .int .i64 0, .int .i64 0] 39)).alloc (.cells #[.int .i64 0, .int .i64 0, .int .i64 0] 154)) (w.heap.size + 1) 39 #[.int .i64 0, .int .i64 0, .int .i64 0] := by
   have := ((Row.new (w.alloc (.cells #[.slice p.Ab e.sky.bodies.length p.cb, .int .i64 e.sky.nnum, .int .i64 e.sky.nden, .int .i64 e.sky.nstart, .slice p.As e.sun.length p.cs, .slice p.Am e.moon.length p.cm, .slice p.An e.node.length p.cn, .slice p.Af e.feasts.length p.cf, .int .i64 e.nw, .int .i64 e.fl, .int .i64 e.wide, .slice p.At set.length p.ct, .map (some M)] 100)) 39 #[.int .i64 0, .int .i64 0, .int .i64 0]).alloc (.cells #[.int .i64 0, .int .i64 0, .int .i64 0] 39)).alloc (.cells #[.int .i64 0, .int .i64 0, .int .i64 0] 154)
   simpa using this
  have rA : Row ((((w.alloc (.cells #[.slice p.Ab e.sky.bodies.length p.cb, .int .i64 e.sky.nnum, .int .i64 e.sky.nden, .int .i64 e.sky.nstart, .slice p.As e.sun.length p.cs, .slice p.Am e.moon.length p.cm, .slice p.An e.node.length p.cn, .slice p.Af e.feasts.length p.cf, .int .i64 e.nw, .int .i64 e.fl, .int .i64 e.wide, .slice p.At set.length p.ct, .map (some M)] 100)).alloc (.cells #[.int .i64 0, .int .i64 0, .int .i64 0] 39)).alloc (.cells #[.int .i64 0, .int .i64 0, .int .i64 0] 39)).alloc (.cells #[.int .i64 0, .int .i64 0, .int .i64 0] 154)) (w.heap.size + 1 + 1 + 1) 154 #[.int .i64 0, .int .i64 0, .int .i64 0] := by
   have := Row.new (((w.alloc (.cells #[.slice p.Ab e.sky.bodies.length p.cb, .int .i64 e.sky.nnum, .int .i64 e.sky.nden, .int .i64 e.sky.nstart, .slice p.As e.sun.length p.cs, .slice p.Am e.moon.length p.cm, .slice p.An e.node.length p.cn, .slice p.Af e.feasts.length p.cf, .int .i64 e.nw, .int .i64 e.fl, .int .i64 e.wide, .slice p.At set.length p.ct, .map (some M)] 100)).alloc (.cells #[.int .i64 0, .int .i64 0, .int .i64 0] 39)).alloc (.cells #[.int .i64 0, .int .i64 0, .int .i64 0] 39)) 154 #[.int .i64 0, .int .i64 0, .int .i64 0]
   simpa using this
  have HE4 := Lib.hid hE4
  have HX := Lib.hid rX
  have HR := Lib.hid rR
  have HA := Lib.hid rA
  clear hE4 rX rR rA hr
  refine wp_loop_rounds 4 ?_
  rw [rounds_succ]
  go_wp2_with fail
  refine (e_sun_any p e set M day _ HK.out (HM.out.ext HE4.out) h1 h2).mono ?_
  rintro r w1 ⟨rfl, hE⟩
  have HX1 := Lib.hid (HX.out.ext hE)
  have HR1 := Lib.hid (HR.out.ext hE)
  have HA1 := Lib.hid (HA.out.ext hE)
  have HE1 := Lib.hid (HE4.out.trans hE)
  have a0 := HA1.out.cell
  have f0 := HA1.out.free
  clear hE
  go_wp2_with fail
  rw [rounds_succ]
  go_wp2_with fail
  refine (e_moon_any p e set M day _ HK.out (HM.out.ext (HE1.out.setCell (p := ⟨w.heap.size + 1 + 1 + 1, 0, none⟩) (by simp <;> omega) _)) h1 h2).mono ?_
  rintro r w2 ⟨rfl, hE⟩
  have HX2 := Lib.hid ((HX1.out.far (p := ⟨w.heap.size + 1 + 1 + 1, 0, none⟩) (by simp <;> omega) _).ext hE)
  have HR2 := Lib.hid ((HR1.out.far (p := ⟨w.heap.size + 1 + 1 + 1, 0, none⟩) (by simp <;> omega) _).ext hE)
  have HA2 : Hid (Row w2 (w.heap.size + 1 + 1 + 1) 154 #[.int .i64 (Ec.sunAt e set day), .int .i64 0, .int .i64 0]) := Lib.hid ((HA1.out.set_ 0 _).ext hE)
  have HE2 := Lib.hid ((HE1.out.setCell (p := ⟨w.heap.size + 1 + 1 + 1, 0, none⟩) (by simp <;> omega) _).trans hE)
  clear hE a0 f0
  have a0 := HA2.out.cell
  have f0 := HA2.out.free
  go_wp2_with fail
  rw [rounds_succ]
  go_wp2_with fail
  refine (e_node_any p e set M day _ HK.out (HM.out.ext (HE2.out.setCell (p := ⟨w.heap.size + 1 + 1 + 1, 1, none⟩) (by simp <;> omega) _)) h1 h2).mono ?_
  rintro r w3 ⟨rfl, hE⟩
  have HX3 := Lib.hid ((HX2.out.far (p := ⟨w.heap.size + 1 + 1 + 1, 1, none⟩) (by simp <;> omega) _).ext hE)
  have HR3 := Lib.hid ((HR2.out.far (p := ⟨w.heap.size + 1 + 1 + 1, 1, none⟩) (by simp <;> omega) _).ext hE)
  have HA3 : Hid (Row w3 (w.heap.size + 1 + 1 + 1) 154 #[.int .i64 (Ec.sunAt e set day), .int .i64 (Ec.moonAt e set day), .int .i64 0]) := Lib.hid ((HA2.out.set_ 1 _).ext hE)
  have HE3 := Lib.hid ((HE2.out.setCell (p := ⟨w.heap.size + 1 + 1 + 1, 1, none⟩) (by simp <;> omega) _).trans hE)
  clear hE a0 f0
  have a0 := HA3.out.cell
  have f0 := HA3.out.free
  have HX4 := Lib.hid (HX3.out.far (p := ⟨w.heap.size + 1 + 1 + 1, 2, none⟩) (by simp <;> omega) (.int .i64 (Ec.nodeAt e set day)))
  have HR4 := Lib.hid (HR3.out.far (p := ⟨w.heap.size + 1 + 1 + 1, 2, none⟩) (by simp <;> omega) (.int .i64 (Ec.nodeAt e set day)))
  have HE5 := Lib.hid (HE3.out.setCell (p := ⟨w.heap.size + 1 + 1 + 1, 2, none⟩) (by simp <;> omega) (.int .i64 (Ec.nodeAt e set day)))
  have x3 := HX3.out.cell
  have j0 := lts HX3.out.lt
  have j1 := lts HR3.out.lt
  have HH : Hid (Row ((w3.setCell ⟨w.heap.size + 1 + 1 + 1, 2, none⟩ (.int .i64 (Ec.nodeAt e set day))).alloc (.cells #[.int .i64 (Ec.sunAt e set day), .int .i64 (Ec.moonAt e set day), .int .i64 (Ec.nodeAt e set day)] 39)) w3.heap.size 39 #[.int .i64 (Ec.sunAt e set day), .int .i64 (Ec.moonAt e set day), .int .i64 (Ec.nodeAt e set day)]) := Lib.hid (by
   have := Row.new (w3.setCell ⟨w.heap.size + 1 + 1 + 1, 2, none⟩ (.int .i64 (Ec.nodeAt e set day))) 39 #[.int .i64 (Ec.sunAt e set day), .int .i64 (Ec.moonAt e set day), .int .i64 (Ec.nodeAt e set day)]
   simpa using this)
  have HR5 := Lib.hid (HR4.out.alloc (.cells #[.int .i64 (Ec.sunAt e set day), .int .i64 (Ec.moonAt e set day), .int .i64 (Ec.nodeAt e set day)] 39))
  have HE6 := Lib.hid (HE5.out.alloc (.cells #[.int .i64 (Ec.sunAt e set day), .int .i64 (Ec.moonAt e set day), .int .i64 (Ec.nodeAt e set day)] 39))
  go_wp2_with fail
  rw [rounds_succ]
  go_wp2_with (at_mapUpdate; refine wpList_store_cache _ rfl _ _ _ _ rfl _ Tryz.underlying3 und_seen rfl (HC.out.ext HE6.out) day rfl rfl hwf h1 (by omega) ?_; intro w5 hc5 hg5; have HS5 : Hid (Step _ _ _ _ _ w5) := Lib.hid ⟨hg5, hc5⟩; have HH5 := Lib.hid (HS5.out.row (HC.out.ext HE6.out) HH.out); have HR6 := Lib.hid (HS5.out.row (HC.out.ext HE6.out) HR5.out); have hh := HH5.out.cell; have rr := HR6.out.cell; have rf := HR6.out.free; clear hg5 hc5 x3 a0 f0)
  have HF := Lib.hid ((((Step.of_ext HC.out HE6.out).trans HS5.out).setCell HC.out (p := ⟨w.heap.size + 1, 0, none⟩) (Nat.le_succ _) (.int .i64 (Ec.sunAt e set day))).setCell HC.out (p := ⟨w.heap.size + 1, 1, none⟩) (Nat.le_succ _) (.int .i64 (Ec.moonAt e set day)))
  exact bodyPost_ret (v := .agg #[.int .i64 (Ec.sunAt e set day), .int .i64 (Ec.moonAt e set day), .int .i64 (Ec.nodeAt e set day)]) (by simp [results, Tryz.results71, go_sem, rr]) rfl ⟨rfl, HF.out.setCell HC.out (p := ⟨w.heap.size + 1, 2, none⟩) (Nat.le_succ _) _⟩
 ·have HC := Lib.hid hc
  clear hm hE0
  simp only [handsF] at hr
  go_enter Tryz.func71, Tryz.ntmps71
  go_wp2_with fail
  exact bodyPost_ret (v := .agg #[.int .i64 (Ec.sunAt e set day), .int .i64 (Ec.moonAt e set day), .int .i64 (Ec.nodeAt e set day)]) (by simp [results, Tryz.results71, go_sem]) rfl ⟨rfl, Step.of_ext HC.out ((((Ext.refl w).alloc _).alloc _).alloc _)⟩
theorem e_lead_any (p : EP) (e : Ec.Engine) (set : List Int) (M : Nat) (day : Int) (w : World) (hK : Fine e set) (hm : EngSet w p e set) (hc : Seen e set M w) (h1 : 0 ≤ day) (h2 : day ≤ 9030) :
  Calls Tryz.prog 137 #[.agg #[.slice p.Ab e.sky.bodies.length p.cb, .int .i64 e.sky.nnum, .int .i64 e.sky.nden, .int .i64 e.sky.nstart, .slice p.As e.sun.length p.cs, .slice p.Am e.moon.length p.cm, .slice p.An e.node.length p.cn, .slice p.Af e.feasts.length p.cf, .int .i64 e.nw, .int .i64 e.fl, .int .i64 e.wide, .slice p.At set.length p.ct, .map (some M)], .int .i64 day] w fun r w' => r = .returned (.int .i64 (Ec.leadAt e set day)) ∧ Move e set M w w' := by
 obtain ⟨⟨a1, a2⟩, ⟨b1, b2⟩, _⟩ := hand_bounds (e := e) (set := set) day
 have hE0 := (Ext.refl w).alloc (.cells #[.slice p.Ab e.sky.bodies.length p.cb, .int .i64 e.sky.nnum, .int .i64 e.sky.nden, .int .i64 e.sky.nstart, .slice p.As e.sun.length p.cs, .slice p.Am e.moon.length p.cm, .slice p.An e.node.length p.cn, .slice p.Af e.feasts.length p.cf, .int .i64 e.nw, .int .i64 e.fl, .int .i64 e.wide, .slice p.At set.length p.ct, .map (some M)] 100)
 have HK := Lib.hid hK
 have HM := Lib.hid (hm.ext hE0)
 have HC := Lib.hid (hc.ext hE0)
 have HS0 := Lib.hid (Step.of_ext hc hE0)
 clear hK hm hc hE0
 go_enter Tryz.func137, Tryz.ntmps137
 go_wp2_with fail
 refine (e_at_any p e set M day _ HK.out HM.out HC.out h1 h2).mono ?_
 rintro r w1 ⟨rfl, hS⟩
 have HS := Lib.hid (HS0.out.trans hS)
 clear hS
 go_wp2_with fail
 refine (e_around_any _ _ (by omega) (by omega)).mono ?_
 rintro r w2 ⟨rfl, rfl⟩
 go_wp2_with fail
 go_ret
 exact ⟨rfl, HS.out.ext ((Ext.refl _).alloc _)⟩
theorem e_far_any (p : EP) (e : Ec.Engine) (set : List Int) (M : Nat) (day : Int) (w : World) (hK : Fine e set) (hm : EngSet w p e set) (hc : Seen e set M w) (h1 : 0 ≤ day) (h2 : day ≤ 9030) :
  Calls Tryz.prog 89 #[.agg #[.slice p.Ab e.sky.bodies.length p.cb, .int .i64 e.sky.nnum, .int .i64 e.sky.nden, .int .i64 e.sky.nstart, .slice p.As e.sun.length p.cs, .slice p.Am e.moon.length p.cm, .slice p.An e.node.length p.cn, .slice p.Af e.feasts.length p.cf, .int .i64 e.nw, .int .i64 e.fl, .int .i64 e.wide, .slice p.At set.length p.ct, .map (some M)], .int .i64 day] w fun r w' => r = .returned (.int .i64 (Ec.farAt e set day)) ∧ Move e set M w w' := by
 obtain ⟨_, ⟨b1, b2⟩, c1, c2⟩ := hand_bounds (e := e) (set := set) day
 have hE0 := (Ext.refl w).alloc (.cells #[.slice p.Ab e.sky.bodies.length p.cb, .int .i64 e.sky.nnum, .int .i64 e.sky.nden, .int .i64 e.sky.nstart, .slice p.As e.sun.length p.cs, .slice p.Am e.moon.length p.cm, .slice p.An e.node.length p.cn, .slice p.Af e.feasts.length p.cf, .int .i64 e.nw, .int .i64 e.fl, .int .i64 e.wide, .slice p.At set.length p.ct, .map (some M)] 100)
 have HK := Lib.hid hK
 have HM := Lib.hid (hm.ext hE0)
 have HC := Lib.hid (hc.ext hE0)
 have HS0 := Lib.hid (Step.of_ext hc hE0)
 have m1 := emod_bounds (Ec.moonAt e set day - Ec.nodeAt e set day) 21600 (by omega)
 have m2 := emod_bounds ((Ec.moonAt e set day - Ec.nodeAt e set day) % 21600) 10800 (by omega)
 clear hK hm hc hE0
 go_enter Tryz.func89, Tryz.ntmps89
 go_wp2_with fail
 refine (e_at_any p e set M day _ HK.out HM.out HC.out h1 h2).mono ?_
 rintro r w1 ⟨rfl, hS⟩
 have HS := Lib.hid (HS0.out.trans hS)
 clear hS
 go_wp2_with fail
 refine (e_around_any _ _ (by omega) (by omega)).mono ?_
 rintro r w2 ⟨rfl, rfl⟩
 go_wp2_with fail
 all_goals
  go_ret
  exact ⟨ret_int (by unfold Ec.farAt; dsimp only; omega), HS.out.ext ((Ext.refl _).alloc _)⟩
theorem far_bounds (e : Ec.Engine) (set : List Int) (d : Int) : 0 ≤ Ec.farAt e set d ∧ Ec.farAt e set d ≤ 5400 := by
 have m2 := emod_bounds ((Ec.moonAt e set d - Ec.nodeAt e set d) % 21600) 10800 (by omega)
 unfold Ec.farAt
 dsimp only
 omega
theorem lead_bounds (e : Ec.Engine) (set : List Int) (d : Int) : 0 ≤ Ec.leadAt e set d ∧ Ec.leadAt e set d < 21600 := emod_bounds _ 21600 (by omega)
theorem near_bounds (n : Int) : -10800 ≤ Ec.near n ∧ Ec.near n < 10800 := by
 unfold Ec.near
 omega
theorem ta_e_new (w : World) : (Instr.typeAssert (.iface 161 (.agg #[])) 116 162 true).run Tryz.prog w = .ok (.tuple #[.agg #[], .bool false]) w := by kernel_rfl
theorem ta_e_full (w : World) : (Instr.typeAssert (.iface 162 (.agg #[])) 116 162 true).run Tryz.prog w = .ok (.tuple #[.agg #[], .bool true]) w := by kernel_rfl
theorem e_new_full (w : World) : Calls Tryz.prog 257 #[.agg #[]] w fun e w' => e = .returned (.bool false) ∧ Ext w w' := by
 go_enter Tryz.func257, Tryz.ntmps257
 go_wp2_with fail
 go_ret
 exact ⟨rfl, (Ext.refl _).alloc _⟩
theorem e_full_full (w : World) : Calls Tryz.prog 258 #[.agg #[]] w fun e w' => e = .returned (.bool true) ∧ Ext w w' := by
 go_enter Tryz.func258, Tryz.ntmps258
 go_wp2_with fail
 go_ret
 exact ⟨rfl, (Ext.refl _).alloc _⟩
theorem e_has_false (p : EP) (e : Ec.Engine) (set : List Int) (M : Nat) (day : Int) (w : World) (hK : Fine e set) (hm : EngSet w p e set) (hc : Seen e set M w) (h1 : 1 ≤ day) (h2 : day ≤ 9030) :
  Calls Tryz.prog 88 #[.agg #[.slice p.Ab e.sky.bodies.length p.cb, .int .i64 e.sky.nnum, .int .i64 e.sky.nden, .int .i64 e.sky.nstart, .slice p.As e.sun.length p.cs, .slice p.Am e.moon.length p.cm, .slice p.An e.node.length p.cn, .slice p.Af e.feasts.length p.cf, .int .i64 e.nw, .int .i64 e.fl, .int .i64 e.wide, .slice p.At set.length p.ct, .map (some M)], .iface 161 (.agg #[]), .int .i64 day] w fun r w' => r = .returned (.bool (Ec.hasB e set day false)) ∧ Move e set M w w' := by
 obtain ⟨a1, a2⟩ := lead_bounds e set (day - 1)
 obtain ⟨b1, b2⟩ := lead_bounds e set day
 have hE0 := (Ext.refl w).alloc (.cells #[.slice p.Ab e.sky.bodies.length p.cb, .int .i64 e.sky.nnum, .int .i64 e.sky.nden, .int .i64 e.sky.nstart, .slice p.As e.sun.length p.cs, .slice p.Am e.moon.length p.cm, .slice p.An e.node.length p.cn, .slice p.Af e.feasts.length p.cf, .int .i64 e.nw, .int .i64 e.fl, .int .i64 e.wide, .slice p.At set.length p.ct, .map (some M)] 100)
 have HFIN : Hid (Ec.hasB e set day false = Ec.crossB (Ec.leadAt e set (day - 1)) (Ec.leadAt e set day) false) := Lib.hid rfl
 have HK := Lib.hid hK
 have HM := Lib.hid (hm.ext hE0)
 have HC := Lib.hid (hc.ext hE0)
 have HS0 := Lib.hid (Step.of_ext hc hE0)
 have HR0 := Lib.hid (Row.new w 100 #[.slice p.Ab e.sky.bodies.length p.cb, .int .i64 e.sky.nnum, .int .i64 e.sky.nden, .int .i64 e.sky.nstart, .slice p.As e.sun.length p.cs, .slice p.Am e.moon.length p.cm, .slice p.An e.node.length p.cn, .slice p.Af e.feasts.length p.cf, .int .i64 e.nw, .int .i64 e.fl, .int .i64 e.wide, .slice p.At set.length p.ct, .map (some M)])
 have tT := ta_e_new
 clear hK hm hc hE0
 obtain ⟨L0, hL0⟩ : ∃ L0, Ec.leadAt e set (day - 1) = L0 := ⟨_, rfl⟩
 obtain ⟨L1, hL1⟩ : ∃ L1, Ec.leadAt e set day = L1 := ⟨_, rfl⟩
 rw [hL0] at a1 a2 HFIN
 rw [hL1] at b1 b2 HFIN
 have H0 := Lib.hid hL0
 have H1 := Lib.hid hL1
 clear hL0 hL1
 obtain ⟨G, hG⟩ : ∃ G, Ec.near (L1 - L0) = G := ⟨_, rfl⟩
 have HG := Lib.hid hG
 have n := near_bounds (L1 - L0)
 have HX : Hid (Ec.crossB L0 L1 false = (decide (0 < G) && decide (21600 ≤ L0 + G))) := Lib.hid (by
  unfold Ec.crossB
  rw [hG]
  simp only [Sp.halfOf, Bool.false_eq_true, if_false, Int.sub_zero, Int.emod_eq_of_lt a1 a2])
 rw [hG] at n
 obtain ⟨n1, n2⟩ := n
 clear hG
 skip
 by_cases hg : 0 < G
 all_goals
  have HGD := Lib.hid hg
  go_enter Tryz.func88, Tryz.ntmps88
  go_wp2_with fail
  refine (e_lead_any p e set M (day - 1) _ HK.out HM.out HC.out (by omega) (by omega)).mono ?_
  rintro r w1 ⟨rfl, hS⟩
  rw [H0.out]
  have HM1 := Lib.hid (HM.out.stay (hS.stays HC.out))
  have HC1 := Lib.hid hS.cache
  have HS1 := Lib.hid (HS0.out.trans hS)
  have hr := hS.row HC.out HR0.out
  have b0 := hr.cell
  clear hS
  go_wp2_with fail
  refine (e_lead_any p e set M day _ HK.out HM1.out HC1.out (by omega) (by omega)).mono ?_
  rintro r w2 ⟨rfl, hS⟩
  rw [H1.out]
  have HS2 := Lib.hid (HS1.out.trans hS)
  clear hS b0 hr
  go_wp2_with fail
  refine (e_signed_any _ _ (by omega) (by omega)).mono ?_
  rintro r w3 ⟨rfl, rfl⟩
  rw [HG.out]
  go_wp2_with fail
  go_ret
  exact ⟨ret_bool (by rw [HFIN.out, HX.out]; have h9 := HGD.out; first | (simp [h9]; done) | (simp; omega)), HS2.out⟩
theorem e_has_true (p : EP) (e : Ec.Engine) (set : List Int) (M : Nat) (day : Int) (w : World) (hK : Fine e set) (hm : EngSet w p e set) (hc : Seen e set M w) (h1 : 1 ≤ day) (h2 : day ≤ 9030) :
  Calls Tryz.prog 88 #[.agg #[.slice p.Ab e.sky.bodies.length p.cb, .int .i64 e.sky.nnum, .int .i64 e.sky.nden, .int .i64 e.sky.nstart, .slice p.As e.sun.length p.cs, .slice p.Am e.moon.length p.cm, .slice p.An e.node.length p.cn, .slice p.Af e.feasts.length p.cf, .int .i64 e.nw, .int .i64 e.fl, .int .i64 e.wide, .slice p.At set.length p.ct, .map (some M)], .iface 162 (.agg #[]), .int .i64 day] w fun r w' => r = .returned (.bool (Ec.hasB e set day true)) ∧ Move e set M w w' := by
 obtain ⟨a1, a2⟩ := lead_bounds e set (day - 1)
 obtain ⟨b1, b2⟩ := lead_bounds e set day
 have hE0 := (Ext.refl w).alloc (.cells #[.slice p.Ab e.sky.bodies.length p.cb, .int .i64 e.sky.nnum, .int .i64 e.sky.nden, .int .i64 e.sky.nstart, .slice p.As e.sun.length p.cs, .slice p.Am e.moon.length p.cm, .slice p.An e.node.length p.cn, .slice p.Af e.feasts.length p.cf, .int .i64 e.nw, .int .i64 e.fl, .int .i64 e.wide, .slice p.At set.length p.ct, .map (some M)] 100)
 have HFIN : Hid (Ec.hasB e set day true = Ec.crossB (Ec.leadAt e set (day - 1)) (Ec.leadAt e set day) true) := Lib.hid rfl
 have HK := Lib.hid hK
 have HM := Lib.hid (hm.ext hE0)
 have HC := Lib.hid (hc.ext hE0)
 have HS0 := Lib.hid (Step.of_ext hc hE0)
 have HR0 := Lib.hid (Row.new w 100 #[.slice p.Ab e.sky.bodies.length p.cb, .int .i64 e.sky.nnum, .int .i64 e.sky.nden, .int .i64 e.sky.nstart, .slice p.As e.sun.length p.cs, .slice p.Am e.moon.length p.cm, .slice p.An e.node.length p.cn, .slice p.Af e.feasts.length p.cf, .int .i64 e.nw, .int .i64 e.fl, .int .i64 e.wide, .slice p.At set.length p.ct, .map (some M)])
 have tT := ta_e_full
 clear hK hm hc hE0
 obtain ⟨L0, hL0⟩ : ∃ L0, Ec.leadAt e set (day - 1) = L0 := ⟨_, rfl⟩
 obtain ⟨L1, hL1⟩ : ∃ L1, Ec.leadAt e set day = L1 := ⟨_, rfl⟩
 rw [hL0] at a1 a2 HFIN
 rw [hL1] at b1 b2 HFIN
 have H0 := Lib.hid hL0
 have H1 := Lib.hid hL1
 clear hL0 hL1
 obtain ⟨G, hG⟩ : ∃ G, Ec.near (L1 - L0) = G := ⟨_, rfl⟩
 have HG := Lib.hid hG
 have n := near_bounds (L1 - L0)
 have HX : Hid (Ec.crossB L0 L1 true = (decide (0 < G) && decide (21600 ≤ (L0 - 10800) % 21600 + G))) := Lib.hid (by
  unfold Ec.crossB
  rw [hG]
  simp only [Sp.halfOf, if_true])
 rw [hG] at n
 obtain ⟨n1, n2⟩ := n
 clear hG
 have m1 := emod_bounds (L0 - 10800) 21600 (by omega)
 by_cases hg : 0 < G
 all_goals
  have HGD := Lib.hid hg
  go_enter Tryz.func88, Tryz.ntmps88
  go_wp2_with fail
  refine (e_lead_any p e set M (day - 1) _ HK.out HM.out HC.out (by omega) (by omega)).mono ?_
  rintro r w1 ⟨rfl, hS⟩
  rw [H0.out]
  have HM1 := Lib.hid (HM.out.stay (hS.stays HC.out))
  have HC1 := Lib.hid hS.cache
  have HS1 := Lib.hid (HS0.out.trans hS)
  have hr := hS.row HC.out HR0.out
  have b0 := hr.cell
  clear hS
  go_wp2_with fail
  refine (e_lead_any p e set M day _ HK.out HM1.out HC1.out (by omega) (by omega)).mono ?_
  rintro r w2 ⟨rfl, hS⟩
  rw [H1.out]
  have HS2 := Lib.hid (HS1.out.trans hS)
  clear hS b0 hr
  go_wp2_with fail
  refine (e_signed_any _ _ (by omega) (by omega)).mono ?_
  rintro r w3 ⟨rfl, rfl⟩
  rw [HG.out]
  go_wp2_with fail
  refine (e_around_any _ _ (by omega) (by omega)).mono ?_
  rintro r w3 ⟨rfl, rfl⟩
  go_wp2_with fail
  go_ret
  exact ⟨ret_bool (by rw [HFIN.out, HX.out]; have h9 := HGD.out; first | (simp [h9]; done) | (simp; omega)), HS2.out⟩
theorem e_limit_false (p : EP) (e : Ec.Engine) (set : List Int) (M : Nat) (w : World) :
  Calls Tryz.prog 90 #[.agg #[.slice p.Ab e.sky.bodies.length p.cb, .int .i64 e.sky.nnum, .int .i64 e.sky.nden, .int .i64 e.sky.nstart, .slice p.As e.sun.length p.cs, .slice p.Am e.moon.length p.cm, .slice p.An e.node.length p.cn, .slice p.Af e.feasts.length p.cf, .int .i64 e.nw, .int .i64 e.fl, .int .i64 e.wide, .slice p.At set.length p.ct, .map (some M)], .iface 161 (.agg #[])] w fun r w' => r = .returned (.int .i64 (Ec.limitOf e false)) ∧ Ext w w' := by
 have hn : ∀ w, (nilAhead 372 161 (.agg #[]) "tellurion/eclipse.full").run Tryz.prog w = .ok (some false) w := fun _ => by kernel_rfl
 have hn' : ∀ w, (method 372 161 (.agg #[]) "tellurion/eclipse.full").run Tryz.prog w = .ok (257, .agg #[]) w := fun _ => by kernel_rfl
 go_enter Tryz.func90, Tryz.ntmps90
 go_wp2_with fail
 refine (e_new_full _).mono ?_
 rintro r w1 ⟨rfl, hE⟩
 have hb := ((Row.new w 100 #[.slice p.Ab e.sky.bodies.length p.cb, .int .i64 e.sky.nnum, .int .i64 e.sky.nden, .int .i64 e.sky.nstart, .slice p.As e.sun.length p.cs, .slice p.Am e.moon.length p.cm, .slice p.An e.node.length p.cn, .slice p.Af e.feasts.length p.cf, .int .i64 e.nw, .int .i64 e.fl, .int .i64 e.wide, .slice p.At set.length p.ct, .map (some M)]).ext hE).cell
 replace hE := ((Ext.refl w).alloc _).trans hE
 go_wp2_with fail
 go_ret
 exact ⟨rfl, hE⟩
theorem e_limit_true (p : EP) (e : Ec.Engine) (set : List Int) (M : Nat) (w : World) :
  Calls Tryz.prog 90 #[.agg #[.slice p.Ab e.sky.bodies.length p.cb, .int .i64 e.sky.nnum, .int .i64 e.sky.nden, .int .i64 e.sky.nstart, .slice p.As e.sun.length p.cs, .slice p.Am e.moon.length p.cm, .slice p.An e.node.length p.cn, .slice p.Af e.feasts.length p.cf, .int .i64 e.nw, .int .i64 e.fl, .int .i64 e.wide, .slice p.At set.length p.ct, .map (some M)], .iface 162 (.agg #[])] w fun r w' => r = .returned (.int .i64 (Ec.limitOf e true)) ∧ Ext w w' := by
 have hn : ∀ w, (nilAhead 372 162 (.agg #[]) "tellurion/eclipse.full").run Tryz.prog w = .ok (some false) w := fun _ => by kernel_rfl
 have hn' : ∀ w, (method 372 162 (.agg #[]) "tellurion/eclipse.full").run Tryz.prog w = .ok (258, .agg #[]) w := fun _ => by kernel_rfl
 go_enter Tryz.func90, Tryz.ntmps90
 go_wp2_with fail
 refine (e_full_full _).mono ?_
 rintro r w1 ⟨rfl, hE⟩
 have hb := ((Row.new w 100 #[.slice p.Ab e.sky.bodies.length p.cb, .int .i64 e.sky.nnum, .int .i64 e.sky.nden, .int .i64 e.sky.nstart, .slice p.As e.sun.length p.cs, .slice p.Am e.moon.length p.cm, .slice p.An e.node.length p.cn, .slice p.Af e.feasts.length p.cf, .int .i64 e.nw, .int .i64 e.fl, .int .i64 e.wide, .slice p.At set.length p.ct, .map (some M)]).ext hE).cell
 replace hE := ((Ext.refl w).alloc _).trans hE
 go_wp2_with fail
 go_ret
 exact ⟨rfl, hE⟩
end Go.Proofs.YtcbodpnmndbgnaaGreatDoor
namespace Go.Proofs.YtcbodpnmndbgnaaGreatDoor
open Go.RowKit
def setsAt (W : World) (g : Nat) : Nat → List Value → World
 | _, [] => W
 | i, v :: vs => setsAt (W.setCell ⟨g, i, none⟩ v) g (i + 1) vs
theorem Row.sets_ {g : Nat} {t : TypeId} : ∀ (vs pre rest : List Value) (W : World), Row W g t (pre ++ rest).toArray → rest.length = vs.length → Row (setsAt W g pre.length vs) g t (pre ++ vs).toArray
 | [], pre, rest, W, h, hl => by
  obtain rfl : rest = [] := List.eq_nil_of_length_eq_zero (by simpa using hl)
  exact h
 | _ :: _, _, [], _, _, hl => by simp at hl
 | v :: vs, pre, x :: rest, W, h, hl => by
  have h1 := h.set_ pre.length v
  have h2 : ((pre ++ x :: rest).toArray.setIfInBounds pre.length v) = ((pre ++ [v]) ++ rest).toArray := by simp
  rw [h2] at h1
  have := Row.sets_ vs (pre ++ [v]) rest _ h1 (by simpa using hl)
  simp only [List.length_append, List.length_cons, List.length_nil, List.append_assoc, List.cons_append, List.nil_append] at this
  exact this
theorem Row.sets {g : Nat} {t : TypeId} {W : World} {cs : List Value} (h : Row W g t cs.toArray) (vs : List Value) (hl : cs.length = vs.length) : Row (setsAt W g 0 vs) g t vs.toArray := Row.sets_ vs [] cs W h hl
theorem Ext.sets {w : World} {g : Nat} (hg : w.heap.size ≤ g) : ∀ (vs : List Value) (i : Nat) (W : World), Ext w W → Ext w (setsAt W g i vs)
 | [], _, _, h => h
 | v :: vs, i, _, h => Ext.sets hg vs (i + 1) _ (h.setCell (p := ⟨g, i, none⟩) hg v)
theorem Cache.sets {P : Program} {kt : TypeId} {f : Int → Value} {M g : Nat} (hg : g ≠ M) : ∀ (vs : List Value) (i : Nat) (W : World), Cache P kt f M W → Cache P kt f M (setsAt W g i vs)
 | [], _, _, h => h
 | v :: vs, i, _, h => Cache.sets hg vs (i + 1) _ (h.far ⟨g, i, none⟩ v hg)
end Go.Proofs.YtcbodpnmndbgnaaGreatDoor
namespace Go.Proofs.YtcbodpnmndbgnaaGreatDoor
open Go.RowKit
open Sp (rd)
set_option maxRecDepth 100000
set_option maxHeartbeats 1000000
def zeroEng : Array Value := #[.slice none 0 0, .int .i64 0, .int .i64 0, .int .i64 0, .slice none 0 0, .slice none 0 0, .slice none 0 0, .slice none 0 0, .int .i64 0, .int .i64 0, .int .i64 0, .slice none 0 0, .map none]
def AskPost (p : EP) (e : Ec.Engine) (set : List Int) (w : World) (r : Ending) (w' : World) : Prop :=
 ∃ M, r = .returned (.tuple #[.agg #[.slice p.Ab e.sky.bodies.length p.cb, .int .i64 e.sky.nnum, .int .i64 e.sky.nden, .int .i64 e.sky.nstart, .slice p.As e.sun.length p.cs, .slice p.Am e.moon.length p.cm, .slice p.An e.node.length p.cn, .slice p.Af e.feasts.length p.cf, .int .i64 e.nw, .int .i64 e.fl, .int .i64 e.wide, .slice p.At set.length p.ct, .map (some M)], .int .i64 0]) ∧ w.heap.size ≤ M ∧ Seen e set M w' ∧ Ext w w'
theorem e_asked_ok (p : EP) (e : Ec.Engine) (set : List Int) (w : World) (hm : EngSet w p e set) (hl : EngShort e) (hs : set.length ≤ 100000) (c0 : Ec.engineOk e = true) (c1 : Ec.setOk e.feasts set = true) :
  Calls Tryz.prog 69 #[.agg #[.slice p.Ab e.sky.bodies.length p.cb, .int .i64 e.sky.nnum, .int .i64 e.sky.nden, .int .i64 e.sky.nstart, .slice p.As e.sun.length p.cs, .slice p.Am e.moon.length p.cm, .slice p.An e.node.length p.cn, .slice p.Af e.feasts.length p.cf, .int .i64 e.nw, .int .i64 e.fl, .int .i64 e.wide], .slice p.At set.length p.ct, .bool true] w (AskPost p e set w) := by
 have HM := Lib.hid hm
 have HL := Lib.hid hl
 have hf := hl.feasts
 have c1' : Ec.rising set 0 ((e.feasts.length : Int) - 1) = true := c1
 have HR0 : Hid (Row ((w.alloc (.cells #[.slice p.Ab e.sky.bodies.length p.cb, .int .i64 e.sky.nnum, .int .i64 e.sky.nden, .int .i64 e.sky.nstart, .slice p.As e.sun.length p.cs, .slice p.Am e.moon.length p.cm, .slice p.An e.node.length p.cn, .slice p.Af e.feasts.length p.cf, .int .i64 e.nw, .int .i64 e.fl, .int .i64 e.wide] 32)).alloc (.cells #[.slice none 0 0, .int .i64 0, .int .i64 0, .int .i64 0, .slice none 0 0, .slice none 0 0, .slice none 0 0, .slice none 0 0, .int .i64 0, .int .i64 0, .int .i64 0, .slice none 0 0, .map none] 100)) w.heap.size 32 #[.slice p.Ab e.sky.bodies.length p.cb, .int .i64 e.sky.nnum, .int .i64 e.sky.nden, .int .i64 e.sky.nstart, .slice p.As e.sun.length p.cs, .slice p.Am e.moon.length p.cm, .slice p.An e.node.length p.cn, .slice p.Af e.feasts.length p.cf, .int .i64 e.nw, .int .i64 e.fl, .int .i64 e.wide]) := Lib.hid ((Row.new w _ _).alloc _)
 have HR1 : Hid (Row ((w.alloc (.cells #[.slice p.Ab e.sky.bodies.length p.cb, .int .i64 e.sky.nnum, .int .i64 e.sky.nden, .int .i64 e.sky.nstart, .slice p.As e.sun.length p.cs, .slice p.Am e.moon.length p.cm, .slice p.An e.node.length p.cn, .slice p.Af e.feasts.length p.cf, .int .i64 e.nw, .int .i64 e.fl, .int .i64 e.wide] 32)).alloc (.cells #[.slice none 0 0, .int .i64 0, .int .i64 0, .int .i64 0, .slice none 0 0, .slice none 0 0, .slice none 0 0, .slice none 0 0, .int .i64 0, .int .i64 0, .int .i64 0, .slice none 0 0, .map none] 100)) (w.heap.size + 1) 100 #[.slice none 0 0, .int .i64 0, .int .i64 0, .int .i64 0, .slice none 0 0, .slice none 0 0, .slice none 0 0, .slice none 0 0, .int .i64 0, .int .i64 0, .int .i64 0, .slice none 0 0, .map none]) := Lib.hid (by
  have := Row.new (w.alloc (.cells #[.slice p.Ab e.sky.bodies.length p.cb, .int .i64 e.sky.nnum, .int .i64 e.sky.nden, .int .i64 e.sky.nstart, .slice p.As e.sun.length p.cs, .slice p.Am e.moon.length p.cm, .slice p.An e.node.length p.cn, .slice p.Af e.feasts.length p.cf, .int .i64 e.nw, .int .i64 e.fl, .int .i64 e.wide] 32)) 100 #[.slice none 0 0, .int .i64 0, .int .i64 0, .int .i64 0, .slice none 0 0, .slice none 0 0, .slice none 0 0, .slice none 0 0, .int .i64 0, .int .i64 0, .int .i64 0, .slice none 0 0, .map none]
  simpa using this)
 clear hm hl
 go_enter Tryz.func69, Tryz.ntmps69
 go_wp2_with fail
 refine (e_isEngine_any p e _ (HM.out.eng.ext (((Ext.refl w).alloc _).alloc _)) HL.out).mono ?_
 rintro r w1 ⟨rfl, hE⟩
 have HE := Lib.hid ((((Ext.refl w).alloc _).alloc _).trans hE)
 have HX := Lib.hid (HR0.out.ext hE)
 have HR := Lib.hid (HR1.out.ext hE)
 have x0 := HX.out.cell
 clear hE
 go_wp2_with fail
 refine (e_rising_any p.At p.ct set 0 _ _ (HM.out.set.ext HE.out) hs).mono ?_
 rintro r w2 ⟨rfl, rfl⟩
 have HRA := Lib.hid (HR.out.alloc (.map #[] 0))
 have HXA := Lib.hid (HX.out.alloc (.map #[] 0))
 have HCA := Lib.hid (Cache.new Tryz.prog 3 (handsF e set) w1)
 have HEA := Lib.hid (HE.out.alloc (.map #[] 0))
 have hsz := HE.out.size
 have hr1 := HR.out.lt
 obtain ⟨W2, hW2⟩ : ∃ W2, w1.alloc (.map #[] 0) = W2 := ⟨_, rfl⟩
 rw [hW2] at HRA HCA HEA HXA
 have hmm : (Instr.makeMap 98 none).run Tryz.prog w1 = .ok (.map (some w1.heap.size)) W2 := by rw [← hW2]; rfl
 have r0 := HRA.out.cell
 have x1 := HXA.out.cell
 have f0 := HRA.out.free
 clear hW2
 have hne : w.heap.size + 1 ≠ w1.heap.size := by omega
 go_wp2_with fail
 all_goals clear x0 x1
 clear r0 f0
 obtain ⟨W3, hW3⟩ : ∃ W3, setsAt W2 (w.heap.size + 1) 0 [.slice p.Ab e.sky.bodies.length p.cb, .int .i64 e.sky.nnum, .int .i64 e.sky.nden, .int .i64 e.sky.nstart, .slice p.As e.sun.length p.cs, .slice p.Am e.moon.length p.cm, .slice p.An e.node.length p.cn, .slice p.Af e.feasts.length p.cf, .int .i64 e.nw, .int .i64 e.fl, .int .i64 e.wide, .slice p.At set.length p.ct, .map (some w1.heap.size)] = W3 := ⟨_, rfl⟩
 have hR3 : Row W3 (w.heap.size + 1) 100 #[.slice p.Ab e.sky.bodies.length p.cb, .int .i64 e.sky.nnum, .int .i64 e.sky.nden, .int .i64 e.sky.nstart, .slice p.As e.sun.length p.cs, .slice p.Am e.moon.length p.cm, .slice p.An e.node.length p.cn, .slice p.Af e.feasts.length p.cf, .int .i64 e.nw, .int .i64 e.fl, .int .i64 e.wide, .slice p.At set.length p.ct, .map (some w1.heap.size)] := by rw [← hW3]; exact Row.sets (cs := [.slice none 0 0, .int .i64 0, .int .i64 0, .int .i64 0, .slice none 0 0, .slice none 0 0, .slice none 0 0, .slice none 0 0, .int .i64 0, .int .i64 0, .int .i64 0, .slice none 0 0, .map none]) HRA.out _ rfl
 have hE3 : Ext w W3 := by rw [← hW3]; exact Ext.sets (Nat.le_succ _) _ _ _ HEA.out
 have hC3 : Seen e set w1.heap.size W3 := by rw [← hW3]; exact Cache.sets hne _ _ _ HCA.out
 simp only [setsAt, Nat.reduceAdd] at hW3
 rw [hW3]
 clear hW3
 have r3 := hR3.cell
 refine bodyPost_ret (v := .tuple #[.agg #[.slice p.Ab e.sky.bodies.length p.cb, .int .i64 e.sky.nnum, .int .i64 e.sky.nden, .int .i64 e.sky.nstart, .slice p.As e.sun.length p.cs, .slice p.Am e.moon.length p.cm, .slice p.An e.node.length p.cn, .slice p.Af e.feasts.length p.cf, .int .i64 e.nw, .int .i64 e.fl, .int .i64 e.wide, .slice p.At set.length p.ct, .map (some w1.heap.size)], .int .i64 0]) ?_ rfl ⟨_, rfl, (by omega), hC3, hE3⟩
 have c0 := r3 0
 have c1 := r3 1
 have c2 := r3 2
 have c3 := r3 3
 have c4 := r3 4
 have c5 := r3 5
 have c6 := r3 6
 have c7 := r3 7
 have c8 := r3 8
 have c9 := r3 9
 have c10 := r3 10
 have c11 := r3 11
 have c12 := r3 12
 clear r3
 simp only [List.getElem?_toArray, List.getElem?_cons_zero, List.getElem?_cons_succ] at c0 c1 c2 c3 c4 c5 c6 c7 c8 c9 c10 c11 c12
 simp [results, Tryz.results69, asAddr, go_sem, c0, c1, c2, c3, c4, c5, c6, c7, c8, c9, c10, c11, c12]
theorem e_asked_err (p : EP) (e : Ec.Engine) (set : List Int) (fine : Bool) (w : World) (hm : EngSet w p e set) (hl : EngShort e) (hs : set.length ≤ 100000) (h : (Ec.engineOk e && (Ec.setOk e.feasts set && fine)) = false) :
  Calls Tryz.prog 69 #[.agg #[.slice p.Ab e.sky.bodies.length p.cb, .int .i64 e.sky.nnum, .int .i64 e.sky.nden, .int .i64 e.sky.nstart, .slice p.As e.sun.length p.cs, .slice p.Am e.moon.length p.cm, .slice p.An e.node.length p.cn, .slice p.Af e.feasts.length p.cf, .int .i64 e.nw, .int .i64 e.fl, .int .i64 e.wide], .slice p.At set.length p.ct, .bool fine] w fun r w' => r = .returned (.tuple #[.agg #[.slice none 0 0, .int .i64 0, .int .i64 0, .int .i64 0, .slice none 0 0, .slice none 0 0, .slice none 0 0, .slice none 0 0, .int .i64 0, .int .i64 0, .int .i64 0, .slice none 0 0, .map none], .int .i64 2]) ∧ Ext w w' := by
 have HM := Lib.hid hm
 have HL := Lib.hid hl
 have hf := hl.feasts
 have HR0 : Hid (Row ((w.alloc (.cells #[.slice p.Ab e.sky.bodies.length p.cb, .int .i64 e.sky.nnum, .int .i64 e.sky.nden, .int .i64 e.sky.nstart, .slice p.As e.sun.length p.cs, .slice p.Am e.moon.length p.cm, .slice p.An e.node.length p.cn, .slice p.Af e.feasts.length p.cf, .int .i64 e.nw, .int .i64 e.fl, .int .i64 e.wide] 32)).alloc (.cells #[.slice none 0 0, .int .i64 0, .int .i64 0, .int .i64 0, .slice none 0 0, .slice none 0 0, .slice none 0 0, .slice none 0 0, .int .i64 0, .int .i64 0, .int .i64 0, .slice none 0 0, .map none] 100)) w.heap.size 32 #[.slice p.Ab e.sky.bodies.length p.cb, .int .i64 e.sky.nnum, .int .i64 e.sky.nden, .int .i64 e.sky.nstart, .slice p.As e.sun.length p.cs, .slice p.Am e.moon.length p.cm, .slice p.An e.node.length p.cn, .slice p.Af e.feasts.length p.cf, .int .i64 e.nw, .int .i64 e.fl, .int .i64 e.wide]) := Lib.hid ((Row.new w _ _).alloc _)
 have HR1 : Hid (Row ((w.alloc (.cells #[.slice p.Ab e.sky.bodies.length p.cb, .int .i64 e.sky.nnum, .int .i64 e.sky.nden, .int .i64 e.sky.nstart, .slice p.As e.sun.length p.cs, .slice p.Am e.moon.length p.cm, .slice p.An e.node.length p.cn, .slice p.Af e.feasts.length p.cf, .int .i64 e.nw, .int .i64 e.fl, .int .i64 e.wide] 32)).alloc (.cells #[.slice none 0 0, .int .i64 0, .int .i64 0, .int .i64 0, .slice none 0 0, .slice none 0 0, .slice none 0 0, .slice none 0 0, .int .i64 0, .int .i64 0, .int .i64 0, .slice none 0 0, .map none] 100)) (w.heap.size + 1) 100 #[.slice none 0 0, .int .i64 0, .int .i64 0, .int .i64 0, .slice none 0 0, .slice none 0 0, .slice none 0 0, .slice none 0 0, .int .i64 0, .int .i64 0, .int .i64 0, .slice none 0 0, .map none]) := Lib.hid (by
  have := Row.new (w.alloc (.cells #[.slice p.Ab e.sky.bodies.length p.cb, .int .i64 e.sky.nnum, .int .i64 e.sky.nden, .int .i64 e.sky.nstart, .slice p.As e.sun.length p.cs, .slice p.Am e.moon.length p.cm, .slice p.An e.node.length p.cn, .slice p.Af e.feasts.length p.cf, .int .i64 e.nw, .int .i64 e.fl, .int .i64 e.wide] 32)) 100 #[.slice none 0 0, .int .i64 0, .int .i64 0, .int .i64 0, .slice none 0 0, .slice none 0 0, .slice none 0 0, .slice none 0 0, .int .i64 0, .int .i64 0, .int .i64 0, .slice none 0 0, .map none]
  simpa using this)
 clear hm hl
 cases c0 : Ec.engineOk e
 ·clear h
  go_enter Tryz.func69, Tryz.ntmps69
  go_wp2_with fail
  refine (e_isEngine_any p e _ (HM.out.eng.ext (((Ext.refl w).alloc _).alloc _)) HL.out).mono ?_
  rintro r w1 ⟨rfl, hE⟩
  have HE := Lib.hid ((((Ext.refl w).alloc _).alloc _).trans hE)
  have HX := Lib.hid (HR0.out.ext hE)
  have HR := Lib.hid (HR1.out.ext hE)
  have x0 := HX.out.cell
  have r0 := HR.out.cell
  have f0 := HR.out.free
  clear hE
  go_wp2_with fail
  clear r0 f0 x0
  obtain ⟨W3, hW3⟩ : ∃ W3, setsAt w1 (w.heap.size + 1) 0 [.slice none 0 0, .int .i64 0, .int .i64 0, .int .i64 0, .slice none 0 0, .slice none 0 0, .slice none 0 0, .slice none 0 0, .int .i64 0, .int .i64 0, .int .i64 0, .slice none 0 0, .map none] = W3 := ⟨_, rfl⟩
  have hR3 : Row W3 (w.heap.size + 1) 100 #[.slice none 0 0, .int .i64 0, .int .i64 0, .int .i64 0, .slice none 0 0, .slice none 0 0, .slice none 0 0, .slice none 0 0, .int .i64 0, .int .i64 0, .int .i64 0, .slice none 0 0, .map none] := by rw [← hW3]; exact Row.sets (cs := [.slice none 0 0, .int .i64 0, .int .i64 0, .int .i64 0, .slice none 0 0, .slice none 0 0, .slice none 0 0, .slice none 0 0, .int .i64 0, .int .i64 0, .int .i64 0, .slice none 0 0, .map none]) HR.out _ rfl
  have hE3 : Ext w W3 := by rw [← hW3]; exact Ext.sets (Nat.le_succ _) _ _ _ HE.out
  simp only [setsAt, Nat.reduceAdd] at hW3
  rw [hW3]
  clear hW3
  have r3 := hR3.cell
  refine bodyPost_ret (v := .tuple #[.agg #[.slice none 0 0, .int .i64 0, .int .i64 0, .int .i64 0, .slice none 0 0, .slice none 0 0, .slice none 0 0, .slice none 0 0, .int .i64 0, .int .i64 0, .int .i64 0, .slice none 0 0, .map none], .int .i64 2]) ?_ rfl ⟨rfl, hE3⟩
  have c0 := r3 0
  have c1 := r3 1
  have c2 := r3 2
  have c3 := r3 3
  have c4 := r3 4
  have c5 := r3 5
  have c6 := r3 6
  have c7 := r3 7
  have c8 := r3 8
  have c9 := r3 9
  have c10 := r3 10
  have c11 := r3 11
  have c12 := r3 12
  clear r3
  simp only [List.getElem?_toArray, List.getElem?_cons_zero, List.getElem?_cons_succ] at c0 c1 c2 c3 c4 c5 c6 c7 c8 c9 c10 c11 c12
  simp [results, Tryz.results69, asAddr, go_sem, c0, c1, c2, c3, c4, c5, c6, c7, c8, c9, c10, c11, c12]
 cases c1 : Ec.setOk e.feasts set
 ·have c1d : Ec.rising set 0 ((e.feasts.length : Int) - 1) = false := c1
  clear h
  go_enter Tryz.func69, Tryz.ntmps69
  go_wp2_with fail
  refine (e_isEngine_any p e _ (HM.out.eng.ext (((Ext.refl w).alloc _).alloc _)) HL.out).mono ?_
  rintro r w1 ⟨rfl, hE⟩
  have HE := Lib.hid ((((Ext.refl w).alloc _).alloc _).trans hE)
  have HX := Lib.hid (HR0.out.ext hE)
  have HR := Lib.hid (HR1.out.ext hE)
  have x0 := HX.out.cell
  have r0 := HR.out.cell
  have f0 := HR.out.free
  clear hE
  go_wp2_with fail
  refine (e_rising_any p.At p.ct set 0 _ _ (HM.out.set.ext HE.out) hs).mono ?_
  rintro r w2 ⟨rfl, rfl⟩
  go_wp2_with fail
  clear r0 f0 x0
  obtain ⟨W3, hW3⟩ : ∃ W3, setsAt w1 (w.heap.size + 1) 0 [.slice none 0 0, .int .i64 0, .int .i64 0, .int .i64 0, .slice none 0 0, .slice none 0 0, .slice none 0 0, .slice none 0 0, .int .i64 0, .int .i64 0, .int .i64 0, .slice none 0 0, .map none] = W3 := ⟨_, rfl⟩
  have hR3 : Row W3 (w.heap.size + 1) 100 #[.slice none 0 0, .int .i64 0, .int .i64 0, .int .i64 0, .slice none 0 0, .slice none 0 0, .slice none 0 0, .slice none 0 0, .int .i64 0, .int .i64 0, .int .i64 0, .slice none 0 0, .map none] := by rw [← hW3]; exact Row.sets (cs := [.slice none 0 0, .int .i64 0, .int .i64 0, .int .i64 0, .slice none 0 0, .slice none 0 0, .slice none 0 0, .slice none 0 0, .int .i64 0, .int .i64 0, .int .i64 0, .slice none 0 0, .map none]) HR.out _ rfl
  have hE3 : Ext w W3 := by rw [← hW3]; exact Ext.sets (Nat.le_succ _) _ _ _ HE.out
  simp only [setsAt, Nat.reduceAdd] at hW3
  rw [hW3]
  clear hW3
  have r3 := hR3.cell
  refine bodyPost_ret (v := .tuple #[.agg #[.slice none 0 0, .int .i64 0, .int .i64 0, .int .i64 0, .slice none 0 0, .slice none 0 0, .slice none 0 0, .slice none 0 0, .int .i64 0, .int .i64 0, .int .i64 0, .slice none 0 0, .map none], .int .i64 2]) ?_ rfl ⟨rfl, hE3⟩
  have c0 := r3 0
  have c1 := r3 1
  have c2 := r3 2
  have c3 := r3 3
  have c4 := r3 4
  have c5 := r3 5
  have c6 := r3 6
  have c7 := r3 7
  have c8 := r3 8
  have c9 := r3 9
  have c10 := r3 10
  have c11 := r3 11
  have c12 := r3 12
  clear r3
  simp only [List.getElem?_toArray, List.getElem?_cons_zero, List.getElem?_cons_succ] at c0 c1 c2 c3 c4 c5 c6 c7 c8 c9 c10 c11 c12
  simp [results, Tryz.results69, asAddr, go_sem, c0, c1, c2, c3, c4, c5, c6, c7, c8, c9, c10, c11, c12]
 cases fine
 ·have c1d : Ec.rising set 0 ((e.feasts.length : Int) - 1) = true := c1
  clear h
  go_enter Tryz.func69, Tryz.ntmps69
  go_wp2_with fail
  refine (e_isEngine_any p e _ (HM.out.eng.ext (((Ext.refl w).alloc _).alloc _)) HL.out).mono ?_
  rintro r w1 ⟨rfl, hE⟩
  have HE := Lib.hid ((((Ext.refl w).alloc _).alloc _).trans hE)
  have HX := Lib.hid (HR0.out.ext hE)
  have HR := Lib.hid (HR1.out.ext hE)
  have x0 := HX.out.cell
  have r0 := HR.out.cell
  have f0 := HR.out.free
  clear hE
  go_wp2_with fail
  refine (e_rising_any p.At p.ct set 0 _ _ (HM.out.set.ext HE.out) hs).mono ?_
  rintro r w2 ⟨rfl, rfl⟩
  go_wp2_with fail
  clear r0 f0 x0
  obtain ⟨W3, hW3⟩ : ∃ W3, setsAt w1 (w.heap.size + 1) 0 [.slice none 0 0, .int .i64 0, .int .i64 0, .int .i64 0, .slice none 0 0, .slice none 0 0, .slice none 0 0, .slice none 0 0, .int .i64 0, .int .i64 0, .int .i64 0, .slice none 0 0, .map none] = W3 := ⟨_, rfl⟩
  have hR3 : Row W3 (w.heap.size + 1) 100 #[.slice none 0 0, .int .i64 0, .int .i64 0, .int .i64 0, .slice none 0 0, .slice none 0 0, .slice none 0 0, .slice none 0 0, .int .i64 0, .int .i64 0, .int .i64 0, .slice none 0 0, .map none] := by rw [← hW3]; exact Row.sets (cs := [.slice none 0 0, .int .i64 0, .int .i64 0, .int .i64 0, .slice none 0 0, .slice none 0 0, .slice none 0 0, .slice none 0 0, .int .i64 0, .int .i64 0, .int .i64 0, .slice none 0 0, .map none]) HR.out _ rfl
  have hE3 : Ext w W3 := by rw [← hW3]; exact Ext.sets (Nat.le_succ _) _ _ _ HE.out
  simp only [setsAt, Nat.reduceAdd] at hW3
  rw [hW3]
  clear hW3
  have r3 := hR3.cell
  refine bodyPost_ret (v := .tuple #[.agg #[.slice none 0 0, .int .i64 0, .int .i64 0, .int .i64 0, .slice none 0 0, .slice none 0 0, .slice none 0 0, .slice none 0 0, .int .i64 0, .int .i64 0, .int .i64 0, .slice none 0 0, .map none], .int .i64 2]) ?_ rfl ⟨rfl, hE3⟩
  have c0 := r3 0
  have c1 := r3 1
  have c2 := r3 2
  have c3 := r3 3
  have c4 := r3 4
  have c5 := r3 5
  have c6 := r3 6
  have c7 := r3 7
  have c8 := r3 8
  have c9 := r3 9
  have c10 := r3 10
  have c11 := r3 11
  have c12 := r3 12
  clear r3
  simp only [List.getElem?_toArray, List.getElem?_cons_zero, List.getElem?_cons_succ] at c0 c1 c2 c3 c4 c5 c6 c7 c8 c9 c10 c11 c12
  simp [results, Tryz.results69, asAddr, go_sem, c0, c1, c2, c3, c4, c5, c6, c7, c8, c9, c10, c11, c12]
 ·simp [c0, c1] at h
end Go.Proofs.YtcbodpnmndbgnaaGreatDoor
namespace Go.Proofs.YtcbodpnmndbgnaaGreatDoor
open Go.RowKit
theorem nodup_sub_le : ∀ (A S : List Nat), A.Nodup → (∀ x ∈ A, x ∈ S) → A.length ≤ S.length
 | [], _, _, _ => Nat.zero_le _
 | x :: A, S, hd, h => by
  obtain ⟨hx, hd'⟩ := List.nodup_cons.1 hd
  have hm := h x (by simp)
  have h1 := nodup_sub_le A (S.erase x) hd' (fun y hy => (List.mem_erase_of_ne (fun e => by subst e; exact hx hy)).2 (h y (by simp [hy])))
  rw [List.length_erase_of_mem hm] at h1
  have := List.length_pos_of_mem hm
  simp only [List.length_cons]
  omega
theorem nodup_le' {S : List Nat} {N : Nat} (hd : S.Nodup) (h : ∀ x ∈ S, x < N) : S.length ≤ N := by
 simpa using nodup_sub_le S (List.range N) hd fun x hx => List.mem_range.2 (h x hx)
def dstOf (l : List Oper) (i : Nat) : Option Tmp := (l[i]?).bind (·.dst)
def putS (l : List Oper) (vs : Nat → Value) (S : List Nat) (a : Act) : Act := S.foldl (fun a i => a.put (dstOf l i) (vs i)) a
def putAll (l : List Oper) (vs : Nat → Value) (a : Act) : Act := putS l vs (List.range l.length) a
theorem putS_off {l : List Oper} {vs : Nat → Value} {d : Tmp} : ∀ (S : List Nat) (a : Act), (∀ i ∈ S, dstOf l i ≠ some d) → (putS l vs S a).eval (.tmp d) = a.eval (.tmp d)
 | [], _, _ => rfl
 | x :: S, a, h => by
  have h1 := putS_off (vs := vs) S (a.put (dstOf l x) (vs x)) (fun i hi => h i (by simp [hi]))
  refine h1.trans (Act.eval_put fun d' hd e => ?_)
  have := h x (by simp)
  rw [hd] at this
  exact this (by cases e; rfl)
theorem put_size (a : Act) (d : Option Tmp) (v : Value) : (a.put d v).tmps.size = a.tmps.size := by cases d <;> simp [Act.put]
theorem putS_on {l : List Oper} {vs : Nat → Value} {d : Tmp} {j : Nat} (hj : dstOf l j = some d) : ∀ (S : List Nat) (a : Act), d < a.tmps.size → (∀ i ∈ S, dstOf l i = some d → i = j) → j ∈ S → (putS l vs S a).eval (.tmp d) = vs j
 | [], _, _, _, h => by cases h
 | x :: S, a, hd, hu, h => by
  by_cases hS : j ∈ S
  ·exact putS_on hj S (a.put (dstOf l x) (vs x)) (by rw [put_size]; exact hd) (fun i hi => hu i (by simp [hi])) hS
  ·obtain rfl : j = x := by
    rcases List.mem_cons.1 h with e | e
    ·exact e
    ·exact absurd e hS
   have h1 := putS_off (l := l) (vs := vs) (d := d) S (a.put (dstOf l j) (vs j)) (fun i hi e => hS (hu i (by simp [hi]) e ▸ hi))
   refine h1.trans ?_
   rw [hj]
   exact Act.eval_put_same a d (vs j) hd
theorem putS_congr {l : List Oper} {vs us : Nat → Value} : ∀ (S : List Nat) (a : Act), (∀ i ∈ S, vs i = us i) → putS l vs S a = putS l us S a
 | [], _, _ => rfl
 | x :: S, a, h => by
  show putS l vs S (a.put (dstOf l x) (vs x)) = putS l us S (a.put (dstOf l x) (us x))
  rw [h x (by simp)]
  exact putS_congr S _ fun i hi => h i (by simp [hi])
def noSel (o : Oper) : Bool := match o.op with | .select _ _ => false | _ => true
theorem noSel_spec {o : Oper} (h : noSel o = true) : ∀ cs b, o.op ≠ .select cs b := by
 intro cs b e
 unfold noSel at h
 rw [e] at h
 cases h
def freeB (l : List Oper) (N : Nat) : Bool :=
 (List.range l.length).all fun i => match l[i]? with
  | none => true
  | some o => (match o.guard with | none => true | some (g, _) => decide (g < i)) && (noSel o && ((o.after.all fun e => !Region.binds .any e || decide (e.on < i)) && ((match o.dst with | none => true | some d => decide (d < N) && !(o.looksAt l.toArray).contains d) &&
   ((List.range l.length).all fun j => decide (j = i) || (match dstOf l j with | none => true | some d => o.dst != some d && (!(o.looksAt l.toArray).contains d || Region.waitsFor .any l.toArray i j))))))
structure FreeOp (l : List Oper) (N : Nat) (i : Nat) (o : Oper) : Prop where
 guard : ∀ g b, o.guard = some (g, b) → g < i
 sel : ∀ cs b, o.op ≠ .select cs b
 back : ∀ e ∈ o.after, Region.binds .any e = true → e.on < i
 own : ∀ d, o.dst = some d → d < N ∧ d ∉ o.looksAt l.toArray
 apart : ∀ j d, j < l.length → j ≠ i → dstOf l j = some d → o.dst ≠ some d ∧ (d ∈ o.looksAt l.toArray → ∃ e ∈ o.after, Region.binds .any e = true ∧ e.on = j)
theorem freeB_spec {l : List Oper} {N : Nat} (h : freeB l N = true) {i : Nat} {o : Oper} (ho : l[i]? = some o) : FreeOp l N i o := by
 have hi : i < l.length := (List.getElem?_eq_some_iff.1 ho).1
 have h1 := List.all_eq_true.1 h i (List.mem_range.2 hi)
 simp only [ho, Bool.and_eq_true] at h1
 obtain ⟨hg, hs, hb, hw, ha⟩ := h1
 refine ⟨fun g b hgb => by rw [hgb] at hg; simpa using hg, noSel_spec hs, fun e he hbi => by simpa [hbi] using (Array.all_eq_true_iff_forall_mem.1 hb) e he, fun d hd => ?_, fun j d hj hji hd => ?_⟩
 ·rw [hd] at hw
  simp only [Bool.and_eq_true, decide_eq_true_eq, Bool.not_eq_true', List.contains_eq_mem, decide_eq_false_iff_not] at hw
  exact hw
 ·have h2 := List.all_eq_true.1 ha j (List.mem_range.2 hj)
  simp only [hd, Bool.or_eq_true, decide_eq_true_eq, Bool.and_eq_true, bne_iff_ne, Bool.not_eq_true', List.contains_eq_mem, decide_eq_false_iff_not] at h2
  rcases h2 with h2 | ⟨h2, h3⟩
  ·exact absurd h2 hji
  ·refine ⟨h2, fun hl => ?_⟩
   rcases h3 with h3 | h3
   ·exact absurd hl h3
   ·obtain ⟨oj, hoj, hh⟩ := Region.waitsFor_spec h3
    have : oj = o := by
     simp only [List.getElem?_toArray] at hoj
     rw [ho] at hoj
     exact (Option.some.inj hoj).symm
    rw [this] at hh
    exact hh
structure Finds (l : List Oper) (Φ : Nat → Value → World → Prop) (a0 : Act) (o : Oper) (a : Act) (w : World) : Prop where
 from_ : ∀ j d, dstOf l j = some d → d ∈ o.looksAt l.toArray → Φ j (a.eval (.tmp d)) w
 old : ∀ d, (∀ j, j < l.length → dstOf l j ≠ some d) → a.eval (.tmp d) = a0.eval (.tmp d)
def Ran (P : Program) (ops : Array Oper) (o : Oper) (a : Act) (w : World) (G : Value → World → Prop) : Prop :=
 if Region.wanted o (yielded ops a.tmps) = true then Oper.wp P o a w (fun a' w' => ∃ v, a' = a.put o.dst v ∧ G v w') (fun _ _ _ => False) else G undef w
theorem Ran.plain {P : Program} {ops : Array Oper} {o : Oper} {a : Act} {w : World} {G : Value → World → Prop} (hg : o.guard = none) (h : Oper.wp P o a w (fun a' w' => ∃ v, a' = a.put o.dst v ∧ G v w') (fun _ _ _ => False)) : Ran P ops o a w G := by
 unfold Ran
 rw [if_pos (by simp [Region.wanted, hg])]
 exact h
theorem wanted_of {ops : Array Oper} {o oj : Oper} {a : Act} {j : Nat} {d : Tmp} {want b : Bool} (hg : o.guard = some (j, want)) (hj : ops[j]? = some oj) (hd : oj.dst = some d) (he : a.eval (.tmp d) = .bool b) : Region.wanted o (yielded ops a.tmps) = (b == want) := by
 have h1 : a.tmps[d]? = some (.bool b) := by
  simp only [Act.eval, Array.getD_eq_getD_getElem?] at he
  cases h : a.tmps[d]? with
  | none => rw [h] at he; cases he
  | some x => rw [h] at he; simpa using he
 simp [Region.wanted, hg, yielded, hj, hd, h1]
def headTail (n m : Nat) : Array Bool := (List.replicate n true ++ List.replicate (m - n) false).toArray
def tailB (m : List Oper) (n z : Nat) : Bool :=
 ((List.range n).all fun j => decide (n = m.length) || decide (j = z) || Region.waitsFor .any m.toArray n j) && ((List.range m.length).all fun t => decide (t ≤ n) || Region.waitsFor .any m.toArray t (t - 1))
theorem tailB_spec {m : List Oper} {n z : Nat} (h : tailB m n z = true) {t : Nat} (ht : n ≤ t) (htm : t < m.length) :
  (n = t ∧ ∀ q, q < n → q ≠ z → ∀ o, m[t]? = some o → ∃ e ∈ o.after, Region.binds .any e = true ∧ e.on = q) ∨ (n < t ∧ ∀ o, m[t]? = some o → ∃ e ∈ o.after, Region.binds .any e = true ∧ e.on = t - 1) := by
 simp only [tailB, Bool.and_eq_true, List.all_eq_true, List.mem_range, Bool.or_eq_true, decide_eq_true_eq] at h
 have conv : ∀ q o, m[t]? = some o → Region.waitsFor .any m.toArray t q = true → ∃ e ∈ o.after, Region.binds .any e = true ∧ e.on = q := by
  intro q o ho hw
  obtain ⟨oj, hoj, hh⟩ := Region.waitsFor_spec hw
  have : oj = o := by
   simp only [List.getElem?_toArray] at hoj
   rw [ho] at hoj
   exact (Option.some.inj hoj).symm
  rw [this] at hh
  exact hh
 rcases Nat.eq_or_lt_of_le ht with rfl | hlt
 ·refine .inl ⟨rfl, fun q hq hqz o ho => ?_⟩
  rcases h.1 q hq with (h1 | h1) | h1
  ·omega
  ·exact absurd h1 hqz
  ·exact conv q o ho h1
 ·refine .inr ⟨hlt, fun o ho => ?_⟩
  rcases h.2 t htm with h1 | h1
  ·omega
  ·exact conv _ o ho h1
def lazyTail (n z m : Nat) : Array Bool := ((List.range m).map fun i => decide (i ≤ n) && decide (i ≠ z)).toArray
def lazyB (m : List Oper) (n z : Nat) : Bool :=
 decide (n ≤ z) || (decide (n < m.length) && decide (Region.ready .any m.toArray (lazyTail n z m.length) = [z]) && Region.seqB .any m.toArray (m.length - (n + 1)) (n + 1) (headTail (n + 1) m.length))
theorem putS_perm {l : List Oper} {vs : Nat → Value} {S S' : List Nat} {a : Act} (hB : freeB l a.tmps.size = true) (hp : S.Perm S') (hS : ∀ x ∈ S, x < l.length) : putS l vs S a = putS l vs S' a := by
 refine hp.foldl_eq' (fun x hx y hy z => ?_) a
 by_cases hxy : x = y
 ·rw [hxy]
 ·refine Act.put_comm z (vs x) (vs y) fun d hdx hdy => ?_
  have hx' := hS x hx
  have hy' := hS y hy
  have hox : l[x]? = some l[x] := List.getElem?_eq_getElem hx'
  have := (freeB_spec hB hox).apart y d hy' (Ne.symm hxy) hdy
  exact this.1 (by simpa [dstOf, hox] using hdx)
theorem wp_region_free_tailR {P : Program} {id : Nat} {Q : Exit → Act → World → Prop} {a0 : Act} {w0 : World} {m : List Oper} (R : World → World → Prop) (hR0 : R w0 w0.drew) (hRt : ∀ {x y z : World}, R x y → R y z → R x z) (n z : Nat) (Φ : Nat → Value → World → Prop) (hm : P.follows .mixedOrders = true) (hn : n ≤ m.length) (hB : freeB (m.take n) a0.tmps.size = true)
  (hT : tailB m n z = true) (hL : lazyB m n z = true) (hS : Region.seqB .any m.toArray (m.length - n) n (headTail n m.length) = true)
  (hmono : ∀ i v w w', Φ i v w → R w w' → Φ i v w')
  (hob : ∀ i o, i < n → m[i]? = some o → ∀ a w, R w0 w → Finds (m.take n) Φ a0 o a w → Ran P m.toArray o a w (fun v w' => Φ i v w' ∧ R w w'))
  (hQ : ∀ vs : Nat → Value, ∀ w, R w0 w → (∀ i, i < n → Φ i (vs i) w) → wpList P m.toArray Q (m.drop n) (putAll (m.take n) vs a0) w)
  (hZ : z < n → ∀ vs : Nat → Value, ∀ w, R w0 w → (∀ i, i < n → i ≠ z → Φ i (vs i) w) → ∀ on oz, m[n]? = some on → m[z]? = some oz → wpList P m.toArray Q (on :: oz :: m.drop (n + 1)) (putS (m.take n) vs ((List.range n).filter (· ≠ z)) a0) w) : (Code.region id m.toArray true).wp P Q a0 w0 := by
 refine wp_region_any hm ?_
 obtain ⟨l, hl⟩ : ∃ l, m.take n = l := ⟨_, rfl⟩
 have hln : l.length = n := by rw [← hl, List.length_take]; omega
 have hget : ∀ i, i < n → m[i]? = l[i]? := fun i hi => by rw [← hl, List.getElem?_take]; simp [hi]
 rw [hl] at hB hob hQ hZ
 have key : ∀ (f : Nat) (S : List Nat) (vs : Nat → Value) (listed : Array Bool) (w : World), R w0 w → S.Nodup → (∀ i, i ∈ S ↔ i < l.length ∧ listed.getD i false = true) → listed.size = m.length ∧ (∀ i, l.length ≤ i → listed.getD i false = false) → S.length + f = l.length →
   (∀ i ∈ S, Φ i (vs i) w) → wpAny P .any m.toArray Q (f + (m.length - n)) listed (putS l vs S a0) w := by
  intro f
  induction f with
  | zero =>
   intro S vs listed w hE hd hmem hsz hlen hΦ
   have hall : ∀ i, i < l.length → i ∈ S := by
    intro i hi
    rcases Classical.em (i ∈ S) with h | h
    ·exact h
    ·have h1 := nodup_le' (S := i :: S) (N := l.length) (by simp [h, hd]) (by
      intro x hx
      rcases List.mem_cons.1 hx with rfl | hx
      ·exact hi
      ·exact ((hmem x).1 hx).1)
     simp at h1
     omega
   have hp : S.Perm (List.range l.length) := (List.perm_ext_iff_of_nodup hd List.nodup_range).2 fun i => ⟨fun h => List.mem_range.2 ((hmem i).1 h).1, fun h => hall i (List.mem_range.1 h)⟩
   have he : putS l vs S a0 = putAll l vs a0 := putS_perm hB hp fun x hx => ((hmem x).1 hx).1
   rw [he, Nat.zero_add]
   have hs1 := hsz.1
   have hlist : listed = headTail n m.length := by
    refine Array.ext_getElem? fun i => ?_
    rcases Nat.lt_or_ge i m.length with hi | hi
    ·have h1 : listed[i]? = some (listed.getD i false) := by
      have : i < listed.size := by omega
      simp [Array.getD, this]
     rw [h1]
     rcases Nat.lt_or_ge i n with h2 | h2
     ·rw [((hmem i).1 (hall i (by omega))).2]
      simp [headTail, List.getElem?_append, h2]
     ·rw [hsz.2 i (by omega)]
      simp only [headTail, List.getElem?_toArray, List.getElem?_append, List.length_replicate, Nat.not_lt.2 h2, if_false, List.getElem?_replicate]
      rw [if_pos (by omega)]
    ·rw [Array.getElem?_eq_none (by omega)]
     simp [headTail]
     omega
   rw [hlist]
   have hdl : (m.drop n).length = m.length - n := by simp
   have := wpAny_of_seq (md := .any) (Q' := Q) (m.drop n) n (headTail n m.length) _ w (fun j => by simp [List.getElem?_drop]) (by rw [hdl]; exact hS) (hQ vs w hE fun i hi => hΦ i (hall i (by omega)))
   rwa [hdl] at this
  | succ f ih =>
   intro S vs listed w hE hd hmem hsz hlen hΦ
   rw [Nat.add_right_comm]
   have hex : ∃ i, i < l.length ∧ i ∉ S := by
    rcases Classical.em (∃ i, i < l.length ∧ i ∉ S) with h | h
    ·exact h
    ·have hsub : (List.range l.length).length ≤ S.length := nodup_sub_le _ _ List.nodup_range fun i hi => by
      rcases Classical.em (i ∈ S) with h2 | h2
      ·exact h2
      ·exact absurd ⟨i, List.mem_range.1 hi, h2⟩ h
     simp at hsub
     omega
   refine ⟨fun hr => ?_, fun i hi => ?_⟩
   ·-- some operation is still to come: the first of them is ready
    exfalso
    have hmin : ∀ (k i : Nat), i ≤ k → i < l.length → i ∉ S → False := by
     intro k
     induction k with
     | zero =>
      intro i hik hi hiS
      obtain rfl : i = 0 := by omega
      have ho : l[0]? = some l[0] := List.getElem?_eq_getElem hi
      have hfr := freeB_spec hB ho
      have : 0 ∈ Region.ready .any m.toArray listed := mem_ready.2 ⟨getD_in (by have := hsz.1; omega) (by
       cases hh : listed.getD 0 false
       ·rfl
       ·exact absurd ((hmem 0).2 ⟨hi, hh⟩) hiS), l[0], by rw [List.getElem?_toArray, hget 0 (by omega)]; simp, fun e he hbi => absurd (hfr.back e he hbi) (by omega)⟩
      rw [hr] at this
      cases this
     | succ k ihk =>
      intro i hik hi hiS
      have ho : l[i]? = some l[i] := List.getElem?_eq_getElem hi
      have hfr := freeB_spec hB ho
      have : i ∈ Region.ready .any m.toArray listed := mem_ready.2 ⟨getD_in (by have := hsz.1; omega) (by
       cases hh : listed.getD i false
       ·rfl
       ·exact absurd ((hmem i).2 ⟨hi, hh⟩) hiS), l[i], by rw [List.getElem?_toArray, hget i (by omega)]; simp, fun e he hbi => by
        have hlt := hfr.back e he hbi
        rcases Classical.em (e.on ∈ S) with h | h
        ·exact ((hmem _).1 h).2
        ·exact (ihk e.on (by omega) (by omega) h).elim⟩
      rw [hr] at this
      cases this
    obtain ⟨i, hi, hiS⟩ := hex
    exact hmin i i (Nat.le_refl _) hi hiS
   ·obtain ⟨hun, o, ho, hall⟩ := mem_ready.1 hi
    have hcase : i < n ∨ (i = n ∧ z < n ∧ z ∉ S ∧ ∀ q, q < n → q ≠ z → q ∈ S) := by
     rcases Nat.lt_or_ge i n with h | h
     ·exact .inl h
     ·refine .inr ?_
      obtain ⟨q, hq, hqS⟩ := hex
      rcases tailB_spec hT h (by simpa using (Array.getElem?_eq_some_iff.1 ho).1) with ⟨rfl, hw⟩ | ⟨hlt, hw⟩
      ·have hall2 : ∀ q, q < n → q ≠ z → q ∈ S := by
        intro q hq hqz
        obtain ⟨e, he, hb, hon⟩ := hw q hq hqz o (by simpa using ho)
        have h1 := hall e he hb
        rw [hon] at h1
        exact (hmem q).2 ⟨by omega, h1⟩
       have hqz : q = z := by
        rcases Classical.em (q = z) with h3 | h3
        ·exact h3
        ·exact absurd (hall2 q (by omega) h3) hqS
       exact ⟨rfl, by omega, hqz ▸ hqS, hall2⟩
      ·obtain ⟨e, he, hb, hon⟩ := hw o (by simpa using ho)
       have h1 := hall e he hb
       rw [hon, hsz.2 (i - 1) (by omega)] at h1
       cases h1
    rcases hcase with hin | ⟨rfl, hzn, hzS, hall2⟩
    case inr =>
     have hperm : S.Perm ((List.range i).filter (· ≠ z)) := (List.perm_ext_iff_of_nodup hd ((List.Pairwise.filter _ List.nodup_range))).2 fun q => by
      simp only [List.mem_filter, List.mem_range, decide_eq_true_eq]
      exact ⟨fun h => ⟨by have := ((hmem q).1 h).1; omega, fun e => hzS (e ▸ h)⟩, fun h => hall2 q h.1 h.2⟩
     have hf0 : f = 0 := by
      have h1 := hperm.length_eq
      have h2 : ((List.range i).filter (· ≠ z)).length + 1 = i := by
       have h3 := nodup_sub_le (List.range i) (z :: (List.range i).filter (· ≠ z)) List.nodup_range fun q hq => by
        rcases Classical.em (q = z) with h4 | h4
        ·simp [h4]
        ·simp [h4, List.mem_range.1 hq]
       have h5 := nodup_sub_le (z :: (List.range i).filter (· ≠ z)) (List.range i) (by
        rw [List.nodup_cons]
        exact ⟨by simp, (List.Pairwise.filter _ List.nodup_range)⟩) fun q hq => by
        rcases List.mem_cons.1 hq with rfl | h4
        ·exact List.mem_range.2 hzn
        ·exact (List.mem_filter.1 h4).1
       simp only [List.length_cons, List.length_range] at h3 h5
       omega
      omega
     subst hf0
     have him : i < m.length := by simpa using (Array.getElem?_eq_some_iff.1 ho).1
     simp only [lazyB, Bool.or_eq_true, decide_eq_true_eq, Bool.and_eq_true] at hL
     obtain ⟨⟨_, hrz⟩, hsq⟩ := hL.resolve_left (by omega)
     have hs1 := hsz.1
     have hset : listed.setIfInBounds i true = lazyTail i z m.length := by
      refine Array.ext_getElem? fun k => ?_
      rcases Nat.lt_or_ge k m.length with hk | hk
      ·have h1 : (listed.setIfInBounds i true)[k]? = some ((listed.setIfInBounds i true).getD k false) := by
        have hk2 : k < listed.size := by omega
        simp [Array.getD, hk2]
       rw [h1]
       have h2 : (lazyTail i z m.length)[k]? = some (decide (k ≤ i) && decide (k ≠ z)) := by simp [lazyTail, hk]
       rw [h2]
       congr 1
       by_cases hki : k = i
       ·subst hki
        have : (listed.setIfInBounds k true).getD k false = true := by simp [show k < listed.size by omega]
        rw [this]
        simp
        omega
       ·have : (listed.setIfInBounds i true).getD k false = listed.getD k false := getD_set_ne false (Ne.symm hki)
        rw [this]
        rcases Nat.lt_or_ge k i with h3 | h3
        ·by_cases hkz : k = z
         ·subst hkz
          have : listed.getD k false = false := by
           cases hh : listed.getD k false
           ·rfl
           ·exact absurd ((hmem k).2 ⟨by omega, hh⟩) hzS
          rw [this]
          simp
         ·rw [((hmem k).1 (hall2 k h3 hkz)).2]
          simp [hkz]
          omega
        ·rw [hsz.2 k (by omega)]
         simp
         omega
      ·exact (Array.getElem?_eq_none (by simp; omega)).trans (Array.getElem?_eq_none (by simp [lazyTail]; omega)).symm
     have hzm : z < m.length := by omega
     have hoz : m[z]? = some m[z] := List.getElem?_eq_getElem hzm
     have hon : m[i]? = some o := by simpa using ho
     have hall3 := hZ hzn vs w hE (fun q hq hqz => hΦ q (hall2 q hq hqz)) o m[z] hon hoz
     rw [← putS_perm hB hperm fun x hx => ((hmem x).1 hx).1] at hall3
     have hw : wpOp P m.toArray Q i (wpList P m.toArray Q (m[z] :: m.drop (i + 1))) (putS l vs S a0) w := by
      unfold wpOp
      simp only [ho]
      exact hall3
     refine wpOp_mono (fun a' w' h' => ?_) hw
     rw [hset]
     have hlen2 : 0 + (m.length - i) = (m.length - (i + 1)) + 1 := by omega
     rw [hlen2]
     refine ⟨fun h1 => (by rw [hrz] at h1; cases h1), fun k hk => ?_⟩
     rw [hrz] at hk
     obtain rfl : k = z := by simpa using hk
     have hw2 : wpOp P m.toArray Q k (wpList P m.toArray Q (m.drop (i + 1))) a' w' := by
      unfold wpOp
      simp only [List.getElem?_toArray, hoz]
      exact h'
     refine wpOp_mono (fun a2 w2 h2 => ?_) hw2
     have hset2 : (lazyTail i k m.length).setIfInBounds k true = headTail (i + 1) m.length := by
      refine Array.ext_getElem? fun j => ?_
      rcases Nat.lt_or_ge j m.length with hj | hj
      ·by_cases hjk : j = k
       ·subst hjk
        rw [Array.getElem?_setIfInBounds_self_of_lt (by simp [lazyTail]; omega)]
        simp [headTail, List.getElem?_append, show j < i + 1 by omega]
       ·rw [Array.getElem?_setIfInBounds_ne (Ne.symm hjk)]
        simp only [lazyTail, headTail, List.getElem?_toArray, List.getElem?_map, List.getElem?_range hj, Option.map_some]
        rcases Nat.lt_or_ge j (i + 1) with h3 | h3
        ·simp [List.getElem?_append, h3, hjk]
         omega
        ·simp [List.getElem?_append, Nat.not_lt.2 h3, List.getElem?_replicate]
         omega
      ·exact (Array.getElem?_eq_none (by simp [lazyTail]; omega)).trans (Array.getElem?_eq_none (by simp [headTail]; omega)).symm
     rw [hset2]
     have hdl : (m.drop (i + 1)).length = m.length - (i + 1) := by simp
     have := wpAny_of_seq (md := .any) (Q' := Q) (m.drop (i + 1)) (i + 1) (headTail (i + 1) m.length) a2 w2 (fun j => by simp [List.getElem?_drop]) (by rw [hdl]; exact hsq) h2
     rwa [hdl] at this
    have ho' : l[i]? = some o := by rw [← hget i hin]; simpa using ho
    have hil : i < l.length := (List.getElem?_eq_some_iff.1 ho').1
    have hiS : i ∉ S := fun h => by
     have := ((hmem i).1 h).2
     rw [getD_both hun] at this
     cases this
    have hfr := freeB_spec hB ho'
    have hF : Finds l Φ a0 o (putS l vs S a0) w := by
     constructor
     ·intro j d hjd hlook
      have hj : j < l.length := by
       rcases Nat.lt_or_ge j l.length with h | h
       ·exact h
       ·simp [dstOf, List.getElem?_eq_none h] at hjd
      by_cases hji : j = i
      ·subst hji
       have hod : o.dst = some d := by simpa [dstOf, ho'] using hjd
       exact absurd hlook (hfr.own d hod).2
      ·obtain ⟨e, he, hb, hon⟩ := (hfr.apart j d hj hji hjd).2 hlook
       have hjS : j ∈ S := (hmem j).2 ⟨hj, by rw [← hon]; exact hall e he hb⟩
       have hoj : l[j]? = some l[j] := List.getElem?_eq_getElem hj
       have hsize : d < a0.tmps.size := ((freeB_spec hB hoj).own d (by simpa [dstOf, hoj] using hjd)).1
       rw [putS_on hjd S a0 hsize (fun k hk hkd => by
        rcases Classical.em (k = j) with h | h
        ·exact h
        ·exact absurd (by simpa [dstOf, hoj] using hjd) ((freeB_spec hB hoj).apart k d ((hmem k).1 hk).1 h hkd).1) hjS]
       exact hΦ j hjS
     ·intro d hno
      exact putS_off S a0 fun k hk => hno k ((hmem k).1 hk).1
    have hw := hob i o hin (by rw [hget i hin]; exact ho') (putS l vs S a0) w hE hF
    have next : ∀ v w', (Φ i v w' ∧ R w w') → wpAny P .any m.toArray Q (f + (m.length - n)) (listed.setIfInBounds i true) ((putS l vs S a0).put o.dst v) w' := by
     rintro v w' ⟨hv, hE'⟩
     have hdo : dstOf l i = o.dst := by simp [dstOf, ho']
     have hvs : (putS l vs S a0).put o.dst v = putS l (fun k => if k = i then v else vs k) (S ++ [i]) a0 := by
      unfold putS
      rw [List.foldl_append]
      simp only [List.foldl_cons, List.foldl_nil, if_true, hdo]
      congr 1
      exact putS_congr S a0 fun k hk => by
       have : k ≠ i := fun e => hiS (e ▸ hk)
       simp [this]
     rw [hvs]
     refine ih (S ++ [i]) _ _ w' (hRt hE hE') ?_ ?_ ⟨by simpa using hsz.1, fun k hk => ?_⟩ (by simp; omega) ?_
     ·rw [List.nodup_append]
      exact ⟨hd, by simp, fun x hx y hy e => by simp at hy; subst hy; exact hiS (e ▸ hx)⟩
     ·intro k
      simp only [List.mem_append, List.mem_singleton, hmem k]
      by_cases hki : k = i
      ·subst hki
       have := hsz.1
       simp [hil, show k < listed.size by omega]
      ·have : (listed.setIfInBounds i true).getD k false = listed.getD k false := getD_set_ne false (Ne.symm hki)
       rw [this]
       simp [hki]
     ·have : (listed.setIfInBounds i true).getD k false = listed.getD k false := getD_set_ne false (by omega)
      rw [this]
      exact hsz.2 k hk
     ·intro k hk
      by_cases hki : k = i
      ·subst hki; simpa using hv
      ·rw [if_neg hki]
       rcases List.mem_append.1 hk with h | h
       ·exact hmono _ _ _ _ (hΦ k h) hE'
       ·exact absurd (by simpa using h) hki
    unfold wpOp
    rw [ho]
    simp only []
    unfold Ran at hw
    split
    ·rename_i hwd
     rw [if_pos hwd] at hw
     refine .inl ?_
     have hw2 : Oper.wp P o (putS l vs S a0) w (fun a' w' => ∃ v, a' = (putS l vs S a0).put o.dst v ∧ Φ i v w' ∧ R w w') Q := by
      unfold Oper.wp at hw ⊢
      generalize (execOp (putS l vs S a0).eval o).run P w = r at *
      cases r with
      | ok x w' =>
       cases x <;> simp only [Oper.upon] at hw ⊢
       all_goals first
        | exact hw
        | exact Calls.mono hw (fun e w'' he => by cases e <;> first | exact he | exact (he : False).elim | (obtain ⟨_, _, hh⟩ := he; exact hh.elim))
        | exact Rows.mono hw (fun _ _ he => he)
      | halt x w' => cases x <;> simp only [Oper.upon] at hw
     refine Oper.wp_mono ?_ hw2
     rintro a' w' ⟨v, rfl, hv⟩
     exact next v w' hv
    ·rename_i hwd
     rw [if_neg hwd] at hw
     exact next undef w hw
 have := key n [] (fun _ => undef) (Array.replicate m.toArray.size false) _ hR0 (by simp) (by
  intro i
  have h0 := getD_replicate_false m.toArray.size i
  simp only [h0]
  simp) ⟨by simp, by
  intro i hi
  exact getD_replicate_false _ _⟩ (by simp; omega) (by simp)
 rw [show n + (m.length - n) = m.toArray.size by simp; omega] at this
 exact this
theorem wp_region_free_tail {P : Program} {id : Nat} {Q : Exit → Act → World → Prop} {a0 : Act} {w0 : World} {m : List Oper} (n z : Nat) (Φ : Nat → Value → World → Prop) (hm : P.follows .mixedOrders = true) (hn : n ≤ m.length) (hB : freeB (m.take n) a0.tmps.size = true)
  (hT : tailB m n z = true) (hL : lazyB m n z = true) (hS : Region.seqB .any m.toArray (m.length - n) n (headTail n m.length) = true)
  (hmono : ∀ i v w w', Φ i v w → Ext w w' → Φ i v w')
  (hob : ∀ i o, i < n → m[i]? = some o → ∀ a w, Ext w0 w → Finds (m.take n) Φ a0 o a w → Ran P m.toArray o a w (fun v w' => Φ i v w' ∧ Ext w w'))
  (hQ : ∀ vs : Nat → Value, ∀ w, Ext w0 w → (∀ i, i < n → Φ i (vs i) w) → wpList P m.toArray Q (m.drop n) (putAll (m.take n) vs a0) w)
  (hZ : z < n → ∀ vs : Nat → Value, ∀ w, Ext w0 w → (∀ i, i < n → i ≠ z → Φ i (vs i) w) → ∀ on oz, m[n]? = some on → m[z]? = some oz → wpList P m.toArray Q (on :: oz :: m.drop (n + 1)) (putS (m.take n) vs ((List.range n).filter (· ≠ z)) a0) w) : (Code.region id m.toArray true).wp P Q a0 w0 :=
 wp_region_free_tailR Ext ((Ext.refl w0).drew) (fun h k => h.trans k) n z Φ hm hn hB hT hL hS hmono hob hQ hZ
theorem Ran.value {P : Program} {ops : Array Oper} {o : Oper} {a : Act} {w w1 : World} {v : Value} {G : Value → World → Prop} (hg : o.guard = none) (hx : (execOp a.eval o).run P w = .ok (.value v) w1) (h : G v w1) : Ran P ops o a w G := by
 refine Ran.plain hg ?_
 unfold Oper.wp
 rw [hx, Oper.upon_value]
 exact ⟨v, rfl, h⟩
theorem Ran.enter {P : Program} {ops : Array Oper} {o : Oper} {a : Act} {w w1 : World} {f : FuncId} {args : Array Value} {G : Value → World → Prop} (hg : o.guard = none) (hx : (execOp a.eval o).run P w = .ok (.enter f args) w1)
  (h : Calls P f args w1 fun r w' => ∃ v, r = .returned v ∧ G v w') : Ran P ops o a w G := by
 refine Ran.plain hg ?_
 unfold Oper.wp
 rw [hx, Oper.upon_enter]
 exact h.mono fun r w' ⟨v, hr, hG⟩ => by subst hr; exact ⟨v, rfl, hG⟩
theorem Ran.if_ {P : Program} {ops : Array Oper} {o oj : Oper} {a : Act} {w : World} {j : Nat} {d : Tmp} {want b : Bool} {G : Value → World → Prop} (hg : o.guard = some (j, want)) (hj : ops[j]? = some oj) (hd : oj.dst = some d) (he : a.eval (.tmp d) = .bool b)
  (h1 : b = want → Ran P ops { o with guard := none } a w G) (h2 : b ≠ want → G undef w) : Ran P ops o a w G := by
 unfold Ran
 rw [wanted_of hg hj hd he]
 by_cases h : b = want
 ·have := h1 h
  unfold Ran at this
  rw [if_pos (by simp [Region.wanted])] at this
  rw [if_pos (by simpa using h)]
  exact this
 ·rw [if_neg (by simpa using h)]
  exact h2 h
theorem evalD {a : Act} {d : Tmp} {v : Value} (h : a.eval (.tmp d) = v) : a.tmps[d]?.getD undef = v := by
 rw [← h]
 simp [Act.eval, Array.getD_eq_getD_getElem?]
end Go.Proofs.YtcbodpnmndbgnaaGreatDoor
namespace Go.Proofs.YtcbodpnmndbgnaaGreatDoor
namespace Ec
structure Ball where
 x : Int
 y : Int
 r : Int
def noBall : Ball := ⟨0, 0, 0⟩
def power (b : Ball) : Int := b.x * b.x + b.y * b.y - b.r * b.r
def norm2 (b : Ball) : Int := b.x * b.x + b.y * b.y
def dot (a b : Ball) : Int := a.x * b.x + a.y * b.y
def apart (a b : Ball) : Bool := decide ((a.r + b.r) * (a.r + b.r) < (a.x - b.x) * (a.x - b.x) + (a.y - b.y) * (a.y - b.y))
def darkB (a b : Ball) : Bool := decide (b.r * b.r * norm2 a ≤ a.r * a.r * norm2 b) && (decide (a.r * b.r ≤ dot a b) && decide (power a * power b ≤ (dot a b - a.r * b.r) * (dot a b - a.r * b.r)))
def partB (a b : Ball) : Bool := decide (-(a.r * b.r) < dot a b) && decide (power a * power b < (dot a b + a.r * b.r) * (dot a b + a.r * b.r))
def shades (a b : Ball) : Int := if power a < power b then (if darkB a b then 3 else if partB a b then 2 else 1) else 1
def meets (b : Ball) (x y : Int) (inside : Bool) : Bool :=
 decide (0 < b.x * x + b.y * y) && (decide ((b.x * y - b.y * x) * (b.x * y - b.y * x) < b.r * b.r * (x * x + y * y)) || (decide ((b.x * y - b.y * x) * (b.x * y - b.y * x) = b.r * b.r * (x * x + y * y)) && !inside))
theorem sq_le {a b : Int} (h0 : 0 ≤ a) (h : a ≤ b) : a * a ≤ b * b := Int.mul_le_mul h h h0 (by omega)
theorem sq_lt {a b : Int} (h0 : 0 ≤ a) (h : a < b) : a * a < b * b := by
 have h1 : a * a ≤ a * b := Int.mul_le_mul_of_nonneg_left (by omega) h0
 have h2 : a * b < b * b := Int.mul_lt_mul_of_pos_right h (by omega)
 omega
theorem le_of_sq {a b : Int} (h0 : 0 ≤ b) (h : a * a ≤ b * b) : a ≤ b := by
 rcases Int.lt_or_le b a with h1 | h1
 ·have := sq_lt h0 h1; omega
 ·exact h1
theorem lt_of_sq {a b : Int} (h0 : 0 ≤ b) (h : a * a < b * b) : a < b := by
 rcases Int.lt_or_le a b with h1 | h1
 ·exact h1
 ·have := sq_le h0 h1; omega
theorem sq_nonneg (a : Int) : 0 ≤ a * a := by
 rcases Int.le_total 0 a with h | h
 ·exact Int.mul_nonneg h h
 ·exact Int.mul_nonneg_of_nonpos_of_nonpos h h
theorem root_le (U Y Z : Int) (hU : 0 ≤ U) (hZ : 0 < Z) (hK : 0 ≤ U * U - Y * Y - Z) (hK2 : 4 * (Y * Y) * Z ≤ (U * U - Y * Y - Z) * (U * U - Y * Y - Z)) : 0 < U - Y ∧ Z ≤ (U - Y) * (U - Y) := by
 have h1 : Y < U := lt_of_sq hU (by omega)
 refine ⟨by omega, ?_⟩
 have e : (U - Y) * (U - Y) = U * U - Y * Y - Z + 2 * (Y * Y) + Z - 2 * (U * Y) := by grind
 rcases Int.le_total Y 0 with h | h
 ·have h2 : U * Y ≤ 0 := Int.mul_nonpos_of_nonneg_of_nonpos hU h
  have := sq_nonneg Y
  omega
 ·have h2 : 2 * (U * Y) ≤ U * U - Y * Y - Z + 2 * (Y * Y) := by
   apply le_of_sq (by have := sq_nonneg Y; omega)
   have e2 : (U * U - Y * Y - Z + 2 * (Y * Y)) * (U * U - Y * Y - Z + 2 * (Y * Y)) - 2 * (U * Y) * (2 * (U * Y)) = (U * U - Y * Y - Z) * (U * U - Y * Y - Z) - 4 * (Y * Y) * Z := by grind
   omega
  omega
structure Dark (A m s t ra rb ab : Int) : Prop where
 hA : A = s + ra * ra
 hm : m = t + rb * rb
 s0 : 0 < s
 t0 : 0 < t
 ra0 : 0 < ra
 rb0 : 0 < rb
 wide : rb * rb * A ≤ ra * ra * m
 D0 : ra * rb ≤ ab
 D2 : s * t ≤ (ab - ra * rb) * (ab - ra * rb)
theorem Dark.wide' {A m s t ra rb ab : Int} (h : Dark A m s t ra rb ab) : rb * rb * s ≤ ra * ra * t := by
 have := h.wide
 rw [h.hA, h.hm] at this
 grind
theorem Dark.p1 {A m s t ra rb ab : Int} (h : Dark A m s t ra rb ab) : s * rb ≤ ra * (ab - ra * rb) := by
 have hD : 0 ≤ ab - ra * rb := by have := h.D0; omega
 apply le_of_sq (Int.mul_nonneg (by have := h.ra0; omega) hD)
 have a1 : ra * ra * (s * t) ≤ ra * ra * ((ab - ra * rb) * (ab - ra * rb)) := Int.mul_le_mul_of_nonneg_left h.D2 (sq_nonneg ra)
 have a2 : s * (rb * rb * s) ≤ s * (ra * ra * t) := Int.mul_le_mul_of_nonneg_left h.wide' (by have := h.s0; omega)
 grind
theorem mul_pos_left {m x : Int} (hm : 0 < m) (h : 0 < m * x) : 0 < x := by
 rcases Int.lt_or_le 0 x with h1 | h1
 ·exact h1
 ·have := Int.mul_nonpos_of_nonneg_of_nonpos (Int.le_of_lt hm) h1; omega
theorem mul_le_left {m x y : Int} (hm : 0 < m) (h : m * x ≤ m * y) : x ≤ y := Int.le_of_mul_le_mul_left h hm
theorem Dark.line {A m s t ra rb ab X P cb xb ap : Int} (h : Dark A m s t ra rb ab) (hX : X * X = A * m - ab * ab) (hP : 0 < P) (hcb : 0 < cb) (hsum : cb * cb + xb * xb = m * P) (hxb : xb * xb ≤ rb * rb * P) (hap : m * ap = ab * cb - X * xb) :
  0 < ap ∧ s * P ≤ ap * ap := by
 have hm : 0 < m := by have := h.hm; have := h.t0; have := sq_nonneg rb; omega
 have hA : 0 < A := by have := h.hA; have := h.s0; have := sq_nonneg ra; omega
 have hp1 := h.p1
 have hab : 0 < ab := by have := h.D0; have := Int.mul_pos h.ra0 h.rb0; omega
 -- the certificate
 have hl0 : 0 ≤ ab * ab - A * (rb * rb) - m * s := by
  have e : ab * ab - A * (rb * rb) - m * s = ((ab - ra * rb) * (ab - ra * rb) - s * t) + 2 * (rb * (ra * (ab - ra * rb) - s * rb)) := by rw [h.hA, h.hm]; grind
  have p : 0 ≤ rb * (ra * (ab - ra * rb) - s * rb) := Int.mul_nonneg (by have := h.rb0; omega) (by omega)
  have := h.D2
  omega
 have hl2 : 4 * (X * X) * (rb * rb * s) ≤ (ab * ab - A * (rb * rb) - m * s) * (ab * ab - A * (rb * rb) - m * s) := by
  have e : (ab * ab - A * (rb * rb) - m * s) * (ab * ab - A * (rb * rb) - m * s) - 4 * (X * X) * (rb * rb * s) =
    ((ab - ra * rb) * (ab - ra * rb) - s * t) * ((ab - ra * rb) * (ab - ra * rb) - s * t) + 4 * (((ab - ra * rb) * (ab - ra * rb) - s * t) * (rb * (ra * (ab - ra * rb) - s * rb))) + 4 * ((rb * rb) * (ra * ra) * ((ab - ra * rb) * (ab - ra * rb) - s * t)) + 4 * ((rb * rb) * s * ((ab - ra * rb) * (ab - ra * rb) - s * t)) := by
   rw [hX, h.hA, h.hm]; grind
  have d2 := h.D2
  have p1 := sq_nonneg ((ab - ra * rb) * (ab - ra * rb) - s * t)
  have p2 : 0 ≤ ((ab - ra * rb) * (ab - ra * rb) - s * t) * (rb * (ra * (ab - ra * rb) - s * rb)) := Int.mul_nonneg (by omega) (Int.mul_nonneg (by have := h.rb0; omega) (by omega))
  have p3 : 0 ≤ (rb * rb) * (ra * ra) * ((ab - ra * rb) * (ab - ra * rb) - s * t) := Int.mul_nonneg (Int.mul_nonneg (sq_nonneg _) (sq_nonneg _)) (by omega)
  have p4 : 0 ≤ (rb * rb) * s * ((ab - ra * rb) * (ab - ra * rb) - s * t) := Int.mul_nonneg (Int.mul_nonneg (sq_nonneg _) (by have := h.s0; omega)) (by omega)
  omega
 obtain ⟨l, hl⟩ : ∃ l, ab * ab - A * (rb * rb) - m * s = l := ⟨_, rfl⟩
 rw [hl] at hl0 hl2
 obtain ⟨k, hk⟩ : ∃ k, ab * ab * P - A * (xb * xb) - m * s * P = k := ⟨_, rfl⟩
 have hk1 : l * P ≤ k := by
  have : 0 ≤ A * (rb * rb * P - xb * xb) := Int.mul_nonneg (by omega) (by omega)
  have e : k = l * P + A * (rb * rb * P - xb * xb) := by rw [← hk, ← hl]; grind
  omega
 have hlP : 0 ≤ l * P := Int.mul_nonneg hl0 (by omega)
 have hk2 : 4 * (X * X) * (xb * xb) * (s * P) ≤ k * k := by
  have a1 := sq_le hlP hk1
  have a2 : (P * P) * (4 * (X * X) * (rb * rb * s)) ≤ (P * P) * (l * l) := Int.mul_le_mul_of_nonneg_left hl2 (sq_nonneg P)
  have a3 : (4 * (X * X) * (s * P)) * (xb * xb) ≤ (4 * (X * X) * (s * P)) * (rb * rb * P) := Int.mul_le_mul_of_nonneg_left hxb (Int.mul_nonneg (by have := sq_nonneg X; omega) (Int.mul_nonneg (by have := h.s0; omega) (by omega)))
  grind
 have hUY : ab * cb * (ab * cb) - X * xb * (X * xb) - m * m * (s * P) = m * k := by
  have e : cb * cb = m * P - xb * xb := by omega
  have e1 : ab * cb * (ab * cb) = ab * ab * (m * P - xb * xb) := by rw [← e]; grind
  have e2 : X * xb * (X * xb) = (A * m - ab * ab) * (xb * xb) := by rw [← hX]; grind
  rw [e1, e2, ← hk]; grind
 have hsP : 0 < s * P := Int.mul_pos h.s0 hP
 have hr := root_le (ab * cb) (X * xb) (m * m * (s * P)) (Int.mul_nonneg (by omega) (by omega)) (Int.mul_pos (Int.mul_pos hm hm) hsP) (by rw [hUY]; exact Int.mul_nonneg (by omega) (by omega)) (by
  rw [hUY]
  have : (m * m) * (4 * (X * X) * (xb * xb) * (s * P)) ≤ (m * m) * (k * k) := Int.mul_le_mul_of_nonneg_left hk2 (sq_nonneg m)
  grind)
 rw [← hap] at hr
 refine ⟨mul_pos_left hm hr.1, ?_⟩
 apply mul_le_left (Int.mul_pos hm hm)
 have := hr.2
 grind
theorem Dark.trans {A m C s t u ra rb rc ab bc ac X Y : Int} (h : Dark A m s t ra rb ab) (k : Dark m C t u rb rc bc) (hX : X * X = A * m - ab * ab) (hY : Y * Y = m * C - bc * bc) (hac : m * ac = ab * bc - X * Y) : Dark A C s u ra rc ac := by
 have hm : 0 < m := by have := h.hm; have := h.t0; have := sq_nonneg rb; omega
 have hA : 0 < A := by have := h.hA; have := h.s0; have := sq_nonneg ra; omega
 have hC : 0 < C := by have := k.hm; have := k.t0; have := sq_nonneg rc; omega
 have p1 := h.p1
 have p2 := k.p1
 have d1 := h.D2
 have d2 := k.D2
 have hab : 0 < ab := by have := h.D0; have := Int.mul_pos h.ra0 h.rb0; omega
 have hbc : 0 < bc := by have := k.D0; have := Int.mul_pos k.ra0 k.rb0; omega
 have r2 : rc * bc ≤ rb * C := by
  apply le_of_sq (Int.mul_nonneg (by have := h.rb0; omega) (by omega))
  have a1 : (rc * rc) * (bc * bc) ≤ (rc * rc) * (m * C) := Int.mul_le_mul_of_nonneg_left (by have := sq_nonneg Y; omega) (sq_nonneg rc)
  have a2 : C * (rc * rc * m) ≤ C * (rb * rb * C) := Int.mul_le_mul_of_nonneg_left k.wide (by omega)
  grind
 have hW : 0 ≤ ab * bc - m * (ra * rc) := by
  have e : rb * (ab * bc - m * (ra * rc)) = ab * (rb * (bc - rb * rc) - t * rc) + m * (rc * (ab - ra * rb)) := by rw [h.hm]; grind
  have q1 : 0 ≤ ab * (rb * (bc - rb * rc) - t * rc) := Int.mul_nonneg (by omega) (by omega)
  have q2 : 0 ≤ m * (rc * (ab - ra * rb)) := Int.mul_nonneg (by omega) (Int.mul_nonneg (by have := k.rb0; omega) (by have := h.D0; omega))
  exact mul_le_left h.rb0 (by rw [Int.mul_zero, e]; omega)
 obtain ⟨g1, hg1⟩ : ∃ g, (ab - ra * rb) * (ab - ra * rb) - s * t = g := ⟨_, rfl⟩
 obtain ⟨g2, hg2⟩ : ∃ g, (bc - rb * rc) * (bc - rb * rc) - t * u = g := ⟨_, rfl⟩
 obtain ⟨e1, he1⟩ : ∃ e, ra * (ab - ra * rb) - s * rb = e := ⟨_, rfl⟩
 obtain ⟨e2, he2⟩ : ∃ e, rb * C - rc * bc = e := ⟨_, rfl⟩
 have f1 : 0 ≤ g1 := by omega
 have f2 : 0 ≤ g2 := by omega
 have f3 : 0 ≤ e1 := by omega
 have f4 : 0 ≤ e2 := by omega
 have i1 : e1 * e1 = s * (X * X) + A * g1 := by rw [← he1, ← hg1, hX, h.hA, h.hm]; grind
 have i2 : e2 * e2 = u * (Y * Y) + C * g2 := by rw [← he2, ← hg2, hY, k.hA, k.hm]; grind
 have hK : (ab * bc - m * (ra * rc)) * (ab * bc - m * (ra * rc)) - X * Y * (X * Y) - m * m * (s * u) = m * (A * g2 + C * g1 + 2 * (e1 * e2)) := by
  have q : X * Y * (X * Y) = (A * m - ab * ab) * (m * C - bc * bc) := by rw [← hX, ← hY]; grind
  rw [q, ← hg1, ← hg2, ← he1, ← he2, h.hA, k.hm, h.hm]; grind
 have n1 : 0 ≤ A * g2 := Int.mul_nonneg (by omega) f2
 have n2 : 0 ≤ C * g1 := Int.mul_nonneg (by omega) f1
 have n3 : 0 ≤ e1 * e2 := Int.mul_nonneg f3 f4
 have hsu : 0 < s * u := Int.mul_pos h.s0 k.t0
 have hr := root_le (ab * bc - m * (ra * rc)) (X * Y) (m * m * (s * u)) hW (Int.mul_pos (Int.mul_pos hm hm) hsu) (by rw [hK]; exact Int.mul_nonneg (by omega) (by omega)) (by
  rw [hK]
  have b1 : (2 * (e1 * e2)) * (2 * (e1 * e2)) ≤ (A * g2 + C * g1 + 2 * (e1 * e2)) * (A * g2 + C * g1 + 2 * (e1 * e2)) := sq_le (by omega) (by omega)
  have b2 : (s * (X * X)) * (u * (Y * Y)) ≤ (e1 * e1) * (e2 * e2) := by
   have c1 : s * (X * X) ≤ e1 * e1 := by have := Int.mul_nonneg (Int.le_of_lt hA) f1; omega
   have c2 : u * (Y * Y) ≤ e2 * e2 := by have := Int.mul_nonneg (Int.le_of_lt hC) f2; omega
   exact Int.mul_le_mul c1 c2 (Int.mul_nonneg (by have := k.t0; omega) (sq_nonneg _)) (sq_nonneg _)
  have b3 : (m * m) * ((2 * (e1 * e2)) * (2 * (e1 * e2))) ≤ (m * m) * ((A * g2 + C * g1 + 2 * (e1 * e2)) * (A * g2 + C * g1 + 2 * (e1 * e2))) := Int.mul_le_mul_of_nonneg_left b1 (sq_nonneg m)
  have b4 : (m * m) * ((s * (X * X)) * (u * (Y * Y))) ≤ (m * m) * ((e1 * e1) * (e2 * e2)) := Int.mul_le_mul_of_nonneg_left b2 (sq_nonneg m)
  grind)
 have hE : ab * bc - m * (ra * rc) - X * Y = m * (ac - ra * rc) := by grind
 rw [hE] at hr
 refine ⟨h.hA, k.hm, h.s0, k.t0, h.ra0, k.rb0, ?_, by have := mul_pos_left hm hr.1; omega, ?_⟩
 ·apply mul_le_left hm
  have a1 : C * (rb * rb * A) ≤ C * (ra * ra * m) := Int.mul_le_mul_of_nonneg_left h.wide (by omega)
  have a2 : A * (rc * rc * m) ≤ A * (rb * rb * C) := Int.mul_le_mul_of_nonneg_left k.wide (by omega)
  grind
 ·apply mul_le_left (Int.mul_pos hm hm)
  have := hr.2
  grind
set_option linter.unusedVariables false
end Ec
end Go.Proofs.YtcbodpnmndbgnaaGreatDoor
namespace Go.Proofs.YtcbodpnmndbgnaaGreatDoor
open Sp (rd)
set_option linter.unusedSimpArgs false
set_option linter.unusedVariables false
namespace Ec
def ballAt (l : List Ball) (i : Nat) : Ball := l.getD i noBall
def oneOk (b : Ball) : Bool := decide (-100 ≤ b.x) && decide (b.x ≤ 100) && (decide (-100 ≤ b.y) && decide (b.y ≤ 100)) && (decide (1 ≤ b.r) && decide (b.r ≤ 20)) && decide (0 < power b)
def fitsB (l : List Ball) (k : Nat) : Bool := oneOk (ballAt l k) && (List.range k).all fun i => apart (ballAt l i) (ballAt l k)
theorem fits_iff (l : List Ball) (k : Nat) : fitsB l k = true ↔ oneOk (ballAt l k) = true ∧ ∀ i, i < k → apart (ballAt l i) (ballAt l k) = true := by
 simp [fitsB]
def fitN (l : List Ball) (n : Nat) : Bool := (List.range n).all (fitsB l)
theorem fitN_iff (l : List Ball) (n : Nat) : fitN l n = true ↔ ∀ k, k < n → fitsB l k = true := by simp [fitN]
def ballsOk (l : List Ball) : Bool := fitN l l.length && Sp.inR l.length 1 5
theorem apart_swap (a b : Ball) : apart a b = apart b a := by
 unfold apart
 congr 1
 have h1 : (a.r + b.r) * (a.r + b.r) = (b.r + a.r) * (b.r + a.r) := by grind
 have h2 : (a.x - b.x) * (a.x - b.x) + (a.y - b.y) * (a.y - b.y) = (b.x - a.x) * (b.x - a.x) + (b.y - a.y) * (b.y - a.y) := by grind
 rw [h1, h2]
def darkestN (l : List Ball) (k : Nat) : Nat → Int
 | 0 => 1
 | n + 1 => if n = k then darkestN l k n else max (darkestN l k n) (shades (ballAt l n) (ballAt l k))
def darkest (l : List Ball) (k : Nat) : Int := darkestN l k l.length
def darkL (l : List Ball) : List Int := (List.range l.length).map (darkest l)
theorem darkL_length (l : List Ball) : (darkL l).length = l.length := by simp [darkL]
end Ec
end Go.Proofs.YtcbodpnmndbgnaaGreatDoor
