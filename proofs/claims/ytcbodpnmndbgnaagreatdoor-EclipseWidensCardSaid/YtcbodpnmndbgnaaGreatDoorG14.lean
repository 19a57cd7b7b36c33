/- Volume 14 of the texts that the laws of this seat use: EcRef8 EcRef10 EcRef11 EcLaws2 EcRef12 EcWid: walks of the program's functions, and plain laws. -/
import Derived.Carry
import Derived.Deep.RegionHeld3
import Derived.Lib.MinMax
import Derived.Test.YtcbodpnmndbgnaaGreatDoorG13
import Derived.Test.YtcbodpnmndbgnaaGreatDoorG04
import Derived.Test.YtcbodpnmndbgnaaGreatDoorG06
import Derived.Test.YtcbodpnmndbgnaaGreatDoorG09
import Derived.Test.YtcbodpnmndbgnaaGreatDoorG10
namespace Go.Proofs.YtcbodpnmndbgnaaGreatDoor
open Go.RowKit
open Sp (rd)
set_option maxRecDepth 100000
set_option maxHeartbeats 4000000
set_option linter.unusedVariables false
theorem new3 (W : World) (o1 o2 o3 : Obj) : Ext W (((W.alloc o1).alloc o2).alloc o3).drew := ((((Ext.refl W).alloc _).alloc _).alloc _).drew
def hndΦ (p : EP) (e : Ec.Engine) (set : List Int) (day V0 V1 V2 U0 U1 U2 : Int) (bE b7 b8 b9 : Nat) (w0 : World) (i : Nat) (v : Value) (w : World) : Prop :=
 match i with
 | 0 => v = .pointer (some ⟨b7, 2, none⟩)
 | 1 => v = .int .i64 (Sp.body e.sky 0).start
 | 2 => v = .pointer (some ⟨bE, 4, none⟩)
 | 3 => v = .slice p.As e.sun.length p.cs
 | 4 => v = .pointer (some ⟨b7, 0, none⟩)
 | 5 => v = .agg #[.int .i64 (Sp.body e.sky 0).num, .int .i64 (Sp.body e.sky 0).den]
 | 6 => v = .agg #[.int .i64 (Sp.body e.sky 0).den, .int .i64 (Sp.body e.sky 0).num]
 | 7 => v = .pointer (some ⟨bE, 7, none⟩)
 | 8 => v = .slice p.Af e.feasts.length p.cf
 | 9 => v = .slice p.At set.length p.ct
 | 10 => v = .int .i64 day
 | 11 => v = .int .i64 V0
 | 12 => v = .int .i64 ((Sp.body e.sky 0).start + V0)
 | 13 => v = .int .i64 U0
 | 14 => v = .pointer (some ⟨b8, 2, none⟩)
 | 15 => v = .int .i64 (Sp.body e.sky 1).start
 | 16 => v = .pointer (some ⟨bE, 5, none⟩)
 | 17 => v = .slice p.Am e.moon.length p.cm
 | 18 => v = .pointer (some ⟨b8, 0, none⟩)
 | 19 => v = .agg #[.int .i64 (Sp.body e.sky 1).num, .int .i64 (Sp.body e.sky 1).den]
 | 20 => v = .agg #[.int .i64 (Sp.body e.sky 1).den, .int .i64 (Sp.body e.sky 1).num]
 | 21 => v = .pointer (some ⟨bE, 7, none⟩)
 | 22 => v = .slice p.Af e.feasts.length p.cf
 | 23 => v = .slice p.At set.length p.ct
 | 24 => v = .int .i64 day
 | 25 => v = .int .i64 V1
 | 26 => v = .int .i64 ((Sp.body e.sky 1).start + V1)
 | 27 => v = .int .i64 U1
 | 28 => v = .pointer (some ⟨b9, 2, none⟩)
 | 29 => v = .int .i64 e.sky.nstart
 | 30 => v = .pointer (some ⟨bE, 6, none⟩)
 | 31 => v = .slice p.An e.node.length p.cn
 | 32 => v = .pointer (some ⟨b9, 0, none⟩)
 | 33 => v = .agg #[.int .i64 e.sky.nnum, .int .i64 e.sky.nden]
 | 34 => v = .agg #[.int .i64 e.sky.nden, .int .i64 e.sky.nnum]
 | 35 => v = .pointer (some ⟨bE, 7, none⟩)
 | 36 => v = .slice p.Af e.feasts.length p.cf
 | 37 => v = .slice p.At set.length p.ct
 | 38 => v = .int .i64 day
 | 39 => v = .int .i64 V2
 | 40 => v = .int .i64 (e.sky.nstart - V2)
 | 41 => v = .int .i64 U2
 | _ => v = .agg #[.int .i64 U0, .int .i64 U1, .int .i64 U2]
theorem hndΦ_mono {p : EP} {e : Ec.Engine} {set : List Int} {day V0 V1 V2 U0 U1 U2 : Int} {bE b7 b8 b9 : Nat} {w0 : World} (i : Nat) (v : Value) (w w' : World) (h : hndΦ p e set day V0 V1 V2 U0 U1 U2 bE b7 b8 b9 w0 i v w) (he : Ext w w') : hndΦ p e set day V0 V1 V2 U0 U1 U2 bE b7 b8 b9 w0 i v w' := by
 unfold hndΦ at h ⊢
 split at h <;> first
  | exact h
  | exact MkAt.ext h he
  | exact fun hg => MkAt.ext (h hg) he
theorem r7_Hands_any (p : EP) (e : Ec.Engine) (set : List Int) (day : Int) (w : World) (hm : EngSet w p e set) (c0 : Ec.engineOk e = true) (c1 : Ec.setOk e.feasts set = true) (h1 : 0 ≤ day) (h2 : day ≤ 9030) :
  Calls Tryz.prog 49 #[.agg #[.slice p.Ab e.sky.bodies.length p.cb, .int .i64 e.sky.nnum, .int .i64 e.sky.nden, .int .i64 e.sky.nstart, .slice p.As e.sun.length p.cs, .slice p.Am e.moon.length p.cm, .slice p.An e.node.length p.cn, .slice p.Af e.feasts.length p.cf, .int .i64 e.nw, .int .i64 e.fl, .int .i64 e.wide], .slice p.At set.length p.ct, .int .i64 day] w fun r w' => r = .returned (.agg #[.int .i64 (Ec.sunAt e set day), .int .i64 (Ec.moonAt e set day), .int .i64 (Ec.nodeAt e set day)]) ∧ Ext w w' := by
 have hK : Fine e set := ⟨c0, c1⟩
 have hn2 := hK.sky.n2
 have hn4 := hK.sky.n4
 have B0 := hK.sky.body (i := 0) (by omega) (by omega)
 have B1 := hK.sky.body (i := 1) (by omega) (by omega)
 have hT := (engineOk_parts c0).1
 have hF := hK.feasts
 obtain ⟨sn1, sn2, sd1, sd2⟩ : (1 ≤ e.sky.nnum ∧ e.sky.nnum ≤ 10000 ∧ 1 ≤ e.sky.nden ∧ e.sky.nden ≤ 10000) := ⟨hK.sky.num1, hK.sky.num2, hK.sky.den1, hK.sky.den2⟩
 have st1 := hK.sky.start1
 have st2 := hK.sky.start2
 obtain ⟨a1, a2, a3, a4, a5, a6, a7, _, _, _⟩ := B0
 obtain ⟨d1, d2, d3, d4, d5, d6, d7, _, _, _⟩ := B1
 have v0 := shown_bounds hT.1 (Sp.body e.sky 0).den (Sp.body e.sky 0).num e.feasts set day a1
 have v1 := shown_bounds hT.2.1 (Sp.body e.sky 1).den (Sp.body e.sky 1).num e.feasts set day d1
 have v2 := shown_bounds hT.2.2 e.sky.nden e.sky.nnum e.feasts set day sn1
 have HS0 := Lib.hid (fun W (h : EngSet W p e set) => r1_Shown_any p.As p.Af p.At p.cs p.cf p.ct e.sun e.feasts set (Sp.body e.sky 0).den (Sp.body e.sky 0).num day W h.eng.sun h.eng.feasts h.set hT.1 hF c1 ⟨a3, a4⟩ ⟨a1, a2⟩ ⟨h1, by omega⟩)
 have HS1 := Lib.hid (fun W (h : EngSet W p e set) => r1_Shown_any p.Am p.Af p.At p.cm p.cf p.ct e.moon e.feasts set (Sp.body e.sky 1).den (Sp.body e.sky 1).num day W h.eng.moon h.eng.feasts h.set hT.2.1 hF c1 ⟨d3, d4⟩ ⟨d1, d2⟩ ⟨h1, by omega⟩)
 have HS2 := Lib.hid (fun W (h : EngSet W p e set) => r1_Shown_any p.An p.Af p.At p.cn p.cf p.ct e.node e.feasts set e.sky.nden e.sky.nnum day W h.eng.node h.eng.feasts h.set hT.2.2 hF c1 ⟨sd1, sd2⟩ ⟨sn1, sn2⟩ ⟨h1, by omega⟩)
 rw [show Ec.sunAt e set day = ((Sp.body e.sky 0).start + Ec.shown e.sun (Sp.body e.sky 0).den (Sp.body e.sky 0).num e.feasts set day) % 21600 from rfl, show Ec.moonAt e set day = ((Sp.body e.sky 1).start + Ec.shown e.moon (Sp.body e.sky 1).den (Sp.body e.sky 1).num e.feasts set day) % 21600 from rfl, show Ec.nodeAt e set day = (e.sky.nstart - Ec.shown e.node e.sky.nden e.sky.nnum e.feasts set day) % 21600 from rfl]
 obtain ⟨V0, hV0⟩ : ∃ V, Ec.shown e.sun (Sp.body e.sky 0).den (Sp.body e.sky 0).num e.feasts set day = V := ⟨_, rfl⟩
 obtain ⟨V1, hV1⟩ : ∃ V, Ec.shown e.moon (Sp.body e.sky 1).den (Sp.body e.sky 1).num e.feasts set day = V := ⟨_, rfl⟩
 obtain ⟨V2, hV2⟩ : ∃ V, Ec.shown e.node e.sky.nden e.sky.nnum e.feasts set day = V := ⟨_, rfl⟩
 rw [hV0] at v0 HS0 ⊢
 rw [hV1] at v1 HS1 ⊢
 rw [hV2] at v2 HS2 ⊢
 clear hV0 hV1 hV2
 have HL0 := Lib.hid (fun W => r_Less_any ((Sp.body e.sky 0).start + V0) W (by omega) (by omega))
 have HL1 := Lib.hid (fun W => r_Less_any ((Sp.body e.sky 1).start + V1) W (by omega) (by omega))
 have HL2 := Lib.hid (fun W => r_Less_any (e.sky.nstart - V2) W (by omega) (by omega))
 have HW0 : Hid (IntKind.i64.wrap ((Sp.body e.sky 0).start + V0) = (Sp.body e.sky 0).start + V0) := Lib.hid (IntWalk.i64_in _ ⟨by omega, by omega⟩)
 have HW1 : Hid (IntKind.i64.wrap ((Sp.body e.sky 1).start + V1) = (Sp.body e.sky 1).start + V1) := Lib.hid (IntWalk.i64_in _ ⟨by omega, by omega⟩)
 have HW2 : Hid (IntKind.i64.wrap (e.sky.nstart - V2) = e.sky.nstart - V2) := Lib.hid (IntWalk.i64_in _ ⟨by omega, by omega⟩)
 obtain ⟨U0, hU0⟩ : ∃ U, ((Sp.body e.sky 0).start + V0) % 21600 = U := ⟨_, rfl⟩
 obtain ⟨U1, hU1⟩ : ∃ U, ((Sp.body e.sky 1).start + V1) % 21600 = U := ⟨_, rfl⟩
 obtain ⟨U2, hU2⟩ : ∃ U, (e.sky.nstart - V2) % 21600 = U := ⟨_, rfl⟩
 rw [hU0] at HL0 ⊢
 rw [hU1] at HL1 ⊢
 rw [hU2] at HL2 ⊢
 clear hU0 hU1 hU2 v0 v1 v2
 obtain ⟨b, o, hb, hBA⟩ := hm.eng.bodies (by omega)
 obtain ⟨g0, g1, g2, R0, c0', g3, _⟩ := hBA 0 (by omega)
 obtain ⟨k0, k1, k2, R1, c1', k3, _⟩ := hBA 1 (by omega)
 rw [show bd e.sky.bodies 0 = Sp.body e.sky 0 from rfl] at g0 g1 g2 g3
 rw [show bd e.sky.bodies 1 = Sp.body e.sky 1 from rfl] at k0 k1 k2 k3
 simp only [Nat.zero_mul, Nat.one_mul, Nat.add_zero] at g0 g1 g2 g3 k0 k1 k2 k3
 have h01 : (0 : Int) < e.sky.bodies.length := by omega
 have h11 : (1 : Int) < e.sky.bodies.length := by omega
 have h00 : 0 < e.sky.bodies.length := by omega
 have HM := Lib.hid hm
 rw [hb]
 clear hm hBA hK hT hF a1 a2 a3 a4 a5 a6 a7 d1 d2 d3 d4 d5 d6 d7 sn1 sn2 sd1 sd2 st1 st2 hb c0 c1
 have hbe := (Row.new w 32 #[.slice (some ⟨b, o, none⟩) e.sky.bodies.length p.cb, .int .i64 e.sky.nnum, .int .i64 e.sky.nden, .int .i64 e.sky.nstart, .slice p.As e.sun.length p.cs, .slice p.Am e.moon.length p.cm, .slice p.An e.node.length p.cn, .slice p.Af e.feasts.length p.cf, .int .i64 e.nw, .int .i64 e.fl, .int .i64 e.wide]).alloc (.cells #[.int .i64 0, .int .i64 0, .int .i64 0] 39)
 have hbr := Row.new (w.alloc (.cells #[.slice (some ⟨b, o, none⟩) e.sky.bodies.length p.cb, .int .i64 e.sky.nnum, .int .i64 e.sky.nden, .int .i64 e.sky.nstart, .slice p.As e.sun.length p.cs, .slice p.Am e.moon.length p.cm, .slice p.An e.node.length p.cn, .slice p.Af e.feasts.length p.cf, .int .i64 e.nw, .int .i64 e.fl, .int .i64 e.wide] 32)) 39 #[.int .i64 0, .int .i64 0, .int .i64 0]
 have hE0 := ((Ext.refl w).alloc (.cells #[.slice (some ⟨b, o, none⟩) e.sky.bodies.length p.cb, .int .i64 e.sky.nnum, .int .i64 e.sky.nden, .int .i64 e.sky.nstart, .slice p.As e.sun.length p.cs, .slice p.Am e.moon.length p.cm, .slice p.An e.node.length p.cn, .slice p.Af e.feasts.length p.cf, .int .i64 e.nw, .int .i64 e.fl, .int .i64 e.wide] 32)).alloc (.cells #[.int .i64 0, .int .i64 0, .int .i64 0] 39)
 simp only [World.size_alloc] at hbr
 go_enter Tryz.func49, Tryz.ntmps49
 go_wp2_with fail
 obtain ⟨W, hW⟩ : ∃ W, (w.alloc (.cells #[.slice (some ⟨b, o, none⟩) e.sky.bodies.length p.cb, .int .i64 e.sky.nnum, .int .i64 e.sky.nden, .int .i64 e.sky.nstart, .slice p.As e.sun.length p.cs, .slice p.Am e.moon.length p.cm, .slice p.An e.node.length p.cn, .slice p.Af e.feasts.length p.cf, .int .i64 e.nw, .int .i64 e.fl, .int .i64 e.wide] 32)).alloc (.cells #[.int .i64 0, .int .i64 0, .int .i64 0] 39) = W := ⟨_, rfl⟩
 rw [hW] at hbe hbr hE0 ⊢
 clear hW
 obtain ⟨bE, hbE⟩ : ∃ b, w.heap.size = b := ⟨_, rfl⟩
 have HBB := Lib.hid hbE
 rw [hbE] at hbe hbr ⊢
 clear hbE
 obtain ⟨bR, hbR⟩ : ∃ b, bE + 1 = b := ⟨_, rfl⟩
 have HBR := Lib.hid hbR
 rw [hbR] at hbr ⊢
 clear hbR
 have q := hbe.cell
 have q0 := q 0
 have q1 := q 1
 have q2 := q 2
 have q3 := q 3
 simp only [List.getElem?_toArray, List.getElem?_cons_zero, List.getElem?_cons_succ] at q0 q1 q2 q3
 replace g0 := hE0.cell g0
 replace g1 := hE0.cell g1
 replace g2 := hE0.cell g2
 replace g3 := hE0.cell g3
 replace k0 := hE0.cell k0
 replace k1 := hE0.cell k1
 replace k2 := hE0.cell k2
 replace k3 := hE0.cell k3
 have m0 := World.new_ne W _ q0
 have m1 := World.new_ne W _ g0
 have j0 := lts (lt_of_cell q0)
 have j1 := lts (lt_of_cell g0)
 simp only at m0 m1 j0 j1
 have HBE0 := Lib.hid hbe
 have HBR0 := Lib.hid hbr
 have HE0 := Lib.hid hE0
 clear q hbe hbr hE0
 have HS := Lib.hid (And.intro q0 (And.intro q1 (And.intro q2 (And.intro q3 (And.intro g0 (And.intro g1 (And.intro g2 (And.intro g3 (And.intro k0 (And.intro k1 (And.intro k2 k3)))))))))))
 refine Code.wp_mono (Q := fun e' a' w' => e' = .normal ∧ ∃ b7 b8 b9, Ext W w' ∧ Row w' b7 46 #[.int .i64 (Sp.body e.sky 0).num, .int .i64 (Sp.body e.sky 0).den, .int .i64 (Sp.body e.sky 0).start, .slice R0 (Sp.body e.sky 0).road.length c0'] ∧ Row w' b8 46 #[.int .i64 (Sp.body e.sky 1).num, .int .i64 (Sp.body e.sky 1).den, .int .i64 (Sp.body e.sky 1).start, .slice R1 (Sp.body e.sky 1).road.length c1'] ∧ Row w' b9 26 #[.int .i64 e.sky.nnum, .int .i64 e.sky.nden, .int .i64 e.sky.nstart] ∧ a' = (⟨#[.agg #[.slice (some ⟨b, o, none⟩) e.sky.bodies.length p.cb, .int .i64 e.sky.nnum, .int .i64 e.sky.nden, .int .i64 e.sky.nstart, .slice p.As e.sun.length p.cs, .slice p.Am e.moon.length p.cm, .slice p.An e.node.length p.cn, .slice p.Af e.feasts.length p.cf, .int .i64 e.nw, .int .i64 e.fl, .int .i64 e.wide], .slice p.At set.length p.ct, .int .i64 day, .pointer (some ⟨bE, 0, none⟩), undef, undef, .pointer (some ⟨bR, 0, none⟩), .pointer (some ⟨b7, 0, none⟩), .pointer (some ⟨b8, 0, none⟩), .pointer (some ⟨b9, 0, none⟩), .pointer (some ⟨bE, 0, none⟩), .pointer (some ⟨bE, 0, none⟩), .slice (some ⟨b, o, none⟩) e.sky.bodies.length p.cb, .pointer (some ⟨b, o, none⟩), .agg #[.int .i64 (Sp.body e.sky 0).num, .int .i64 (Sp.body e.sky 0).den, .int .i64 (Sp.body e.sky 0).start, .slice R0 (Sp.body e.sky 0).road.length c0'], .pointer (some ⟨bE, 0, none⟩), .pointer (some ⟨bE, 0, none⟩), .slice (some ⟨b, o, none⟩) e.sky.bodies.length p.cb, .pointer (some ⟨b, o + 4, none⟩), .agg #[.int .i64 (Sp.body e.sky 1).num, .int .i64 (Sp.body e.sky 1).den, .int .i64 (Sp.body e.sky 1).start, .slice R1 (Sp.body e.sky 1).road.length c1'], .pointer (some ⟨bE, 0, none⟩), .pointer (some ⟨bE, 1, none⟩), .agg #[.int .i64 e.sky.nnum, .int .i64 e.sky.nden, .int .i64 e.sky.nstart], undef, undef, undef, undef, undef, undef, undef, undef, undef, undef, undef, undef, undef, undef, undef, undef, undef, undef, undef, undef, undef, undef, undef, undef, undef, undef, undef, undef, undef, undef, undef, undef, undef, undef, undef, undef, undef, undef, undef, undef, undef, undef, undef], []⟩ : Act)) ?hq ?hr
 case hr =>
  go_region_held3 (fun w' => w'.cell? ⟨bE, 0, none⟩ = some (.slice (some ⟨b, o, none⟩) e.sky.bodies.length p.cb) ∧ w'.cell? ⟨bE, 1, none⟩ = some (.int .i64 e.sky.nnum) ∧ w'.cell? ⟨bE, 2, none⟩ = some (.int .i64 e.sky.nden) ∧ w'.cell? ⟨bE, 3, none⟩ = some (.int .i64 e.sky.nstart) ∧ w'.cell? ⟨b, o, none⟩ = some (.int .i64 (Sp.body e.sky 0).num) ∧ w'.cell? ⟨b, o + 1, none⟩ = some (.int .i64 (Sp.body e.sky 0).den) ∧ w'.cell? ⟨b, o + 2, none⟩ = some (.int .i64 (Sp.body e.sky 0).start) ∧ w'.cell? ⟨b, o + 3, none⟩ = some (.slice R0 (Sp.body e.sky 0).road.length c0') ∧ w'.cell? ⟨b, o + 4, none⟩ = some (.int .i64 (Sp.body e.sky 1).num) ∧ w'.cell? ⟨b, o + 4 + 1, none⟩ = some (.int .i64 (Sp.body e.sky 1).den) ∧ w'.cell? ⟨b, o + 4 + 2, none⟩ = some (.int .i64 (Sp.body e.sky 1).start) ∧ w'.cell? ⟨b, o + 4 + 3, none⟩ = some (.slice R1 (Sp.body e.sky 1).road.length c1')) (first | (go_keep; done) | ((try dsimp only); obtain ⟨r0, r1, r2, r3, r4, r5, r6, r7, r8, r9, r10, r11⟩ := HS.out; refine ⟨Ext.cell ?_ r0, Ext.cell ?_ r1, Ext.cell ?_ r2, Ext.cell ?_ r3, Ext.cell ?_ r4, Ext.cell ?_ r5, Ext.cell ?_ r6, Ext.cell ?_ r7, Ext.cell ?_ r8, Ext.cell ?_ r9, Ext.cell ?_ r10, Ext.cell ?_ r11⟩ <;> repeat (first | exact Ext.refl _ | apply Ext.drew | apply Ext.alloc | refine Ext.setCell ?_ (by simp; omega) _))) (fail)
  all_goals first
   | exact ⟨rfl, W.heap.size + 0, W.heap.size + 1, W.heap.size + 2, new3 W _ _ _, (blocks3 W _ _ _).1, (blocks3 W _ _ _).2.1, (blocks3 W _ _ _).2.2, rfl⟩
   | exact ⟨rfl, W.heap.size + 0, W.heap.size + 2, W.heap.size + 1, new3 W _ _ _, (blocks3 W _ _ _).1, (blocks3 W _ _ _).2.2, (blocks3 W _ _ _).2.1, rfl⟩
   | exact ⟨rfl, W.heap.size + 1, W.heap.size + 0, W.heap.size + 2, new3 W _ _ _, (blocks3 W _ _ _).2.1, (blocks3 W _ _ _).1, (blocks3 W _ _ _).2.2, rfl⟩
   | exact ⟨rfl, W.heap.size + 1, W.heap.size + 2, W.heap.size + 0, new3 W _ _ _, (blocks3 W _ _ _).2.1, (blocks3 W _ _ _).2.2, (blocks3 W _ _ _).1, rfl⟩
   | exact ⟨rfl, W.heap.size + 2, W.heap.size + 0, W.heap.size + 1, new3 W _ _ _, (blocks3 W _ _ _).2.2, (blocks3 W _ _ _).1, (blocks3 W _ _ _).2.1, rfl⟩
   | exact ⟨rfl, W.heap.size + 2, W.heap.size + 1, W.heap.size + 0, new3 W _ _ _, (blocks3 W _ _ _).2.2, (blocks3 W _ _ _).2.1, (blocks3 W _ _ _).1, rfl⟩
 case hq =>
  rintro e1 a' wS ⟨rfl, b7, b8, b9, hE1, r7, r8, r9, rfl⟩
  have H7 := Lib.hid r7
  have H8 := Lib.hid r8
  have H9 := Lib.hid r9
  have HBE := Lib.hid (HBE0.out.ext hE1)
  have HBRx := Lib.hid (HBR0.out.ext hE1)
  have HEw := Lib.hid (HE0.out.trans hE1)
  have HM := Lib.hid (HM.out.ext HEw.out)
  clear r7 r8 r9 hE1 q0 q1 q2 q3 g0 g1 g2 g3 k0 k1 k2 k3 m0 m1 j0 j1 HS HBE0 HBR0 HE0
  go_wp2_with fail
  refine wp_region_free_tail 43 43 (hndΦ p e set day V0 V1 V2 U0 U1 U2 bE b7 b8 b9 wS) (by kernel_rfl) (by simp) (by kernel_rfl) (by kernel_rfl) (by kernel_rfl) (by kernel_rfl) hndΦ_mono ?hob ?hQ (fun h => absurd h (by omega))
  case hob =>
   intro i o hin ho a wa hE hF
   match i, hin with
   | 0, _ =>
    cases ho
    have h0 : a.tmps[7]?.getD undef = .pointer (some ⟨b7, 0, none⟩) := evalD (hF.old 7 (by decide))
    refine Ran.value rfl (v := .pointer (some ⟨b7, 2, none⟩)) (w1 := wa) ?_ ⟨rfl, Ext.refl _⟩
    go_simp
   | 1, _ =>
    cases ho
    have h0 : a.tmps[23]?.getD undef = .pointer (some ⟨b7, 2, none⟩) := evalD ((hF.from_ 0 23 rfl (by decide)))
    have q := (Row.ext (H7.out) hE).cell
    refine Ran.value rfl (v := .int .i64 (Sp.body e.sky 0).start) (w1 := wa) ?_ ⟨rfl, Ext.refl _⟩
    go_simp
   | 2, _ =>
    cases ho
    have h0 : a.tmps[3]?.getD undef = .pointer (some ⟨bE, 0, none⟩) := evalD (hF.old 3 (by decide))
    refine Ran.value rfl (v := .pointer (some ⟨bE, 4, none⟩)) (w1 := wa) ?_ ⟨rfl, Ext.refl _⟩
    go_simp
   | 3, _ =>
    cases ho
    have h0 : a.tmps[25]?.getD undef = .pointer (some ⟨bE, 4, none⟩) := evalD ((hF.from_ 2 25 rfl (by decide)))
    have q := (Row.ext (HBE.out) hE).cell
    refine Ran.value rfl (v := .slice p.As e.sun.length p.cs) (w1 := wa) ?_ ⟨rfl, Ext.refl _⟩
    go_simp
   | 4, _ =>
    cases ho
    have h0 : a.tmps[7]?.getD undef = .pointer (some ⟨b7, 0, none⟩) := evalD (hF.old 7 (by decide))
    refine Ran.value rfl (v := .pointer (some ⟨b7, 0, none⟩)) (w1 := wa) ?_ ⟨rfl, Ext.refl _⟩
    go_simp
   | 5, _ =>
    cases ho
    have h0 : a.tmps[27]?.getD undef = .pointer (some ⟨b7, 0, none⟩) := evalD ((hF.from_ 4 27 rfl (by decide)))
    have q := (Row.ext (H7.out) hE).cell
    refine Ran.value rfl (v := .agg #[.int .i64 (Sp.body e.sky 0).num, .int .i64 (Sp.body e.sky 0).den]) (w1 := wa) ?_ ⟨rfl, Ext.refl _⟩
    go_simp
   | 6, _ =>
    cases ho
    have h0 : a.tmps[28]?.getD undef = .agg #[.int .i64 (Sp.body e.sky 0).num, .int .i64 (Sp.body e.sky 0).den] := evalD ((hF.from_ 5 28 rfl (by decide)))
    refine Ran.enter rfl (f := 22) (args := #[.agg #[.int .i64 (Sp.body e.sky 0).num, .int .i64 (Sp.body e.sky 0).den]]) (w1 := wa) ?_ ?_
    ·go_simp
    ·refine (r7_Target_any (Sp.body e.sky 0).num (Sp.body e.sky 0).den wa).mono ?_
     rintro r w1 ⟨rfl, hX⟩
     exact ⟨_, rfl, rfl, hX⟩
   | 7, _ =>
    cases ho
    have h0 : a.tmps[3]?.getD undef = .pointer (some ⟨bE, 0, none⟩) := evalD (hF.old 3 (by decide))
    refine Ran.value rfl (v := .pointer (some ⟨bE, 7, none⟩)) (w1 := wa) ?_ ⟨rfl, Ext.refl _⟩
    go_simp
   | 8, _ =>
    cases ho
    have h0 : a.tmps[30]?.getD undef = .pointer (some ⟨bE, 7, none⟩) := evalD ((hF.from_ 7 30 rfl (by decide)))
    have q := (Row.ext (HBE.out) hE).cell
    refine Ran.value rfl (v := .slice p.Af e.feasts.length p.cf) (w1 := wa) ?_ ⟨rfl, Ext.refl _⟩
    go_simp
   | 9, _ =>
    cases ho
    have h0 : a.tmps[1]?.getD undef = .slice p.At set.length p.ct := evalD (hF.old 1 (by decide))
    refine Ran.value rfl (v := .slice p.At set.length p.ct) (w1 := wa) ?_ ⟨rfl, Ext.refl _⟩
    go_simp
   | 10, _ =>
    cases ho
    have h0 : a.tmps[2]?.getD undef = .int .i64 day := evalD (hF.old 2 (by decide))
    refine Ran.value rfl (v := .int .i64 day) (w1 := wa) ?_ ⟨rfl, Ext.refl _⟩
    go_simp
   | 11, _ =>
    cases ho
    have h0 : a.tmps[26]?.getD undef = .slice p.As e.sun.length p.cs := evalD ((hF.from_ 3 26 rfl (by decide)))
    have h1 : a.tmps[29]?.getD undef = .agg #[.int .i64 (Sp.body e.sky 0).den, .int .i64 (Sp.body e.sky 0).num] := evalD ((hF.from_ 6 29 rfl (by decide)))
    have h2 : a.tmps[31]?.getD undef = .slice p.Af e.feasts.length p.cf := evalD ((hF.from_ 8 31 rfl (by decide)))
    have h3 : a.tmps[32]?.getD undef = .slice p.At set.length p.ct := evalD ((hF.from_ 9 32 rfl (by decide)))
    have h4 : a.tmps[33]?.getD undef = .int .i64 day := evalD ((hF.from_ 10 33 rfl (by decide)))
    refine Ran.enter rfl (f := 103) (args := #[.slice p.As e.sun.length p.cs, .agg #[.int .i64 (Sp.body e.sky 0).den, .int .i64 (Sp.body e.sky 0).num], .slice p.Af e.feasts.length p.cf, .slice p.At set.length p.ct, .int .i64 day]) (w1 := wa) ?_ ?_
    ·go_simp
    ·refine (HS0.out wa (HM.out.ext hE)).mono ?_
     rintro r w1 ⟨rfl, hX⟩
     exact ⟨_, rfl, rfl, hX⟩
   | 12, _ =>
    cases ho
    have h0 : a.tmps[24]?.getD undef = .int .i64 (Sp.body e.sky 0).start := evalD ((hF.from_ 1 24 rfl (by decide)))
    have h1 : a.tmps[34]?.getD undef = .int .i64 V0 := evalD ((hF.from_ 11 34 rfl (by decide)))
    refine Ran.value rfl (v := .int .i64 ((Sp.body e.sky 0).start + V0)) (w1 := wa) ?_ ⟨rfl, Ext.refl _⟩
    have hw := HW0.out
    go_simp
   | 13, _ =>
    cases ho
    have h0 : a.tmps[35]?.getD undef = .int .i64 ((Sp.body e.sky 0).start + V0) := evalD ((hF.from_ 12 35 rfl (by decide)))
    refine Ran.enter rfl (f := 80) (args := #[.int .i64 ((Sp.body e.sky 0).start + V0)]) (w1 := wa) ?_ ?_
    ·go_simp
    ·refine (HL0.out wa).mono ?_
     rintro r w1 ⟨rfl, hX⟩
     exact ⟨_, rfl, rfl, hX ▸ Ext.refl _⟩
   | 14, _ =>
    cases ho
    have h0 : a.tmps[8]?.getD undef = .pointer (some ⟨b8, 0, none⟩) := evalD (hF.old 8 (by decide))
    refine Ran.value rfl (v := .pointer (some ⟨b8, 2, none⟩)) (w1 := wa) ?_ ⟨rfl, Ext.refl _⟩
    go_simp
   | 15, _ =>
    cases ho
    have h0 : a.tmps[37]?.getD undef = .pointer (some ⟨b8, 2, none⟩) := evalD ((hF.from_ 14 37 rfl (by decide)))
    have q := (Row.ext (H8.out) hE).cell
    refine Ran.value rfl (v := .int .i64 (Sp.body e.sky 1).start) (w1 := wa) ?_ ⟨rfl, Ext.refl _⟩
    go_simp
   | 16, _ =>
    cases ho
    have h0 : a.tmps[3]?.getD undef = .pointer (some ⟨bE, 0, none⟩) := evalD (hF.old 3 (by decide))
    refine Ran.value rfl (v := .pointer (some ⟨bE, 5, none⟩)) (w1 := wa) ?_ ⟨rfl, Ext.refl _⟩
    go_simp
   | 17, _ =>
    cases ho
    have h0 : a.tmps[39]?.getD undef = .pointer (some ⟨bE, 5, none⟩) := evalD ((hF.from_ 16 39 rfl (by decide)))
    have q := (Row.ext (HBE.out) hE).cell
    refine Ran.value rfl (v := .slice p.Am e.moon.length p.cm) (w1 := wa) ?_ ⟨rfl, Ext.refl _⟩
    go_simp
   | 18, _ =>
    cases ho
    have h0 : a.tmps[8]?.getD undef = .pointer (some ⟨b8, 0, none⟩) := evalD (hF.old 8 (by decide))
    refine Ran.value rfl (v := .pointer (some ⟨b8, 0, none⟩)) (w1 := wa) ?_ ⟨rfl, Ext.refl _⟩
    go_simp
   | 19, _ =>
    cases ho
    have h0 : a.tmps[41]?.getD undef = .pointer (some ⟨b8, 0, none⟩) := evalD ((hF.from_ 18 41 rfl (by decide)))
    have q := (Row.ext (H8.out) hE).cell
    refine Ran.value rfl (v := .agg #[.int .i64 (Sp.body e.sky 1).num, .int .i64 (Sp.body e.sky 1).den]) (w1 := wa) ?_ ⟨rfl, Ext.refl _⟩
    go_simp
   | 20, _ =>
    cases ho
    have h0 : a.tmps[42]?.getD undef = .agg #[.int .i64 (Sp.body e.sky 1).num, .int .i64 (Sp.body e.sky 1).den] := evalD ((hF.from_ 19 42 rfl (by decide)))
    refine Ran.enter rfl (f := 22) (args := #[.agg #[.int .i64 (Sp.body e.sky 1).num, .int .i64 (Sp.body e.sky 1).den]]) (w1 := wa) ?_ ?_
    ·go_simp
    ·refine (r7_Target_any (Sp.body e.sky 1).num (Sp.body e.sky 1).den wa).mono ?_
     rintro r w1 ⟨rfl, hX⟩
     exact ⟨_, rfl, rfl, hX⟩
   | 21, _ =>
    cases ho
    have h0 : a.tmps[3]?.getD undef = .pointer (some ⟨bE, 0, none⟩) := evalD (hF.old 3 (by decide))
    refine Ran.value rfl (v := .pointer (some ⟨bE, 7, none⟩)) (w1 := wa) ?_ ⟨rfl, Ext.refl _⟩
    go_simp
   | 22, _ =>
    cases ho
    have h0 : a.tmps[44]?.getD undef = .pointer (some ⟨bE, 7, none⟩) := evalD ((hF.from_ 21 44 rfl (by decide)))
    have q := (Row.ext (HBE.out) hE).cell
    refine Ran.value rfl (v := .slice p.Af e.feasts.length p.cf) (w1 := wa) ?_ ⟨rfl, Ext.refl _⟩
    go_simp
   | 23, _ =>
    cases ho
    have h0 : a.tmps[1]?.getD undef = .slice p.At set.length p.ct := evalD (hF.old 1 (by decide))
    refine Ran.value rfl (v := .slice p.At set.length p.ct) (w1 := wa) ?_ ⟨rfl, Ext.refl _⟩
    go_simp
   | 24, _ =>
    cases ho
    have h0 : a.tmps[2]?.getD undef = .int .i64 day := evalD (hF.old 2 (by decide))
    refine Ran.value rfl (v := .int .i64 day) (w1 := wa) ?_ ⟨rfl, Ext.refl _⟩
    go_simp
   | 25, _ =>
    cases ho
    have h0 : a.tmps[40]?.getD undef = .slice p.Am e.moon.length p.cm := evalD ((hF.from_ 17 40 rfl (by decide)))
    have h1 : a.tmps[43]?.getD undef = .agg #[.int .i64 (Sp.body e.sky 1).den, .int .i64 (Sp.body e.sky 1).num] := evalD ((hF.from_ 20 43 rfl (by decide)))
    have h2 : a.tmps[45]?.getD undef = .slice p.Af e.feasts.length p.cf := evalD ((hF.from_ 22 45 rfl (by decide)))
    have h3 : a.tmps[46]?.getD undef = .slice p.At set.length p.ct := evalD ((hF.from_ 23 46 rfl (by decide)))
    have h4 : a.tmps[47]?.getD undef = .int .i64 day := evalD ((hF.from_ 24 47 rfl (by decide)))
    refine Ran.enter rfl (f := 103) (args := #[.slice p.Am e.moon.length p.cm, .agg #[.int .i64 (Sp.body e.sky 1).den, .int .i64 (Sp.body e.sky 1).num], .slice p.Af e.feasts.length p.cf, .slice p.At set.length p.ct, .int .i64 day]) (w1 := wa) ?_ ?_
    ·go_simp
    ·refine (HS1.out wa (HM.out.ext hE)).mono ?_
     rintro r w1 ⟨rfl, hX⟩
     exact ⟨_, rfl, rfl, hX⟩
   | 26, _ =>
    cases ho
    have h0 : a.tmps[38]?.getD undef = .int .i64 (Sp.body e.sky 1).start := evalD ((hF.from_ 15 38 rfl (by decide)))
    have h1 : a.tmps[48]?.getD undef = .int .i64 V1 := evalD ((hF.from_ 25 48 rfl (by decide)))
    refine Ran.value rfl (v := .int .i64 ((Sp.body e.sky 1).start + V1)) (w1 := wa) ?_ ⟨rfl, Ext.refl _⟩
    have hw := HW1.out
    go_simp
   | 27, _ =>
    cases ho
    have h0 : a.tmps[49]?.getD undef = .int .i64 ((Sp.body e.sky 1).start + V1) := evalD ((hF.from_ 26 49 rfl (by decide)))
    refine Ran.enter rfl (f := 80) (args := #[.int .i64 ((Sp.body e.sky 1).start + V1)]) (w1 := wa) ?_ ?_
    ·go_simp
    ·refine (HL1.out wa).mono ?_
     rintro r w1 ⟨rfl, hX⟩
     exact ⟨_, rfl, rfl, hX ▸ Ext.refl _⟩
   | 28, _ =>
    cases ho
    have h0 : a.tmps[9]?.getD undef = .pointer (some ⟨b9, 0, none⟩) := evalD (hF.old 9 (by decide))
    refine Ran.value rfl (v := .pointer (some ⟨b9, 2, none⟩)) (w1 := wa) ?_ ⟨rfl, Ext.refl _⟩
    go_simp
   | 29, _ =>
    cases ho
    have h0 : a.tmps[51]?.getD undef = .pointer (some ⟨b9, 2, none⟩) := evalD ((hF.from_ 28 51 rfl (by decide)))
    have q := (Row.ext (H9.out) hE).cell
    refine Ran.value rfl (v := .int .i64 e.sky.nstart) (w1 := wa) ?_ ⟨rfl, Ext.refl _⟩
    go_simp
   | 30, _ =>
    cases ho
    have h0 : a.tmps[3]?.getD undef = .pointer (some ⟨bE, 0, none⟩) := evalD (hF.old 3 (by decide))
    refine Ran.value rfl (v := .pointer (some ⟨bE, 6, none⟩)) (w1 := wa) ?_ ⟨rfl, Ext.refl _⟩
    go_simp
   | 31, _ =>
    cases ho
    have h0 : a.tmps[53]?.getD undef = .pointer (some ⟨bE, 6, none⟩) := evalD ((hF.from_ 30 53 rfl (by decide)))
    have q := (Row.ext (HBE.out) hE).cell
    refine Ran.value rfl (v := .slice p.An e.node.length p.cn) (w1 := wa) ?_ ⟨rfl, Ext.refl _⟩
    go_simp
   | 32, _ =>
    cases ho
    have h0 : a.tmps[9]?.getD undef = .pointer (some ⟨b9, 0, none⟩) := evalD (hF.old 9 (by decide))
    refine Ran.value rfl (v := .pointer (some ⟨b9, 0, none⟩)) (w1 := wa) ?_ ⟨rfl, Ext.refl _⟩
    go_simp
   | 33, _ =>
    cases ho
    have h0 : a.tmps[55]?.getD undef = .pointer (some ⟨b9, 0, none⟩) := evalD ((hF.from_ 32 55 rfl (by decide)))
    have q := (Row.ext (H9.out) hE).cell
    refine Ran.value rfl (v := .agg #[.int .i64 e.sky.nnum, .int .i64 e.sky.nden]) (w1 := wa) ?_ ⟨rfl, Ext.refl _⟩
    go_simp
   | 34, _ =>
    cases ho
    have h0 : a.tmps[56]?.getD undef = .agg #[.int .i64 e.sky.nnum, .int .i64 e.sky.nden] := evalD ((hF.from_ 33 56 rfl (by decide)))
    refine Ran.enter rfl (f := 22) (args := #[.agg #[.int .i64 e.sky.nnum, .int .i64 e.sky.nden]]) (w1 := wa) ?_ ?_
    ·go_simp
    ·refine (r7_Target_any e.sky.nnum e.sky.nden wa).mono ?_
     rintro r w1 ⟨rfl, hX⟩
     exact ⟨_, rfl, rfl, hX⟩
   | 35, _ =>
    cases ho
    have h0 : a.tmps[3]?.getD undef = .pointer (some ⟨bE, 0, none⟩) := evalD (hF.old 3 (by decide))
    refine Ran.value rfl (v := .pointer (some ⟨bE, 7, none⟩)) (w1 := wa) ?_ ⟨rfl, Ext.refl _⟩
    go_simp
   | 36, _ =>
    cases ho
    have h0 : a.tmps[58]?.getD undef = .pointer (some ⟨bE, 7, none⟩) := evalD ((hF.from_ 35 58 rfl (by decide)))
    have q := (Row.ext (HBE.out) hE).cell
    refine Ran.value rfl (v := .slice p.Af e.feasts.length p.cf) (w1 := wa) ?_ ⟨rfl, Ext.refl _⟩
    go_simp
   | 37, _ =>
    cases ho
    have h0 : a.tmps[1]?.getD undef = .slice p.At set.length p.ct := evalD (hF.old 1 (by decide))
    refine Ran.value rfl (v := .slice p.At set.length p.ct) (w1 := wa) ?_ ⟨rfl, Ext.refl _⟩
    go_simp
   | 38, _ =>
    cases ho
    have h0 : a.tmps[2]?.getD undef = .int .i64 day := evalD (hF.old 2 (by decide))
    refine Ran.value rfl (v := .int .i64 day) (w1 := wa) ?_ ⟨rfl, Ext.refl _⟩
    go_simp
   | 39, _ =>
    cases ho
    have h0 : a.tmps[54]?.getD undef = .slice p.An e.node.length p.cn := evalD ((hF.from_ 31 54 rfl (by decide)))
    have h1 : a.tmps[57]?.getD undef = .agg #[.int .i64 e.sky.nden, .int .i64 e.sky.nnum] := evalD ((hF.from_ 34 57 rfl (by decide)))
    have h2 : a.tmps[59]?.getD undef = .slice p.Af e.feasts.length p.cf := evalD ((hF.from_ 36 59 rfl (by decide)))
    have h3 : a.tmps[60]?.getD undef = .slice p.At set.length p.ct := evalD ((hF.from_ 37 60 rfl (by decide)))
    have h4 : a.tmps[61]?.getD undef = .int .i64 day := evalD ((hF.from_ 38 61 rfl (by decide)))
    refine Ran.enter rfl (f := 103) (args := #[.slice p.An e.node.length p.cn, .agg #[.int .i64 e.sky.nden, .int .i64 e.sky.nnum], .slice p.Af e.feasts.length p.cf, .slice p.At set.length p.ct, .int .i64 day]) (w1 := wa) ?_ ?_
    ·go_simp
    ·refine (HS2.out wa (HM.out.ext hE)).mono ?_
     rintro r w1 ⟨rfl, hX⟩
     exact ⟨_, rfl, rfl, hX⟩
   | 40, _ =>
    cases ho
    have h0 : a.tmps[52]?.getD undef = .int .i64 e.sky.nstart := evalD ((hF.from_ 29 52 rfl (by decide)))
    have h1 : a.tmps[62]?.getD undef = .int .i64 V2 := evalD ((hF.from_ 39 62 rfl (by decide)))
    refine Ran.value rfl (v := .int .i64 (e.sky.nstart - V2)) (w1 := wa) ?_ ⟨rfl, Ext.refl _⟩
    have hw := HW2.out
    go_simp
   | 41, _ =>
    cases ho
    have h0 : a.tmps[63]?.getD undef = .int .i64 (e.sky.nstart - V2) := evalD ((hF.from_ 40 63 rfl (by decide)))
    refine Ran.enter rfl (f := 80) (args := #[.int .i64 (e.sky.nstart - V2)]) (w1 := wa) ?_ ?_
    ·go_simp
    ·refine (HL2.out wa).mono ?_
     rintro r w1 ⟨rfl, hX⟩
     exact ⟨_, rfl, rfl, hX ▸ Ext.refl _⟩
   | 42, _ =>
    cases ho
    have h0 : a.tmps[36]?.getD undef = .int .i64 U0 := evalD ((hF.from_ 13 36 rfl (by decide)))
    have h1 : a.tmps[50]?.getD undef = .int .i64 U1 := evalD ((hF.from_ 27 50 rfl (by decide)))
    have h2 : a.tmps[64]?.getD undef = .int .i64 U2 := evalD ((hF.from_ 41 64 rfl (by decide)))
    refine Ran.value rfl (v := .agg #[.int .i64 U0, .int .i64 U1, .int .i64 U2]) (w1 := wa) ?_ ⟨rfl, Ext.refl _⟩
    go_simp
   | k + 43, hin => omega
  case hQ =>
   intro vs w2 hE hΦ
   have f0 : vs 0 = .pointer (some ⟨b7, 2, none⟩) := hΦ 0 (by omega)
   have f1 : vs 1 = .int .i64 (Sp.body e.sky 0).start := hΦ 1 (by omega)
   have f2 : vs 2 = .pointer (some ⟨bE, 4, none⟩) := hΦ 2 (by omega)
   have f3 : vs 3 = .slice p.As e.sun.length p.cs := hΦ 3 (by omega)
   have f4 : vs 4 = .pointer (some ⟨b7, 0, none⟩) := hΦ 4 (by omega)
   have f5 : vs 5 = .agg #[.int .i64 (Sp.body e.sky 0).num, .int .i64 (Sp.body e.sky 0).den] := hΦ 5 (by omega)
   have f6 : vs 6 = .agg #[.int .i64 (Sp.body e.sky 0).den, .int .i64 (Sp.body e.sky 0).num] := hΦ 6 (by omega)
   have f7 : vs 7 = .pointer (some ⟨bE, 7, none⟩) := hΦ 7 (by omega)
   have f8 : vs 8 = .slice p.Af e.feasts.length p.cf := hΦ 8 (by omega)
   have f9 : vs 9 = .slice p.At set.length p.ct := hΦ 9 (by omega)
   have f10 : vs 10 = .int .i64 day := hΦ 10 (by omega)
   have f11 : vs 11 = .int .i64 V0 := hΦ 11 (by omega)
   have f12 : vs 12 = .int .i64 ((Sp.body e.sky 0).start + V0) := hΦ 12 (by omega)
   have f13 : vs 13 = .int .i64 U0 := hΦ 13 (by omega)
   have f14 : vs 14 = .pointer (some ⟨b8, 2, none⟩) := hΦ 14 (by omega)
   have f15 : vs 15 = .int .i64 (Sp.body e.sky 1).start := hΦ 15 (by omega)
   have f16 : vs 16 = .pointer (some ⟨bE, 5, none⟩) := hΦ 16 (by omega)
   have f17 : vs 17 = .slice p.Am e.moon.length p.cm := hΦ 17 (by omega)
   have f18 : vs 18 = .pointer (some ⟨b8, 0, none⟩) := hΦ 18 (by omega)
   have f19 : vs 19 = .agg #[.int .i64 (Sp.body e.sky 1).num, .int .i64 (Sp.body e.sky 1).den] := hΦ 19 (by omega)
   have f20 : vs 20 = .agg #[.int .i64 (Sp.body e.sky 1).den, .int .i64 (Sp.body e.sky 1).num] := hΦ 20 (by omega)
   have f21 : vs 21 = .pointer (some ⟨bE, 7, none⟩) := hΦ 21 (by omega)
   have f22 : vs 22 = .slice p.Af e.feasts.length p.cf := hΦ 22 (by omega)
   have f23 : vs 23 = .slice p.At set.length p.ct := hΦ 23 (by omega)
   have f24 : vs 24 = .int .i64 day := hΦ 24 (by omega)
   have f25 : vs 25 = .int .i64 V1 := hΦ 25 (by omega)
   have f26 : vs 26 = .int .i64 ((Sp.body e.sky 1).start + V1) := hΦ 26 (by omega)
   have f27 : vs 27 = .int .i64 U1 := hΦ 27 (by omega)
   have f28 : vs 28 = .pointer (some ⟨b9, 2, none⟩) := hΦ 28 (by omega)
   have f29 : vs 29 = .int .i64 e.sky.nstart := hΦ 29 (by omega)
   have f30 : vs 30 = .pointer (some ⟨bE, 6, none⟩) := hΦ 30 (by omega)
   have f31 : vs 31 = .slice p.An e.node.length p.cn := hΦ 31 (by omega)
   have f32 : vs 32 = .pointer (some ⟨b9, 0, none⟩) := hΦ 32 (by omega)
   have f33 : vs 33 = .agg #[.int .i64 e.sky.nnum, .int .i64 e.sky.nden] := hΦ 33 (by omega)
   have f34 : vs 34 = .agg #[.int .i64 e.sky.nden, .int .i64 e.sky.nnum] := hΦ 34 (by omega)
   have f35 : vs 35 = .pointer (some ⟨bE, 7, none⟩) := hΦ 35 (by omega)
   have f36 : vs 36 = .slice p.Af e.feasts.length p.cf := hΦ 36 (by omega)
   have f37 : vs 37 = .slice p.At set.length p.ct := hΦ 37 (by omega)
   have f38 : vs 38 = .int .i64 day := hΦ 38 (by omega)
   have f39 : vs 39 = .int .i64 V2 := hΦ 39 (by omega)
   have f40 : vs 40 = .int .i64 (e.sky.nstart - V2) := hΦ 40 (by omega)
   have f41 : vs 41 = .int .i64 U2 := hΦ 41 (by omega)
   have f42 : vs 42 = .agg #[.int .i64 U0, .int .i64 U1, .int .i64 U2] := hΦ 42 (by omega)
   have hrg : List.range 43 = [0, 1, 2, 3, 4, 5, 6, 7, 8, 9, 10, 11, 12, 13, 14, 15, 16, 17, 18, 19, 20, 21, 22, 23, 24, 25, 26, 27, 28, 29, 30, 31, 32, 33, 34, 35, 36, 37, 38, 39, 40, 41, 42] := rfl
   unfold putAll putS
   simp only [List.length_cons, List.length_nil, List.take_succ_cons, List.take_zero, List.drop_succ_cons, List.drop_zero, Nat.reduceAdd, hrg, List.foldl_cons, List.foldl_nil, dstOf, List.getElem?_cons_succ, List.getElem?_cons_zero, Option.bind_some]
   clear hrg
   rw [f0, f1, f2, f3, f4, f5, f6, f7, f8, f9, f10, f11, f12, f13, f14, f15, f16, f17, f18, f19, f20, f21, f22, f23, f24, f25, f26, f27, f28, f29, f30, f31, f32, f33, f34, f35, f36, f37, f38, f39, f40, f41, f42]
   simp only [Act.put, List.setIfInBounds_toArray, List.set_cons_succ, List.set_cons_zero]
   have HBRy := Lib.hid (HBRx.out.ext hE)
   have HEy := Lib.hid (HEw.out.trans hE)
   clear hΦ f0 f1 f2 f3 f4 f5 f6 f7 f8 f9 f10 f11 f12 f13 f14 f15 f16 f17 f18 f19 f20 f21 f22 f23 f24 f25 f26 f27 f28 f29 f30 f31 f32 f33 f34 f35 f36 f37 f38 f39 f40 f41 f42 hE
   have cR := HBRy.out.cell
   have fz := HBRy.out.free
   go_wp2_with fail
   refine bodyPost_ret (results_cell_row rfl _ _ bR 39 _ (0, 0) _ rfl (((HBRy.out.set_ 0 (.int .i64 U0)).set_ 1 (.int .i64 U1)).set_ 2 (.int .i64 U2)) Tryz.underlying39 rfl (by kernel_rfl)) rfl ?_
   exact ⟨rfl, ((HEy.out.setCell (p := ⟨bR, 0, none⟩) (by have := HBB.out; have := HBR.out; simp; omega) _).setCell (p := ⟨bR, 1, none⟩) (by have := HBB.out; have := HBR.out; simp; omega) _).setCell (p := ⟨bR, 2, none⟩) (by have := HBB.out; have := HBR.out; simp; omega) _⟩
theorem r7_limit_any (p : EP) (e : Ec.Engine) (full : Bool) (w : World) (h : (0 ≤ e.nw ∧ e.nw ≤ 5400) ∧ (0 ≤ e.fl ∧ e.fl ≤ 5400) ∧ (0 ≤ e.wide ∧ e.wide ≤ 5400)) :
  Calls Tryz.prog 78 #[.agg #[.slice p.Ab e.sky.bodies.length p.cb, .int .i64 e.sky.nnum, .int .i64 e.sky.nden, .int .i64 e.sky.nstart, .slice p.As e.sun.length p.cs, .slice p.Am e.moon.length p.cm, .slice p.An e.node.length p.cn, .slice p.Af e.feasts.length p.cf, .int .i64 e.nw, .int .i64 e.fl, .int .i64 e.wide], .bool full] w fun r w' => r = .returned (.int .i64 (Ec.limitOf e full + e.wide)) ∧ Ext w w' := by
 have b0 := (Row.new w 32 #[.slice p.Ab e.sky.bodies.length p.cb, .int .i64 e.sky.nnum, .int .i64 e.sky.nden, .int .i64 e.sky.nstart, .slice p.As e.sun.length p.cs, .slice p.Am e.moon.length p.cm, .slice p.An e.node.length p.cn, .slice p.Af e.feasts.length p.cf, .int .i64 e.nw, .int .i64 e.fl, .int .i64 e.wide]).cell
 have hE := (Ext.refl w).alloc (.cells #[.slice p.Ab e.sky.bodies.length p.cb, .int .i64 e.sky.nnum, .int .i64 e.sky.nden, .int .i64 e.sky.nstart, .slice p.As e.sun.length p.cs, .slice p.Am e.moon.length p.cm, .slice p.An e.node.length p.cn, .slice p.Af e.feasts.length p.cf, .int .i64 e.nw, .int .i64 e.fl, .int .i64 e.wide] 32)
 cases full
 ·go_enter Tryz.func78, Tryz.ntmps78
  go_wp2_with fail
  go_ret
  exact ⟨rfl, hE⟩
 ·go_enter Tryz.func78, Tryz.ntmps78
  go_wp2_with fail
  go_ret
  exact ⟨rfl, hE⟩
theorem Row.grown_far {W W' : World} {g : Nat} {t : TypeId} {cs : Array Value} (h : Row W g t cs) {row : Option Nat} (hg : W.grownBy W' row) (hne : some g ≠ row) : Row W' g t cs := (hg.block g h.lt hne).trans h
def foreK (e : Ec.Engine) (set : List Int) (d : Int) (full : Bool) : List Sp.Ecl := if Ec.foreB e set d full then [⟨d, full, Ec.farAt e set d⟩] else []
def foreP (e : Ec.Engine) (set : List Int) (d : Int) : Nat → List Sp.Ecl
 | 0 => []
 | 1 => foreK e set d false
 | _ + 2 => foreK e set d false ++ foreK e set d true
theorem foreP_two (e : Ec.Engine) (set : List Int) (d : Int) : foreP e set d 2 = Ec.foreD e set d := rfl
theorem foreK_le (e : Ec.Engine) (set : List Int) (d : Int) (full : Bool) : (foreK e set d full).length ≤ 1 := by unfold foreK; split <;> simp
theorem foreP_le (e : Ec.Engine) (set : List Int) (d : Int) (j : Nat) : (foreP e set d j).length ≤ 2 := by
 have h1 := foreK_le e set d false
 have h2 := foreK_le e set d true
 match j with
 | 0 => simp [foreP]
 | 1 => simp only [foreP]; omega
 | j + 2 => simp only [foreP, List.length_append]; omega
theorem own_cap {w : World} {base : Nat} {t : TypeId} {size : Nat} {v : Value} {n : Nat} {xs : List Value} (h : w.ownsRow base t size v n xs) : ∃ A c, v = .slice A n c ∧ n ≤ c ∧ c ≤ maxLen := by
 rcases h.2 with ⟨rfl, h0⟩ | ⟨g, cap, cur, hv, _, _, h1, h2, _⟩
 ·exact ⟨none, 0, by rw [h0], by omega, by decide⟩
 ·exact ⟨_, cap, hv, h1, h2⟩
theorem r7_Foretells_cap (p : EP) (e : Ec.Engine) (set : List Int) (lo hi : Int) (w : World) (hm : EngSet w p e set) (c0 : Ec.engineOk e = true) (c1 : Ec.setOk e.feasts set = true) (h1 : 1 ≤ lo) (h2 : lo ≤ hi) (h3 : hi ≤ 9030) :
  Calls Tryz.prog 28 #[.agg #[.slice p.Ab e.sky.bodies.length p.cb, .int .i64 e.sky.nnum, .int .i64 e.sky.nden, .int .i64 e.sky.nstart, .slice p.As e.sun.length p.cs, .slice p.Am e.moon.length p.cm, .slice p.An e.node.length p.cn, .slice p.Af e.feasts.length p.cf, .int .i64 e.nw, .int .i64 e.fl, .int .i64 e.wide], .slice p.At set.length p.ct, .int .i64 lo, .int .i64 hi] w fun r w' => ∃ A c, r = .returned (.slice A (Ec.foreL e set lo hi).length c) ∧ (Ec.foreL e set lo hi).length ≤ c ∧ c ≤ maxLen ∧ EclVal w' (.slice A (Ec.foreL e set lo hi).length c) (Ec.foreL e set lo hi) ∧ Ext w w' := by
 have hK : Fine e set := ⟨c0, c1⟩
 have hlims := hK.limits
 obtain ⟨i0, hi0, hi1, hi2, hi3⟩ := info_parts info_ecl
 have HHD := Lib.hid (fun (d : Int) (a : 0 ≤ d) (b : d ≤ 9030) W (h : EngSet W p e set) => r7_Hands_any p e set d W h c0 c1 a b)
 have HLI := Lib.hid (fun full W => r7_limit_any p e full W hlims)
 have HUN := Lib.hid (fun d => And.intro (hand_sun e set d) (And.intro (hand_moon e set d) (hand_node e set d)))
 have HM := Lib.hid hm
 obtain ⟨N, hN⟩ : ∃ N : Nat, hi + 1 - lo = (N : Int) := ⟨(hi + 1 - lo).toNat, by omega⟩
 have hML : Ec.foreL e set lo hi = Ec.foreN e set lo N := by unfold Ec.foreL; rw [hN]; rfl
 rw [hML]
 clear hML hm hK c0 c1
 go_enter Tryz.func28, Tryz.ntmps28
 go_wp2_with fail
 have HR0 := Lib.hid (Row.new w 32 #[.slice p.Ab e.sky.bodies.length p.cb, .int .i64 e.sky.nnum, .int .i64 e.sky.nden, .int .i64 e.sky.nstart, .slice p.As e.sun.length p.cs, .slice p.Am e.moon.length p.cm, .slice p.An e.node.length p.cn, .slice p.Af e.feasts.length p.cf, .int .i64 e.nw, .int .i64 e.fl, .int .i64 e.wide])
 have HE0 : Hid (Ext w (w.alloc (.cells #[.slice p.Ab e.sky.bodies.length p.cb, .int .i64 e.sky.nnum, .int .i64 e.sky.nden, .int .i64 e.sky.nstart, .slice p.As e.sun.length p.cs, .slice p.Am e.moon.length p.cm, .slice p.An e.node.length p.cn, .slice p.Af e.feasts.length p.cf, .int .i64 e.nw, .int .i64 e.fl, .int .i64 e.wide] 32))) := Lib.hid ((Ext.refl w).alloc _)
 obtain ⟨gE, hgE⟩ : ∃ g, w.heap.size = g := ⟨_, rfl⟩
 rw [hgE] at HR0 ⊢
 clear hgE
 generalize w.alloc (.cells #[.slice p.Ab e.sky.bodies.length p.cb, .int .i64 e.sky.nnum, .int .i64 e.sky.nden, .int .i64 e.sky.nstart, .slice p.As e.sun.length p.cs, .slice p.Am e.moon.length p.cm, .slice p.An e.node.length p.cn, .slice p.Af e.feasts.length p.cf, .int .i64 e.nw, .int .i64 e.fl, .int .i64 e.wide] 32) = w0 at *
 have b0 := HR0.out.cell
 refine (HHD.out (lo - 1) (by omega) (by omega) w0 (HM.out.ext HE0.out)).mono ?_
 rintro r w1 ⟨rfl, hE1⟩
 have HE1 := Lib.hid (HE0.out.trans hE1)
 have HR1 := Lib.hid (HR0.out.ext hE1)
 have jE := HR1.out.lt
 clear b0 hE1
 have HB0 := Lib.hid (Row.new w1 39 #[.int .i64 (Ec.sunAt e set (lo - 1)), .int .i64 (Ec.moonAt e set (lo - 1)), .int .i64 (Ec.nodeAt e set (lo - 1))])
 have HX0 : Hid (Ext w1 (w1.alloc (.cells #[.int .i64 (Ec.sunAt e set (lo - 1)), .int .i64 (Ec.moonAt e set (lo - 1)), .int .i64 (Ec.nodeAt e set (lo - 1))] 39))) := Lib.hid ((Ext.refl w1).alloc _)
 have hz0 : w1.heap.size + 1 ≤ (w1.alloc (.cells #[.int .i64 (Ec.sunAt e set (lo - 1)), .int .i64 (Ec.moonAt e set (lo - 1)), .int .i64 (Ec.nodeAt e set (lo - 1))] 39)).heap.size := by simp
 go_wp2_with fail
 obtain ⟨gB, hgB⟩ : ∃ g, w1.heap.size = g := ⟨_, rfl⟩
 have HGB := Lib.hid hgB
 rw [hgB] at HB0 jE hz0 ⊢
 clear hgB
 generalize w1.alloc (.cells #[.int .i64 (Ec.sunAt e set (lo - 1)), .int .i64 (Ec.moonAt e set (lo - 1)), .int .i64 (Ec.nodeAt e set (lo - 1))] 39) = w2 at *
 go_loopw [9, 11] (fun v d wr => ∃ k : Nat, k ≤ N ∧ d = .int .i64 (lo + (k : Int)) ∧ wr.ownsRow (gB + 1) 59 3 v (Ec.foreN e set lo k).length (eclCells (Ec.foreN e set lo k)) ∧ Row wr gB 39 #[.int .i64 (Ec.sunAt e set (lo + (k : Int) - 1)), .int .i64 (Ec.moonAt e set (lo + (k : Int) - 1)), .int .i64 (Ec.nodeAt e set (lo + (k : Int) - 1))] ∧ gB + 1 ≤ wr.heap.size ∧ Ext w1 wr) (fun _ d _ => (hi + 1 - intOf d).toNat)
 case atStart => exact ⟨0, Nat.zero_le _, by go_num, World.ownsRow_nil _ _ _ _, by rw [show lo + ((0 : Nat) : Int) - 1 = lo - 1 by omega]; exact HB0.out, hz0, HX0.out⟩
 case round =>
  obtain ⟨k, hk, rfl, hown, hB, hzk, hE⟩ := hrel
  clear HB0 HX0 hz0
  have HE := Lib.hid (HE1.out.trans hE)
  have HEw := Lib.hid hE
  have HR := Lib.hid (HR1.out.ext hE)
  have HB := Lib.hid hB
  have HO := Lib.hid hown
  have hle := foreN_len e set lo k
  have b0 := HR.out.cell
  clear hE hB hown
  by_cases hlt : k < N
  ·have HN : Hid (Ec.foreN e set lo (k + 1) = Ec.foreN e set lo k ++ Ec.foreD e set (lo + k)) := Lib.hid rfl
   have HFB : Hid (∀ full, foreK e set (lo + k) full = if Ec.foreB e set (lo + k) full then [⟨lo + k, full, Ec.farAt e set (lo + k)⟩] else []) := Lib.hid fun _ => rfl
   have HFB2 : Hid (∀ full, Ec.foreB e set (lo + k) full = (Ec.hasB e set (lo + k) full && decide (Ec.farAt e set (lo + k) ≤ Ec.limitOf e full + e.wide))) := Lib.hid fun _ => rfl
   have HPL := Lib.hid (fun j => foreP_le e set (lo + k) j)
   have HBn : Hid (∀ W, Row W gB 39 #[.int .i64 (Ec.sunAt e set (lo + (k : Int))), .int .i64 (Ec.moonAt e set (lo + (k : Int))), .int .i64 (Ec.nodeAt e set (lo + (k : Int)))] → Row W gB 39 #[.int .i64 (Ec.sunAt e set (lo + ((k + 1 : Nat) : Int) - 1)), .int .i64 (Ec.moonAt e set (lo + ((k + 1 : Nat) : Int) - 1)), .int .i64 (Ec.nodeAt e set (lo + ((k + 1 : Nat) : Int) - 1))]) := Lib.hid (fun W h => by rw [show lo + ((k + 1 : Nat) : Int) - 1 = lo + k by omega]; exact h)
   have HA := HUN.out (lo + k - 1)
   have HBb := HUN.out (lo + k)
   have HCR : Hid (∀ full W, Calls Tryz.prog 33 #[.agg #[.int .i64 (Ec.sunAt e set (lo + (k : Int) - 1)), .int .i64 (Ec.moonAt e set (lo + (k : Int) - 1)), .int .i64 (Ec.nodeAt e set (lo + (k : Int) - 1))], .agg #[.int .i64 (Ec.sunAt e set (lo + (k : Int))), .int .i64 (Ec.moonAt e set (lo + (k : Int))), .int .i64 (Ec.nodeAt e set (lo + (k : Int)))], .bool full] W fun e1 w' => e1 = .returned (.bool (Ec.hasB e set (lo + k) full)) ∧ Ext W w') := Lib.hid fun full W => r7_Crossed_any _ _ _ _ _ _ full W ⟨⟨HA.1, HA.2.1⟩, ⟨HBb.1, HBb.2.1⟩⟩
   have HFA : Hid (∀ W, Calls Tryz.prog 31 #[.agg #[.int .i64 (Ec.sunAt e set (lo + (k : Int))), .int .i64 (Ec.moonAt e set (lo + (k : Int))), .int .i64 (Ec.nodeAt e set (lo + (k : Int)))]] W fun e1 w' => e1 = .returned (.int .i64 (Ec.farAt e set (lo + k))) ∧ Ext W w') := Lib.hid fun W => r7_Far_any _ _ _ W ⟨HBb.2.1, HBb.2.2⟩
   have HHK := Lib.hid (fun W h => HHD.out (lo + k) (by omega) (by omega) W h)
   obtain ⟨L, hL⟩ : ∃ L, Ec.foreN e set lo k = L := ⟨_, rfl⟩
   rw [hL] at HN HO hle
   have HLL := Lib.hid hL
   have hd9 : lo + (k : Int) ≤ hi := by omega
   have hd1 : 1 ≤ lo + (k : Int) := by omega
   obtain ⟨d0, hd0⟩ : ∃ d, lo + (k : Int) = d := ⟨_, rfl⟩
   rw [hd0] at HN HFB HFB2 HPL HBn HCR HFA HHK HB hd9 hd1 ⊢
   have HD0 := Lib.hid hd0
   clear hL HA HBb hd0
   obtain ⟨f0, hf0⟩ : ∃ f, Ec.farAt e set d0 = f := ⟨_, rfl⟩
   rw [hf0] at HFA HFB HFB2
   clear hf0
   obtain ⟨a1, ha1⟩ : ∃ a, Ec.sunAt e set (d0 - 1) = a := ⟨_, rfl⟩
   obtain ⟨a2, ha2⟩ : ∃ a, Ec.moonAt e set (d0 - 1) = a := ⟨_, rfl⟩
   obtain ⟨a3, ha3⟩ : ∃ a, Ec.nodeAt e set (d0 - 1) = a := ⟨_, rfl⟩
   obtain ⟨b1, hb1⟩ : ∃ a, Ec.sunAt e set d0 = a := ⟨_, rfl⟩
   obtain ⟨b2, hb2⟩ : ∃ a, Ec.moonAt e set d0 = a := ⟨_, rfl⟩
   obtain ⟨b3, hb3⟩ : ∃ a, Ec.nodeAt e set d0 = a := ⟨_, rfl⟩
   rw [ha1, ha2, ha3] at HB HCR
   rw [hb1, hb2, hb3] at HHK HCR HFA HBn
   clear ha1 ha2 ha3 hb1 hb2 hb3
   go_wp2_with fail
   refine (HHK.out _ (HM.out.ext HE.out)).mono ?_
   rintro r w3 ⟨rfl, hE3⟩
   have hO3 := ownsRow_of_block HO.out (fun g hg => hE3.block g (HO.out.lt g hg).2)
   have HO3 := Lib.hid (hO3.alloc (.cells #[.int .i64 b1, .int .i64 b2, .int .i64 b3] 39))
   have HNE3 : Hid (u9.ownBlock ≠ some w3.heap.size) := Lib.hid (fun h => Nat.lt_irrefl _ (hO3.lt _ h).2)
   have HR12 := Lib.hid (Row.new w3 39 #[.int .i64 b1, .int .i64 b2, .int .i64 b3])
   have HB3 := Lib.hid ((HB.out.ext hE3).alloc (.cells #[.int .i64 b1, .int .i64 b2, .int .i64 b3] 39))
   have HR3 := Lib.hid ((HR.out.ext hE3).alloc (.cells #[.int .i64 b1, .int .i64 b2, .int .i64 b3] 39))
   have HE3 := Lib.hid ((HEw.out.trans hE3).alloc (.cells #[.int .i64 b1, .int .i64 b2, .int .i64 b3] 39))
   have hz3 : gB + 1 ≤ w3.heap.size ∧ w3.heap.size < (w3.alloc (.cells #[.int .i64 b1, .int .i64 b2, .int .i64 b3] 39)).heap.size := ⟨Nat.le_trans hzk hE3.size, by simp⟩
   clear b0 hE3 hO3
   go_wp2_with fail
   obtain ⟨g2, hg2⟩ : ∃ g, w3.heap.size = g := ⟨_, rfl⟩
   rw [hg2] at HNE3 HR12 hz3 ⊢
   clear hg2
   generalize w3.alloc (.cells #[.int .i64 b1, .int .i64 b2, .int .i64 b3] 39) = w4 at *
   go_loopw [9, 13] (fun v kd wr => ∃ j : Nat, j ≤ 2 ∧ kd = .int .i64 j ∧ wr.ownsRow (gB + 1) 59 3 v (L ++ foreP e set d0 j).length (eclCells (L ++ foreP e set d0 j)) ∧ v.ownBlock ≠ some g2 ∧ Row wr g2 39 #[.int .i64 b1, .int .i64 b2, .int .i64 b3] ∧ g2 < wr.heap.size ∧ Ext w1 wr ∧ Row wr gB 39 #[.int .i64 a1, .int .i64 a2, .int .i64 a3]) (fun _ kd _ => 2 - (intOf kd).toNat)
   case atStart => exact ⟨0, by omega, rfl, by simpa [foreP] using HO3.out, HNE3.out, HR12.out, hz3.2, HE3.out, HB3.out⟩
   case round =>
    obtain ⟨j, hj, rfl, hown, hne, hr12, hz12, hEj, hBj⟩ := hrel
    clear HO3 HNE3 HR12 HE3 HR3 HB3
    have HOj := Lib.hid hown
    have HNEj := Lib.hid hne
    have H12 := Lib.hid hr12
    have HBj := Lib.hid hBj
    have HEj := Lib.hid hEj
    have HRj := Lib.hid (HR1.out.ext hEj)
    have hlj := HPL.out j
    have hLj : (L ++ foreP e set d0 j).length ≤ 19000 := by rw [List.length_append]; omega
    have hzj := hEj.size
    have b1' := HRj.out.cell
    have b2' := hr12.cell
    have b3' := hBj.cell
    clear hown hne hr12 hBj hEj
    by_cases hjl : j < 2
    ·rcases (show j = 0 ∨ j = 1 by omega) with rfl | rfl
     ·have HP1 : Hid (foreP e set d0 1 = foreP e set d0 0 ++ foreK e set d0 false) := Lib.hid (by simp [foreP])
      go_wp2_with fail
      refine wp_region_later (by kernel_rfl) (by kernel_rfl) (fun W hW => ?_)
      subst hW
      have q1 := fun X : Later W => (Row.ext HRj.out X.ext).cell
      have q2 := fun X : Later W => (Row.ext H12.out X.ext).cell
      have q3 := fun X : Later W => (Row.ext HBj.out X.ext).cell
      clear b1' b2' b3'
      cases hcr : Ec.hasB e set d0 false
      ·have HC2 := Lib.hid (fun W => HCR.out false W)
       rw [hcr] at HC2
       have HKE : Hid (foreK e set d0 false = []) := Lib.hid (by rw [HFB.out, HFB2.out, hcr]; rfl)
       clear hcr
       repeat (go_big_quiet_step (fail))
       go_big_quiet_step ((go_at_call 33; exact Later.call (HC2.out _)))
       repeat (go_big_quiet_step (fail))
       refine wpQuiet_nil ?_
       rintro ⟨w5, hE5⟩
       dsimp only
       have hz5 := hE5.size
       clear q1 q2 q3
       go_wp2_with fail
       refine ⟨⟨1, by omega, by go_num, by rw [HP1.out, HKE.out, List.append_nil]; exact ownsRow_of_block HOj.out (fun g hg => hE5.block g (HOj.out.lt g hg).2), HNEj.out, H12.out.ext hE5, by omega, HEj.out.trans hE5, HBj.out.ext hE5⟩, by simp [intOf]⟩
      ·have HC2 := Lib.hid (fun W => HCR.out false W)
       rw [hcr] at HC2
       have HL2 := Lib.hid (fun W => HLI.out false W)
       obtain ⟨lim, hlim⟩ : ∃ l, Ec.limitOf e false + e.wide = l := ⟨_, rfl⟩
       rw [hlim] at HL2
       by_cases hle2 : f0 ≤ lim
       ·have HKE : Hid (foreK e set d0 false = [⟨d0, false, f0⟩]) := Lib.hid (by rw [HFB.out, HFB2.out, hcr, hlim, decide_eq_true hle2]; rfl)
        clear hcr hlim
        repeat (go_big_quiet_step (fail))
        go_big_quiet_step ((go_at_call 33; exact Later.call (HC2.out _)))
        repeat (go_big_quiet_step (fail))
        go_big_quiet_step ((go_at_call 31; exact Later.call (HFA.out _)))
        repeat (go_big_quiet_step (fail))
        go_big_quiet_step ((go_at_call 78; exact Later.call (HL2.out _)))
        repeat (go_big_quiet_step (fail))
        refine wpQuiet_nil ?_
        rintro ⟨w5, hE5⟩
        dsimp only
        have HE5 := Lib.hid (HEj.out.trans hE5)
        have hO5 := ownsRow_of_block HOj.out (fun g hg => hE5.block g (HOj.out.lt g hg).2)
        have HO5 := Lib.hid hO5
        have H125 := Lib.hid (H12.out.ext hE5)
        have HB5 := Lib.hid (HBj.out.ext hE5)
        have hz5 := hE5.size
        have c12 := H125.out.cell
        clear q1 q2 q3 hE5 hO5
        go_wp2_with fail
        refine (HFA.out _).mono ?_
        rintro r w6 ⟨rfl, hE6⟩
        have hO6 := ownsRow_of_block HO5.out (fun g hg => hE6.block g (HO5.out.lt g hg).2)
        have HO6 := Lib.hid hO6
        have hz6 := hE6.size
        have HE6 := Lib.hid (HE5.out.trans hE6)
        have H126 := Lib.hid (H125.out.ext hE6)
        have HB6 := Lib.hid (HB5.out.ext hE6)
        clear c12 hE6 hO6
        go_wp2_with (at_builtin; refine wpList_append_own_at _ rfl _ _ 50 rfl (gB + 1) 59 i0 _ 3 24 Tryz.underlying50 hi0 hi1 hi2 hi3 rfl (by decide) _ (L ++ foreP e set d0 0).length (eclCells (L ++ foreP e set d0 0)) rfl (HO6.out.alloc (.cells #[.int .i64 d0, .bool false, .int .i64 f0] 59)) ⟨w6.heap.size, 0, none⟩ 1 1 [.int .i64 d0, .bool false, .int .i64 f0] rfl rfl (World.news_of_block (cs := #[.int .i64 d0, .bool false, .int .i64 f0]) (t := 59) (fr := (0, 0)) (heap_alloc_new _ _)) (by simp [Value.oneCell']) (by simp only [maxLen]; omega) (by omega) (by simp; omega) ?_; intro v' w7 hown7 hgrow _ hob; have HO7 := Lib.hid hown7; have HG7 := Lib.hid hgrow; have HOB := Lib.hid hob; clear hown7 hgrow hob)
        refine ⟨⟨1, by omega, by go_num, ?_, ?_, ?_, ?_, ?_, ?_⟩, by simp [intOf]⟩
        ·rw [HP1.out, HKE.out, ← List.append_assoc]
         simpa [eclCells_append, eclCells, Nat.add_assoc] using HO7.out
        ·intro h
         rcases HOB.out with h' | h'
         ·exact HNEj.out (h' ▸ h)
         ·rw [h'] at h
          have := Option.some.inj h
          simp at this
          omega
        ·exact (H126.out.alloc _).grown_far HG7.out (fun h => HNEj.out h.symm)
        ·have := HG7.out.size
         simp at this
         omega
        ·exact (HE6.out.alloc _).grown HG7.out (fun g hg => by have := (HOj.out.lt g hg).1; have := HGB.out; omega)
        ·exact (HB6.out.alloc _).grown_far HG7.out (fun h => by have := (HOj.out.lt gB h.symm).1; omega)
       ·have HKE : Hid (foreK e set d0 false = []) := Lib.hid (by rw [HFB.out, HFB2.out, hcr, hlim, decide_eq_false hle2]; rfl)
        clear hcr hlim
        repeat (go_big_quiet_step (fail))
        go_big_quiet_step ((go_at_call 33; exact Later.call (HC2.out _)))
        repeat (go_big_quiet_step (fail))
        go_big_quiet_step ((go_at_call 31; exact Later.call (HFA.out _)))
        repeat (go_big_quiet_step (fail))
        go_big_quiet_step ((go_at_call 78; exact Later.call (HL2.out _)))
        repeat (go_big_quiet_step (fail))
        refine wpQuiet_nil ?_
        rintro ⟨w5, hE5⟩
        dsimp only
        have hz5 := hE5.size
        clear q1 q2 q3
        go_wp2_with fail
        refine ⟨⟨1, by omega, by go_num, by rw [HP1.out, HKE.out, List.append_nil]; exact ownsRow_of_block HOj.out (fun g hg => hE5.block g (HOj.out.lt g hg).2), HNEj.out, H12.out.ext hE5, by omega, HEj.out.trans hE5, HBj.out.ext hE5⟩, by simp [intOf]⟩
     ·have HP1 : Hid (foreP e set d0 2 = foreP e set d0 1 ++ foreK e set d0 true) := Lib.hid (by simp [foreP])
      go_wp2_with fail
      refine wp_region_later (by kernel_rfl) (by kernel_rfl) (fun W hW => ?_)
      subst hW
      have q1 := fun X : Later W => (Row.ext HRj.out X.ext).cell
      have q2 := fun X : Later W => (Row.ext H12.out X.ext).cell
      have q3 := fun X : Later W => (Row.ext HBj.out X.ext).cell
      clear b1' b2' b3'
      cases hcr : Ec.hasB e set d0 true
      ·have HC2 := Lib.hid (fun W => HCR.out true W)
       rw [hcr] at HC2
       have HKE : Hid (foreK e set d0 true = []) := Lib.hid (by rw [HFB.out, HFB2.out, hcr]; rfl)
       clear hcr
       repeat (go_big_quiet_step (fail))
       go_big_quiet_step ((go_at_call 33; exact Later.call (HC2.out _)))
       repeat (go_big_quiet_step (fail))
       refine wpQuiet_nil ?_
       rintro ⟨w5, hE5⟩
       dsimp only
       have hz5 := hE5.size
       clear q1 q2 q3
       go_wp2_with fail
       refine ⟨⟨2, by omega, by go_num, by rw [HP1.out, HKE.out, List.append_nil]; exact ownsRow_of_block HOj.out (fun g hg => hE5.block g (HOj.out.lt g hg).2), HNEj.out, H12.out.ext hE5, by omega, HEj.out.trans hE5, HBj.out.ext hE5⟩, by simp [intOf]⟩
      ·have HC2 := Lib.hid (fun W => HCR.out true W)
       rw [hcr] at HC2
       have HL2 := Lib.hid (fun W => HLI.out true W)
       obtain ⟨lim, hlim⟩ : ∃ l, Ec.limitOf e true + e.wide = l := ⟨_, rfl⟩
       rw [hlim] at HL2
       by_cases hle2 : f0 ≤ lim
       ·have HKE : Hid (foreK e set d0 true = [⟨d0, true, f0⟩]) := Lib.hid (by rw [HFB.out, HFB2.out, hcr, hlim, decide_eq_true hle2]; rfl)
        clear hcr hlim
        repeat (go_big_quiet_step (fail))
        go_big_quiet_step ((go_at_call 33; exact Later.call (HC2.out _)))
        repeat (go_big_quiet_step (fail))
        go_big_quiet_step ((go_at_call 31; exact Later.call (HFA.out _)))
        repeat (go_big_quiet_step (fail))
        go_big_quiet_step ((go_at_call 78; exact Later.call (HL2.out _)))
        repeat (go_big_quiet_step (fail))
        refine wpQuiet_nil ?_
        rintro ⟨w5, hE5⟩
        dsimp only
        have HE5 := Lib.hid (HEj.out.trans hE5)
        have hO5 := ownsRow_of_block HOj.out (fun g hg => hE5.block g (HOj.out.lt g hg).2)
        have HO5 := Lib.hid hO5
        have H125 := Lib.hid (H12.out.ext hE5)
        have HB5 := Lib.hid (HBj.out.ext hE5)
        have hz5 := hE5.size
        have c12 := H125.out.cell
        clear q1 q2 q3 hE5 hO5
        go_wp2_with fail
        refine (HFA.out _).mono ?_
        rintro r w6 ⟨rfl, hE6⟩
        have hO6 := ownsRow_of_block HO5.out (fun g hg => hE6.block g (HO5.out.lt g hg).2)
        have HO6 := Lib.hid hO6
        have hz6 := hE6.size
        have HE6 := Lib.hid (HE5.out.trans hE6)
        have H126 := Lib.hid (H125.out.ext hE6)
        have HB6 := Lib.hid (HB5.out.ext hE6)
        clear c12 hE6 hO6
        go_wp2_with (at_builtin; refine wpList_append_own_at _ rfl _ _ 50 rfl (gB + 1) 59 i0 _ 3 24 Tryz.underlying50 hi0 hi1 hi2 hi3 rfl (by decide) _ (L ++ foreP e set d0 1).length (eclCells (L ++ foreP e set d0 1)) rfl (HO6.out.alloc (.cells #[.int .i64 d0, .bool true, .int .i64 f0] 59)) ⟨w6.heap.size, 0, none⟩ 1 1 [.int .i64 d0, .bool true, .int .i64 f0] rfl rfl (World.news_of_block (cs := #[.int .i64 d0, .bool true, .int .i64 f0]) (t := 59) (fr := (0, 0)) (heap_alloc_new _ _)) (by simp [Value.oneCell']) (by simp only [maxLen]; omega) (by omega) (by simp; omega) ?_; intro v' w7 hown7 hgrow _ hob; have HO7 := Lib.hid hown7; have HG7 := Lib.hid hgrow; have HOB := Lib.hid hob; clear hown7 hgrow hob)
        refine ⟨⟨2, by omega, by go_num, ?_, ?_, ?_, ?_, ?_, ?_⟩, by simp [intOf]⟩
        ·rw [HP1.out, HKE.out, ← List.append_assoc]
         simpa [eclCells_append, eclCells, Nat.add_assoc] using HO7.out
        ·intro h
         rcases HOB.out with h' | h'
         ·exact HNEj.out (h' ▸ h)
         ·rw [h'] at h
          have := Option.some.inj h
          simp at this
          omega
        ·exact (H126.out.alloc _).grown_far HG7.out (fun h => HNEj.out h.symm)
        ·have := HG7.out.size
         simp at this
         omega
        ·exact (HE6.out.alloc _).grown HG7.out (fun g hg => by have := (HOj.out.lt g hg).1; have := HGB.out; omega)
        ·exact (HB6.out.alloc _).grown_far HG7.out (fun h => by have := (HOj.out.lt gB h.symm).1; omega)
       ·have HKE : Hid (foreK e set d0 true = []) := Lib.hid (by rw [HFB.out, HFB2.out, hcr, hlim, decide_eq_false hle2]; rfl)
        clear hcr hlim
        repeat (go_big_quiet_step (fail))
        go_big_quiet_step ((go_at_call 33; exact Later.call (HC2.out _)))
        repeat (go_big_quiet_step (fail))
        go_big_quiet_step ((go_at_call 31; exact Later.call (HFA.out _)))
        repeat (go_big_quiet_step (fail))
        go_big_quiet_step ((go_at_call 78; exact Later.call (HL2.out _)))
        repeat (go_big_quiet_step (fail))
        refine wpQuiet_nil ?_
        rintro ⟨w5, hE5⟩
        dsimp only
        have hz5 := hE5.size
        clear q1 q2 q3
        go_wp2_with fail
        refine ⟨⟨2, by omega, by go_num, by rw [HP1.out, HKE.out, List.append_nil]; exact ownsRow_of_block HOj.out (fun g hg => hE5.block g (HOj.out.lt g hg).2), HNEj.out, H12.out.ext hE5, by omega, HEj.out.trans hE5, HBj.out.ext hE5⟩, by simp [intOf]⟩
    ·obtain rfl : j = 2 := by omega
     have hwz := H12.out.free
     have hbf := HBj.out.free
     go_wp2_with fail
     refine ⟨⟨k + 1, by omega, by have := HD0.out; go_num, by rw [HN.out, ← foreP_two]; exact ownsRow_of_block HOj.out (fun g hg => by rw [Below.heap_setCell _ _ _ _ (by have := (HOj.out.lt g hg).1; simp; omega), Below.heap_setCell _ _ _ _ (by have := (HOj.out.lt g hg).1; simp; omega), Below.heap_setCell _ _ _ _ (by have := (HOj.out.lt g hg).1; simp; omega)]), HBn.out _ (((HBj.out.set_ 0 (.int .i64 b1)).set_ 1 (.int .i64 b2)).set_ 2 (.int .i64 b3)), by simp; omega, ((HEj.out.setCell (p := ⟨gB, 0, none⟩) (by have := HGB.out; simp; omega) _).setCell (p := ⟨gB, 1, none⟩) (by have := HGB.out; simp; omega) _).setCell (p := ⟨gB, 2, none⟩) (by have := HGB.out; simp; omega) _⟩, by have := HD0.out; simp [intOf]; omega⟩
  ·obtain rfl : k = N := by omega
   clear b0
   go_wp2_with fail
   obtain ⟨A, c, hv, k1, k2⟩ := own_cap HO.out
   subst hv
   go_ret
   exact ⟨A, c, rfl, k1, k2, EclVal.of_own HO.out, HE.out⟩
theorem r7_Foretells_any (p : EP) (e : Ec.Engine) (set : List Int) (lo hi : Int) (w : World) (hm : EngSet w p e set) (c0 : Ec.engineOk e = true) (c1 : Ec.setOk e.feasts set = true) (h1 : 1 ≤ lo) (h2 : lo ≤ hi) (h3 : hi ≤ 9030) :
  Calls Tryz.prog 28 #[.agg #[.slice p.Ab e.sky.bodies.length p.cb, .int .i64 e.sky.nnum, .int .i64 e.sky.nden, .int .i64 e.sky.nstart, .slice p.As e.sun.length p.cs, .slice p.Am e.moon.length p.cm, .slice p.An e.node.length p.cn, .slice p.Af e.feasts.length p.cf, .int .i64 e.nw, .int .i64 e.fl, .int .i64 e.wide], .slice p.At set.length p.ct, .int .i64 lo, .int .i64 hi] w fun r w' => ∃ v, r = .returned v ∧ EclVal w' v (Ec.foreL e set lo hi) ∧ Ext w w' :=
 (r7_Foretells_cap p e set lo hi w hm c0 c1 h1 h2 h3).mono fun _ _ ⟨A, c, h, _, _, hv, hE⟩ => ⟨_, h, hv, hE⟩
end Go.Proofs.YtcbodpnmndbgnaaGreatDoor
namespace Go.Proofs.YtcbodpnmndbgnaaGreatDoor
open Go.RowKit
open Sp (rd)
set_option maxRecDepth 100000
set_option maxHeartbeats 2000000
set_option linter.unusedVariables false
theorem r7_Sky_any (p : EP) (e : Ec.Engine) (lo hi : Int) (w : World) (hm : EngAt w p e) (c0 : Ec.engineOk e = true) (h1 : 1 ≤ lo) (h2 : lo ≤ hi) (h3 : hi ≤ 9030) :
  Calls Tryz.prog 84 #[.agg #[.slice p.Ab e.sky.bodies.length p.cb, .int .i64 e.sky.nnum, .int .i64 e.sky.nden, .int .i64 e.sky.nstart, .slice p.As e.sun.length p.cs, .slice p.Am e.moon.length p.cm, .slice p.An e.node.length p.cn, .slice p.Af e.feasts.length p.cf, .int .i64 e.nw, .int .i64 e.fl, .int .i64 e.wide], .int .i64 lo, .int .i64 hi] w fun r w' => ∃ v, r = .returned v ∧ EclVal w' v (Ec.realL e lo hi) ∧ Ext w w' := by
 have HS := skyOk_iff.1 (engineOk_parts c0).2.1.1
 have HLM := (engineOk_parts c0).2.2.2
 have b0 := (Row.new w 32 #[.slice p.Ab e.sky.bodies.length p.cb, .int .i64 e.sky.nnum, .int .i64 e.sky.nden, .int .i64 e.sky.nstart, .slice p.As e.sun.length p.cs, .slice p.Am e.moon.length p.cm, .slice p.An e.node.length p.cn, .slice p.Af e.feasts.length p.cf, .int .i64 e.nw, .int .i64 e.fl, .int .i64 e.wide]).cell
 have hE := (Ext.refl w).alloc (.cells #[.slice p.Ab e.sky.bodies.length p.cb, .int .i64 e.sky.nnum, .int .i64 e.sky.nden, .int .i64 e.sky.nstart, .slice p.As e.sun.length p.cs, .slice p.Am e.moon.length p.cm, .slice p.An e.node.length p.cn, .slice p.Af e.feasts.length p.cf, .int .i64 e.nw, .int .i64 e.fl, .int .i64 e.wide] 32)
 have HB := hm.bodies.ext hE
 go_enter Tryz.func84, Tryz.ntmps84
 go_wp2_with fail
 refine (r_Eclipses_any e.sky p.Ab p.cb e.nw e.fl lo hi _ HS HB HLM.1 HLM.2.1 h1 h2 (by omega)).mono ?_
 rintro r w1 ⟨v, rfl, hv, hE1⟩
 clear b0
 go_wp2_with fail
 go_ret
 exact ⟨_, rfl, hv, hE.trans hE1⟩
def bsP (x : Sp.Ecl) (late : Int) (y : Sp.Ecl) : Bool := (y.full == x.full) && (decide (x.day - late ≤ y.day) && decide (y.day ≤ x.day + late))
theorem bsP_eq (x y : Sp.Ecl) (late : Int) : bsP x late y = ((y.full == x.full) && decide (max (y.day - x.day) (x.day - y.day) ≤ late)) := by
 unfold bsP
 congr 1
 rw [← Bool.decide_and]
 congr 1
 exact propext ⟨fun h => by omega, fun h => by omega⟩
theorem any_take {α : Type} {P : α → Bool} {l : List α} {k : Nat} (hk : k < l.length) (h : (l.take k).any P = false) (hn : P l[k] = false) : (l.take (k + 1)).any P = false := by
 rw [List.take_succ_eq_append_getElem hk, List.any_append, h]
 simp [hn]
theorem any_at {α : Type} {P : α → Bool} {l : List α} {k : Nat} (hk : k < l.length) (hn : P l[k] = true) : l.any P = true := List.any_eq_true.2 ⟨_, List.getElem_mem hk, hn⟩
def DaysIn (l : List Sp.Ecl) : Prop := ∀ y ∈ l, 0 ≤ y.day ∧ y.day ≤ 20000
theorem r7_Beside_any (v : Value) (l : List Sp.Ecl) (x : Sp.Ecl) (late : Int) (w : World) (hv : EclVal w v l) (hl : l.length ≤ 100000) (hd : DaysIn l) (hx : 0 ≤ x.day ∧ x.day ≤ 20000) :
  Calls Tryz.prog 99 #[v, .agg #[.int .i64 x.day, .bool x.full, .int .i64 x.far], .int .i64 late] w fun e w' => e = .returned (.bool (Ec.beside l x late)) ∧ Ext w w' := by
 obtain ⟨A1, c1, rfl, q1⟩ := hv
 rw [show Ec.beside l x late = l.any (bsP x late) from rfl]
 have HQ1 := Lib.hid q1
 have HR0 := Lib.hid (Row.new w 59 #[.int .i64 x.day, .bool x.full, .int .i64 x.far])
 have HE0 := Lib.hid ((Ext.refl w).alloc (.cells #[.int .i64 x.day, .bool x.full, .int .i64 x.far] 59))
 have HD := Lib.hid hd
 clear q1 hd
 go_enter Tryz.func99, Tryz.ntmps99
 go_wp2_with fail
 obtain ⟨W0, hW0⟩ : ∃ W0, w.alloc (.cells #[.int .i64 x.day, .bool x.full, .int .i64 x.far] 59) = W0 := ⟨_, rfl⟩
 rw [hW0] at HR0 HE0 ⊢
 clear hW0
 go_loopw [7] (fun i wr => ∃ k : Nat, k ≤ l.length ∧ i = .int .i64 k ∧ (l.take k).any (bsP x late) = false ∧ Ext W0 wr) (fun i _ => l.length - (intOf i).toNat)
 case atStart => exact ⟨0, Nat.zero_le _, rfl, by simp, Ext.refl _⟩
 case round =>
  obtain ⟨k, hk, rfl, htk, hE⟩ := hrel
  have b0 := (HR0.out.ext hE).cell
  by_cases hlt : k < l.length
  ·obtain ⟨b1, o1, rfl, p1⟩ := HQ1.out (by omega)
   have a0 := hE.cell (HE0.out.cell (p1 k hlt).1)
   have a1 := hE.cell (HE0.out.cell (p1 k hlt).2.1)
   have HNX := Lib.hid (fun he => any_take hlt htk he)
   have HIN := Lib.hid (fun he => any_at (P := bsP x late) hlt he)
   have hdm := HD.out l[k] (List.getElem_mem hlt)
   have HPE := Lib.hid (bsP_eq x l[k] late)
   have HE := Lib.hid (HE0.out.trans hE)
   have HE1 := Lib.hid hE
   clear p1 htk hE
   generalize l[k] = m at *
   obtain ⟨md, mf, mr⟩ := m
   obtain ⟨xd, xf, xr⟩ := x
   dsimp only at a0 a1 hdm hx b0 HPE
   cases hfe : (mf == xf)
   ·have HX := Lib.hid (HNX.out (by rw [HPE.out, hfe]; rfl))
    clear HNX HIN HPE
    go_wp2_with fail
    go_quiet (fail)
    go_wp2_with fail
    refine ⟨⟨k + 1, by omega, by go_num, HX.out, HE1.out.drewN _⟩, by simp [intOf]; omega⟩
   ·by_cases hin : max (md - xd) (xd - md) ≤ late
    ·have hdec : decide (max (md - xd) (xd - md) ≤ late) = true := decide_eq_true hin
     have HX := Lib.hid (HIN.out (by rw [HPE.out, hfe, hdec]; rfl))
     clear HNX HIN HPE
     go_wp2_with fail
     go_quiet (fail)
     go_wp2_with fail
     go_ret
     exact ⟨ret_bool (by rw [HX.out]), HE.out.drewN _⟩
    ·have hdec : decide (max (md - xd) (xd - md) ≤ late) = false := decide_eq_false hin
     have HX := Lib.hid (HNX.out (by rw [HPE.out, hfe, hdec]; rfl))
     clear HNX HIN HPE
     go_wp2_with fail
     go_quiet (fail)
     go_wp2_with fail
     refine ⟨⟨k + 1, by omega, by go_num, HX.out, HE1.out.drewN _⟩, by simp [intOf]; omega⟩
  ·obtain rfl : k = l.length := by omega
   rw [List.take_length] at htk
   have HE := Lib.hid (HE0.out.trans hE)
   have HX := Lib.hid htk
   clear hE htk
   go_wp2_with fail
   go_ret
   exact ⟨ret_bool (by rw [HX.out]), HE.out⟩
theorem without_take {l other : List Sp.Ecl} {late : Int} {k : Nat} (hk : k < l.length) : Ec.without (l.take (k + 1)) other late = Ec.without (l.take k) other late ++ (if Ec.beside other l[k] late then [] else [l[k]]) := by
 unfold Ec.without
 rw [List.take_succ_eq_append_getElem hk, List.filter_append]
 congr 1
 cases h : Ec.beside other l[k] late <;> simp [h]
theorem r7_without_any (v1 v2 : Value) (l other : List Sp.Ecl) (late : Int) (w : World) (hv : EclVal w v1 l) (hv2 : EclVal w v2 other) (hl : l.length ≤ 100000) (hl2 : other.length ≤ 100000) (hd : DaysIn l) (hd2 : DaysIn other) :
  Calls Tryz.prog 85 #[v1, v2, .int .i64 late] w fun e w' => ∃ v, e = .returned v ∧ EclVal w' v (Ec.without l other late) ∧ Ext w w' := by
 obtain ⟨A1, c1, rfl, q1⟩ := hv
 have HQ1 := Lib.hid q1
 have HV2 := Lib.hid hv2
 have HD := Lib.hid hd
 have HD2 := Lib.hid hd2
 obtain ⟨i0, hi0, hi1, hi2, hi3⟩ := info_parts info_ecl
 clear q1 hd hv2 hd2
 go_enter Tryz.func85, Tryz.ntmps85
 go_wp2_with fail
 go_loopw [7, 8] (fun v i wr => ∃ k : Nat, k ≤ l.length ∧ i = .int .i64 k ∧ wr.ownsRow w.heap.size 59 3 v (Ec.without (l.take k) other late).length (eclCells (Ec.without (l.take k) other late)) ∧ Ext w wr) (fun _ i _ => l.length - (intOf i).toNat)
 case atStart => exact ⟨0, Nat.zero_le _, rfl, by simp [Ec.without, eclCells, World.ownsRow], Ext.refl _⟩
 case round =>
  obtain ⟨k, hk, rfl, hown, hE⟩ := hrel
  have HO := Lib.hid hown
  have HE := Lib.hid hE
  have hz := hE.size
  by_cases hlt : k < l.length
  ·obtain ⟨b1, o1, rfl, p1⟩ := HQ1.out (by omega)
   have a0 := hE.cell (p1 k hlt).1
   have a1 := hE.cell (p1 k hlt).2.1
   have a2 := hE.cell (p1 k hlt).2.2
   have HN := Lib.hid (without_take (other := other) (late := late) hlt)
   have hdm := HD.out l[k] (List.getElem_mem hlt)
   have hlw : (Ec.without (l.take k) other late).length ≤ 100000 := Nat.le_trans (List.length_filter_le ..) (by rw [List.length_take]; omega)
   have HBS := Lib.hid (r7_Beside_any v2 other l[k] late wr (HV2.out.ext hE) hl2 HD2.out hdm)
   clear p1 hown hE
   obtain ⟨L, hL⟩ : ∃ L, Ec.without (l.take k) other late = L := ⟨_, rfl⟩
   rw [hL] at HO HN hlw
   clear hL
   generalize l[k] = m at *
   obtain ⟨md, mf, mr⟩ := m
   dsimp only at a0 a1 a2 hdm HBS
   have a0' := a0
   have a1' := a1
   have a2' := a2
   cases hbs : Ec.beside other ⟨md, mf, mr⟩ late
   ·rw [hbs] at HBS HN
    go_wp2_with fail
    refine HBS.out.mono ?_
    rintro e w2 ⟨rfl, hE2⟩
    have hO2 := ownsRow_of_block HO.out (fun g hg => hE2.block g (HO.out.lt g hg).2)
    have HO2 := Lib.hid hO2
    have y0 := hE2.cell a0'
    have y1 := hE2.cell a1'
    have y2 := hE2.cell a2'
    have HE2 := Lib.hid (HE.out.trans hE2)
    have hz2 := hE2.size
    clear a0 a1 a2 a0' a1' a2' hE2 hO2
    go_wp2_with (at_builtin; refine wpList_append_own_at _ rfl _ _ 50 rfl w.heap.size 59 i0 _ 3 24 Tryz.underlying50 hi0 hi1 hi2 hi3 rfl (by decide) _ L.length (eclCells L) rfl (HO2.out.alloc (.cells #[.int .i64 md, .bool mf, .int .i64 mr] 59)) ⟨w2.heap.size, 0, none⟩ 1 1 [.int .i64 md, .bool mf, .int .i64 mr] rfl rfl (World.news_of_block (cs := #[.int .i64 md, .bool mf, .int .i64 mr]) (t := 59) (fr := (0, 0)) (heap_alloc_new _ _)) (by simp [Value.oneCell']) (by simp only [maxLen]; omega) (by omega) (by simp; omega) ?_; intro v' w7 hown7 hgrow _ _; have HO7 := Lib.hid hown7; have HG7 := Lib.hid hgrow; clear hown7 hgrow)
    refine ⟨⟨k + 1, by omega, by go_num, ?_, (HE2.out.alloc _).grown HG7.out (fun g hg => (HO2.out.lt g hg).1)⟩, by simp [intOf]; omega⟩
    rw [HN.out]
    simpa [eclCells_append, eclCells] using HO7.out
   ·rw [hbs] at HBS HN
    go_wp2_with fail
    refine HBS.out.mono ?_
    rintro e w2 ⟨rfl, hE2⟩
    have hO2 := ownsRow_of_block HO.out (fun g hg => hE2.block g (HO.out.lt g hg).2)
    have HO2 := Lib.hid hO2
    have HE2 := Lib.hid (HE.out.trans hE2)
    clear a0 a1 a2 a0' a1' a2' hE2 hO2
    go_wp2_with fail
    refine ⟨⟨k + 1, by omega, by go_num, ?_, HE2.out⟩, by simp [intOf]; omega⟩
    rw [HN.out]
    simpa using HO2.out
  ·obtain rfl : k = l.length := by omega
   rw [List.take_length] at HO
   clear hown hE
   go_wp2_with fail
   go_ret
   exact ⟨_, rfl, EclVal.of_own HO.out, HE.out⟩
end Go.Proofs.YtcbodpnmndbgnaaGreatDoor
namespace Go.Proofs.YtcbodpnmndbgnaaGreatDoor
open Go.RowKit
open Sp (rd)
theorem widened_ok {e : Ec.Engine} {n : Int} (h : Ec.engineOk e = true) (h1 : 0 ≤ n) (h2 : n ≤ 5400) : Ec.engineOk (Ec.widened e n) = true := by
 have hn : Sp.isLimit n = true := inR_iff.2 ⟨h1, h2⟩
 simp only [Ec.engineOk, Bool.and_eq_true] at h ⊢
 exact ⟨h.1, h.2.1, h.2.2.1, h.2.2.2.1, h.2.2.2.2.1, hn⟩
theorem widened_set {w : World} {p : EP} {e : Ec.Engine} {set : List Int} (n : Int) (h : EngSet w p e set) : EngSet w p (Ec.widened e n) set := ⟨⟨h.eng.bodies, h.eng.sun, h.eng.moon, h.eng.node, h.eng.feasts⟩, h.set⟩
end Go.Proofs.YtcbodpnmndbgnaaGreatDoor
namespace Go.Proofs.YtcbodpnmndbgnaaGreatDoor
open Go.RowKit
open Sp (rd)
set_option maxRecDepth 100000
set_option maxHeartbeats 2000000
set_option linter.unusedVariables false
theorem real_days (e : Ec.Engine) {lo hi : Int} (h1 : 0 ≤ lo) (h3 : hi ≤ 20000) : DaysIn (Ec.realL e lo hi) := fun y hy => by
 obtain ⟨a, b, _⟩ := (Ec.ecls_mem ..).1 hy
 omega
theorem fore_days (e : Ec.Engine) (set : List Int) {lo hi : Int} (h1 : 0 ≤ lo) (h3 : hi ≤ 20000) : DaysIn (Ec.foreL e set lo hi) := fun y hy => by
 obtain ⟨a, b, _⟩ := (Ec.foreL_mem ..).1 hy
 omega
theorem fore_few (e : Ec.Engine) (set : List Int) {lo hi : Int} (h1 : 1 ≤ lo) (h3 : hi ≤ 20000) : (Ec.foreL e set lo hi).length ≤ 100000 := by
 have := foreN_len e set lo (hi + 1 - lo).toNat
 show (Ec.foreN e set lo (hi + 1 - lo).toNat).length ≤ 100000
 omega
theorem real_few (e : Ec.Engine) {lo hi : Int} (h1 : 1 ≤ lo) (h3 : hi ≤ 20000) : (Ec.realL e lo hi).length ≤ 100000 := by
 have h := ecls_le e.sky e.nw e.fl (Sp.moonsL e.sky lo hi)
 have h2 := moonsN_le e.sky lo (hi + 1 - lo).toNat
 rw [show Sp.moonsN e.sky lo (hi + 1 - lo).toNat = Sp.moonsL e.sky lo hi from rfl] at h2
 show (Sp.eclsOf e.sky e.nw e.fl (Sp.moonsL e.sky lo hi)).length ≤ 100000
 omega
def rmissΦ (p : EP) (e : Ec.Engine) (set : List Int) (lo hi late : Int) (bE : Nat) (w0 : World) (i : Nat) (v : Value) (w : World) : Prop :=
 match i with
 | 0 => v = .agg #[.slice p.Ab e.sky.bodies.length p.cb, .int .i64 e.sky.nnum, .int .i64 e.sky.nden, .int .i64 e.sky.nstart, .slice p.As e.sun.length p.cs, .slice p.Am e.moon.length p.cm, .slice p.An e.node.length p.cn, .slice p.Af e.feasts.length p.cf, .int .i64 e.nw, .int .i64 e.fl, .int .i64 e.wide]
 | 1 => v = .int .i64 lo
 | 2 => v = .int .i64 hi
 | 3 => EclVal w v (Ec.realL e lo hi)
 | 4 => v = .agg #[.slice p.Ab e.sky.bodies.length p.cb, .int .i64 e.sky.nnum, .int .i64 e.sky.nden, .int .i64 e.sky.nstart, .slice p.As e.sun.length p.cs, .slice p.Am e.moon.length p.cm, .slice p.An e.node.length p.cn, .slice p.Af e.feasts.length p.cf, .int .i64 e.nw, .int .i64 e.fl, .int .i64 e.wide]
 | 5 => v = .slice p.At set.length p.ct
 | 6 => v = .int .i64 lo
 | 7 => v = .int .i64 late
 | 8 => v = .int .i64 (lo - late)
 | 9 => v = .int .i64 (max 1 (lo - late))
 | 10 => v = .int .i64 hi
 | 11 => v = .int .i64 late
 | 12 => v = .int .i64 (hi + late)
 | 13 => EclVal w v (Ec.foreL e set (max 1 (lo - late)) (hi + late))
 | 14 => v = .int .i64 late
 | 15 => EclVal w v (Ec.without (Ec.realL e lo hi) (Ec.foreL e set (max 1 (lo - late)) (hi + late)) late)
 | _ => EclVal w v (Ec.without (Ec.realL e lo hi) (Ec.foreL e set (max 1 (lo - late)) (hi + late)) late)
theorem rmissΦ_mono {p : EP} {e : Ec.Engine} {set : List Int} {lo hi late : Int} {bE : Nat} {w0 : World} (i : Nat) (v : Value) (w w' : World) (h : rmissΦ p e set lo hi late bE w0 i v w) (he : Ext w w') : rmissΦ p e set lo hi late bE w0 i v w' := by
 unfold rmissΦ at h ⊢
 split at h <;> first
  | exact h
  | exact EclVal.ext h he
  | exact MkAt.ext h he
  | exact fun hg => MkAt.ext (h hg) he
theorem r7_Missed_any (p : EP) (e : Ec.Engine) (set : List Int) (lo hi late : Int) (w : World) (hm : EngSet w p e set) (c0 : Ec.engineOk e = true) (c1 : Ec.setOk e.feasts set = true) (h1 : 1 ≤ lo) (h2 : lo ≤ hi) (h3 : hi ≤ 9000) (h4 : 0 ≤ late) (h5 : late ≤ 30) :
  Calls Tryz.prog 52 #[.agg #[.slice p.Ab e.sky.bodies.length p.cb, .int .i64 e.sky.nnum, .int .i64 e.sky.nden, .int .i64 e.sky.nstart, .slice p.As e.sun.length p.cs, .slice p.Am e.moon.length p.cm, .slice p.An e.node.length p.cn, .slice p.Af e.feasts.length p.cf, .int .i64 e.nw, .int .i64 e.fl, .int .i64 e.wide], .slice p.At set.length p.ct, .int .i64 lo, .int .i64 hi, .int .i64 late] w fun r w' => ∃ v, r = .returned v ∧ EclVal w' v (Ec.missedL e set lo hi late) ∧ Ext w w' := by
 have HM0 := Lib.hid hm
 have HSKY := Lib.hid (fun W (h : EngAt W p e) => r7_Sky_any p e lo hi W h c0 h1 h2 (by omega))
 have HFOR := Lib.hid (fun W (h : EngSet W p e set) => r7_Foretells_any p e set (max 1 (lo - late)) (hi + late) W h c0 c1 (by omega) (by omega) (by omega))
 have HWI := Lib.hid (fun v1 v2 W a b => r7_without_any v1 v2 (Ec.realL e lo hi) (Ec.foreL e set (max 1 (lo - late)) (hi + late)) late W a b (real_few e h1 (by omega)) (fore_few e set (by omega) (by omega)) (real_days e (by omega) (by omega)) (fore_days e set (by omega) (by omega)))
 have HB : Hid ((1 ≤ lo ∧ lo ≤ 9000) ∧ (1 ≤ hi ∧ hi ≤ 9000) ∧ (0 ≤ late ∧ late ≤ 30)) := Lib.hid ⟨⟨h1, by omega⟩, ⟨by omega, h3⟩, h4, h5⟩
 have HMR := Lib.hid (Ec.missed_ref e set lo hi late)
 clear hm c0 c1
 go_enter Tryz.func52, Tryz.ntmps52
 go_wp2_with fail
 have HR0 := Lib.hid (Row.new w 32 #[.slice p.Ab e.sky.bodies.length p.cb, .int .i64 e.sky.nnum, .int .i64 e.sky.nden, .int .i64 e.sky.nstart, .slice p.As e.sun.length p.cs, .slice p.Am e.moon.length p.cm, .slice p.An e.node.length p.cn, .slice p.Af e.feasts.length p.cf, .int .i64 e.nw, .int .i64 e.fl, .int .i64 e.wide])
 have HE0 : Hid (Ext w (w.alloc (.cells #[.slice p.Ab e.sky.bodies.length p.cb, .int .i64 e.sky.nnum, .int .i64 e.sky.nden, .int .i64 e.sky.nstart, .slice p.As e.sun.length p.cs, .slice p.Am e.moon.length p.cm, .slice p.An e.node.length p.cn, .slice p.Af e.feasts.length p.cf, .int .i64 e.nw, .int .i64 e.fl, .int .i64 e.wide] 32))) := Lib.hid ((Ext.refl w).alloc _)
 obtain ⟨wS, hwS⟩ : ∃ W, w.alloc (.cells #[.slice p.Ab e.sky.bodies.length p.cb, .int .i64 e.sky.nnum, .int .i64 e.sky.nden, .int .i64 e.sky.nstart, .slice p.As e.sun.length p.cs, .slice p.Am e.moon.length p.cm, .slice p.An e.node.length p.cn, .slice p.Af e.feasts.length p.cf, .int .i64 e.nw, .int .i64 e.fl, .int .i64 e.wide] 32) = W := ⟨_, rfl⟩
 rw [hwS] at HR0 HE0 ⊢
 obtain ⟨bE, hbE⟩ : ∃ b, w.heap.size = b := ⟨_, rfl⟩
 rw [hbE] at HR0 ⊢
 have HR := HR0
 have HM := Lib.hid (HM0.out.ext HE0.out)
 clear hwS hbE HR0
 refine wp_region_free_tail 17 17 (rmissΦ p e set lo hi late bE wS) (by kernel_rfl) (by simp) (by kernel_rfl) (by kernel_rfl) (by kernel_rfl) (by kernel_rfl) rmissΦ_mono ?hob ?hQ (fun h => absurd h (by omega))
 case hob =>
  intro i o hin ho a wa hE hF
  match i, hin with
  | 0, _ =>
   cases ho
   have h0 : a.tmps[5]?.getD undef = .pointer (some ⟨bE, 0, none⟩) := evalD (hF.old 5 (by decide))
   have q := (Row.ext (HR.out) hE).cell
   refine Ran.value rfl (v := .agg #[.slice p.Ab e.sky.bodies.length p.cb, .int .i64 e.sky.nnum, .int .i64 e.sky.nden, .int .i64 e.sky.nstart, .slice p.As e.sun.length p.cs, .slice p.Am e.moon.length p.cm, .slice p.An e.node.length p.cn, .slice p.Af e.feasts.length p.cf, .int .i64 e.nw, .int .i64 e.fl, .int .i64 e.wide]) (w1 := wa) ?_ ⟨rfl, Ext.refl _⟩
   go_simp
  | 1, _ =>
   cases ho
   have h0 : a.tmps[2]?.getD undef = .int .i64 lo := evalD (hF.old 2 (by decide))
   refine Ran.value rfl (v := .int .i64 lo) (w1 := wa) ?_ ⟨rfl, Ext.refl _⟩
   go_simp
  | 2, _ =>
   cases ho
   have h0 : a.tmps[3]?.getD undef = .int .i64 hi := evalD (hF.old 3 (by decide))
   refine Ran.value rfl (v := .int .i64 hi) (w1 := wa) ?_ ⟨rfl, Ext.refl _⟩
   go_simp
  | 3, _ =>
   cases ho
   have h0 : a.tmps[11]?.getD undef = .agg #[.slice p.Ab e.sky.bodies.length p.cb, .int .i64 e.sky.nnum, .int .i64 e.sky.nden, .int .i64 e.sky.nstart, .slice p.As e.sun.length p.cs, .slice p.Am e.moon.length p.cm, .slice p.An e.node.length p.cn, .slice p.Af e.feasts.length p.cf, .int .i64 e.nw, .int .i64 e.fl, .int .i64 e.wide] := evalD ((hF.from_ 0 11 rfl (by decide)))
   have h1 : a.tmps[12]?.getD undef = .int .i64 lo := evalD ((hF.from_ 1 12 rfl (by decide)))
   have h2 : a.tmps[13]?.getD undef = .int .i64 hi := evalD ((hF.from_ 2 13 rfl (by decide)))
   refine Ran.enter rfl (f := 84) (args := #[.agg #[.slice p.Ab e.sky.bodies.length p.cb, .int .i64 e.sky.nnum, .int .i64 e.sky.nden, .int .i64 e.sky.nstart, .slice p.As e.sun.length p.cs, .slice p.Am e.moon.length p.cm, .slice p.An e.node.length p.cn, .slice p.Af e.feasts.length p.cf, .int .i64 e.nw, .int .i64 e.fl, .int .i64 e.wide], .int .i64 lo, .int .i64 hi]) (w1 := wa) ?_ ?_
   ·go_simp
   ·refine (HSKY.out wa (HM.out.ext hE).eng).mono ?_
    rintro r w1 ⟨v, rfl, hv, hX⟩
    exact ⟨_, rfl, hv, hX⟩
  | 4, _ =>
   cases ho
   have h0 : a.tmps[5]?.getD undef = .pointer (some ⟨bE, 0, none⟩) := evalD (hF.old 5 (by decide))
   have q := (Row.ext (HR.out) hE).cell
   refine Ran.value rfl (v := .agg #[.slice p.Ab e.sky.bodies.length p.cb, .int .i64 e.sky.nnum, .int .i64 e.sky.nden, .int .i64 e.sky.nstart, .slice p.As e.sun.length p.cs, .slice p.Am e.moon.length p.cm, .slice p.An e.node.length p.cn, .slice p.Af e.feasts.length p.cf, .int .i64 e.nw, .int .i64 e.fl, .int .i64 e.wide]) (w1 := wa) ?_ ⟨rfl, Ext.refl _⟩
   go_simp
  | 5, _ =>
   cases ho
   have h0 : a.tmps[1]?.getD undef = .slice p.At set.length p.ct := evalD (hF.old 1 (by decide))
   refine Ran.value rfl (v := .slice p.At set.length p.ct) (w1 := wa) ?_ ⟨rfl, Ext.refl _⟩
   go_simp
  | 6, _ =>
   cases ho
   have h0 : a.tmps[2]?.getD undef = .int .i64 lo := evalD (hF.old 2 (by decide))
   refine Ran.value rfl (v := .int .i64 lo) (w1 := wa) ?_ ⟨rfl, Ext.refl _⟩
   go_simp
  | 7, _ =>
   cases ho
   have h0 : a.tmps[4]?.getD undef = .int .i64 late := evalD (hF.old 4 (by decide))
   refine Ran.value rfl (v := .int .i64 late) (w1 := wa) ?_ ⟨rfl, Ext.refl _⟩
   go_simp
  | 8, _ =>
   cases ho
   have h0 : a.tmps[17]?.getD undef = .int .i64 lo := evalD ((hF.from_ 6 17 rfl (by decide)))
   have h1 : a.tmps[18]?.getD undef = .int .i64 late := evalD ((hF.from_ 7 18 rfl (by decide)))
   refine Ran.value rfl (v := .int .i64 (lo - late)) (w1 := wa) ?_ ⟨rfl, Ext.refl _⟩
   have hb := HB.out
   go_simp
   exact IntWalk.i64_in _ ⟨by omega, by omega⟩
  | 9, _ =>
   cases ho
   have h0 : a.tmps[19]?.getD undef = .int .i64 (lo - late) := evalD ((hF.from_ 8 19 rfl (by decide)))
   refine Ran.value rfl (v := .int .i64 (max 1 (lo - late))) (w1 := wa) ?_ ⟨rfl, Ext.refl _⟩
   go_simp
  | 10, _ =>
   cases ho
   have h0 : a.tmps[3]?.getD undef = .int .i64 hi := evalD (hF.old 3 (by decide))
   refine Ran.value rfl (v := .int .i64 hi) (w1 := wa) ?_ ⟨rfl, Ext.refl _⟩
   go_simp
  | 11, _ =>
   cases ho
   have h0 : a.tmps[4]?.getD undef = .int .i64 late := evalD (hF.old 4 (by decide))
   refine Ran.value rfl (v := .int .i64 late) (w1 := wa) ?_ ⟨rfl, Ext.refl _⟩
   go_simp
  | 12, _ =>
   cases ho
   have h0 : a.tmps[21]?.getD undef = .int .i64 hi := evalD ((hF.from_ 10 21 rfl (by decide)))
   have h1 : a.tmps[22]?.getD undef = .int .i64 late := evalD ((hF.from_ 11 22 rfl (by decide)))
   refine Ran.value rfl (v := .int .i64 (hi + late)) (w1 := wa) ?_ ⟨rfl, Ext.refl _⟩
   have hb := HB.out
   go_simp
   exact IntWalk.i64_in _ ⟨by omega, by omega⟩
  | 13, _ =>
   cases ho
   have h0 : a.tmps[15]?.getD undef = .agg #[.slice p.Ab e.sky.bodies.length p.cb, .int .i64 e.sky.nnum, .int .i64 e.sky.nden, .int .i64 e.sky.nstart, .slice p.As e.sun.length p.cs, .slice p.Am e.moon.length p.cm, .slice p.An e.node.length p.cn, .slice p.Af e.feasts.length p.cf, .int .i64 e.nw, .int .i64 e.fl, .int .i64 e.wide] := evalD ((hF.from_ 4 15 rfl (by decide)))
   have h1 : a.tmps[16]?.getD undef = .slice p.At set.length p.ct := evalD ((hF.from_ 5 16 rfl (by decide)))
   have h2 : a.tmps[20]?.getD undef = .int .i64 (max 1 (lo - late)) := evalD ((hF.from_ 9 20 rfl (by decide)))
   have h3 : a.tmps[23]?.getD undef = .int .i64 (hi + late) := evalD ((hF.from_ 12 23 rfl (by decide)))
   refine Ran.enter rfl (f := 28) (args := #[.agg #[.slice p.Ab e.sky.bodies.length p.cb, .int .i64 e.sky.nnum, .int .i64 e.sky.nden, .int .i64 e.sky.nstart, .slice p.As e.sun.length p.cs, .slice p.Am e.moon.length p.cm, .slice p.An e.node.length p.cn, .slice p.Af e.feasts.length p.cf, .int .i64 e.nw, .int .i64 e.fl, .int .i64 e.wide], .slice p.At set.length p.ct, .int .i64 (max 1 (lo - late)), .int .i64 (hi + late)]) (w1 := wa) ?_ ?_
   ·go_simp
   ·refine (HFOR.out wa (HM.out.ext hE)).mono ?_
    rintro r w1 ⟨v, rfl, hv, hX⟩
    exact ⟨_, rfl, hv, hX⟩
  | 14, _ =>
   cases ho
   have h0 : a.tmps[4]?.getD undef = .int .i64 late := evalD (hF.old 4 (by decide))
   refine Ran.value rfl (v := .int .i64 late) (w1 := wa) ?_ ⟨rfl, Ext.refl _⟩
   go_simp
  | 15, _ =>
   cases ho
   obtain ⟨v_h0, h0⟩ : ∃ v, a.eval (.tmp 14) = v := ⟨_, rfl⟩
   have E_h0 : EclVal wa (a.eval (.tmp 14)) (Ec.realL e lo hi) := hF.from_ 3 14 rfl (by decide)
   rw [h0] at E_h0
   replace h0 := evalD h0
   obtain ⟨v_h1, h1⟩ : ∃ v, a.eval (.tmp 24) = v := ⟨_, rfl⟩
   have E_h1 : EclVal wa (a.eval (.tmp 24)) (Ec.foreL e set (max 1 (lo - late)) (hi + late)) := hF.from_ 13 24 rfl (by decide)
   rw [h1] at E_h1
   replace h1 := evalD h1
   have h2 : a.tmps[25]?.getD undef = .int .i64 late := evalD ((hF.from_ 14 25 rfl (by decide)))
   refine Ran.enter rfl (f := 85) (args := #[v_h0, v_h1, .int .i64 late]) (w1 := wa) ?_ ?_
   ·go_simp
   ·refine (HWI.out _ _ wa E_h0 E_h1).mono ?_
    rintro r w1 ⟨v, rfl, hv, hX⟩
    exact ⟨_, rfl, hv, hX⟩
  | 16, _ =>
   cases ho
   obtain ⟨v_h0, h0⟩ : ∃ v, a.eval (.tmp 26) = v := ⟨_, rfl⟩
   have E_h0 : EclVal wa (a.eval (.tmp 26)) (Ec.without (Ec.realL e lo hi) (Ec.foreL e set (max 1 (lo - late)) (hi + late)) late) := hF.from_ 15 26 rfl (by decide)
   rw [h0] at E_h0
   replace h0 := evalD h0
   refine Ran.value rfl (v := v_h0) (w1 := wa) ?_ ⟨E_h0, Ext.refl _⟩
   go_simp
  | k + 17, hin => omega
 case hQ =>
  intro vs w2 hE hΦ
  have f0 : vs 0 = .agg #[.slice p.Ab e.sky.bodies.length p.cb, .int .i64 e.sky.nnum, .int .i64 e.sky.nden, .int .i64 e.sky.nstart, .slice p.As e.sun.length p.cs, .slice p.Am e.moon.length p.cm, .slice p.An e.node.length p.cn, .slice p.Af e.feasts.length p.cf, .int .i64 e.nw, .int .i64 e.fl, .int .i64 e.wide] := hΦ 0 (by omega)
  have f1 : vs 1 = .int .i64 lo := hΦ 1 (by omega)
  have f2 : vs 2 = .int .i64 hi := hΦ 2 (by omega)
  have e3 : EclVal w2 (vs 3) (Ec.realL e lo hi) := hΦ 3 (by omega)
  obtain ⟨u_3, f3⟩ : ∃ v, vs 3 = v := ⟨_, rfl⟩
  rw [f3] at e3
  have f4 : vs 4 = .agg #[.slice p.Ab e.sky.bodies.length p.cb, .int .i64 e.sky.nnum, .int .i64 e.sky.nden, .int .i64 e.sky.nstart, .slice p.As e.sun.length p.cs, .slice p.Am e.moon.length p.cm, .slice p.An e.node.length p.cn, .slice p.Af e.feasts.length p.cf, .int .i64 e.nw, .int .i64 e.fl, .int .i64 e.wide] := hΦ 4 (by omega)
  have f5 : vs 5 = .slice p.At set.length p.ct := hΦ 5 (by omega)
  have f6 : vs 6 = .int .i64 lo := hΦ 6 (by omega)
  have f7 : vs 7 = .int .i64 late := hΦ 7 (by omega)
  have f8 : vs 8 = .int .i64 (lo - late) := hΦ 8 (by omega)
  have f9 : vs 9 = .int .i64 (max 1 (lo - late)) := hΦ 9 (by omega)
  have f10 : vs 10 = .int .i64 hi := hΦ 10 (by omega)
  have f11 : vs 11 = .int .i64 late := hΦ 11 (by omega)
  have f12 : vs 12 = .int .i64 (hi + late) := hΦ 12 (by omega)
  have e13 : EclVal w2 (vs 13) (Ec.foreL e set (max 1 (lo - late)) (hi + late)) := hΦ 13 (by omega)
  obtain ⟨u_13, f13⟩ : ∃ v, vs 13 = v := ⟨_, rfl⟩
  rw [f13] at e13
  have f14 : vs 14 = .int .i64 late := hΦ 14 (by omega)
  have e15 : EclVal w2 (vs 15) (Ec.without (Ec.realL e lo hi) (Ec.foreL e set (max 1 (lo - late)) (hi + late)) late) := hΦ 15 (by omega)
  obtain ⟨u_15, f15⟩ : ∃ v, vs 15 = v := ⟨_, rfl⟩
  rw [f15] at e15
  have e16 : EclVal w2 (vs 16) (Ec.without (Ec.realL e lo hi) (Ec.foreL e set (max 1 (lo - late)) (hi + late)) late) := hΦ 16 (by omega)
  obtain ⟨u_16, f16⟩ : ∃ v, vs 16 = v := ⟨_, rfl⟩
  rw [f16] at e16
  have hrg : List.range 17 = [0, 1, 2, 3, 4, 5, 6, 7, 8, 9, 10, 11, 12, 13, 14, 15, 16] := rfl
  unfold putAll putS
  simp only [List.length_cons, List.length_nil, List.take_succ_cons, List.take_zero, List.drop_succ_cons, List.drop_zero, Nat.reduceAdd, hrg, List.foldl_cons, List.foldl_nil, dstOf, List.getElem?_cons_succ, List.getElem?_cons_zero, Option.bind_some]
  clear hrg
  rw [f0, f1, f2, f3, f4, f5, f6, f7, f8, f9, f10, f11, f12, f13, f14, f15, f16]
  simp only [Act.put, List.setIfInBounds_toArray, List.set_cons_succ, List.set_cons_zero]
  clear hΦ f0 f1 f2 f3 f4 f5 f6 f7 f8 f9 f10 f11 f12 f13 f14 f15 f16
  have HE := Lib.hid (HE0.out.trans hE)
  clear hE
  go_wp2_with fail
  go_ret
  exact ⟨_, rfl, by rw [HMR.out]; exact e16, HE.out⟩
end Go.Proofs.YtcbodpnmndbgnaaGreatDoor
namespace Go.Proofs.YtcbodpnmndbgnaaGreatDoor
open Sp (rd)
set_option linter.unusedSimpArgs false
set_option linter.unusedVariables false
namespace Ec
def lstep (x : Sp.Ecl) (late least : Int) (y : Sp.Ecl) : Int := if bsP x late y && (decide (least < 0) || decide (y.far < least)) then y.far else least
def leastDoc (M : List Sp.Ecl) (x : Sp.Ecl) (late : Int) : Int := M.foldl (lstep x late) (-1)
def wideDocN (e : Engine) (M : List Sp.Ecl) (late : Int) : List Sp.Ecl → Int → Int
 | [], w => w
 | x :: l, w => if leastDoc M x late < 0 then -1 else wideDocN e M late l (max w (leastDoc M x late - limitOf e x.full))
def moonsAll (e : Engine) (set : List Int) (lo hi late : Int) : List Sp.Ecl := foreL (widened e 5400) set (max 1 (lo - late)) (hi + late)
def widensDoc (e : Engine) (set : List Int) (lo hi late : Int) : Int := wideDocN e (moonsAll e set lo hi late) late (realL e lo hi) 0
theorem foldl_least (x : Sp.Ecl) (late : Int) : ∀ (M : List Sp.Ecl) (a : Int), (∀ y ∈ M, 0 ≤ y.far) →
  (a < 0 → (∀ y ∈ M, bsP x late y = false) → M.foldl (lstep x late) a = a) ∧
  ((0 ≤ a ∨ ∃ y ∈ M, bsP x late y = true) → 0 ≤ M.foldl (lstep x late) a ∧ ((0 ≤ a ∧ M.foldl (lstep x late) a = a) ∨ ∃ y ∈ M, bsP x late y = true ∧ M.foldl (lstep x late) a = y.far) ∧ (0 ≤ a → M.foldl (lstep x late) a ≤ a) ∧ ∀ y ∈ M, bsP x late y = true → M.foldl (lstep x late) a ≤ y.far) := by
 intro M
 induction M with
 | nil =>
  intro a _
  refine ⟨fun _ _ => rfl, fun h => ?_⟩
  rcases h with h | ⟨y, hy, _⟩
  ·exact ⟨h, .inl ⟨h, rfl⟩, fun _ => Int.le_refl _, fun y hy => by simp at hy⟩
  ·simp at hy
 | cons z M ih =>
  intro a hf
  have hfz := hf z (by simp)
  have hfM : ∀ y ∈ M, 0 ≤ y.far := fun y hy => hf y (by simp [hy])
  simp only [List.foldl_cons]
  constructor
  ·intro h1 h2
   have hz : lstep x late a z = a := by unfold lstep; rw [h2 z (by simp)]; rfl
   rw [hz]
   exact (ih a hfM).1 h1 fun y hy => h2 y (by simp [hy])
  ·intro h
   cases hb : bsP x late z with
   | false =>
    have hz : lstep x late a z = a := by unfold lstep; rw [hb]; rfl
    rw [hz]
    have h' : 0 ≤ a ∨ ∃ y ∈ M, bsP x late y = true := by
     rcases h with h | ⟨y, hy, hyb⟩
     ·exact .inl h
     ·rcases List.mem_cons.1 hy with rfl | hy
      ·rw [hb] at hyb; cases hyb
      ·exact .inr ⟨y, hy, hyb⟩
    obtain ⟨q1, q2, q3, q4⟩ := (ih a hfM).2 h'
    refine ⟨q1, ?_, q3, fun y hy hyb => ?_⟩
    ·rcases q2 with q2 | ⟨y, hy, q⟩
     ·exact .inl q2
     ·exact .inr ⟨y, by simp [hy], q⟩
    ·rcases List.mem_cons.1 hy with rfl | hy
     ·rw [hb] at hyb; cases hyb
     ·exact q4 y hy hyb
   | true =>
    by_cases hlt : a < 0 ∨ z.far < a
    ·have hz : lstep x late a z = z.far := by
      unfold lstep
      rw [hb, if_pos (by rcases hlt with h | h <;> simp [h])]
     rw [hz]
     obtain ⟨q1, q2, q3, q4⟩ := (ih z.far hfM).2 (.inl hfz)
     have q3' := q3 hfz
     refine ⟨q1, ?_, fun h0 => by omega, fun y hy hyb => ?_⟩
     ·rcases q2 with q2 | ⟨y, hy, q⟩
      ·exact .inr ⟨z, by simp, hb, q2.2⟩
      ·exact .inr ⟨y, by simp [hy], q⟩
     ·rcases List.mem_cons.1 hy with rfl | hy
      ·exact q3'
      ·exact q4 y hy hyb
    ·have hz : lstep x late a z = a := by
      unfold lstep
      rw [hb, if_neg (by simp; omega)]
     rw [hz]
     obtain ⟨q1, q2, q3, q4⟩ := (ih a hfM).2 (.inl (by omega))
     have q3' := q3 (by omega)
     refine ⟨q1, ?_, q3, fun y hy hyb => ?_⟩
     ·rcases q2 with q2 | ⟨y, hy, q⟩
      ·exact .inl q2
      ·exact .inr ⟨y, by simp [hy], q⟩
     ·rcases List.mem_cons.1 hy with rfl | hy
      ·omega
      ·exact q4 y hy hyb
theorem moonsAll_mem {e : Engine} (h1 : 0 ≤ e.nw) (h2 : 0 ≤ e.fl) (set : List Int) (lo hi late : Int) (y : Sp.Ecl) : y ∈ moonsAll e set lo hi late ↔ max 1 (lo - late) ≤ y.day ∧ y.day ≤ hi + late ∧ hasB e set y.day y.full = true ∧ y.far = farAt e set y.day := by
 unfold moonsAll
 rw [foreL_mem]
 have hf := far_bounds e set y.day
 have hl : 0 ≤ limitOf e y.full := by unfold limitOf; split <;> omega
 constructor
 ·rintro ⟨a, b, c, d⟩
  simp only [foreB, Bool.and_eq_true] at c
  exact ⟨a, b, c.1, d⟩
 ·rintro ⟨a, b, c, d⟩
  refine ⟨a, b, ?_, d⟩
  simp only [foreB, Bool.and_eq_true, decide_eq_true_eq]
  exact ⟨c, by show farAt e set y.day ≤ limitOf e y.full + 5400; omega⟩
theorem least_doc {e : Engine} (h1 : 0 ≤ e.nw) (h2 : 0 ≤ e.fl) (set : List Int) (lo hi late : Int) (x : Sp.Ecl) (a : lo ≤ x.day) (b : x.day ≤ hi) :
  (leastDoc (moonsAll e set lo hi late) x late < 0 ∧ leastOf e set late x = 10800) ∨ (0 ≤ leastDoc (moonsAll e set lo hi late) x late ∧ leastDoc (moonsAll e set lo hi late) x late ≤ 5400 ∧ leastOf e set late x = max 0 (leastDoc (moonsAll e set lo hi late) x late - limitOf e x.full)) := by
 have hl : 0 ≤ limitOf e x.full := by unfold limitOf; split <;> omega
 have hM := moonsAll_mem h1 h2 set lo hi late
 have hfar : ∀ y ∈ moonsAll e set lo hi late, 0 ≤ y.far ∧ y.far ≤ 5400 := fun y hy => by
  have := far_bounds e set y.day
  have := ((hM y).1 hy).2.2.2
  omega
 have hF := foldl_least x late (moonsAll e set lo hi late) (-1) fun y hy => (hfar y hy).1
 have hle : ∀ w : Int, 0 ≤ w → w < 10800 → (leastOf e set late x ≤ w ↔ ∃ y ∈ moonsAll e set lo hi late, bsP x late y = true ∧ y.far ≤ limitOf e x.full + w) := by
  intro w w0 w1
  unfold leastOf
  rw [leastN_le e set x.full _ _ w w0 w1]
  constructor
  ·rintro ⟨d, d1, d2, d3, d4⟩
   refine ⟨⟨d, x.full, farAt e set d⟩, (hM _).2 ⟨by simp only; omega, by simp only; omega, d3, rfl⟩, ?_, d4⟩
   unfold bsP
   simp only [beq_self_eq_true, Bool.true_and, Bool.and_eq_true, decide_eq_true_eq]
   omega
  ·rintro ⟨y, hy, hb, hf⟩
   obtain ⟨y1, y2, y3, y4⟩ := (hM y).1 hy
   unfold bsP at hb
   simp only [Bool.and_eq_true, beq_iff_eq, decide_eq_true_eq] at hb
   exact ⟨y.day, by omega, by omega, by rw [← hb.1]; exact y3, by rw [← y4]; exact hf⟩
 have hb2 := leastN_bounds e set x.full (max 1 (x.day - late)) (x.day + late + 1 - max 1 (x.day - late)).toNat
 have hb3 : 0 ≤ leastOf e set late x ∧ leastOf e set late x ≤ 10800 := hb2
 by_cases hex : ∃ y ∈ moonsAll e set lo hi late, bsP x late y = true
 ·right
  obtain ⟨q1, q2, q3, q4⟩ := hF.2 (.inr hex)
  have q2' : ∃ y ∈ moonsAll e set lo hi late, bsP x late y = true ∧ leastDoc (moonsAll e set lo hi late) x late = y.far := by
   rcases q2 with q2 | q2
   ·omega
   ·exact q2
  obtain ⟨y, hy, hyb, hyf⟩ := q2'
  have hyl := hfar y hy
  refine ⟨q1, by omega, ?_⟩
  have k1 := (hle (max 0 (leastDoc (moonsAll e set lo hi late) x late - limitOf e x.full)) (by omega) (by omega)).2 ⟨y, hy, hyb, by omega⟩
  rcases Int.lt_or_le (leastOf e set late x) (max 0 (leastDoc (moonsAll e set lo hi late) x late - limitOf e x.full)) with h | h
  ·obtain ⟨z, hz, hzb, hzf⟩ := (hle (leastOf e set late x) hb3.1 (by omega)).1 (Int.le_refl _)
   have hz2 : leastDoc (moonsAll e set lo hi late) x late ≤ z.far := q4 z hz hzb
   omega
  ·omega
 ·left
  have hno : ∀ y ∈ moonsAll e set lo hi late, bsP x late y = false := fun y hy => by
   cases h : bsP x late y
   ·rfl
   ·exact absurd ⟨y, hy, h⟩ hex
  have := hF.1 (by omega) hno
  refine ⟨by unfold leastDoc; omega, ?_⟩
  rcases Int.lt_or_le (leastOf e set late x) 10800 with h | h
  ·obtain ⟨z, hz, hzb, _⟩ := (hle (leastOf e set late x) hb3.1 h).1 (Int.le_refl _)
   exact absurd ⟨z, hz, hzb⟩ hex
  ·omega
theorem wideDocN_eq {e : Engine} (h1 : 0 ≤ e.nw) (h2 : 0 ≤ e.fl) (set : List Int) (lo hi late : Int) : ∀ (l : List Sp.Ecl) (w : Int), 0 ≤ w → w ≤ 5400 → (∀ x ∈ l, lo ≤ x.day ∧ x.day ≤ hi) →
  (wideN e set late l ≤ 5400 ∧ wideDocN e (moonsAll e set lo hi late) late l w = max w (wideN e set late l)) ∨ (5400 < wideN e set late l ∧ wideDocN e (moonsAll e set lo hi late) late l w = -1) := by
 intro l
 induction l with
 | nil => intro w h0 h3 _; exact .inl ⟨by simp [wideN], by simp [wideN, wideDocN]; omega⟩
 | cons x l ih =>
  intro w h0 h3 hx
  have hl : 0 ≤ limitOf e x.full := by unfold limitOf; split <;> omega
  have hb := wideN_bounds e set late l
  unfold wideN wideDocN
  rcases least_doc h1 h2 set lo hi late x (hx x (by simp)).1 (hx x (by simp)).2 with ⟨a, b⟩ | ⟨a, b, c⟩
  ·right
   rw [if_pos a]
   exact ⟨by omega, rfl⟩
  ·rw [if_neg (by omega)]
   rcases ih (max w (leastDoc (moonsAll e set lo hi late) x late - limitOf e x.full)) (by omega) (by omega) (fun y hy => hx y (by simp [hy])) with ⟨d1, d2⟩ | ⟨d1, d2⟩
   ·left
    rw [d2]
    exact ⟨by omega, by omega⟩
   ·right
    rw [d2]
    exact ⟨by omega, rfl⟩
theorem widens_doc {e : Engine} (h1 : 0 ≤ e.nw) (h2 : 0 ≤ e.fl) (set : List Int) (lo hi late : Int) : widensDoc e set lo hi late = if Sp.isLimit (widens e set lo hi late) = true then widens e set lo hi late else -1 := by
 have hb := wideN_bounds e set late (realL e lo hi)
 unfold widensDoc widens
 rcases wideDocN_eq h1 h2 set lo hi late (realL e lo hi) 0 (Int.le_refl _) (by omega) (fun x hx => by obtain ⟨a, b, _⟩ := (ecls_mem ..).1 hx; exact ⟨a, b⟩) with ⟨a, b⟩ | ⟨a, b⟩
 ·rw [b, if_pos (by simp only [Sp.isLimit, Sp.inR, Bool.and_eq_true, decide_eq_true_eq]; omega)]
  omega
 ·rw [b, if_neg (by simp only [Sp.isLimit, Sp.inR, Bool.and_eq_true, decide_eq_true_eq]; omega)]
end Ec
end Go.Proofs.YtcbodpnmndbgnaaGreatDoor
