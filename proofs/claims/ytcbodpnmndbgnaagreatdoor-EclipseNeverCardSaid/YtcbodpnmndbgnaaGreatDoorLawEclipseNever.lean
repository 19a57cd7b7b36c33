/- The walk of the law EclipseNever. (Printed by wip/mkelaws.py.) -/
import Derived.Carry
import Derived.Test.YtcbodpnmndbgnaaGreatDoorB13
import Derived.Test.YtcbodpnmndbgnaaGreatDoorB06
namespace Go.Proofs.YtcbodpnmndbgnaaGreatDoor
open Go.RowKit
open Sp (rd)
set_option linter.unusedSimpArgs false
set_option linter.unusedVariables false

set_option maxRecDepth 100000 in
set_option maxHeartbeats 8000000 in
theorem law_EclipseNever (p : EP) (e : Ec.Engine) (set : List Int) (lo hi late limit : Int) (w : World) (hV : Env w) (hm : EngSet w p e set) (hl : EngLong e) (hs : set.length ≤ 9223372036854775807) :
    Calls Tryz.prog 10 #[.agg #[.slice p.Ab e.sky.bodies.length p.cb, .int .i64 e.sky.nnum, .int .i64 e.sky.nden, .int .i64 e.sky.nstart, .slice p.As e.sun.length p.cs, .slice p.Am e.moon.length p.cm, .slice p.An e.node.length p.cn, .slice p.Af e.feasts.length p.cf, .int .i64 e.nw, .int .i64 e.fl, .int .i64 e.wide], .slice p.At set.length p.ct, .int .i64 lo, .int .i64 hi, .int .i64 late, .int .i64 limit] w fun r w' => r = .returned (.bool true) ∧ Ext w w' := by
  have HL := Lib.hid hl
  have HM := Lib.hid hm
  have HV := Lib.hid hV
  have HS0 := Lib.hid hs
  clear hm hl hV hs
  go_enter Tryz.func10, Tryz.ntmps10
  go_wp2_with fail
  have HR0 := Lib.hid (Row.new w 32 #[.slice p.Ab e.sky.bodies.length p.cb, .int .i64 e.sky.nnum, .int .i64 e.sky.nden, .int .i64 e.sky.nstart, .slice p.As e.sun.length p.cs, .slice p.Am e.moon.length p.cm, .slice p.An e.node.length p.cn, .slice p.Af e.feasts.length p.cf, .int .i64 e.nw, .int .i64 e.fl, .int .i64 e.wide])
  have HE0 : Hid (Ext w (w.alloc (.cells #[.slice p.Ab e.sky.bodies.length p.cb, .int .i64 e.sky.nnum, .int .i64 e.sky.nden, .int .i64 e.sky.nstart, .slice p.As e.sun.length p.cs, .slice p.Am e.moon.length p.cm, .slice p.An e.node.length p.cn, .slice p.Af e.feasts.length p.cf, .int .i64 e.nw, .int .i64 e.fl, .int .i64 e.wide] 32))) := Lib.hid ((Ext.refl w).alloc _)
  generalize w.alloc (.cells #[.slice p.Ab e.sky.bodies.length p.cb, .int .i64 e.sky.nnum, .int .i64 e.sky.nden, .int .i64 e.sky.nstart, .slice p.As e.sun.length p.cs, .slice p.Am e.moon.length p.cm, .slice p.An e.node.length p.cn, .slice p.Af e.feasts.length p.cf, .int .i64 e.nw, .int .i64 e.fl, .int .i64 e.wide] 32) = w0 at *
  have b0 := HR0.out.cell
  refine (l7_short_any p e set w0 (HM.out.eng.ext HE0.out) HL.out HS0.out).mono ?_
  rintro r w1 ⟨rfl, hE1⟩
  have HE1 := Lib.hid (HE0.out.trans hE1)
  have HR1 := Lib.hid (HR0.out.ext hE1)
  clear b0
  have b1 := HR1.out.cell
  clear hE1
  cases hsh : shortB e set with
  | false =>
    go_wp2_with fail
    refine (l7_known_any w1 (HV.out.ext HE1.out)).mono ?_
    rintro r w2 ⟨rfl, hE2⟩
    go_wp2_with fail
    go_ret
    exact ⟨rfl, HE1.out.trans hE2⟩
  | true =>
    have HS := Lib.hid (shorts_of hsh)
    have hfl := HS.out.feasts
    have hsl := HS.out.set
    clear hsh
    go_wp2_with fail
    refine (r7_Engine_any p e w1 (HM.out.eng.ext HE1.out) HS.out.eng).mono ?_
    rintro r w2 ⟨rfl, hE2⟩
    have HE2 := Lib.hid (HE1.out.trans hE2)
    have HR2 := Lib.hid (HR1.out.ext hE2)
    clear b1
    have b2 := HR2.out.cell
    clear hE2
    cases c0 : Ec.engineOk e with
    | false =>
      go_wp2_with fail
      refine (l7_known_any w2 (HV.out.ext HE2.out)).mono ?_
      rintro r w3 ⟨rfl, hE3⟩
      go_wp2_with fail
      go_ret
      exact ⟨rfl, HE2.out.trans hE3⟩
    | true =>
      go_wp2_with fail
      refine (r1_Set_any p.Af p.At e.feasts.length p.cf p.ct set w2 (by omega) (HM.out.ext HE2.out).set (by omega)).mono ?_
      rintro r w3 ⟨rfl, hE3⟩
      have HE3 := Lib.hid (HE2.out.trans hE3)
      have HR3 := Lib.hid (HR2.out.ext hE3)
      clear b2
      have b3 := HR3.out.cell
      clear hE3
      rw [show Ec.rising set 0 ((e.feasts.length : Int) - 1) = Ec.setOk e.feasts set from rfl]
      cases c1 : Ec.setOk e.feasts set with
      | false =>
        go_wp2_with fail
        refine (l7_known_any w3 (HV.out.ext HE3.out)).mono ?_
        rintro r w4 ⟨rfl, hE4⟩
        go_wp2_with fail
        go_ret
        exact ⟨rfl, HE3.out.trans hE4⟩
      | true =>
        go_wp2_with fail
        refine (r7_Span_any lo hi _).mono ?_
        rintro r w' ⟨rfl, rfl⟩
        cases c2 : Ec.isSpan lo hi with
        | false =>
          go_wp2_with fail
          refine (l7_known_any w3 (HV.out.ext HE3.out)).mono ?_
          rintro r w4 ⟨rfl, hE4⟩
          go_wp2_with fail
          go_ret
          exact ⟨rfl, HE3.out.trans hE4⟩
        | true =>
          go_wp2_with fail
          refine (r7_Late_any late _).mono ?_
          rintro r w' ⟨rfl, rfl⟩
          cases c3 : Ec.isLate late with
          | false =>
            go_wp2_with fail
            refine (l7_known_any w3 (HV.out.ext HE3.out)).mono ?_
            rintro r w4 ⟨rfl, hE4⟩
            go_wp2_with fail
            go_ret
            exact ⟨rfl, HE3.out.trans hE4⟩
          | true =>
            obtain ⟨s1, s2, s3, s4, s5⟩ := espan_of c2
            obtain ⟨l1, l2⟩ := elate_of c3
            by_cases hd1 : limit < 0
            case pos =>
              go_wp2_with fail
              refine (l7_known_any w3 (HV.out.ext HE3.out)).mono ?_
              rintro r w4 ⟨rfl, hE4⟩
              go_wp2_with fail
              go_ret
              exact ⟨rfl, HE3.out.trans hE4⟩
            case neg =>
              by_cases hd2 : 1000 < limit
              case pos =>
                go_wp2_with fail
                refine (l7_known_any w3 (HV.out.ext HE3.out)).mono ?_
                rintro r w4 ⟨rfl, hE4⟩
                go_wp2_with fail
                go_ret
                exact ⟨rfl, HE3.out.trans hE4⟩
              case neg =>
                by_cases hd3 : lo ≤ late
                case pos =>
                  go_wp2_with fail
                  refine (l7_known_any w3 (HV.out.ext HE3.out)).mono ?_
                  rintro r w4 ⟨rfl, hE4⟩
                  go_wp2_with fail
                  go_ret
                  exact ⟨rfl, HE3.out.trans hE4⟩
                case neg =>
                  have hK : Fine e set := ⟨c0, c1⟩
                  have hn2 := hK.sky.n2
                  have hn4 := hK.sky.n4
                  have HEV := Lib.hid (fun W (h : EngAt W p e) => l7_even_any e.sky p.Ab p.cb W h.bodies hn2 (by omega) (fun k hk => by have := HS.out.eng.sky.2 k hk; omega))
                  go_wp2_with fail
                  refine (HEV.out w3 (HM.out.eng.ext HE3.out)).mono ?_
                  rintro r w4 ⟨rfl, hE4⟩
                  have HE4 := Lib.hid (HE3.out.trans hE4)
                  have HR4 := Lib.hid (HR3.out.ext hE4)
                  clear b3
                  have b4 := HR4.out.cell
                  clear hE4
                  cases hev : Ec.evenB e.sky with
                  | false =>
                    go_wp2_with fail
                    refine (l7_known_any w4 (HV.out.ext HE4.out)).mono ?_
                    rintro r w5 ⟨rfl, hE5⟩
                    go_wp2_with fail
                    go_ret
                    exact ⟨rfl, HE4.out.trans hE5⟩
                  | true =>
                    have hT := (engineOk_parts c0).1
                    have hmo := (engineOk_parts c0).2.1.2
                    have B0 := hK.sky.body (i := 0) (by omega) (by omega)
                    have B1 := hK.sky.body (i := 1) (by omega) (by omega)
                    have SK := hK.sky
                    have hlims := (Fine.limits ⟨c0, c1⟩ : (0 ≤ e.nw ∧ e.nw ≤ 5400) ∧ (0 ≤ e.fl ∧ e.fl ≤ 5400) ∧ (0 ≤ e.wide ∧ e.wide ≤ 5400))
                    have HK0 := Lib.hid (fun W (h : EngSet W p e set) => r1_Keeps_any p.As p.Af p.At p.cs p.cf p.ct e.sun e.feasts set (Sp.body e.sky 0).den (Sp.body e.sky 0).num limit (hi + late) W h.eng.sun h.eng.feasts h.set hT.1 hK.feasts c1 ⟨B0.den1, B0.den2⟩ ⟨B0.num1, B0.num2⟩ ⟨by omega, by omega⟩ ⟨by omega, by omega⟩)
                    have HK1 := Lib.hid (fun W (h : EngSet W p e set) => r1_Keeps_any p.Am p.Af p.At p.cm p.cf p.ct e.moon e.feasts set (Sp.body e.sky 1).den (Sp.body e.sky 1).num limit (hi + late) W h.eng.moon h.eng.feasts h.set hT.2.1 hK.feasts c1 ⟨B1.den1, B1.den2⟩ ⟨B1.num1, B1.num2⟩ ⟨by omega, by omega⟩ ⟨by omega, by omega⟩)
                    have HK2 := Lib.hid (fun W (h : EngSet W p e set) => r1_Keeps_any p.An p.Af p.At p.cn p.cf p.ct e.node e.feasts set e.sky.nden e.sky.nnum limit (hi + late) W h.eng.node h.eng.feasts h.set hT.2.2 hK.feasts c1 ⟨SK.den1, SK.den2⟩ ⟨SK.num1, SK.num2⟩ ⟨by omega, by omega⟩ ⟨by omega, by omega⟩)
                    have HNV : Hid (2 * limit + 4 ≤ (late - 1) * Ec.leadStep e.sky → (late * Ec.goesStep e.sky + 2 * limit + 6 ≤ e.wide ∨ 5400 ≤ min e.nw e.fl + e.wide) → Ec.keeps e.sun (Sp.body e.sky 0).den (Sp.body e.sky 0).num limit e.feasts set (hi + late) = true → Ec.keeps e.moon (Sp.body e.sky 1).den (Sp.body e.sky 1).num limit e.feasts set (hi + late) = true → Ec.keeps e.node e.sky.nden e.sky.nnum limit e.feasts set (hi + late) = true → (Ec.missedL e set lo hi late).length = 0) := Lib.hid (fun a b k0 k1 k2 => Ec.never_missed c0 c1 c3 (by omega) (by omega) (by omega) hev a b k0 k1 k2)
                    obtain ⟨k0, hk0⟩ : ∃ a, Ec.keeps e.sun (Sp.body e.sky 0).den (Sp.body e.sky 0).num limit e.feasts set (hi + late) = a := ⟨_, rfl⟩
                    rw [hk0] at HNV HK0
                    clear hk0
                    obtain ⟨k1, hk1⟩ : ∃ a, Ec.keeps e.moon (Sp.body e.sky 1).den (Sp.body e.sky 1).num limit e.feasts set (hi + late) = a := ⟨_, rfl⟩
                    rw [hk1] at HNV HK1
                    clear hk1
                    obtain ⟨k2, hk2⟩ : ∃ a, Ec.keeps e.node e.sky.nden e.sky.nnum limit e.feasts set (hi + late) = a := ⟨_, rfl⟩
                    rw [hk2] at HNV HK2
                    clear hk2
                    have HNUM := Lib.hid (never_nums hK.sky hmo)
                    have HN : Hid ((0 : Int) < e.sky.bodies.length ∧ (1 : Int) < e.sky.bodies.length) := Lib.hid ⟨by omega, by omega⟩
                    clear hT hmo B0 B1 SK HEV hev
                    go_wp2_with fail
                    obtain ⟨b, o, hb, hBA⟩ := (HM.out.eng.ext HE4.out).bodies (by omega)
                    obtain ⟨g0, g1, _, _⟩ := hBA 0 (by omega)
                    obtain ⟨q0, q1, _, _⟩ := hBA 1 (by omega)
                    rw [show bd e.sky.bodies 0 = Sp.body e.sky 0 from rfl] at g0 g1
                    rw [show bd e.sky.bodies 1 = Sp.body e.sky 1 from rfl] at q0 q1
                    simp only [Nat.zero_mul, Nat.one_mul, Nat.add_zero] at g0 g1 q0 q1
                    have HG0 := Lib.hid (And.intro g0 g1)
                    have HG1 := Lib.hid (And.intro q0 q1)
                    have HHB := Lib.hid hb
                    clear hb hBA g0 g1 q0 q1 b4
                    obtain ⟨bE, hbE⟩ : ∃ b, w.heap.size = b := ⟨_, rfl⟩
                    have HBE := Lib.hid hbE
                    rw [hbE] at HR4 ⊢
                    clear hbE
                    refine wp_stop (fun K3 hK3 => ?_)
                    have HREST : ∀ (x0 x7 x8 x9 x10 x11 x12 x16 x17 x18 x19 x20 x21 x22 x23 x24 x25 x26 x27 x28 x29 x30 x31 x32 x33 x34 x35 x36 x37 x38 x39 x40 x41 x42 x43 x44 x45 x46 x47 x48 x49 x50 x51 x52 x53 x54 x55 x56 x57 x58 x59 x60 x61 x62 x63 x64 x65 x66 x67 x68 x69 x70 x71 x72 x73 x74 x75 x76 x77 x78 x79 x80 x81 x82 x83 x84 x85 x86 x87 x88 x89 x90 x91 x92 x93 x94 x95 x96 x97 x98 x99 x100 x101 x102 x103 x104 x105 x106 x107 x108 x109 x110 x111 x112 x113 x114 x115 x116 x117 x118 x119 x120 x121 x122 x123 x124 x125 x126 x127 x128 x129 x130 x131 x132 x133 x134 x135 x136 x137 x138 x139 x140 x141 x142 x143 x144 x145 x146 x147 x148 x149 x150 x151 x152 x153 x154 x155 x156 x157 x158 x159 x160 x161 x162 x163 x164 x165 x166 x167 x168 x169 x170 x171 x172 x173 x174 x175 x176 x177 x178 x179 x180 x181 x182 x183 x184 x185 x186 x187 x188 x189 x190 x191 x192 x193 x194 x195 x196 x197 x198 x199 x200 x201 x202 x203 x204 x205 x206 x207 x208 x209 x210 : Value) (n13 n14 n15 : Nat) (W' : World), Ext w4 W' → Row W' n13 24 #[.int .i64 (Sp.body e.sky 0).num, .int .i64 (Sp.body e.sky 0).den] → Row W' n14 24 #[.int .i64 (Sp.body e.sky 1).num, .int .i64 (Sp.body e.sky 1).den] → Row W' n15 24 #[.int .i64 e.sky.nnum, .int .i64 e.sky.nden] → K3 .normal (⟨#[x0, .slice p.At set.length p.ct, .int .i64 lo, .int .i64 hi, .int .i64 late, .int .i64 limit, .pointer (some ⟨bE, 0, none⟩), x7, x8, x9, x10, x11, x12, .pointer (some ⟨n13, 0, none⟩), .pointer (some ⟨n14, 0, none⟩), .pointer (some ⟨n15, 0, none⟩), x16, x17, x18, x19, x20, x21, x22, x23, x24, x25, x26, x27, x28, x29, x30, x31, x32, x33, x34, x35, x36, x37, x38, x39, x40, x41, x42, x43, x44, x45, x46, x47, x48, x49, x50, x51, x52, x53, x54, x55, x56, x57, x58, x59, x60, x61, x62, x63, x64, x65, x66, x67, x68, x69, x70, x71, x72, x73, x74, x75, x76, x77, x78, x79, x80, x81, x82, x83, x84, x85, x86, x87, x88, x89, x90, x91, x92, x93, x94, x95, x96, x97, x98, x99, x100, x101, x102, x103, x104, x105, x106, x107, x108, x109, x110, x111, x112, x113, x114, x115, x116, x117, x118, x119, x120, x121, x122, x123, x124, x125, x126, x127, x128, x129, x130, x131, x132, x133, x134, x135, x136, x137, x138, x139, x140, x141, x142, x143, x144, x145, x146, x147, x148, x149, x150, x151, x152, x153, x154, x155, x156, x157, x158, x159, x160, x161, x162, x163, x164, x165, x166, x167, x168, x169, x170, x171, x172, x173, x174, x175, x176, x177, x178, x179, x180, x181, x182, x183, x184, x185, x186, x187, x188, x189, x190, x191, x192, x193, x194, x195, x196, x197, x198, x199, x200, x201, x202, x203, x204, x205, x206, x207, x208, x209, x210], []⟩ : Act) W' := by
                      intro x0 x7 x8 x9 x10 x11 x12 x16 x17 x18 x19 x20 x21 x22 x23 x24 x25 x26 x27 x28 x29 x30 x31 x32 x33 x34 x35 x36 x37 x38 x39 x40 x41 x42 x43 x44 x45 x46 x47 x48 x49 x50 x51 x52 x53 x54 x55 x56 x57 x58 x59 x60 x61 x62 x63 x64 x65 x66 x67 x68 x69 x70 x71 x72 x73 x74 x75 x76 x77 x78 x79 x80 x81 x82 x83 x84 x85 x86 x87 x88 x89 x90 x91 x92 x93 x94 x95 x96 x97 x98 x99 x100 x101 x102 x103 x104 x105 x106 x107 x108 x109 x110 x111 x112 x113 x114 x115 x116 x117 x118 x119 x120 x121 x122 x123 x124 x125 x126 x127 x128 x129 x130 x131 x132 x133 x134 x135 x136 x137 x138 x139 x140 x141 x142 x143 x144 x145 x146 x147 x148 x149 x150 x151 x152 x153 x154 x155 x156 x157 x158 x159 x160 x161 x162 x163 x164 x165 x166 x167 x168 x169 x170 x171 x172 x173 x174 x175 x176 x177 x178 x179 x180 x181 x182 x183 x184 x185 x186 x187 x188 x189 x190 x191 x192 x193 x194 x195 x196 x197 x198 x199 x200 x201 x202 x203 x204 x205 x206 x207 x208 x209 x210 n13 n14 n15 w5 hE5 hPa hPb hPc
                      refine hK3 _ _ _ ?_
                      dsimp only [Exit.then]
                      apply_assumption
                      have HE5 := Lib.hid (HE4.out.trans hE5)
                      have HR5 := Lib.hid (HR4.out.ext hE5)
                      have HPa := Lib.hid hPa
                      have HPb := Lib.hid hPb
                      have HPc := Lib.hid hPc
                      clear hE5 hPa hPb hPc hK3
                      have b5 := HR5.out.cell
                      have bPa := HPa.out.cell
                      have bPb := HPb.out.cell
                      have bPc := HPc.out.cell
                      obtain ⟨LD, GO1, GO2, ⟨y1, y2, y3, y4⟩, ⟨y5, y6, y7, y8⟩, ⟨y9, y10⟩, ⟨y11, y12⟩, y13, y14⟩ := HNUM.out
                      rw [y13, y14] at HNV
                      clear HNUM y13 y14
                      have HY1 := Lib.hid y1
                      have HY9 := Lib.hid y9
                      have HY11 := Lib.hid y11
                      clear y1 y9 y11
                      have m1 := mul_bounds0 (a := late) (b := GO1 + GO2 + 2) (A := 30) (B := 432000002) (by omega) (by omega) (by omega) (by omega)
                      have m2 := mul_bounds (a := late - 1) (b := LD) (A := 30) (B := 2160000000000) (by omega) (by omega) (by omega) (by omega)
                      have t1 := HY1.out
                      go_wp2_with fail
                      clear t1
                      have t9 := HY9.out
                      have t11 := HY11.out
                      go_quiet (fail)
                      clear t9 t11
                      obtain ⟨w6, hwq⟩ : ∃ W, w5.drewN nq = W := ⟨_, rfl⟩
                      have hE6 : Ext w5 w6 := by rw [← hwq]; exact (Ext.refl _).drewN _
                      rw [hwq]
                      clear hwq
                      have HE6 := Lib.hid (HE5.out.trans hE6)
                      have HR6 := Lib.hid (HR5.out.ext hE6)
                      clear b5
                      have b6 := HR6.out.cell
                      replace HPa := Lib.hid (HPa.out.ext hE6)
                      clear bPa
                      have bPa := HPa.out.cell
                      replace HPb := Lib.hid (HPb.out.ext hE6)
                      clear bPb
                      have bPb := HPb.out.cell
                      replace HPc := Lib.hid (HPc.out.ext hE6)
                      clear bPc
                      have bPc := HPc.out.cell
                      clear hE6
                      by_cases hw1 : late * (GO1 + GO2 + 2) + 2 * limit + 6 ≤ e.wide
                      case pos =>
                        by_cases hle : (late - 1) * LD < 2 * limit + 4
                        case pos =>
                          go_wp2_with fail
                          refine (l7_known_any w6 (HV.out.ext HE6.out)).mono ?_
                          rintro r w7 ⟨rfl, hE7⟩
                          go_wp2_with fail
                          go_ret
                          exact ⟨rfl, HE6.out.trans hE7⟩
                        case neg =>
                          have HNW := Lib.hid (HNV.out (by omega) (.inl (by omega)))
                          clear HNV
                          cases k0 with
                          | false =>
                            go_wp2_with fail
                            refine wp_region_later (by kernel_rfl) (by kernel_rfl) (fun W hW => ?_)
                            subst hW
                            have q1 := fun X : Later W => (Row.ext HPa.out X.ext).cell
                            have q2 := fun X : Later W => (Row.ext HPb.out X.ext).cell
                            have q3 := fun X : Later W => (Row.ext HPc.out X.ext).cell
                            have q4 := fun X : Later W => (Row.ext HR6.out X.ext).cell
                            have HMX := Lib.hid (fun X : Later W => HM.out.ext (HE6.out.trans X.ext))
                            clear b6 bPa bPb bPc
                            repeat (go_big_quiet_step (fail))
                            go_big_quiet_step ((go_at_call 22; exact Later.call (r7_Target_any _ _ _)))
                            repeat (go_big_quiet_step (fail))
                            go_big_quiet_step ((go_at_call 23; exact Later.call (HK0.out _ (HMX.out _))))
                            repeat (go_big_quiet_step (fail))
                            refine wpQuiet_nil ?_
                            rintro ⟨wz, hEz⟩
                            dsimp only
                            clear q1 q2 q3 q4
                            go_wp2_with fail
                            refine (l7_known_any _ (HV.out.ext (HE6.out.trans hEz))).mono ?_
                            rintro r w' ⟨rfl, hE'⟩
                            go_wp2_with fail
                            go_ret
                            exact ⟨rfl, (HE6.out.trans hEz).trans hE'⟩
                          | true =>
                            cases k1 with
                            | false =>
                              go_wp2_with fail
                              refine wp_region_later (by kernel_rfl) (by kernel_rfl) (fun W hW => ?_)
                              subst hW
                              have q1 := fun X : Later W => (Row.ext HPa.out X.ext).cell
                              have q2 := fun X : Later W => (Row.ext HPb.out X.ext).cell
                              have q3 := fun X : Later W => (Row.ext HPc.out X.ext).cell
                              have q4 := fun X : Later W => (Row.ext HR6.out X.ext).cell
                              have HMX := Lib.hid (fun X : Later W => HM.out.ext (HE6.out.trans X.ext))
                              clear b6 bPa bPb bPc
                              repeat (go_big_quiet_step (fail))
                              go_big_quiet_step ((go_at_call 22; exact Later.call (r7_Target_any _ _ _)))
                              repeat (go_big_quiet_step (fail))
                              go_big_quiet_step ((go_at_call 23; exact Later.call (HK0.out _ (HMX.out _))))
                              repeat (go_big_quiet_step (fail))
                              go_big_quiet_step ((go_at_call 22; exact Later.call (r7_Target_any _ _ _)))
                              repeat (go_big_quiet_step (fail))
                              go_big_quiet_step ((go_at_call 23; exact Later.call (HK1.out _ (HMX.out _))))
                              repeat (go_big_quiet_step (fail))
                              refine wpQuiet_nil ?_
                              rintro ⟨wz, hEz⟩
                              dsimp only
                              clear q1 q2 q3 q4
                              go_wp2_with fail
                              refine (l7_known_any _ (HV.out.ext (HE6.out.trans hEz))).mono ?_
                              rintro r w' ⟨rfl, hE'⟩
                              go_wp2_with fail
                              go_ret
                              exact ⟨rfl, (HE6.out.trans hEz).trans hE'⟩
                            | true =>
                              cases k2 with
                              | false =>
                                go_wp2_with fail
                                refine wp_region_later (by kernel_rfl) (by kernel_rfl) (fun W hW => ?_)
                                subst hW
                                have q1 := fun X : Later W => (Row.ext HPa.out X.ext).cell
                                have q2 := fun X : Later W => (Row.ext HPb.out X.ext).cell
                                have q3 := fun X : Later W => (Row.ext HPc.out X.ext).cell
                                have q4 := fun X : Later W => (Row.ext HR6.out X.ext).cell
                                have HMX := Lib.hid (fun X : Later W => HM.out.ext (HE6.out.trans X.ext))
                                clear b6 bPa bPb bPc
                                repeat (go_big_quiet_step (fail))
                                go_big_quiet_step ((go_at_call 22; exact Later.call (r7_Target_any _ _ _)))
                                repeat (go_big_quiet_step (fail))
                                go_big_quiet_step ((go_at_call 23; exact Later.call (HK0.out _ (HMX.out _))))
                                repeat (go_big_quiet_step (fail))
                                go_big_quiet_step ((go_at_call 22; exact Later.call (r7_Target_any _ _ _)))
                                repeat (go_big_quiet_step (fail))
                                go_big_quiet_step ((go_at_call 23; exact Later.call (HK1.out _ (HMX.out _))))
                                repeat (go_big_quiet_step (fail))
                                go_big_quiet_step ((go_at_call 22; exact Later.call (r7_Target_any _ _ _)))
                                repeat (go_big_quiet_step (fail))
                                go_big_quiet_step ((go_at_call 23; exact Later.call (HK2.out _ (HMX.out _))))
                                repeat (go_big_quiet_step (fail))
                                refine wpQuiet_nil ?_
                                rintro ⟨wz, hEz⟩
                                dsimp only
                                clear q1 q2 q3 q4
                                go_wp2_with fail
                                refine (l7_known_any _ (HV.out.ext (HE6.out.trans hEz))).mono ?_
                                rintro r w' ⟨rfl, hE'⟩
                                go_wp2_with fail
                                go_ret
                                exact ⟨rfl, (HE6.out.trans hEz).trans hE'⟩
                              | true =>
                                go_wp2_with fail
                                refine wp_region_later (by kernel_rfl) (by kernel_rfl) (fun W hW => ?_)
                                subst hW
                                have q1 := fun X : Later W => (Row.ext HPa.out X.ext).cell
                                have q2 := fun X : Later W => (Row.ext HPb.out X.ext).cell
                                have q3 := fun X : Later W => (Row.ext HPc.out X.ext).cell
                                have q4 := fun X : Later W => (Row.ext HR6.out X.ext).cell
                                have HMX := Lib.hid (fun X : Later W => HM.out.ext (HE6.out.trans X.ext))
                                clear b6 bPa bPb bPc
                                repeat (go_big_quiet_step (fail))
                                go_big_quiet_step ((go_at_call 22; exact Later.call (r7_Target_any _ _ _)))
                                repeat (go_big_quiet_step (fail))
                                go_big_quiet_step ((go_at_call 23; exact Later.call (HK0.out _ (HMX.out _))))
                                repeat (go_big_quiet_step (fail))
                                go_big_quiet_step ((go_at_call 22; exact Later.call (r7_Target_any _ _ _)))
                                repeat (go_big_quiet_step (fail))
                                go_big_quiet_step ((go_at_call 23; exact Later.call (HK1.out _ (HMX.out _))))
                                repeat (go_big_quiet_step (fail))
                                go_big_quiet_step ((go_at_call 22; exact Later.call (r7_Target_any _ _ _)))
                                repeat (go_big_quiet_step (fail))
                                go_big_quiet_step ((go_at_call 23; exact Later.call (HK2.out _ (HMX.out _))))
                                repeat (go_big_quiet_step (fail))
                                refine wpQuiet_nil ?_
                                rintro ⟨wz, hEz⟩
                                dsimp only
                                clear q1 q2 q3 q4
                                have hE7 := hEz
                                clear hEz
                                generalize wz = w7 at *
                                have b6 := HR6.out.cell
                                have bPa := HPa.out.cell
                                have bPb := HPb.out.cell
                                have bPc := HPc.out.cell
                                have HE7 := Lib.hid (HE6.out.trans hE7)
                                have HR7 := Lib.hid (HR6.out.ext hE7)
                                clear b6
                                have b7 := HR7.out.cell
                                replace HPa := Lib.hid (HPa.out.ext hE7)
                                clear bPa
                                have bPa := HPa.out.cell
                                replace HPb := Lib.hid (HPb.out.ext hE7)
                                clear bPb
                                have bPb := HPb.out.cell
                                replace HPc := Lib.hid (HPc.out.ext hE7)
                                clear bPc
                                have bPc := HPc.out.cell
                                clear hE7
                                go_wp2_with fail
                                refine (e_Missed_ok p e set lo hi late w7 (HM.out.ext HE7.out) HS.out.eng (by omega) c0 c1 c2 c3).mono ?_
                                rintro r w8 ⟨v1, rfl, ⟨A1, d1, rfl, hv1⟩, hE8⟩
                                have HE8 := Lib.hid (HE7.out.trans hE8)
                                have HR8 := Lib.hid (HR7.out.ext hE8)
                                clear b7
                                have b8 := HR8.out.cell
                                replace HPa := Lib.hid (HPa.out.ext hE8)
                                clear bPa
                                have bPa := HPa.out.cell
                                replace HPb := Lib.hid (HPb.out.ext hE8)
                                clear bPb
                                have bPb := HPb.out.cell
                                replace HPc := Lib.hid (HPc.out.ext hE8)
                                clear bPc
                                have bPc := HPc.out.cell
                                clear hE8
                                clear hv1
                                rw [show (Ec.missedL e set lo hi late).length = 0 from HNW.out (by first | rfl | trivial) (by first | rfl | trivial) (by first | rfl | trivial)]
                                go_wp2_with fail
                                refine (l7_known_any w8 (HV.out.ext HE8.out)).mono ?_
                                rintro r w9 ⟨rfl, hE9⟩
                                go_wp2_with fail
                                go_ret
                                exact ⟨rfl, HE8.out.trans hE9⟩
                      case neg =>
                        by_cases hw2 : 5400 ≤ min e.nw e.fl + e.wide
                        case pos =>
                          by_cases hle : (late - 1) * LD < 2 * limit + 4
                          case pos =>
                            go_wp2_with fail
                            refine (l7_known_any w6 (HV.out.ext HE6.out)).mono ?_
                            rintro r w7 ⟨rfl, hE7⟩
                            go_wp2_with fail
                            go_ret
                            exact ⟨rfl, HE6.out.trans hE7⟩
                          case neg =>
                            have HNW := Lib.hid (HNV.out (by omega) (.inr (by omega)))
                            clear HNV
                            cases k0 with
                            | false =>
                              go_wp2_with fail
                              refine wp_region_later (by kernel_rfl) (by kernel_rfl) (fun W hW => ?_)
                              subst hW
                              have q1 := fun X : Later W => (Row.ext HPa.out X.ext).cell
                              have q2 := fun X : Later W => (Row.ext HPb.out X.ext).cell
                              have q3 := fun X : Later W => (Row.ext HPc.out X.ext).cell
                              have q4 := fun X : Later W => (Row.ext HR6.out X.ext).cell
                              have HMX := Lib.hid (fun X : Later W => HM.out.ext (HE6.out.trans X.ext))
                              clear b6 bPa bPb bPc
                              repeat (go_big_quiet_step (fail))
                              go_big_quiet_step ((go_at_call 22; exact Later.call (r7_Target_any _ _ _)))
                              repeat (go_big_quiet_step (fail))
                              go_big_quiet_step ((go_at_call 23; exact Later.call (HK0.out _ (HMX.out _))))
                              repeat (go_big_quiet_step (fail))
                              refine wpQuiet_nil ?_
                              rintro ⟨wz, hEz⟩
                              dsimp only
                              clear q1 q2 q3 q4
                              go_wp2_with fail
                              refine (l7_known_any _ (HV.out.ext (HE6.out.trans hEz))).mono ?_
                              rintro r w' ⟨rfl, hE'⟩
                              go_wp2_with fail
                              go_ret
                              exact ⟨rfl, (HE6.out.trans hEz).trans hE'⟩
                            | true =>
                              cases k1 with
                              | false =>
                                go_wp2_with fail
                                refine wp_region_later (by kernel_rfl) (by kernel_rfl) (fun W hW => ?_)
                                subst hW
                                have q1 := fun X : Later W => (Row.ext HPa.out X.ext).cell
                                have q2 := fun X : Later W => (Row.ext HPb.out X.ext).cell
                                have q3 := fun X : Later W => (Row.ext HPc.out X.ext).cell
                                have q4 := fun X : Later W => (Row.ext HR6.out X.ext).cell
                                have HMX := Lib.hid (fun X : Later W => HM.out.ext (HE6.out.trans X.ext))
                                clear b6 bPa bPb bPc
                                repeat (go_big_quiet_step (fail))
                                go_big_quiet_step ((go_at_call 22; exact Later.call (r7_Target_any _ _ _)))
                                repeat (go_big_quiet_step (fail))
                                go_big_quiet_step ((go_at_call 23; exact Later.call (HK0.out _ (HMX.out _))))
                                repeat (go_big_quiet_step (fail))
                                go_big_quiet_step ((go_at_call 22; exact Later.call (r7_Target_any _ _ _)))
                                repeat (go_big_quiet_step (fail))
                                go_big_quiet_step ((go_at_call 23; exact Later.call (HK1.out _ (HMX.out _))))
                                repeat (go_big_quiet_step (fail))
                                refine wpQuiet_nil ?_
                                rintro ⟨wz, hEz⟩
                                dsimp only
                                clear q1 q2 q3 q4
                                go_wp2_with fail
                                refine (l7_known_any _ (HV.out.ext (HE6.out.trans hEz))).mono ?_
                                rintro r w' ⟨rfl, hE'⟩
                                go_wp2_with fail
                                go_ret
                                exact ⟨rfl, (HE6.out.trans hEz).trans hE'⟩
                              | true =>
                                cases k2 with
                                | false =>
                                  go_wp2_with fail
                                  refine wp_region_later (by kernel_rfl) (by kernel_rfl) (fun W hW => ?_)
                                  subst hW
                                  have q1 := fun X : Later W => (Row.ext HPa.out X.ext).cell
                                  have q2 := fun X : Later W => (Row.ext HPb.out X.ext).cell
                                  have q3 := fun X : Later W => (Row.ext HPc.out X.ext).cell
                                  have q4 := fun X : Later W => (Row.ext HR6.out X.ext).cell
                                  have HMX := Lib.hid (fun X : Later W => HM.out.ext (HE6.out.trans X.ext))
                                  clear b6 bPa bPb bPc
                                  repeat (go_big_quiet_step (fail))
                                  go_big_quiet_step ((go_at_call 22; exact Later.call (r7_Target_any _ _ _)))
                                  repeat (go_big_quiet_step (fail))
                                  go_big_quiet_step ((go_at_call 23; exact Later.call (HK0.out _ (HMX.out _))))
                                  repeat (go_big_quiet_step (fail))
                                  go_big_quiet_step ((go_at_call 22; exact Later.call (r7_Target_any _ _ _)))
                                  repeat (go_big_quiet_step (fail))
                                  go_big_quiet_step ((go_at_call 23; exact Later.call (HK1.out _ (HMX.out _))))
                                  repeat (go_big_quiet_step (fail))
                                  go_big_quiet_step ((go_at_call 22; exact Later.call (r7_Target_any _ _ _)))
                                  repeat (go_big_quiet_step (fail))
                                  go_big_quiet_step ((go_at_call 23; exact Later.call (HK2.out _ (HMX.out _))))
                                  repeat (go_big_quiet_step (fail))
                                  refine wpQuiet_nil ?_
                                  rintro ⟨wz, hEz⟩
                                  dsimp only
                                  clear q1 q2 q3 q4
                                  go_wp2_with fail
                                  refine (l7_known_any _ (HV.out.ext (HE6.out.trans hEz))).mono ?_
                                  rintro r w' ⟨rfl, hE'⟩
                                  go_wp2_with fail
                                  go_ret
                                  exact ⟨rfl, (HE6.out.trans hEz).trans hE'⟩
                                | true =>
                                  go_wp2_with fail
                                  refine wp_region_later (by kernel_rfl) (by kernel_rfl) (fun W hW => ?_)
                                  subst hW
                                  have q1 := fun X : Later W => (Row.ext HPa.out X.ext).cell
                                  have q2 := fun X : Later W => (Row.ext HPb.out X.ext).cell
                                  have q3 := fun X : Later W => (Row.ext HPc.out X.ext).cell
                                  have q4 := fun X : Later W => (Row.ext HR6.out X.ext).cell
                                  have HMX := Lib.hid (fun X : Later W => HM.out.ext (HE6.out.trans X.ext))
                                  clear b6 bPa bPb bPc
                                  repeat (go_big_quiet_step (fail))
                                  go_big_quiet_step ((go_at_call 22; exact Later.call (r7_Target_any _ _ _)))
                                  repeat (go_big_quiet_step (fail))
                                  go_big_quiet_step ((go_at_call 23; exact Later.call (HK0.out _ (HMX.out _))))
                                  repeat (go_big_quiet_step (fail))
                                  go_big_quiet_step ((go_at_call 22; exact Later.call (r7_Target_any _ _ _)))
                                  repeat (go_big_quiet_step (fail))
                                  go_big_quiet_step ((go_at_call 23; exact Later.call (HK1.out _ (HMX.out _))))
                                  repeat (go_big_quiet_step (fail))
                                  go_big_quiet_step ((go_at_call 22; exact Later.call (r7_Target_any _ _ _)))
                                  repeat (go_big_quiet_step (fail))
                                  go_big_quiet_step ((go_at_call 23; exact Later.call (HK2.out _ (HMX.out _))))
                                  repeat (go_big_quiet_step (fail))
                                  refine wpQuiet_nil ?_
                                  rintro ⟨wz, hEz⟩
                                  dsimp only
                                  clear q1 q2 q3 q4
                                  have hE7 := hEz
                                  clear hEz
                                  generalize wz = w7 at *
                                  have b6 := HR6.out.cell
                                  have bPa := HPa.out.cell
                                  have bPb := HPb.out.cell
                                  have bPc := HPc.out.cell
                                  have HE7 := Lib.hid (HE6.out.trans hE7)
                                  have HR7 := Lib.hid (HR6.out.ext hE7)
                                  clear b6
                                  have b7 := HR7.out.cell
                                  replace HPa := Lib.hid (HPa.out.ext hE7)
                                  clear bPa
                                  have bPa := HPa.out.cell
                                  replace HPb := Lib.hid (HPb.out.ext hE7)
                                  clear bPb
                                  have bPb := HPb.out.cell
                                  replace HPc := Lib.hid (HPc.out.ext hE7)
                                  clear bPc
                                  have bPc := HPc.out.cell
                                  clear hE7
                                  go_wp2_with fail
                                  refine (e_Missed_ok p e set lo hi late w7 (HM.out.ext HE7.out) HS.out.eng (by omega) c0 c1 c2 c3).mono ?_
                                  rintro r w8 ⟨v2, rfl, ⟨A2, d2, rfl, hv2⟩, hE8⟩
                                  have HE8 := Lib.hid (HE7.out.trans hE8)
                                  have HR8 := Lib.hid (HR7.out.ext hE8)
                                  clear b7
                                  have b8 := HR8.out.cell
                                  replace HPa := Lib.hid (HPa.out.ext hE8)
                                  clear bPa
                                  have bPa := HPa.out.cell
                                  replace HPb := Lib.hid (HPb.out.ext hE8)
                                  clear bPb
                                  have bPb := HPb.out.cell
                                  replace HPc := Lib.hid (HPc.out.ext hE8)
                                  clear bPc
                                  have bPc := HPc.out.cell
                                  clear hE8
                                  clear hv2
                                  rw [show (Ec.missedL e set lo hi late).length = 0 from HNW.out (by first | rfl | trivial) (by first | rfl | trivial) (by first | rfl | trivial)]
                                  go_wp2_with fail
                                  refine (l7_known_any w8 (HV.out.ext HE8.out)).mono ?_
                                  rintro r w9 ⟨rfl, hE9⟩
                                  go_wp2_with fail
                                  go_ret
                                  exact ⟨rfl, HE8.out.trans hE9⟩
                        case neg =>
                          by_cases hle : (late - 1) * LD < 2 * limit + 4
                          case pos =>
                            go_wp2_with fail
                            refine (l7_known_any w6 (HV.out.ext HE6.out)).mono ?_
                            rintro r w7 ⟨rfl, hE7⟩
                            go_wp2_with fail
                            go_ret
                            exact ⟨rfl, HE6.out.trans hE7⟩
                          case neg =>
                            go_wp2_with fail
                            refine (l7_known_any w6 (HV.out.ext HE6.out)).mono ?_
                            rintro r w7 ⟨rfl, hE7⟩
                            go_wp2_with fail
                            go_ret
                            exact ⟨rfl, HE6.out.trans hE7⟩
                    have HRS := Lib.hid HREST
                    clear HREST hK3 HNV HNUM HK0 HK1 HK2
                    obtain ⟨g0, g1⟩ := HG0.out
                    obtain ⟨q0, q1⟩ := HG1.out
                    have hbe := HR4.out
                    rw [HHB.out] at hbe ⊢
                    have r := hbe.cell
                    have r0 := r 0
                    have r1 := r 1
                    have r2 := r 2
                    simp only [List.getElem?_toArray, List.getElem?_cons_zero, List.getElem?_cons_succ] at r0 r1 r2
                    clear r hbe
                    have m0 := World.new_ne w4 _ r0
                    have m1 := World.new_ne w4 _ g0
                    have j0 := lts (lt_of_cell r0)
                    have j1 := lts (lt_of_cell g0)
                    simp only at m0 m1 j0 j1
                    have h01 : (0 : Int) < e.sky.bodies.length := by omega
                    have h11 : (1 : Int) < e.sky.bodies.length := by omega
                    have h00 : 0 < e.sky.bodies.length := by omega
                    have HSS := Lib.hid (And.intro r0 (And.intro r1 (And.intro r2 (And.intro g0 (And.intro g1 (And.intro q0 q1))))))
                    go_region_held3 (fun w' => w'.cell? ⟨bE, 0, none⟩ = some (.slice (some ⟨b, o, none⟩) e.sky.bodies.length p.cb) ∧ w'.cell? ⟨bE, 1, none⟩ = some (.int .i64 e.sky.nnum) ∧ w'.cell? ⟨bE, 2, none⟩ = some (.int .i64 e.sky.nden) ∧ w'.cell? ⟨b, o, none⟩ = some (.int .i64 (Sp.body e.sky 0).num) ∧ w'.cell? ⟨b, o + 1, none⟩ = some (.int .i64 (Sp.body e.sky 0).den) ∧ w'.cell? ⟨b, o + 4, none⟩ = some (.int .i64 (Sp.body e.sky 1).num) ∧ w'.cell? ⟨b, o + 4 + 1, none⟩ = some (.int .i64 (Sp.body e.sky 1).den)) (first | (go_keep; done) | ((try dsimp only); obtain ⟨v0, v1, v2, v3, v4, v5, v6⟩ := HSS.out; refine ⟨Ext.cell ?_ v0, Ext.cell ?_ v1, Ext.cell ?_ v2, Ext.cell ?_ v3, Ext.cell ?_ v4, Ext.cell ?_ v5, Ext.cell ?_ v6⟩ <;> repeat (first | exact Ext.refl _ | apply Ext.drew | apply Ext.alloc | refine Ext.setCell ?_ (by simp; omega) _))) (fail)
                    all_goals first
                      | exact HRS.out _ _ _ _ _ _ _ _ _ _ _ _ _ _ _ _ _ _ _ _ _ _ _ _ _ _ _ _ _ _ _ _ _ _ _ _ _ _ _ _ _ _ _ _ _ _ _ _ _ _ _ _ _ _ _ _ _ _ _ _ _ _ _ _ _ _ _ _ _ _ _ _ _ _ _ _ _ _ _ _ _ _ _ _ _ _ _ _ _ _ _ _ _ _ _ _ _ _ _ _ _ _ _ _ _ _ _ _ _ _ _ _ _ _ _ _ _ _ _ _ _ _ _ _ _ _ _ _ _ _ _ _ _ _ _ _ _ _ _ _ _ _ _ _ _ _ _ _ _ _ _ _ _ _ _ _ _ _ _ _ _ _ _ _ _ _ _ _ _ _ _ _ _ _ _ _ _ _ _ _ _ _ _ _ _ _ _ _ _ _ _ _ _ _ _ _ _ _ _ _ _ _ (w4.heap.size + 0) (w4.heap.size + 1) (w4.heap.size + 2) _ (new3 w4 _ _ _) (blocks3 w4 _ _ _).1 (blocks3 w4 _ _ _).2.1 (blocks3 w4 _ _ _).2.2
                      | exact HRS.out _ _ _ _ _ _ _ _ _ _ _ _ _ _ _ _ _ _ _ _ _ _ _ _ _ _ _ _ _ _ _ _ _ _ _ _ _ _ _ _ _ _ _ _ _ _ _ _ _ _ _ _ _ _ _ _ _ _ _ _ _ _ _ _ _ _ _ _ _ _ _ _ _ _ _ _ _ _ _ _ _ _ _ _ _ _ _ _ _ _ _ _ _ _ _ _ _ _ _ _ _ _ _ _ _ _ _ _ _ _ _ _ _ _ _ _ _ _ _ _ _ _ _ _ _ _ _ _ _ _ _ _ _ _ _ _ _ _ _ _ _ _ _ _ _ _ _ _ _ _ _ _ _ _ _ _ _ _ _ _ _ _ _ _ _ _ _ _ _ _ _ _ _ _ _ _ _ _ _ _ _ _ _ _ _ _ _ _ _ _ _ _ _ _ _ _ _ _ _ _ _ _ (w4.heap.size + 0) (w4.heap.size + 2) (w4.heap.size + 1) _ (new3 w4 _ _ _) (blocks3 w4 _ _ _).1 (blocks3 w4 _ _ _).2.2 (blocks3 w4 _ _ _).2.1
                      | exact HRS.out _ _ _ _ _ _ _ _ _ _ _ _ _ _ _ _ _ _ _ _ _ _ _ _ _ _ _ _ _ _ _ _ _ _ _ _ _ _ _ _ _ _ _ _ _ _ _ _ _ _ _ _ _ _ _ _ _ _ _ _ _ _ _ _ _ _ _ _ _ _ _ _ _ _ _ _ _ _ _ _ _ _ _ _ _ _ _ _ _ _ _ _ _ _ _ _ _ _ _ _ _ _ _ _ _ _ _ _ _ _ _ _ _ _ _ _ _ _ _ _ _ _ _ _ _ _ _ _ _ _ _ _ _ _ _ _ _ _ _ _ _ _ _ _ _ _ _ _ _ _ _ _ _ _ _ _ _ _ _ _ _ _ _ _ _ _ _ _ _ _ _ _ _ _ _ _ _ _ _ _ _ _ _ _ _ _ _ _ _ _ _ _ _ _ _ _ _ _ _ _ _ _ (w4.heap.size + 1) (w4.heap.size + 0) (w4.heap.size + 2) _ (new3 w4 _ _ _) (blocks3 w4 _ _ _).2.1 (blocks3 w4 _ _ _).1 (blocks3 w4 _ _ _).2.2
                      | exact HRS.out _ _ _ _ _ _ _ _ _ _ _ _ _ _ _ _ _ _ _ _ _ _ _ _ _ _ _ _ _ _ _ _ _ _ _ _ _ _ _ _ _ _ _ _ _ _ _ _ _ _ _ _ _ _ _ _ _ _ _ _ _ _ _ _ _ _ _ _ _ _ _ _ _ _ _ _ _ _ _ _ _ _ _ _ _ _ _ _ _ _ _ _ _ _ _ _ _ _ _ _ _ _ _ _ _ _ _ _ _ _ _ _ _ _ _ _ _ _ _ _ _ _ _ _ _ _ _ _ _ _ _ _ _ _ _ _ _ _ _ _ _ _ _ _ _ _ _ _ _ _ _ _ _ _ _ _ _ _ _ _ _ _ _ _ _ _ _ _ _ _ _ _ _ _ _ _ _ _ _ _ _ _ _ _ _ _ _ _ _ _ _ _ _ _ _ _ _ _ _ _ _ _ (w4.heap.size + 1) (w4.heap.size + 2) (w4.heap.size + 0) _ (new3 w4 _ _ _) (blocks3 w4 _ _ _).2.1 (blocks3 w4 _ _ _).2.2 (blocks3 w4 _ _ _).1
                      | exact HRS.out _ _ _ _ _ _ _ _ _ _ _ _ _ _ _ _ _ _ _ _ _ _ _ _ _ _ _ _ _ _ _ _ _ _ _ _ _ _ _ _ _ _ _ _ _ _ _ _ _ _ _ _ _ _ _ _ _ _ _ _ _ _ _ _ _ _ _ _ _ _ _ _ _ _ _ _ _ _ _ _ _ _ _ _ _ _ _ _ _ _ _ _ _ _ _ _ _ _ _ _ _ _ _ _ _ _ _ _ _ _ _ _ _ _ _ _ _ _ _ _ _ _ _ _ _ _ _ _ _ _ _ _ _ _ _ _ _ _ _ _ _ _ _ _ _ _ _ _ _ _ _ _ _ _ _ _ _ _ _ _ _ _ _ _ _ _ _ _ _ _ _ _ _ _ _ _ _ _ _ _ _ _ _ _ _ _ _ _ _ _ _ _ _ _ _ _ _ _ _ _ _ _ (w4.heap.size + 2) (w4.heap.size + 0) (w4.heap.size + 1) _ (new3 w4 _ _ _) (blocks3 w4 _ _ _).2.2 (blocks3 w4 _ _ _).1 (blocks3 w4 _ _ _).2.1
                      | exact HRS.out _ _ _ _ _ _ _ _ _ _ _ _ _ _ _ _ _ _ _ _ _ _ _ _ _ _ _ _ _ _ _ _ _ _ _ _ _ _ _ _ _ _ _ _ _ _ _ _ _ _ _ _ _ _ _ _ _ _ _ _ _ _ _ _ _ _ _ _ _ _ _ _ _ _ _ _ _ _ _ _ _ _ _ _ _ _ _ _ _ _ _ _ _ _ _ _ _ _ _ _ _ _ _ _ _ _ _ _ _ _ _ _ _ _ _ _ _ _ _ _ _ _ _ _ _ _ _ _ _ _ _ _ _ _ _ _ _ _ _ _ _ _ _ _ _ _ _ _ _ _ _ _ _ _ _ _ _ _ _ _ _ _ _ _ _ _ _ _ _ _ _ _ _ _ _ _ _ _ _ _ _ _ _ _ _ _ _ _ _ _ _ _ _ _ _ _ _ _ _ _ _ _ (w4.heap.size + 2) (w4.heap.size + 1) (w4.heap.size + 0) _ (new3 w4 _ _ _) (blocks3 w4 _ _ _).2.2 (blocks3 w4 _ _ _).2.1 (blocks3 w4 _ _ _).1
end Go.Proofs.YtcbodpnmndbgnaaGreatDoor
