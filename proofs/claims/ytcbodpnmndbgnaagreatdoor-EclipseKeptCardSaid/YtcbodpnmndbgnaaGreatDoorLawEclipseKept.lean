/- The walk of the law EclipseKept. (Printed by wip/mkelaws.py.) -/
import Derived.Carry
import Derived.Test.YtcbodpnmndbgnaaGreatDoorB13
import Derived.Test.YtcbodpnmndbgnaaGreatDoorB04
import Derived.Test.YtcbodpnmndbgnaaGreatDoorB09
import Derived.Test.YtcbodpnmndbgnaaGreatDoorB06
namespace Go.Proofs.YtcbodpnmndbgnaaGreatDoor
open Go.RowKit
open Sp (rd)
set_option linter.unusedSimpArgs false
set_option linter.unusedVariables false

def keptΦ (p : EP) (e : Ec.Engine) (b o bE : Nat) (w0 : World) (i : Nat) (v : Value) (w : World) : Prop :=
  match i with
  | 0 => v = .pointer (some ⟨bE, 0, none⟩)
  | 1 => v = .pointer (some ⟨bE, 0, none⟩)
  | 2 => v = .slice p.Ab e.sky.bodies.length p.cb
  | 3 => v = .pointer (some ⟨b, o, none⟩)
  | 4 => v = .pointer (some ⟨b, o, none⟩)
  | 5 => v = .agg #[.int .i64 (Sp.body e.sky 0).num, .int .i64 (Sp.body e.sky 0).den]
  | 6 => v = .agg #[.int .i64 (Sp.body e.sky 0).den, .int .i64 (Sp.body e.sky 0).num]
  | 7 => v = .pointer (some ⟨bE, 0, none⟩)
  | 8 => v = .pointer (some ⟨bE, 0, none⟩)
  | 9 => v = .slice p.Ab e.sky.bodies.length p.cb
  | 10 => v = .pointer (some ⟨b, o + 4, none⟩)
  | 11 => v = .pointer (some ⟨b, o + 4, none⟩)
  | 12 => v = .agg #[.int .i64 (Sp.body e.sky 1).num, .int .i64 (Sp.body e.sky 1).den]
  | 13 => v = .agg #[.int .i64 (Sp.body e.sky 1).den, .int .i64 (Sp.body e.sky 1).num]
  | 14 => v = .pointer (some ⟨bE, 0, none⟩)
  | 15 => v = .pointer (some ⟨bE, 1, none⟩)
  | 16 => v = .pointer (some ⟨bE, 1, none⟩)
  | 17 => v = .agg #[.int .i64 e.sky.nnum, .int .i64 e.sky.nden]
  | 18 => v = .agg #[.int .i64 e.sky.nden, .int .i64 e.sky.nnum]
  | 19 => NewAt w0 v w 43 #[.int .i64 0, .int .i64 0]
  | 20 => NewAt w0 v w 43 #[.int .i64 0, .int .i64 0]
  | _ => NewAt w0 v w 43 #[.int .i64 0, .int .i64 0]
theorem keptΦ_mono {p : EP} {e : Ec.Engine} {b o bE : Nat} {w0 : World} (i : Nat) (v : Value) (w w' : World) (h : keptΦ p e b o bE w0 i v w) (he : Ext w w') : keptΦ p e b o bE w0 i v w' := by
  unfold keptΦ at h ⊢
  split at h <;> first
    | exact h
    | exact NewAt.ext h he
    | exact MkAt.ext h he
    | exact fun hg => MkAt.ext (h hg) he

def keptΨ (p : EP) (e : Ec.Engine) (set : List Int) (f s : Int) (k bE bs os bf of : Nat) (w0 : World) (i : Nat) (v : Value) (w : World) : Prop :=
  match i with
  | 0 => v = .agg #[.slice p.Ab e.sky.bodies.length p.cb, .int .i64 e.sky.nnum, .int .i64 e.sky.nden, .int .i64 e.sky.nstart, .slice p.As e.sun.length p.cs, .slice p.Am e.moon.length p.cm, .slice p.An e.node.length p.cn, .slice (some ⟨bf, of, none⟩) e.feasts.length p.cf, .int .i64 e.nw, .int .i64 e.fl, .int .i64 e.wide]
  | 1 => v = .slice (some ⟨bs, os, none⟩) set.length p.ct
  | 2 => v = .pointer (some ⟨bE, 7, none⟩)
  | 3 => v = .slice (some ⟨bf, of, none⟩) e.feasts.length p.cf
  | 4 => v = .slice (some ⟨bs, os, none⟩) set.length p.ct
  | 5 => v = .int .i64 (k : Int)
  | 6 => v = .pointer (some ⟨bs, os + k, none⟩)
  | 7 => v = .int .i64 s
  | 8 => v = .pointer (some ⟨bf, of + s.toNat, none⟩)
  | 9 => v = .int .i64 f
  | 10 => v = .tuple #[.agg #[.int .i64 0, .int .i64 0, .int .i64 0], .int .i64 0]
  | 11 => v = .tuple #[.agg #[.int .i64 0, .int .i64 0, .int .i64 0], .int .i64 0]
  | 12 => v = .agg #[.int .i64 0, .int .i64 0, .int .i64 0]
  | 13 => v = .int .i64 0
  | _ => NewAt w0 v w 39 #[.int .i64 0, .int .i64 0, .int .i64 0]
theorem keptΨ_mono {p : EP} {e : Ec.Engine} {set : List Int} {f s : Int} {k bE bs os bf of : Nat} {w0 : World} (i : Nat) (v : Value) (w w' : World) (h : keptΨ p e set f s k bE bs os bf of w0 i v w) (he : Ext w w') : keptΨ p e set f s k bE bs os bf of w0 i v w' := by
  unfold keptΨ at h ⊢
  split at h <;> first
    | exact h
    | exact NewAt.ext h he
    | exact MkAt.ext h he
    | exact fun hg => MkAt.ext (h hg) he

set_option maxRecDepth 100000 in
set_option maxHeartbeats 8000000 in
theorem law_EclipseKept (p : EP) (e : Ec.Engine) (set : List Int) (day limit : Int) (w : World) (hV : Env w) (hm : EngSet w p e set) (hl : EngLong e) (hs : set.length ≤ 9223372036854775807) :
    Calls Tryz.prog 3 #[.agg #[.slice p.Ab e.sky.bodies.length p.cb, .int .i64 e.sky.nnum, .int .i64 e.sky.nden, .int .i64 e.sky.nstart, .slice p.As e.sun.length p.cs, .slice p.Am e.moon.length p.cm, .slice p.An e.node.length p.cn, .slice p.Af e.feasts.length p.cf, .int .i64 e.nw, .int .i64 e.fl, .int .i64 e.wide], .slice p.At set.length p.ct, .int .i64 day, .int .i64 limit] w fun r w' => r = .returned (.bool true) ∧ Ext w w' := by
  have HL := Lib.hid hl
  have HM := Lib.hid hm
  have HV := Lib.hid hV
  have HS0 := Lib.hid hs
  clear hm hl hV hs
  go_enter Tryz.func3, Tryz.ntmps3
  go_wp2_with fail
  have HR0 := Lib.hid (Row.new w 32 #[.slice p.Ab e.sky.bodies.length p.cb, .int .i64 e.sky.nnum, .int .i64 e.sky.nden, .int .i64 e.sky.nstart, .slice p.As e.sun.length p.cs, .slice p.Am e.moon.length p.cm, .slice p.An e.node.length p.cn, .slice p.Af e.feasts.length p.cf, .int .i64 e.nw, .int .i64 e.fl, .int .i64 e.wide])
  have HE0 : Hid (Ext w (w.alloc (.cells #[.slice p.Ab e.sky.bodies.length p.cb, .int .i64 e.sky.nnum, .int .i64 e.sky.nden, .int .i64 e.sky.nstart, .slice p.As e.sun.length p.cs, .slice p.Am e.moon.length p.cm, .slice p.An e.node.length p.cn, .slice p.Af e.feasts.length p.cf, .int .i64 e.nw, .int .i64 e.fl, .int .i64 e.wide] 32))) := Lib.hid ((Ext.refl w).alloc _)
  generalize w.alloc (.cells #[.slice p.Ab e.sky.bodies.length p.cb, .int .i64 e.sky.nnum, .int .i64 e.sky.nden, .int .i64 e.sky.nstart, .slice p.As e.sun.length p.cs, .slice p.Am e.moon.length p.cm, .slice p.An e.node.length p.cn, .slice p.Af e.feasts.length p.cf, .int .i64 e.nw, .int .i64 e.fl, .int .i64 e.wide] 32) = w0 at *
  have b0 := HR0.out.cell
  refine (l7_short_any p e set w0 (HM.out.eng.ext HE0.out) HL.out HS0.out).mono ?_
  rintro r w1 ⟨rfl, hE1⟩
  have HE1 := Lib.hid (HE0.out.trans hE1)
  have HR1 := Lib.hid (HR0.out.ext hE1)
  clear b0
  have b1 := HR1.out.cell
  clear hE1
  cases hsh : shortB e set with
  | false =>
    go_wp2_with fail
    refine (l7_known_any w1 (HV.out.ext HE1.out)).mono ?_
    rintro r w2 ⟨rfl, hE2⟩
    go_wp2_with fail
    go_ret
    exact ⟨rfl, HE1.out.trans hE2⟩
  | true =>
    have HS := Lib.hid (shorts_of hsh)
    have hfl := HS.out.feasts
    have hsl := HS.out.set
    clear hsh
    go_wp2_with fail
    refine (r7_Engine_any p e w1 (HM.out.eng.ext HE1.out) HS.out.eng).mono ?_
    rintro r w2 ⟨rfl, hE2⟩
    have HE2 := Lib.hid (HE1.out.trans hE2)
    have HR2 := Lib.hid (HR1.out.ext hE2)
    clear b1
    have b2 := HR2.out.cell
    clear hE2
    cases c0 : Ec.engineOk e with
    | false =>
      go_wp2_with fail
      refine (l7_known_any w2 (HV.out.ext HE2.out)).mono ?_
      rintro r w3 ⟨rfl, hE3⟩
      go_wp2_with fail
      go_ret
      exact ⟨rfl, HE2.out.trans hE3⟩
    | true =>
      go_wp2_with fail
      refine (r1_Set_any p.Af p.At e.feasts.length p.cf p.ct set w2 (by omega) (HM.out.ext HE2.out).set (by omega)).mono ?_
      rintro r w3 ⟨rfl, hE3⟩
      have HE3 := Lib.hid (HE2.out.trans hE3)
      have HR3 := Lib.hid (HR2.out.ext hE3)
      clear b2
      have b3 := HR3.out.cell
      clear hE3
      rw [show Ec.rising set 0 ((e.feasts.length : Int) - 1) = Ec.setOk e.feasts set from rfl]
      cases c1 : Ec.setOk e.feasts set with
      | false =>
        go_wp2_with fail
        refine (l7_known_any w3 (HV.out.ext HE3.out)).mono ?_
        rintro r w4 ⟨rfl, hE4⟩
        go_wp2_with fail
        go_ret
        exact ⟨rfl, HE3.out.trans hE4⟩
      | true =>
        go_wp2_with fail
        refine (r7_Day_any day _).mono ?_
        rintro r w' ⟨rfl, rfl⟩
        cases c4 : Ec.isDay day with
        | false =>
          go_wp2_with fail
          refine (l7_known_any w3 (HV.out.ext HE3.out)).mono ?_
          rintro r w4 ⟨rfl, hE4⟩
          go_wp2_with fail
          go_ret
          exact ⟨rfl, HE3.out.trans hE4⟩
        | true =>
          go_wp2_with fail
          refine (r1_Limit_any limit _).mono ?_
          rintro r w' ⟨rfl, rfl⟩
          cases c5 : Sp.inR limit 0 10800 with
          | false =>
            go_wp2_with fail
            refine (l7_known_any w3 (HV.out.ext HE3.out)).mono ?_
            rintro r w4 ⟨rfl, hE4⟩
            go_wp2_with fail
            go_ret
            exact ⟨rfl, HE3.out.trans hE4⟩
          | true =>
            have hd := eday_of c4
            have hlim : 0 ≤ limit ∧ limit ≤ 10800 := inR_iff.1 c5
            have hK : Fine e set := ⟨c0, c1⟩
            have hn2 := hK.sky.n2
            have hn4 := hK.sky.n4
            have hT := (engineOk_parts c0).1
            have B0 := hK.sky.body (i := 0) (by omega) (by omega)
            have B1 := hK.sky.body (i := 1) (by omega) (by omega)
            have SK := hK.sky
            have HK0 := Lib.hid (fun W (h : EngSet W p e set) => r1_Keeps_any p.As p.Af p.At p.cs p.cf p.ct e.sun e.feasts set (Sp.body e.sky 0).den (Sp.body e.sky 0).num limit day W h.eng.sun h.eng.feasts h.set hT.1 hK.feasts c1 ⟨B0.den1, B0.den2⟩ ⟨B0.num1, B0.num2⟩ ⟨by omega, by omega⟩ hlim)
            have HS0 := Lib.hid (fun h => Ec.sun_kept c0 c1 hlim.1 hlim.2 (day := day) h)
            have HK1 := Lib.hid (fun W (h : EngSet W p e set) => r1_Keeps_any p.Am p.Af p.At p.cm p.cf p.ct e.moon e.feasts set (Sp.body e.sky 1).den (Sp.body e.sky 1).num limit day W h.eng.moon h.eng.feasts h.set hT.2.1 hK.feasts c1 ⟨B1.den1, B1.den2⟩ ⟨B1.num1, B1.num2⟩ ⟨by omega, by omega⟩ hlim)
            have HS1 := Lib.hid (fun h => Ec.moon_kept c0 c1 hlim.1 hlim.2 (day := day) h)
            have HK2 := Lib.hid (fun W (h : EngSet W p e set) => r1_Keeps_any p.An p.Af p.At p.cn p.cf p.ct e.node e.feasts set e.sky.nden e.sky.nnum limit day W h.eng.node h.eng.feasts h.set hT.2.2 hK.feasts c1 ⟨SK.den1, SK.den2⟩ ⟨SK.num1, SK.num2⟩ ⟨by omega, by omega⟩ hlim)
            have HS2 := Lib.hid (fun h => Ec.node_kept c0 c1 hlim.1 hlim.2 (day := day) h)
            have HST := Lib.hid (fun (k : Nat) (hk : k < set.length) => Ec.off_set c0 c1 hk)
            have HSA := Lib.hid (set_at c1)
            have HFO := Lib.hid (fun (k : Nat) (hk : k < set.length) => feastOf_bounds hK.feasts c1 hk)
            have HOF := Lib.hid (fun d (hd : Ec.isDay d = true) W (h : EngSet W p e set) => e_Off_ok p e set d W h HS.out.eng (by omega) c0 c1 hd)
            have HN : Hid ((0 : Int) < e.sky.bodies.length ∧ (1 : Int) < e.sky.bodies.length) := Lib.hid ⟨by omega, by omega⟩
            go_wp2_with fail
            refine (HOF.out day c4 w3 (HM.out.ext HE3.out)).mono ?_
            rintro r w4 ⟨rfl, hE4⟩
            have HE4 := Lib.hid (HE3.out.trans hE4)
            have HR4 := Lib.hid (HR3.out.ext hE4)
            clear b3
            have b4 := HR4.out.cell
            clear hE4
            obtain ⟨o0, ho0⟩ : ∃ a, Ec.sunOff e set day = a := ⟨_, rfl⟩
            rw [ho0] at HS0 ⊢
            clear ho0
            obtain ⟨o1, ho1⟩ : ∃ a, Ec.moonOff e set day = a := ⟨_, rfl⟩
            rw [ho1] at HS1 ⊢
            clear ho1
            obtain ⟨o2, ho2⟩ : ∃ a, Ec.nodeOff e set day = a := ⟨_, rfl⟩
            rw [ho2] at HS2 ⊢
            clear ho2
            obtain ⟨k0, hk0⟩ : ∃ a, Ec.keeps e.sun (Sp.body e.sky 0).den (Sp.body e.sky 0).num limit e.feasts set day = a := ⟨_, rfl⟩
            rw [hk0] at HS0 HK0
            clear hk0
            obtain ⟨k1, hk1⟩ : ∃ a, Ec.keeps e.moon (Sp.body e.sky 1).den (Sp.body e.sky 1).num limit e.feasts set day = a := ⟨_, rfl⟩
            rw [hk1] at HS1 HK1
            clear hk1
            obtain ⟨k2, hk2⟩ : ∃ a, Ec.keeps e.node e.sky.nden e.sky.nnum limit e.feasts set day = a := ⟨_, rfl⟩
            rw [hk2] at HS2 HK2
            clear hk2
            clear hT B0 B1 SK hK hlim
            have HRO := Lib.hid (Row.new w4 39 #[.int .i64 o0, .int .i64 o1, .int .i64 o2])
            have hX5 : Ext w4 (w4.alloc (.cells #[.int .i64 o0, .int .i64 o1, .int .i64 o2] 39)) := (Ext.refl _).alloc _
            have HE5 := Lib.hid (HE4.out.trans hX5)
            have HR5 := Lib.hid (HR4.out.ext hX5)
            clear b4
            have b5 := HR5.out.cell
            have bRO := HRO.out.cell
            clear hX5
            go_wp2_with fail
            generalize w4.alloc (.cells #[.int .i64 o0, .int .i64 o1, .int .i64 o2] 39) = w5 at *
            obtain ⟨b, o, hb, hBA⟩ := (HM.out.eng.ext HE5.out).bodies (by omega)
            obtain ⟨g0, g1, _, _⟩ := hBA 0 (by omega)
            obtain ⟨q0, q1, _, _⟩ := hBA 1 (by omega)
            rw [show bd e.sky.bodies 0 = Sp.body e.sky 0 from rfl] at g0 g1
            rw [show bd e.sky.bodies 1 = Sp.body e.sky 1 from rfl] at q0 q1
            simp only [Nat.zero_mul, Nat.one_mul, Nat.add_zero] at g0 g1 q0 q1
            have HG0 := Lib.hid (And.intro g0 g1)
            have HG1 := Lib.hid (And.intro q0 q1)
            have HHB := Lib.hid hb
            clear hb hBA g0 g1 q0 q1 b5 bRO
            obtain ⟨bE, hbE⟩ : ∃ b, w.heap.size = b := ⟨_, rfl⟩
            have HBE := Lib.hid hbE
            rw [hbE] at HR5 ⊢
            clear hbE
            obtain ⟨bO, hbO⟩ : ∃ b, w4.heap.size = b := ⟨_, rfl⟩
            rw [hbO] at HRO ⊢
            clear hbO
            refine wp_stop (fun K6 hK6 => ?_)
            have HK6 := Lib.hid hK6
            clear hK6
            refine wp_region_free_apart 22 (keptΦ p e b o bE w5) (ApartFrom 19) (by kernel_rfl) (by simp) (by kernel_rfl) (by kernel_rfl) (by kernel_rfl) keptΦ_mono ?hob ?hQ
            case hob =>
              intro i o hin ho a wa hE hF
              match i, hin with
              | 0, _ =>
                obtain rfl := Option.some.inj ho
                have h0 : a.tmps[4]?.getD undef = .pointer (some ⟨bE, 0, none⟩) := evalD (hF.old 4 (by decide))
                refine Ran.value rfl (v := .pointer (some ⟨bE, 0, none⟩)) (w1 := wa) ?_ ⟨rfl, Ext.refl _, fun _ _ _ _ _ h => absurd h (by decide)⟩
                go_simp
              | 1, _ =>
                obtain rfl := Option.some.inj ho
                have h0 : a.tmps[53]?.getD undef = .pointer (some ⟨bE, 0, none⟩) := evalD ((hF.from_ 0 53 rfl (by decide)))
                refine Ran.value rfl (v := .pointer (some ⟨bE, 0, none⟩)) (w1 := wa) ?_ ⟨rfl, Ext.refl _, fun _ _ _ _ _ h => absurd h (by decide)⟩
                go_simp
              | 2, _ =>
                obtain rfl := Option.some.inj ho
                have h0 : a.tmps[54]?.getD undef = .pointer (some ⟨bE, 0, none⟩) := evalD ((hF.from_ 1 54 rfl (by decide)))
                have q := (Row.ext (HR5.out) hE).cell
                refine Ran.value rfl (v := .slice p.Ab e.sky.bodies.length p.cb) (w1 := wa) ?_ ⟨rfl, Ext.refl _, fun _ _ _ _ _ h => absurd h (by decide)⟩
                go_simp
              | 3, _ =>
                obtain rfl := Option.some.inj ho
                have h0 : a.tmps[55]?.getD undef = .slice p.Ab e.sky.bodies.length p.cb := evalD ((hF.from_ 2 55 rfl (by decide)))
                refine Ran.value rfl (v := .pointer (some ⟨b, o, none⟩)) (w1 := wa) ?_ ⟨rfl, Ext.refl _, fun _ _ _ _ _ h => absurd h (by decide)⟩
                rw [HHB.out] at h0
                have hi := HN.out.1
                go_simp
                intro hnil
                rw [hnil] at hi
                simp at hi
              | 4, _ =>
                obtain rfl := Option.some.inj ho
                have h0 : a.tmps[56]?.getD undef = .pointer (some ⟨b, o, none⟩) := evalD ((hF.from_ 3 56 rfl (by decide)))
                refine Ran.value rfl (v := .pointer (some ⟨b, o, none⟩)) (w1 := wa) ?_ ⟨rfl, Ext.refl _, fun _ _ _ _ _ h => absurd h (by decide)⟩
                go_simp
              | 5, _ =>
                obtain rfl := Option.some.inj ho
                have h0 : a.tmps[57]?.getD undef = .pointer (some ⟨b, o, none⟩) := evalD (hF.from_ 4 57 rfl (by decide))
                obtain ⟨x0, x1⟩ := HG0.out
                replace x0 := hE.cell x0
                replace x1 := hE.cell x1
                refine Ran.value rfl (v := .agg #[.int .i64 (Sp.body e.sky 0).num, .int .i64 (Sp.body e.sky 0).den]) (w1 := wa) ?_ ⟨rfl, Ext.refl _, fun _ _ _ _ _ h => absurd h (by decide)⟩
                go_simp
              | 6, _ =>
                obtain rfl := Option.some.inj ho
                have h0 : a.tmps[58]?.getD undef = .agg #[.int .i64 (Sp.body e.sky 0).num, .int .i64 (Sp.body e.sky 0).den] := evalD ((hF.from_ 5 58 rfl (by decide)))
                refine Ran.enter rfl (f := 22) (args := #[.agg #[.int .i64 (Sp.body e.sky 0).num, .int .i64 (Sp.body e.sky 0).den]]) (w1 := wa) ?_ ?_
                · go_simp
                · refine (r7_Target_any (Sp.body e.sky 0).num (Sp.body e.sky 0).den wa).mono ?_
                  rintro r w1 ⟨rfl, hX⟩
                  exact ⟨_, rfl, rfl, hX, fun _ _ _ _ _ h => absurd h (by decide)⟩
              | 7, _ =>
                obtain rfl := Option.some.inj ho
                have h0 : a.tmps[4]?.getD undef = .pointer (some ⟨bE, 0, none⟩) := evalD (hF.old 4 (by decide))
                refine Ran.value rfl (v := .pointer (some ⟨bE, 0, none⟩)) (w1 := wa) ?_ ⟨rfl, Ext.refl _, fun _ _ _ _ _ h => absurd h (by decide)⟩
                go_simp
              | 8, _ =>
                obtain rfl := Option.some.inj ho
                have h0 : a.tmps[60]?.getD undef = .pointer (some ⟨bE, 0, none⟩) := evalD ((hF.from_ 7 60 rfl (by decide)))
                refine Ran.value rfl (v := .pointer (some ⟨bE, 0, none⟩)) (w1 := wa) ?_ ⟨rfl, Ext.refl _, fun _ _ _ _ _ h => absurd h (by decide)⟩
                go_simp
              | 9, _ =>
                obtain rfl := Option.some.inj ho
                have h0 : a.tmps[61]?.getD undef = .pointer (some ⟨bE, 0, none⟩) := evalD ((hF.from_ 8 61 rfl (by decide)))
                have q := (Row.ext (HR5.out) hE).cell
                refine Ran.value rfl (v := .slice p.Ab e.sky.bodies.length p.cb) (w1 := wa) ?_ ⟨rfl, Ext.refl _, fun _ _ _ _ _ h => absurd h (by decide)⟩
                go_simp
              | 10, _ =>
                obtain rfl := Option.some.inj ho
                have h0 : a.tmps[62]?.getD undef = .slice p.Ab e.sky.bodies.length p.cb := evalD ((hF.from_ 9 62 rfl (by decide)))
                refine Ran.value rfl (v := .pointer (some ⟨b, o + 4, none⟩)) (w1 := wa) ?_ ⟨rfl, Ext.refl _, fun _ _ _ _ _ h => absurd h (by decide)⟩
                rw [HHB.out] at h0
                have hi := HN.out.2
                go_simp
              | 11, _ =>
                obtain rfl := Option.some.inj ho
                have h0 : a.tmps[63]?.getD undef = .pointer (some ⟨b, o + 4, none⟩) := evalD ((hF.from_ 10 63 rfl (by decide)))
                refine Ran.value rfl (v := .pointer (some ⟨b, o + 4, none⟩)) (w1 := wa) ?_ ⟨rfl, Ext.refl _, fun _ _ _ _ _ h => absurd h (by decide)⟩
                go_simp
              | 12, _ =>
                obtain rfl := Option.some.inj ho
                have h0 : a.tmps[64]?.getD undef = .pointer (some ⟨b, o + 4, none⟩) := evalD (hF.from_ 11 64 rfl (by decide))
                obtain ⟨x0, x1⟩ := HG1.out
                replace x0 := hE.cell x0
                replace x1 := hE.cell x1
                refine Ran.value rfl (v := .agg #[.int .i64 (Sp.body e.sky 1).num, .int .i64 (Sp.body e.sky 1).den]) (w1 := wa) ?_ ⟨rfl, Ext.refl _, fun _ _ _ _ _ h => absurd h (by decide)⟩
                go_simp
              | 13, _ =>
                obtain rfl := Option.some.inj ho
                have h0 : a.tmps[65]?.getD undef = .agg #[.int .i64 (Sp.body e.sky 1).num, .int .i64 (Sp.body e.sky 1).den] := evalD ((hF.from_ 12 65 rfl (by decide)))
                refine Ran.enter rfl (f := 22) (args := #[.agg #[.int .i64 (Sp.body e.sky 1).num, .int .i64 (Sp.body e.sky 1).den]]) (w1 := wa) ?_ ?_
                · go_simp
                · refine (r7_Target_any (Sp.body e.sky 1).num (Sp.body e.sky 1).den wa).mono ?_
                  rintro r w1 ⟨rfl, hX⟩
                  exact ⟨_, rfl, rfl, hX, fun _ _ _ _ _ h => absurd h (by decide)⟩
              | 14, _ =>
                obtain rfl := Option.some.inj ho
                have h0 : a.tmps[4]?.getD undef = .pointer (some ⟨bE, 0, none⟩) := evalD (hF.old 4 (by decide))
                refine Ran.value rfl (v := .pointer (some ⟨bE, 0, none⟩)) (w1 := wa) ?_ ⟨rfl, Ext.refl _, fun _ _ _ _ _ h => absurd h (by decide)⟩
                go_simp
              | 15, _ =>
                obtain rfl := Option.some.inj ho
                have h0 : a.tmps[67]?.getD undef = .pointer (some ⟨bE, 0, none⟩) := evalD ((hF.from_ 14 67 rfl (by decide)))
                refine Ran.value rfl (v := .pointer (some ⟨bE, 1, none⟩)) (w1 := wa) ?_ ⟨rfl, Ext.refl _, fun _ _ _ _ _ h => absurd h (by decide)⟩
                go_simp
              | 16, _ =>
                obtain rfl := Option.some.inj ho
                have h0 : a.tmps[68]?.getD undef = .pointer (some ⟨bE, 1, none⟩) := evalD ((hF.from_ 15 68 rfl (by decide)))
                refine Ran.value rfl (v := .pointer (some ⟨bE, 1, none⟩)) (w1 := wa) ?_ ⟨rfl, Ext.refl _, fun _ _ _ _ _ h => absurd h (by decide)⟩
                go_simp
              | 17, _ =>
                obtain rfl := Option.some.inj ho
                have h0 : a.tmps[69]?.getD undef = .pointer (some ⟨bE, 1, none⟩) := evalD ((hF.from_ 16 69 rfl (by decide)))
                have q := (Row.ext (HR5.out) hE).cell
                refine Ran.value rfl (v := .agg #[.int .i64 e.sky.nnum, .int .i64 e.sky.nden]) (w1 := wa) ?_ ⟨rfl, Ext.refl _, fun _ _ _ _ _ h => absurd h (by decide)⟩
                go_simp
              | 18, _ =>
                obtain rfl := Option.some.inj ho
                have h0 : a.tmps[70]?.getD undef = .agg #[.int .i64 e.sky.nnum, .int .i64 e.sky.nden] := evalD ((hF.from_ 17 70 rfl (by decide)))
                refine Ran.enter rfl (f := 22) (args := #[.agg #[.int .i64 e.sky.nnum, .int .i64 e.sky.nden]]) (w1 := wa) ?_ ?_
                · go_simp
                · refine (r7_Target_any e.sky.nnum e.sky.nden wa).mono ?_
                  rintro r w1 ⟨rfl, hX⟩
                  exact ⟨_, rfl, rfl, hX, fun _ _ _ _ _ h => absurd h (by decide)⟩
              | 19, _ =>
                obtain rfl := Option.some.inj ho
                have hDX : ∀ j u, j < 22 → j ≠ 19 → keptΦ p e b o bE w5 j u wa → ApartFrom 19 19 j (.pointer (some ⟨wa.heap.size, 0, none⟩)) u := by
                  intro j u hj hne hu _ h2 b c e1 e2
                  have hn : ∃ b', u = .pointer (some ⟨b', 0, none⟩) ∧ b' < wa.heap.size := by
                    rcases (show j = 19 ∨ j = 20 ∨ j = 21 by omega) with rfl | rfl | rfl
                    · obtain ⟨b', e', _, hr'⟩ : NewAt w5 u wa 43 #[.int .i64 0, .int .i64 0] := hu
                      exact ⟨b', e', hr'.lt⟩
                    · obtain ⟨b', e', _, hr'⟩ : NewAt w5 u wa 43 #[.int .i64 0, .int .i64 0] := hu
                      exact ⟨b', e', hr'.lt⟩
                    · obtain ⟨b', e', _, hr'⟩ : NewAt w5 u wa 43 #[.int .i64 0, .int .i64 0] := hu
                      exact ⟨b', e', hr'.lt⟩
                  obtain ⟨b', e', hlt⟩ := hn
                  rw [e'] at e2
                  simp at e1 e2
                  omega
                refine Ran.value rfl (v := .pointer (some ⟨wa.heap.size, 0, none⟩)) (w1 := wa.alloc (.cells #[.int .i64 0, .int .i64 0] 43)) ?_ ⟨⟨wa.heap.size, rfl, hE.size, Row.new _ _ _⟩, (Ext.refl _).alloc _, hDX⟩
                clear hDX
                go_simp
              | 20, _ =>
                obtain rfl := Option.some.inj ho
                have hDX : ∀ j u, j < 22 → j ≠ 20 → keptΦ p e b o bE w5 j u wa → ApartFrom 19 20 j (.pointer (some ⟨wa.heap.size, 0, none⟩)) u := by
                  intro j u hj hne hu _ h2 b c e1 e2
                  have hn : ∃ b', u = .pointer (some ⟨b', 0, none⟩) ∧ b' < wa.heap.size := by
                    rcases (show j = 19 ∨ j = 20 ∨ j = 21 by omega) with rfl | rfl | rfl
                    · obtain ⟨b', e', _, hr'⟩ : NewAt w5 u wa 43 #[.int .i64 0, .int .i64 0] := hu
                      exact ⟨b', e', hr'.lt⟩
                    · obtain ⟨b', e', _, hr'⟩ : NewAt w5 u wa 43 #[.int .i64 0, .int .i64 0] := hu
                      exact ⟨b', e', hr'.lt⟩
                    · obtain ⟨b', e', _, hr'⟩ : NewAt w5 u wa 43 #[.int .i64 0, .int .i64 0] := hu
                      exact ⟨b', e', hr'.lt⟩
                  obtain ⟨b', e', hlt⟩ := hn
                  rw [e'] at e2
                  simp at e1 e2
                  omega
                refine Ran.value rfl (v := .pointer (some ⟨wa.heap.size, 0, none⟩)) (w1 := wa.alloc (.cells #[.int .i64 0, .int .i64 0] 43)) ?_ ⟨⟨wa.heap.size, rfl, hE.size, Row.new _ _ _⟩, (Ext.refl _).alloc _, hDX⟩
                clear hDX
                go_simp
              | 21, _ =>
                obtain rfl := Option.some.inj ho
                have hDX : ∀ j u, j < 22 → j ≠ 21 → keptΦ p e b o bE w5 j u wa → ApartFrom 19 21 j (.pointer (some ⟨wa.heap.size, 0, none⟩)) u := by
                  intro j u hj hne hu _ h2 b c e1 e2
                  have hn : ∃ b', u = .pointer (some ⟨b', 0, none⟩) ∧ b' < wa.heap.size := by
                    rcases (show j = 19 ∨ j = 20 ∨ j = 21 by omega) with rfl | rfl | rfl
                    · obtain ⟨b', e', _, hr'⟩ : NewAt w5 u wa 43 #[.int .i64 0, .int .i64 0] := hu
                      exact ⟨b', e', hr'.lt⟩
                    · obtain ⟨b', e', _, hr'⟩ : NewAt w5 u wa 43 #[.int .i64 0, .int .i64 0] := hu
                      exact ⟨b', e', hr'.lt⟩
                    · obtain ⟨b', e', _, hr'⟩ : NewAt w5 u wa 43 #[.int .i64 0, .int .i64 0] := hu
                      exact ⟨b', e', hr'.lt⟩
                  obtain ⟨b', e', hlt⟩ := hn
                  rw [e'] at e2
                  simp at e1 e2
                  omega
                refine Ran.value rfl (v := .pointer (some ⟨wa.heap.size, 0, none⟩)) (w1 := wa.alloc (.cells #[.int .i64 0, .int .i64 0] 43)) ?_ ⟨⟨wa.heap.size, rfl, hE.size, Row.new _ _ _⟩, (Ext.refl _).alloc _, hDX⟩
                clear hDX
                go_simp
              | k + 22, hin => omega
            case hQ =>
              intro vs w2 hE hΦ hDD
              have f0 : vs 0 = .pointer (some ⟨bE, 0, none⟩) := hΦ 0 (by omega)
              have f1 : vs 1 = .pointer (some ⟨bE, 0, none⟩) := hΦ 1 (by omega)
              have f2 : vs 2 = .slice p.Ab e.sky.bodies.length p.cb := hΦ 2 (by omega)
              have f3 : vs 3 = .pointer (some ⟨b, o, none⟩) := hΦ 3 (by omega)
              have f4 : vs 4 = .pointer (some ⟨b, o, none⟩) := hΦ 4 (by omega)
              have f5 : vs 5 = .agg #[.int .i64 (Sp.body e.sky 0).num, .int .i64 (Sp.body e.sky 0).den] := hΦ 5 (by omega)
              have f6 : vs 6 = .agg #[.int .i64 (Sp.body e.sky 0).den, .int .i64 (Sp.body e.sky 0).num] := hΦ 6 (by omega)
              have f7 : vs 7 = .pointer (some ⟨bE, 0, none⟩) := hΦ 7 (by omega)
              have f8 : vs 8 = .pointer (some ⟨bE, 0, none⟩) := hΦ 8 (by omega)
              have f9 : vs 9 = .slice p.Ab e.sky.bodies.length p.cb := hΦ 9 (by omega)
              have f10 : vs 10 = .pointer (some ⟨b, o + 4, none⟩) := hΦ 10 (by omega)
              have f11 : vs 11 = .pointer (some ⟨b, o + 4, none⟩) := hΦ 11 (by omega)
              have f12 : vs 12 = .agg #[.int .i64 (Sp.body e.sky 1).num, .int .i64 (Sp.body e.sky 1).den] := hΦ 12 (by omega)
              have f13 : vs 13 = .agg #[.int .i64 (Sp.body e.sky 1).den, .int .i64 (Sp.body e.sky 1).num] := hΦ 13 (by omega)
              have f14 : vs 14 = .pointer (some ⟨bE, 0, none⟩) := hΦ 14 (by omega)
              have f15 : vs 15 = .pointer (some ⟨bE, 1, none⟩) := hΦ 15 (by omega)
              have f16 : vs 16 = .pointer (some ⟨bE, 1, none⟩) := hΦ 16 (by omega)
              have f17 : vs 17 = .agg #[.int .i64 e.sky.nnum, .int .i64 e.sky.nden] := hΦ 17 (by omega)
              have f18 : vs 18 = .agg #[.int .i64 e.sky.nden, .int .i64 e.sky.nnum] := hΦ 18 (by omega)
              obtain ⟨n19, f19, hb19, hr19⟩ : NewAt w5 (vs 19) w2 43 #[.int .i64 0, .int .i64 0] := hΦ 19 (by omega)
              obtain ⟨n20, f20, hb20, hr20⟩ : NewAt w5 (vs 20) w2 43 #[.int .i64 0, .int .i64 0] := hΦ 20 (by omega)
              obtain ⟨n21, f21, hb21, hr21⟩ : NewAt w5 (vs 21) w2 43 #[.int .i64 0, .int .i64 0] := hΦ 21 (by omega)
              have d1920 : n19 ≠ n20 := by
                rcases hDD 19 20 (by omega) (by omega) (by omega) with h | h
                · exact h (by omega) (by omega) _ _ f19 f20
                · exact Ne.symm (h (by omega) (by omega) _ _ f20 f19)
              have d1921 : n19 ≠ n21 := by
                rcases hDD 19 21 (by omega) (by omega) (by omega) with h | h
                · exact h (by omega) (by omega) _ _ f19 f21
                · exact Ne.symm (h (by omega) (by omega) _ _ f21 f19)
              have d2021 : n20 ≠ n21 := by
                rcases hDD 20 21 (by omega) (by omega) (by omega) with h | h
                · exact h (by omega) (by omega) _ _ f20 f21
                · exact Ne.symm (h (by omega) (by omega) _ _ f21 f20)
              clear hDD
              have hrg : List.range 22 = [0, 1, 2, 3, 4, 5, 6, 7, 8, 9, 10, 11, 12, 13, 14, 15, 16, 17, 18, 19, 20, 21] := rfl
              unfold putAll putS
              simp only [List.length_cons, List.length_nil, List.take_succ_cons, List.take_zero, List.drop_succ_cons, List.drop_zero, Nat.reduceAdd, hrg, List.foldl_cons, List.foldl_nil, dstOf, List.getElem?_cons_succ, List.getElem?_cons_zero, Option.bind_some]
              clear hrg
              rw [f0, f1, f2, f3, f4, f5, f6, f7, f8, f9, f10, f11, f12, f13, f14, f15, f16, f17, f18, f19, f20, f21]
              simp only [Act.put, List.setIfInBounds_toArray, List.set_cons_succ, List.set_cons_zero]
              have j0 := HR5.out.lt
              have j1 := HRO.out.lt
              have hz := HE5.out.size
              clear hΦ f0 f1 f2 f3 f4 f5 f6 f7 f8 f9 f10 f11 f12 f13 f14 f15 f16 f17 f18 f19 f20 f21
              have c19 := hr19.cell
              have z19 := hr19.free
              have c20 := hr20.cell
              have z20 := hr20.free
              have c21 := hr21.cell
              have z21 := hr21.free
              have x0 := ((((((hr19.set_ 0 (.int .i64 (Sp.body e.sky 0).den)).set_ 1 (.int .i64 (Sp.body e.sky 0).num)).far (p := ⟨n20, 0, none⟩) (by simp; omega) (.int .i64 (Sp.body e.sky 1).den)).far (p := ⟨n20, 1, none⟩) (by simp; omega) (.int .i64 (Sp.body e.sky 1).num)).far (p := ⟨n21, 0, none⟩) (by simp; omega) (.int .i64 e.sky.nden)).far (p := ⟨n21, 1, none⟩) (by simp; omega) (.int .i64 e.sky.nnum))
              have x1 := ((((((hr20.far (p := ⟨n19, 0, none⟩) (by simp; omega) (.int .i64 (Sp.body e.sky 0).den)).far (p := ⟨n19, 1, none⟩) (by simp; omega) (.int .i64 (Sp.body e.sky 0).num)).set_ 0 (.int .i64 (Sp.body e.sky 1).den)).set_ 1 (.int .i64 (Sp.body e.sky 1).num)).far (p := ⟨n21, 0, none⟩) (by simp; omega) (.int .i64 e.sky.nden)).far (p := ⟨n21, 1, none⟩) (by simp; omega) (.int .i64 e.sky.nnum))
              have x2 := ((((((hr21.far (p := ⟨n19, 0, none⟩) (by simp; omega) (.int .i64 (Sp.body e.sky 0).den)).far (p := ⟨n19, 1, none⟩) (by simp; omega) (.int .i64 (Sp.body e.sky 0).num)).far (p := ⟨n20, 0, none⟩) (by simp; omega) (.int .i64 (Sp.body e.sky 1).den)).far (p := ⟨n20, 1, none⟩) (by simp; omega) (.int .i64 (Sp.body e.sky 1).num)).set_ 0 (.int .i64 e.sky.nden)).set_ 1 (.int .i64 e.sky.nnum))
              have x3 := (((((((HR5.out.ext hE).far (p := ⟨n19, 0, none⟩) (by simp; omega) (.int .i64 (Sp.body e.sky 0).den)).far (p := ⟨n19, 1, none⟩) (by simp; omega) (.int .i64 (Sp.body e.sky 0).num)).far (p := ⟨n20, 0, none⟩) (by simp; omega) (.int .i64 (Sp.body e.sky 1).den)).far (p := ⟨n20, 1, none⟩) (by simp; omega) (.int .i64 (Sp.body e.sky 1).num)).far (p := ⟨n21, 0, none⟩) (by simp; omega) (.int .i64 e.sky.nden)).far (p := ⟨n21, 1, none⟩) (by simp; omega) (.int .i64 e.sky.nnum))
              have x4 := (((((((HRO.out.ext hE).far (p := ⟨n19, 0, none⟩) (by simp; omega) (.int .i64 (Sp.body e.sky 0).den)).far (p := ⟨n19, 1, none⟩) (by simp; omega) (.int .i64 (Sp.body e.sky 0).num)).far (p := ⟨n20, 0, none⟩) (by simp; omega) (.int .i64 (Sp.body e.sky 1).den)).far (p := ⟨n20, 1, none⟩) (by simp; omega) (.int .i64 (Sp.body e.sky 1).num)).far (p := ⟨n21, 0, none⟩) (by simp; omega) (.int .i64 e.sky.nden)).far (p := ⟨n21, 1, none⟩) (by simp; omega) (.int .i64 e.sky.nnum))
              have x5 := (((((((HE5.out.trans hE).setCell (p := ⟨n19, 0, none⟩) (by simp; omega) (.int .i64 (Sp.body e.sky 0).den)).setCell (p := ⟨n19, 1, none⟩) (by simp; omega) (.int .i64 (Sp.body e.sky 0).num)).setCell (p := ⟨n20, 0, none⟩) (by simp; omega) (.int .i64 (Sp.body e.sky 1).den)).setCell (p := ⟨n20, 1, none⟩) (by simp; omega) (.int .i64 (Sp.body e.sky 1).num)).setCell (p := ⟨n21, 0, none⟩) (by simp; omega) (.int .i64 e.sky.nden)).setCell (p := ⟨n21, 1, none⟩) (by simp; omega) (.int .i64 e.sky.nnum))
              go_wp2_with fail
              refine HK6.out _ _ _ ?_
              clear c19 z19 c20 z20 c21 z21
              obtain ⟨w6, hw6⟩ : ∃ W, ((((((w2.setCell ⟨n19, 0, none⟩ (.int .i64 (Sp.body e.sky 0).den)).setCell ⟨n19, 1, none⟩ (.int .i64 (Sp.body e.sky 0).num)).setCell ⟨n20, 0, none⟩ (.int .i64 (Sp.body e.sky 1).den)).setCell ⟨n20, 1, none⟩ (.int .i64 (Sp.body e.sky 1).num)).setCell ⟨n21, 0, none⟩ (.int .i64 e.sky.nden)).setCell ⟨n21, 1, none⟩ (.int .i64 e.sky.nnum)) = W := ⟨_, rfl⟩
              rw [hw6] at x0 x1 x2 x3 x4 x5 ⊢
              have H11 := Lib.hid x0
              have H12 := Lib.hid x1
              have H13 := Lib.hid x2
              have HRE := Lib.hid x3
              have HROx := Lib.hid x4
              have HE6 := Lib.hid x5
              clear x0 x1 x2 x3 x4 x5 hw6 j0 j1 hz hE HK6
              dsimp only [Exit.then]
              apply_assumption
              apply wp_seq_k
              intro K7 hK7
              have HK7 := Lib.hid hK7
              clear hK7
              have HC : ∀ (x0 x2 x3 x5 x6 x7 x8 x9 x10 x11 x12 x13 x14 x15 x16 x17 x18 x19 x20 x21 x22 x23 x24 x25 x26 x27 x28 x29 x30 x31 x32 x33 x34 x35 x36 x37 x38 x39 x40 x41 x42 x43 x44 x45 x46 x47 x48 x49 x50 x51 x52 x53 x54 x55 x56 x57 x58 x59 x60 x61 x62 x63 x64 x65 x66 x67 x68 x69 x70 x71 x72 x73 x74 x75 x76 x77 x78 x79 x80 x81 x82 x83 x84 x85 x86 x87 x88 x89 x90 x91 x92 x93 x94 x95 x96 x97 x98 x99 x100 x101 x102 x103 x104 x105 x106 x107 x108 x109 x110 x111 x112 x113 x114 x115 x116 x117 x118 x119 x120 x121 x122 x123 x124 x125 x126 x127 x128 x129 x130 x131 x132 x133 x134 x135 x136 x137 x138 x139 x140 x141 x142 x143 x144 x145 x146 x147 x148 x149 x150 x151 x152 x153 x154 x155 x156 x157 x158 x159 x160 : Value) (W : World), Ext w6 W → K7 (⟨#[x0, .slice p.At set.length p.ct, x2, x3, .pointer (some ⟨bE, 0, none⟩), x5, x6, x7, x8, x9, x10, x11, x12, x13, x14, x15, x16, x17, x18, x19, x20, x21, x22, x23, x24, x25, x26, x27, x28, x29, x30, x31, x32, x33, x34, x35, x36, x37, x38, x39, x40, x41, x42, x43, x44, x45, x46, x47, x48, x49, x50, x51, x52, x53, x54, x55, x56, x57, x58, x59, x60, x61, x62, x63, x64, x65, x66, x67, x68, x69, x70, x71, x72, x73, x74, x75, x76, x77, x78, x79, x80, x81, x82, x83, x84, x85, x86, x87, x88, x89, x90, x91, x92, x93, x94, x95, x96, x97, x98, x99, x100, x101, x102, x103, x104, x105, x106, x107, x108, x109, x110, x111, x112, x113, x114, x115, x116, x117, x118, x119, x120, x121, x122, x123, x124, x125, x126, x127, x128, x129, x130, x131, x132, x133, x134, x135, x136, x137, x138, x139, x140, x141, x142, x143, x144, x145, x146, x147, x148, x149, x150, x151, x152, x153, x154, x155, x156, x157, x158, x159, x160], []⟩ : Act) W := by
                intro x0 x2 x3 x5 x6 x7 x8 x9 x10 x11 x12 x13 x14 x15 x16 x17 x18 x19 x20 x21 x22 x23 x24 x25 x26 x27 x28 x29 x30 x31 x32 x33 x34 x35 x36 x37 x38 x39 x40 x41 x42 x43 x44 x45 x46 x47 x48 x49 x50 x51 x52 x53 x54 x55 x56 x57 x58 x59 x60 x61 x62 x63 x64 x65 x66 x67 x68 x69 x70 x71 x72 x73 x74 x75 x76 x77 x78 x79 x80 x81 x82 x83 x84 x85 x86 x87 x88 x89 x90 x91 x92 x93 x94 x95 x96 x97 x98 x99 x100 x101 x102 x103 x104 x105 x106 x107 x108 x109 x110 x111 x112 x113 x114 x115 x116 x117 x118 x119 x120 x121 x122 x123 x124 x125 x126 x127 x128 x129 x130 x131 x132 x133 x134 x135 x136 x137 x138 x139 x140 x141 x142 x143 x144 x145 x146 x147 x148 x149 x150 x151 x152 x153 x154 x155 x156 x157 x158 x159 x160 W7 hX7
                refine HK7.out _ _ ?_
                clear HK7 HK0 HS0 HK1 HS1 HK2 HS2
                go_wp2_with fail
                go_loopw [14] (fun i wr => ∃ k : Nat, k ≤ set.length ∧ i = .int .i64 k ∧ Ext w6 wr) (fun i _ => set.length - (intOf i).toNat)
                case atStart => exact ⟨0, Nat.zero_le _, rfl, hX7⟩
                case round =>
                  clear hX7
                  obtain ⟨k, hk, rfl, hX⟩ := hrel
                  have HX := Lib.hid hX
                  have HMr := Lib.hid (HM.out.ext (HE6.out.trans hX))
                  have HRr := Lib.hid (HRE.out.ext hX)
                  clear hX
                  by_cases hlt : k < set.length
                  · obtain ⟨bs, os, e2, p2⟩ := HMr.out.set (by omega)
                    have hsk := HSA.out k hlt
                    obtain ⟨bf, of, e1, p1⟩ := HMr.out.eng.feasts (by omega)
                    have a2 := p2 k hlt
                    have a1 := p1 (rd set k).toNat (by omega)
                    have hfo := HFO.out k hlt
                    have hst := HST.out k hlt
                    unfold Ec.feastOf at hfo hst
                    have HOF1 := Lib.hid (fun d hd W h => HOF.out d hd W h)
                    rw [e1] at HRr
                    simp only [e1, e2] at HOF1
                    rw [e2]
                    have HA1 := Lib.hid e1
                    have HA2 := Lib.hid e2
                    clear p1 p2 e1 e2
                    obtain ⟨s, hs⟩ : ∃ s, rd set k = s := ⟨_, rfl⟩
                    rw [hs] at hsk a1 a2 hfo hst
                    obtain ⟨f, hf⟩ : ∃ f, rd e.feasts s.toNat = f := ⟨_, rfl⟩
                    rw [hf] at a1 hfo hst
                    clear hs hf
                    have bq := HRr.out.cell
                    have a1' := a1
                    have a2' := a2
                    by_cases hbig : 9000 < f
                    · go_wp2_with fail
                      go_quiet (fail)
                      go_wp2_with fail
                      refine ⟨⟨k + 1, by omega, by go_num, HX.out.drewN _⟩, by simp [intOf]; omega⟩
                    · have HOFF := Lib.hid (fun W h => HOF1.out f (eday_mk (by omega) (by omega)) W h)
                      rw [hst.1, hst.2.1, hst.2.2] at HOFF
                      have HKN : Hid ((0 : Int) ≤ k ∧ (k : Int) < set.length) := Lib.hid ⟨by omega, by omega⟩
                      have HSN : Hid ((0 : Int) ≤ s ∧ s < (e.feasts.length : Int)) := Lib.hid ⟨by omega, by omega⟩
                      go_wp2_with fail
                      go_quiet (fail)
                      go_wp2_with fail
                      obtain ⟨wq, hwq⟩ : ∃ W, wr.drewN nq = W := ⟨_, rfl⟩
                      have hDq : Ext wr wq := by rw [← hwq]; exact (Ext.refl _).drewN _
                      rw [hwq]
                      have HRq := Lib.hid (HRr.out.ext hDq)
                      have HCS := Lib.hid (hDq.cell a2')
                      have HCF := Lib.hid (hDq.cell a1')
                      have HMq := Lib.hid (HMr.out.ext hDq)
                      have HXq := Lib.hid (HX.out.trans hDq)
                      clear hwq hDq a1 a2 a1' a2' bq
                      refine wp_stop (fun K13 hK13 => ?_)
                      have HB2 : ∀ (y8 y124 y125 y126 y127 y128 y129 y130 y131 y132 y133 y134 y135 y136 y137 y138 y139 y140 y141 y142 y143 y144 y145 y146 y147 y148 y149 y150 y151 y152 y153 y154 y155 y156 y157 y158 y159 : Value) (g : Nat) (W : World), Ext wq W → Row W g 39 #[.int .i64 0, .int .i64 0, .int .i64 0] → K13 .normal (⟨#[x0, .slice (some ⟨bs, os, none⟩) set.length p.ct, x2, x3, .pointer (some ⟨bE, 0, none⟩), x5, x6, x7, y8, x9, x10, x11, x12, x13, .int .i64 (k : Int), .pointer (some ⟨g, 0, none⟩), .int .i64 0, x17, x18, x19, x20, x21, x22, x23, x24, x25, x26, x27, x28, x29, x30, x31, x32, x33, x34, x35, x36, x37, x38, x39, x40, x41, x42, x43, x44, x45, x46, x47, x48, x49, x50, x51, x52, x53, x54, x55, x56, x57, x58, x59, x60, x61, x62, x63, x64, x65, x66, x67, x68, x69, x70, x71, x72, x73, x74, x75, x76, x77, x78, x79, x80, x81, x82, x83, x84, x85, x86, x87, x88, x89, x90, x91, x92, x93, x94, x95, x96, x97, x98, x99, x100, x101, x102, x103, x104, x105, x106, x107, x108, x109, x110, x111, x112, x113, x114, x115, x116, x117, x118, x119, x120, x121, x122, x123, y124, y125, y126, y127, y128, y129, y130, y131, y132, y133, y134, y135, y136, y137, y138, y139, y140, y141, y142, y143, y144, y145, y146, y147, y148, y149, y150, y151, y152, y153, y154, y155, y156, y157, y158, y159, x160], []⟩ : Act) W := by
                        intro y8 y124 y125 y126 y127 y128 y129 y130 y131 y132 y133 y134 y135 y136 y137 y138 y139 y140 y141 y142 y143 y144 y145 y146 y147 y148 y149 y150 y151 y152 y153 y154 y155 y156 y157 y158 y159 g W hXW hRW
                        refine hK13 _ _ _ ?_
                        dsimp only [Exit.then]
                        apply_assumption
                        have cg := hRW.cell
                        have hne := fun w => neq_hands_self 0 0 0 w
                        go_wp2_with fail
                        refine ⟨⟨k + 1, by omega, by go_num, HXq.out.trans hXW⟩, by simp [intOf]; omega⟩
                      have HB3 := Lib.hid HB2
                      clear hK13 HB2
                      refine wp_region_free_tail 15 13 (keptΨ p e set f s k bE bs os bf of wq) (by kernel_rfl) (by simp) (by kernel_rfl) (by kernel_rfl) (by kernel_rfl) (by kernel_rfl) keptΨ_mono ?hob ?hQ ?hZ
                      case hob =>
                        intro i o hin ho a wa hE hF
                        match i, hin with
                        | 0, _ =>
                          obtain rfl := Option.some.inj ho
                          have h0 : a.tmps[4]?.getD undef = .pointer (some ⟨bE, 0, none⟩) := evalD (hF.old 4 (by decide))
                          have q := (Row.ext (HRq.out) hE).cell
                          refine Ran.value rfl (v := .agg #[.slice p.Ab e.sky.bodies.length p.cb, .int .i64 e.sky.nnum, .int .i64 e.sky.nden, .int .i64 e.sky.nstart, .slice p.As e.sun.length p.cs, .slice p.Am e.moon.length p.cm, .slice p.An e.node.length p.cn, .slice (some ⟨bf, of, none⟩) e.feasts.length p.cf, .int .i64 e.nw, .int .i64 e.fl, .int .i64 e.wide]) (w1 := wa) ?_ ⟨rfl, Ext.refl _⟩
                          go_simp
                        | 1, _ =>
                          obtain rfl := Option.some.inj ho
                          have h0 : a.tmps[1]?.getD undef = .slice (some ⟨bs, os, none⟩) set.length p.ct := evalD (hF.old 1 (by decide))
                          refine Ran.value rfl (v := .slice (some ⟨bs, os, none⟩) set.length p.ct) (w1 := wa) ?_ ⟨rfl, Ext.refl _⟩
                          go_simp
                        | 2, _ =>
                          obtain rfl := Option.some.inj ho
                          have h0 : a.tmps[4]?.getD undef = .pointer (some ⟨bE, 0, none⟩) := evalD (hF.old 4 (by decide))
                          refine Ran.value rfl (v := .pointer (some ⟨bE, 7, none⟩)) (w1 := wa) ?_ ⟨rfl, Ext.refl _⟩
                          go_simp
                        | 3, _ =>
                          obtain rfl := Option.some.inj ho
                          have h0 : a.tmps[142]?.getD undef = .pointer (some ⟨bE, 7, none⟩) := evalD ((hF.from_ 2 142 rfl (by decide)))
                          have q := (Row.ext (HRq.out) hE).cell
                          refine Ran.value rfl (v := .slice (some ⟨bf, of, none⟩) e.feasts.length p.cf) (w1 := wa) ?_ ⟨rfl, Ext.refl _⟩
                          go_simp
                        | 4, _ =>
                          obtain rfl := Option.some.inj ho
                          have h0 : a.tmps[1]?.getD undef = .slice (some ⟨bs, os, none⟩) set.length p.ct := evalD (hF.old 1 (by decide))
                          refine Ran.value rfl (v := .slice (some ⟨bs, os, none⟩) set.length p.ct) (w1 := wa) ?_ ⟨rfl, Ext.refl _⟩
                          go_simp
                        | 5, _ =>
                          obtain rfl := Option.some.inj ho
                          have h0 : a.tmps[14]?.getD undef = .int .i64 (k : Int) := evalD (hF.old 14 (by decide))
                          refine Ran.value rfl (v := .int .i64 (k : Int)) (w1 := wa) ?_ ⟨rfl, Ext.refl _⟩
                          go_simp
                        | 6, _ =>
                          obtain rfl := Option.some.inj ho
                          have h0 : a.tmps[144]?.getD undef = .slice (some ⟨bs, os, none⟩) set.length p.ct := evalD ((hF.from_ 4 144 rfl (by decide)))
                          have h1 : a.tmps[145]?.getD undef = .int .i64 (k : Int) := evalD ((hF.from_ 5 145 rfl (by decide)))
                          refine Ran.value rfl (v := .pointer (some ⟨bs, os + k, none⟩)) (w1 := wa) ?_ ⟨rfl, Ext.refl _⟩
                          have hk := HKN.out
                          go_simp
                        | 7, _ =>
                          obtain rfl := Option.some.inj ho
                          have h0 : a.tmps[146]?.getD undef = .pointer (some ⟨bs, os + k, none⟩) := evalD (hF.from_ 6 146 rfl (by decide))
                          have q := hE.cell HCS.out
                          refine Ran.value rfl (v := .int .i64 s) (w1 := wa) ?_ ⟨rfl, Ext.refl _⟩
                          go_simp
                        | 8, _ =>
                          obtain rfl := Option.some.inj ho
                          have h0 : a.tmps[143]?.getD undef = .slice (some ⟨bf, of, none⟩) e.feasts.length p.cf := evalD ((hF.from_ 3 143 rfl (by decide)))
                          have h1 : a.tmps[147]?.getD undef = .int .i64 s := evalD ((hF.from_ 7 147 rfl (by decide)))
                          refine Ran.value rfl (v := .pointer (some ⟨bf, of + s.toNat, none⟩)) (w1 := wa) ?_ ⟨rfl, Ext.refl _⟩
                          have hs := HSN.out
                          go_simp
                        | 9, _ =>
                          obtain rfl := Option.some.inj ho
                          have h0 : a.tmps[148]?.getD undef = .pointer (some ⟨bf, of + s.toNat, none⟩) := evalD (hF.from_ 8 148 rfl (by decide))
                          have q := hE.cell HCF.out
                          refine Ran.value rfl (v := .int .i64 f) (w1 := wa) ?_ ⟨rfl, Ext.refl _⟩
                          go_simp
                        | 10, _ =>
                          obtain rfl := Option.some.inj ho
                          have h0 : a.tmps[140]?.getD undef = .agg #[.slice p.Ab e.sky.bodies.length p.cb, .int .i64 e.sky.nnum, .int .i64 e.sky.nden, .int .i64 e.sky.nstart, .slice p.As e.sun.length p.cs, .slice p.Am e.moon.length p.cm, .slice p.An e.node.length p.cn, .slice (some ⟨bf, of, none⟩) e.feasts.length p.cf, .int .i64 e.nw, .int .i64 e.fl, .int .i64 e.wide] := evalD ((hF.from_ 0 140 rfl (by decide)))
                          have h1 : a.tmps[141]?.getD undef = .slice (some ⟨bs, os, none⟩) set.length p.ct := evalD ((hF.from_ 1 141 rfl (by decide)))
                          have h2 : a.tmps[149]?.getD undef = .int .i64 f := evalD ((hF.from_ 9 149 rfl (by decide)))
                          refine Ran.enter rfl (f := 21) (args := #[.agg #[.slice p.Ab e.sky.bodies.length p.cb, .int .i64 e.sky.nnum, .int .i64 e.sky.nden, .int .i64 e.sky.nstart, .slice p.As e.sun.length p.cs, .slice p.Am e.moon.length p.cm, .slice p.An e.node.length p.cn, .slice (some ⟨bf, of, none⟩) e.feasts.length p.cf, .int .i64 e.nw, .int .i64 e.fl, .int .i64 e.wide], .slice (some ⟨bs, os, none⟩) set.length p.ct, .int .i64 f]) (w1 := wa) ?_ ?_
                          · go_simp
                          · refine (HOFF.out wa (HMq.out.ext hE)).mono ?_
                            rintro r w1 ⟨rfl, hX⟩
                            exact ⟨_, rfl, rfl, hX⟩
                        | 11, _ =>
                          obtain rfl := Option.some.inj ho
                          have h0 : a.tmps[150]?.getD undef = .tuple #[.agg #[.int .i64 0, .int .i64 0, .int .i64 0], .int .i64 0] := evalD ((hF.from_ 10 150 rfl (by decide)))
                          refine Ran.value rfl (v := .tuple #[.agg #[.int .i64 0, .int .i64 0, .int .i64 0], .int .i64 0]) (w1 := wa) ?_ ⟨rfl, Ext.refl _⟩
                          go_simp
                        | 12, _ =>
                          obtain rfl := Option.some.inj ho
                          have h0 : a.tmps[139]?.getD undef = .tuple #[.agg #[.int .i64 0, .int .i64 0, .int .i64 0], .int .i64 0] := evalD ((hF.from_ 11 139 rfl (by decide)))
                          refine Ran.value rfl (v := .agg #[.int .i64 0, .int .i64 0, .int .i64 0]) (w1 := wa) ?_ ⟨rfl, Ext.refl _⟩
                          go_simp
                        | 13, _ =>
                          obtain rfl := Option.some.inj ho
                          have h0 : a.tmps[139]?.getD undef = .tuple #[.agg #[.int .i64 0, .int .i64 0, .int .i64 0], .int .i64 0] := evalD ((hF.from_ 11 139 rfl (by decide)))
                          refine Ran.value rfl (v := .int .i64 0) (w1 := wa) ?_ ⟨rfl, Ext.refl _⟩
                          go_simp
                        | 14, _ =>
                          obtain rfl := Option.some.inj ho
                          refine Ran.value rfl (v := .pointer (some ⟨wa.heap.size, 0, none⟩)) (w1 := wa.alloc (.cells #[.int .i64 0, .int .i64 0, .int .i64 0] 39)) ?_ ⟨⟨wa.heap.size, rfl, hE.size, Row.new _ _ _⟩, (Ext.refl _).alloc _⟩
                          go_simp
                        | k + 15, hin => omega
                      case hQ =>
                        intro vs w2 hE hΦ
                        have f0 : vs 0 = .agg #[.slice p.Ab e.sky.bodies.length p.cb, .int .i64 e.sky.nnum, .int .i64 e.sky.nden, .int .i64 e.sky.nstart, .slice p.As e.sun.length p.cs, .slice p.Am e.moon.length p.cm, .slice p.An e.node.length p.cn, .slice (some ⟨bf, of, none⟩) e.feasts.length p.cf, .int .i64 e.nw, .int .i64 e.fl, .int .i64 e.wide] := hΦ 0 (by omega)
                        have f1 : vs 1 = .slice (some ⟨bs, os, none⟩) set.length p.ct := hΦ 1 (by omega)
                        have f2 : vs 2 = .pointer (some ⟨bE, 7, none⟩) := hΦ 2 (by omega)
                        have f3 : vs 3 = .slice (some ⟨bf, of, none⟩) e.feasts.length p.cf := hΦ 3 (by omega)
                        have f4 : vs 4 = .slice (some ⟨bs, os, none⟩) set.length p.ct := hΦ 4 (by omega)
                        have f5 : vs 5 = .int .i64 (k : Int) := hΦ 5 (by omega)
                        have f6 : vs 6 = .pointer (some ⟨bs, os + k, none⟩) := hΦ 6 (by omega)
                        have f7 : vs 7 = .int .i64 s := hΦ 7 (by omega)
                        have f8 : vs 8 = .pointer (some ⟨bf, of + s.toNat, none⟩) := hΦ 8 (by omega)
                        have f9 : vs 9 = .int .i64 f := hΦ 9 (by omega)
                        have f10 : vs 10 = .tuple #[.agg #[.int .i64 0, .int .i64 0, .int .i64 0], .int .i64 0] := hΦ 10 (by omega)
                        have f11 : vs 11 = .tuple #[.agg #[.int .i64 0, .int .i64 0, .int .i64 0], .int .i64 0] := hΦ 11 (by omega)
                        have f12 : vs 12 = .agg #[.int .i64 0, .int .i64 0, .int .i64 0] := hΦ 12 (by omega)
                        have f13 : vs 13 = .int .i64 0 := hΦ 13 (by omega)
                        obtain ⟨n14, f14, hb14, hr14⟩ : NewAt wq (vs 14) w2 39 #[.int .i64 0, .int .i64 0, .int .i64 0] := hΦ 14 (by omega)
                        have hrg : List.range 15 = [0, 1, 2, 3, 4, 5, 6, 7, 8, 9, 10, 11, 12, 13, 14] := rfl
                        unfold putAll putS
                        simp only [List.length_cons, List.length_nil, List.take_succ_cons, List.take_zero, List.drop_succ_cons, List.drop_zero, Nat.reduceAdd, hrg, List.foldl_cons, List.foldl_nil, dstOf, List.getElem?_cons_succ, List.getElem?_cons_zero, Option.bind_some]
                        clear hrg
                        rw [f0, f1, f2, f3, f4, f5, f6, f7, f8, f9, f10, f11, f12, f13, f14]
                        simp only [Act.put, List.setIfInBounds_toArray, List.set_cons_succ, List.set_cons_zero]
                        clear hΦ f0 f1 f2 f3 f4 f5 f6 f7 f8 f9 f10 f11 f12 f13 f14
                        have cg := hr14.cell
                        have zg := hr14.free
                        have hRW := ((hr14.set_ 0 (.int .i64 0)).set_ 1 (.int .i64 0)).set_ 2 (.int .i64 0)
                        have hXW := ((hE.setCell (p := ⟨n14, 0, none⟩) hb14 (.int .i64 0)).setCell (p := ⟨n14, 1, none⟩) hb14 (.int .i64 0)).setCell (p := ⟨n14, 2, none⟩) hb14 (.int .i64 0)
                        clear hE
                        go_wp2_with fail
                        exact HB3.out _ _ _ _ _ _ _ _ _ _ _ _ _ _ _ _ _ _ _ _ _ _ _ _ _ _ _ _ _ _ _ _ _ _ _ _ _ _ _ hXW hRW
                      case hZ =>
                        intro _ vs w2 hE hΦ on oz hon hoz
                        obtain rfl := Option.some.inj hon
                        obtain rfl := Option.some.inj hoz
                        have f0 : vs 0 = .agg #[.slice p.Ab e.sky.bodies.length p.cb, .int .i64 e.sky.nnum, .int .i64 e.sky.nden, .int .i64 e.sky.nstart, .slice p.As e.sun.length p.cs, .slice p.Am e.moon.length p.cm, .slice p.An e.node.length p.cn, .slice (some ⟨bf, of, none⟩) e.feasts.length p.cf, .int .i64 e.nw, .int .i64 e.fl, .int .i64 e.wide] := hΦ 0 (by omega) (by omega)
                        have f1 : vs 1 = .slice (some ⟨bs, os, none⟩) set.length p.ct := hΦ 1 (by omega) (by omega)
                        have f2 : vs 2 = .pointer (some ⟨bE, 7, none⟩) := hΦ 2 (by omega) (by omega)
                        have f3 : vs 3 = .slice (some ⟨bf, of, none⟩) e.feasts.length p.cf := hΦ 3 (by omega) (by omega)
                        have f4 : vs 4 = .slice (some ⟨bs, os, none⟩) set.length p.ct := hΦ 4 (by omega) (by omega)
                        have f5 : vs 5 = .int .i64 (k : Int) := hΦ 5 (by omega) (by omega)
                        have f6 : vs 6 = .pointer (some ⟨bs, os + k, none⟩) := hΦ 6 (by omega) (by omega)
                        have f7 : vs 7 = .int .i64 s := hΦ 7 (by omega) (by omega)
                        have f8 : vs 8 = .pointer (some ⟨bf, of + s.toNat, none⟩) := hΦ 8 (by omega) (by omega)
                        have f9 : vs 9 = .int .i64 f := hΦ 9 (by omega) (by omega)
                        have f10 : vs 10 = .tuple #[.agg #[.int .i64 0, .int .i64 0, .int .i64 0], .int .i64 0] := hΦ 10 (by omega) (by omega)
                        have f11 : vs 11 = .tuple #[.agg #[.int .i64 0, .int .i64 0, .int .i64 0], .int .i64 0] := hΦ 11 (by omega) (by omega)
                        have f12 : vs 12 = .agg #[.int .i64 0, .int .i64 0, .int .i64 0] := hΦ 12 (by omega) (by omega)
                        obtain ⟨n14, f14, hb14, hr14⟩ : NewAt wq (vs 14) w2 39 #[.int .i64 0, .int .i64 0, .int .i64 0] := hΦ 14 (by omega) (by omega)
                        have hrg : (List.range 15).filter (· ≠ 13) = [0, 1, 2, 3, 4, 5, 6, 7, 8, 9, 10, 11, 12, 14] := by decide
                        rw [hrg]
                        unfold putS
                        simp only [List.take_succ_cons, List.take_zero, List.drop_succ_cons, List.drop_zero, Nat.reduceAdd, List.foldl_cons, List.foldl_nil, dstOf, List.getElem?_cons_succ, List.getElem?_cons_zero, Option.bind_some]
                        clear hrg
                        rw [f0, f1, f2, f3, f4, f5, f6, f7, f8, f9, f10, f11, f12, f14]
                        simp only [Act.put, List.setIfInBounds_toArray, List.set_cons_succ, List.set_cons_zero]
                        clear hΦ f0 f1 f2 f3 f4 f5 f6 f7 f8 f9 f10 f11 f12 f14
                        have cg := hr14.cell
                        have zg := hr14.free
                        have hRW := ((hr14.set_ 0 (.int .i64 0)).set_ 1 (.int .i64 0)).set_ 2 (.int .i64 0)
                        have hXW := ((hE.setCell (p := ⟨n14, 0, none⟩) hb14 (.int .i64 0)).setCell (p := ⟨n14, 1, none⟩) hb14 (.int .i64 0)).setCell (p := ⟨n14, 2, none⟩) hb14 (.int .i64 0)
                        clear hE
                        go_wp2_with fail
                        exact HB3.out _ _ _ _ _ _ _ _ _ _ _ _ _ _ _ _ _ _ _ _ _ _ _ _ _ _ _ _ _ _ _ _ _ _ _ _ _ _ _ hXW hRW
                  · obtain rfl : k = set.length := by omega
                    go_wp2_with fail
                    refine (l7_known_any _ (HV.out.ext (HE6.out.trans HX.out))).mono ?_
                    rintro r w' ⟨rfl, hE'⟩
                    go_wp2_with fail
                    go_ret
                    exact ⟨rfl, (HE6.out.trans HX.out).trans hE'⟩
              have HCC := Lib.hid HC
              clear HC HK7 HST HSA HFO HOF
              have hlim : 0 ≤ limit ∧ limit ≤ 10800 := inR_iff.1 c5
              have HY6 : Hid (Ext w6 w6) := Lib.hid (Ext.refl _)
              have be6 := (HRE.out.ext HY6.out).cell
              have bo6 := (HROx.out.ext HY6.out).cell
              have b16 := (H11.out.ext HY6.out).cell
              have b26 := (H12.out.ext HY6.out).cell
              have b36 := (H13.out.ext HY6.out).cell
              cases k0 with
              | false =>
                go_wp2_with fail
                refine (HK0.out _ (HM.out.ext (HE6.out.trans HY6.out))).mono ?_
                rintro r w7 ⟨rfl, hE7⟩
                have HY7 := Lib.hid (HY6.out.trans hE7)
                clear hE7 be6 bo6 b16 b26 b36
                have be7 := (HRE.out.ext HY7.out).cell
                have bo7 := (HROx.out.ext HY7.out).cell
                have b17 := (H11.out.ext HY7.out).cell
                have b27 := (H12.out.ext HY7.out).cell
                have b37 := (H13.out.ext HY7.out).cell
                cases k1 with
                | false =>
                  go_wp2_with fail
                  refine (HK1.out _ (HM.out.ext (HE6.out.trans HY7.out))).mono ?_
                  rintro r w8 ⟨rfl, hE8⟩
                  have HY8 := Lib.hid (HY7.out.trans hE8)
                  clear hE8 be7 bo7 b17 b27 b37
                  have be8 := (HRE.out.ext HY8.out).cell
                  have bo8 := (HROx.out.ext HY8.out).cell
                  have b18 := (H11.out.ext HY8.out).cell
                  have b28 := (H12.out.ext HY8.out).cell
                  have b38 := (H13.out.ext HY8.out).cell
                  cases k2 with
                  | false =>
                    go_wp2_with fail
                    refine (HK2.out _ (HM.out.ext (HE6.out.trans HY8.out))).mono ?_
                    rintro r w9 ⟨rfl, hE9⟩
                    have HY9 := Lib.hid (HY8.out.trans hE9)
                    clear hE9 be8 bo8 b18 b28 b38
                    have be9 := (HRE.out.ext HY9.out).cell
                    have bo9 := (HROx.out.ext HY9.out).cell
                    have b19 := (H11.out.ext HY9.out).cell
                    have b29 := (H12.out.ext HY9.out).cell
                    have b39 := (H13.out.ext HY9.out).cell
                    go_wp2_with fail
                    exact HCC.out _ _ _ _ _ _ _ _ _ _ _ _ _ _ _ _ _ _ _ _ _ _ _ _ _ _ _ _ _ _ _ _ _ _ _ _ _ _ _ _ _ _ _ _ _ _ _ _ _ _ _ _ _ _ _ _ _ _ _ _ _ _ _ _ _ _ _ _ _ _ _ _ _ _ _ _ _ _ _ _ _ _ _ _ _ _ _ _ _ _ _ _ _ _ _ _ _ _ _ _ _ _ _ _ _ _ _ _ _ _ _ _ _ _ _ _ _ _ _ _ _ _ _ _ _ _ _ _ _ _ _ _ _ _ _ _ _ _ _ _ _ _ _ _ _ _ _ _ _ _ _ _ _ _ _ _ _ _ _ _ HY9.out
                  | true =>
                    go_wp2_with fail
                    refine (HK2.out _ (HM.out.ext (HE6.out.trans HY8.out))).mono ?_
                    rintro r w9 ⟨rfl, hE9⟩
                    have HY9 := Lib.hid (HY8.out.trans hE9)
                    clear hE9 be8 bo8 b18 b28 b38
                    have be9 := (HRE.out.ext HY9.out).cell
                    have bo9 := (HROx.out.ext HY9.out).cell
                    have b19 := (H11.out.ext HY9.out).cell
                    have b29 := (H12.out.ext HY9.out).cell
                    have b39 := (H13.out.ext HY9.out).cell
                    have hs := HS2.out (by first | rfl | trivial)
                    go_wp2_with fail
                    refine (l7_kept_any o2 limit _ (by omega) (by omega)).mono ?_
                    rintro r w' ⟨rfl, rfl⟩
                    rw [decide_eq_true (show o2 ≤ limit by omega), decide_eq_true (show -limit ≤ o2 by omega)]
                    clear hs
                    go_wp2_with fail
                    exact HCC.out _ _ _ _ _ _ _ _ _ _ _ _ _ _ _ _ _ _ _ _ _ _ _ _ _ _ _ _ _ _ _ _ _ _ _ _ _ _ _ _ _ _ _ _ _ _ _ _ _ _ _ _ _ _ _ _ _ _ _ _ _ _ _ _ _ _ _ _ _ _ _ _ _ _ _ _ _ _ _ _ _ _ _ _ _ _ _ _ _ _ _ _ _ _ _ _ _ _ _ _ _ _ _ _ _ _ _ _ _ _ _ _ _ _ _ _ _ _ _ _ _ _ _ _ _ _ _ _ _ _ _ _ _ _ _ _ _ _ _ _ _ _ _ _ _ _ _ _ _ _ _ _ _ _ _ _ _ _ _ _ HY9.out
                | true =>
                  go_wp2_with fail
                  refine (HK1.out _ (HM.out.ext (HE6.out.trans HY7.out))).mono ?_
                  rintro r w8 ⟨rfl, hE8⟩
                  have HY8 := Lib.hid (HY7.out.trans hE8)
                  clear hE8 be7 bo7 b17 b27 b37
                  have be8 := (HRE.out.ext HY8.out).cell
                  have bo8 := (HROx.out.ext HY8.out).cell
                  have b18 := (H11.out.ext HY8.out).cell
                  have b28 := (H12.out.ext HY8.out).cell
                  have b38 := (H13.out.ext HY8.out).cell
                  have hs := HS1.out (by first | rfl | trivial)
                  go_wp2_with fail
                  refine (l7_kept_any o1 limit _ (by omega) (by omega)).mono ?_
                  rintro r w' ⟨rfl, rfl⟩
                  rw [decide_eq_true (show o1 ≤ limit by omega), decide_eq_true (show -limit ≤ o1 by omega)]
                  clear hs
                  cases k2 with
                  | false =>
                    go_wp2_with fail
                    refine (HK2.out _ (HM.out.ext (HE6.out.trans HY8.out))).mono ?_
                    rintro r w9 ⟨rfl, hE9⟩
                    have HY9 := Lib.hid (HY8.out.trans hE9)
                    clear hE9 be8 bo8 b18 b28 b38
                    have be9 := (HRE.out.ext HY9.out).cell
                    have bo9 := (HROx.out.ext HY9.out).cell
                    have b19 := (H11.out.ext HY9.out).cell
                    have b29 := (H12.out.ext HY9.out).cell
                    have b39 := (H13.out.ext HY9.out).cell
                    go_wp2_with fail
                    exact HCC.out _ _ _ _ _ _ _ _ _ _ _ _ _ _ _ _ _ _ _ _ _ _ _ _ _ _ _ _ _ _ _ _ _ _ _ _ _ _ _ _ _ _ _ _ _ _ _ _ _ _ _ _ _ _ _ _ _ _ _ _ _ _ _ _ _ _ _ _ _ _ _ _ _ _ _ _ _ _ _ _ _ _ _ _ _ _ _ _ _ _ _ _ _ _ _ _ _ _ _ _ _ _ _ _ _ _ _ _ _ _ _ _ _ _ _ _ _ _ _ _ _ _ _ _ _ _ _ _ _ _ _ _ _ _ _ _ _ _ _ _ _ _ _ _ _ _ _ _ _ _ _ _ _ _ _ _ _ _ _ _ HY9.out
                  | true =>
                    go_wp2_with fail
                    refine (HK2.out _ (HM.out.ext (HE6.out.trans HY8.out))).mono ?_
                    rintro r w9 ⟨rfl, hE9⟩
                    have HY9 := Lib.hid (HY8.out.trans hE9)
                    clear hE9 be8 bo8 b18 b28 b38
                    have be9 := (HRE.out.ext HY9.out).cell
                    have bo9 := (HROx.out.ext HY9.out).cell
                    have b19 := (H11.out.ext HY9.out).cell
                    have b29 := (H12.out.ext HY9.out).cell
                    have b39 := (H13.out.ext HY9.out).cell
                    have hs := HS2.out (by first | rfl | trivial)
                    go_wp2_with fail
                    refine (l7_kept_any o2 limit _ (by omega) (by omega)).mono ?_
                    rintro r w' ⟨rfl, rfl⟩
                    rw [decide_eq_true (show o2 ≤ limit by omega), decide_eq_true (show -limit ≤ o2 by omega)]
                    clear hs
                    go_wp2_with fail
                    exact HCC.out _ _ _ _ _ _ _ _ _ _ _ _ _ _ _ _ _ _ _ _ _ _ _ _ _ _ _ _ _ _ _ _ _ _ _ _ _ _ _ _ _ _ _ _ _ _ _ _ _ _ _ _ _ _ _ _ _ _ _ _ _ _ _ _ _ _ _ _ _ _ _ _ _ _ _ _ _ _ _ _ _ _ _ _ _ _ _ _ _ _ _ _ _ _ _ _ _ _ _ _ _ _ _ _ _ _ _ _ _ _ _ _ _ _ _ _ _ _ _ _ _ _ _ _ _ _ _ _ _ _ _ _ _ _ _ _ _ _ _ _ _ _ _ _ _ _ _ _ _ _ _ _ _ _ _ _ _ _ _ _ HY9.out
              | true =>
                go_wp2_with fail
                refine (HK0.out _ (HM.out.ext (HE6.out.trans HY6.out))).mono ?_
                rintro r w7 ⟨rfl, hE7⟩
                have HY7 := Lib.hid (HY6.out.trans hE7)
                clear hE7 be6 bo6 b16 b26 b36
                have be7 := (HRE.out.ext HY7.out).cell
                have bo7 := (HROx.out.ext HY7.out).cell
                have b17 := (H11.out.ext HY7.out).cell
                have b27 := (H12.out.ext HY7.out).cell
                have b37 := (H13.out.ext HY7.out).cell
                have hs := HS0.out (by first | rfl | trivial)
                go_wp2_with fail
                refine (l7_kept_any o0 limit _ (by omega) (by omega)).mono ?_
                rintro r w' ⟨rfl, rfl⟩
                rw [decide_eq_true (show o0 ≤ limit by omega), decide_eq_true (show -limit ≤ o0 by omega)]
                clear hs
                cases k1 with
                | false =>
                  go_wp2_with fail
                  refine (HK1.out _ (HM.out.ext (HE6.out.trans HY7.out))).mono ?_
                  rintro r w8 ⟨rfl, hE8⟩
                  have HY8 := Lib.hid (HY7.out.trans hE8)
                  clear hE8 be7 bo7 b17 b27 b37
                  have be8 := (HRE.out.ext HY8.out).cell
                  have bo8 := (HROx.out.ext HY8.out).cell
                  have b18 := (H11.out.ext HY8.out).cell
                  have b28 := (H12.out.ext HY8.out).cell
                  have b38 := (H13.out.ext HY8.out).cell
                  cases k2 with
                  | false =>
                    go_wp2_with fail
                    refine (HK2.out _ (HM.out.ext (HE6.out.trans HY8.out))).mono ?_
                    rintro r w9 ⟨rfl, hE9⟩
                    have HY9 := Lib.hid (HY8.out.trans hE9)
                    clear hE9 be8 bo8 b18 b28 b38
                    have be9 := (HRE.out.ext HY9.out).cell
                    have bo9 := (HROx.out.ext HY9.out).cell
                    have b19 := (H11.out.ext HY9.out).cell
                    have b29 := (H12.out.ext HY9.out).cell
                    have b39 := (H13.out.ext HY9.out).cell
                    go_wp2_with fail
                    exact HCC.out _ _ _ _ _ _ _ _ _ _ _ _ _ _ _ _ _ _ _ _ _ _ _ _ _ _ _ _ _ _ _ _ _ _ _ _ _ _ _ _ _ _ _ _ _ _ _ _ _ _ _ _ _ _ _ _ _ _ _ _ _ _ _ _ _ _ _ _ _ _ _ _ _ _ _ _ _ _ _ _ _ _ _ _ _ _ _ _ _ _ _ _ _ _ _ _ _ _ _ _ _ _ _ _ _ _ _ _ _ _ _ _ _ _ _ _ _ _ _ _ _ _ _ _ _ _ _ _ _ _ _ _ _ _ _ _ _ _ _ _ _ _ _ _ _ _ _ _ _ _ _ _ _ _ _ _ _ _ _ _ HY9.out
                  | true =>
                    go_wp2_with fail
                    refine (HK2.out _ (HM.out.ext (HE6.out.trans HY8.out))).mono ?_
                    rintro r w9 ⟨rfl, hE9⟩
                    have HY9 := Lib.hid (HY8.out.trans hE9)
                    clear hE9 be8 bo8 b18 b28 b38
                    have be9 := (HRE.out.ext HY9.out).cell
                    have bo9 := (HROx.out.ext HY9.out).cell
                    have b19 := (H11.out.ext HY9.out).cell
                    have b29 := (H12.out.ext HY9.out).cell
                    have b39 := (H13.out.ext HY9.out).cell
                    have hs := HS2.out (by first | rfl | trivial)
                    go_wp2_with fail
                    refine (l7_kept_any o2 limit _ (by omega) (by omega)).mono ?_
                    rintro r w' ⟨rfl, rfl⟩
                    rw [decide_eq_true (show o2 ≤ limit by omega), decide_eq_true (show -limit ≤ o2 by omega)]
                    clear hs
                    go_wp2_with fail
                    exact HCC.out _ _ _ _ _ _ _ _ _ _ _ _ _ _ _ _ _ _ _ _ _ _ _ _ _ _ _ _ _ _ _ _ _ _ _ _ _ _ _ _ _ _ _ _ _ _ _ _ _ _ _ _ _ _ _ _ _ _ _ _ _ _ _ _ _ _ _ _ _ _ _ _ _ _ _ _ _ _ _ _ _ _ _ _ _ _ _ _ _ _ _ _ _ _ _ _ _ _ _ _ _ _ _ _ _ _ _ _ _ _ _ _ _ _ _ _ _ _ _ _ _ _ _ _ _ _ _ _ _ _ _ _ _ _ _ _ _ _ _ _ _ _ _ _ _ _ _ _ _ _ _ _ _ _ _ _ _ _ _ _ HY9.out
                | true =>
                  go_wp2_with fail
                  refine (HK1.out _ (HM.out.ext (HE6.out.trans HY7.out))).mono ?_
                  rintro r w8 ⟨rfl, hE8⟩
                  have HY8 := Lib.hid (HY7.out.trans hE8)
                  clear hE8 be7 bo7 b17 b27 b37
                  have be8 := (HRE.out.ext HY8.out).cell
                  have bo8 := (HROx.out.ext HY8.out).cell
                  have b18 := (H11.out.ext HY8.out).cell
                  have b28 := (H12.out.ext HY8.out).cell
                  have b38 := (H13.out.ext HY8.out).cell
                  have hs := HS1.out (by first | rfl | trivial)
                  go_wp2_with fail
                  refine (l7_kept_any o1 limit _ (by omega) (by omega)).mono ?_
                  rintro r w' ⟨rfl, rfl⟩
                  rw [decide_eq_true (show o1 ≤ limit by omega), decide_eq_true (show -limit ≤ o1 by omega)]
                  clear hs
                  cases k2 with
                  | false =>
                    go_wp2_with fail
                    refine (HK2.out _ (HM.out.ext (HE6.out.trans HY8.out))).mono ?_
                    rintro r w9 ⟨rfl, hE9⟩
                    have HY9 := Lib.hid (HY8.out.trans hE9)
                    clear hE9 be8 bo8 b18 b28 b38
                    have be9 := (HRE.out.ext HY9.out).cell
                    have bo9 := (HROx.out.ext HY9.out).cell
                    have b19 := (H11.out.ext HY9.out).cell
                    have b29 := (H12.out.ext HY9.out).cell
                    have b39 := (H13.out.ext HY9.out).cell
                    go_wp2_with fail
                    exact HCC.out _ _ _ _ _ _ _ _ _ _ _ _ _ _ _ _ _ _ _ _ _ _ _ _ _ _ _ _ _ _ _ _ _ _ _ _ _ _ _ _ _ _ _ _ _ _ _ _ _ _ _ _ _ _ _ _ _ _ _ _ _ _ _ _ _ _ _ _ _ _ _ _ _ _ _ _ _ _ _ _ _ _ _ _ _ _ _ _ _ _ _ _ _ _ _ _ _ _ _ _ _ _ _ _ _ _ _ _ _ _ _ _ _ _ _ _ _ _ _ _ _ _ _ _ _ _ _ _ _ _ _ _ _ _ _ _ _ _ _ _ _ _ _ _ _ _ _ _ _ _ _ _ _ _ _ _ _ _ _ _ HY9.out
                  | true =>
                    go_wp2_with fail
                    refine (HK2.out _ (HM.out.ext (HE6.out.trans HY8.out))).mono ?_
                    rintro r w9 ⟨rfl, hE9⟩
                    have HY9 := Lib.hid (HY8.out.trans hE9)
                    clear hE9 be8 bo8 b18 b28 b38
                    have be9 := (HRE.out.ext HY9.out).cell
                    have bo9 := (HROx.out.ext HY9.out).cell
                    have b19 := (H11.out.ext HY9.out).cell
                    have b29 := (H12.out.ext HY9.out).cell
                    have b39 := (H13.out.ext HY9.out).cell
                    have hs := HS2.out (by first | rfl | trivial)
                    go_wp2_with fail
                    refine (l7_kept_any o2 limit _ (by omega) (by omega)).mono ?_
                    rintro r w' ⟨rfl, rfl⟩
                    rw [decide_eq_true (show o2 ≤ limit by omega), decide_eq_true (show -limit ≤ o2 by omega)]
                    clear hs
                    go_wp2_with fail
                    exact HCC.out _ _ _ _ _ _ _ _ _ _ _ _ _ _ _ _ _ _ _ _ _ _ _ _ _ _ _ _ _ _ _ _ _ _ _ _ _ _ _ _ _ _ _ _ _ _ _ _ _ _ _ _ _ _ _ _ _ _ _ _ _ _ _ _ _ _ _ _ _ _ _ _ _ _ _ _ _ _ _ _ _ _ _ _ _ _ _ _ _ _ _ _ _ _ _ _ _ _ _ _ _ _ _ _ _ _ _ _ _ _ _ _ _ _ _ _ _ _ _ _ _ _ _ _ _ _ _ _ _ _ _ _ _ _ _ _ _ _ _ _ _ _ _ _ _ _ _ _ _ _ _ _ _ _ _ _ _ _ _ _ HY9.out
end Go.Proofs.YtcbodpnmndbgnaaGreatDoor
