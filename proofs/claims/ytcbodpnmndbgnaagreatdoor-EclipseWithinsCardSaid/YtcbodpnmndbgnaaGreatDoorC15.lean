/- Volume 15 of the texts that the laws of this seat use: EcRef12: walks of the program's functions, and plain laws. -/
import Derived.Carry
import Derived.Test.YtcbodpnmndbgnaaGreatDoorC13
import Derived.Test.YtcbodpnmndbgnaaGreatDoorC14
import Derived.Test.YtcbodpnmndbgnaaGreatDoorC05
import Derived.Test.YtcbodpnmndbgnaaGreatDoorC06
namespace Go.Proofs.YtcbodpnmndbgnaaGreatDoor
open Go.RowKit
open Sp (rd)
set_option maxRecDepth 100000
set_option maxHeartbeats 2000000
set_option linter.unusedVariables false
theorem real_days (e : Ec.Engine) {lo hi : Int} (h1 : 0 ≤ lo) (h3 : hi ≤ 20000) : DaysIn (Ec.realL e lo hi) := fun y hy => by
  obtain ⟨a, b, _⟩ := (Ec.ecls_mem ..).1 hy
  omega
theorem fore_days (e : Ec.Engine) (set : List Int) {lo hi : Int} (h1 : 0 ≤ lo) (h3 : hi ≤ 20000) : DaysIn (Ec.foreL e set lo hi) := fun y hy => by
  obtain ⟨a, b, _⟩ := (Ec.foreL_mem ..).1 hy
  omega
theorem fore_few (e : Ec.Engine) (set : List Int) {lo hi : Int} (h1 : 1 ≤ lo) (h3 : hi ≤ 20000) : (Ec.foreL e set lo hi).length ≤ 100000 := by
  have := foreN_len e set lo (hi + 1 - lo).toNat
  show (Ec.foreN e set lo (hi + 1 - lo).toNat).length ≤ 100000
  omega
theorem real_few (e : Ec.Engine) {lo hi : Int} (h1 : 1 ≤ lo) (h3 : hi ≤ 20000) : (Ec.realL e lo hi).length ≤ 100000 := by
  have h := ecls_le e.sky e.nw e.fl (Sp.moonsL e.sky lo hi)
  have h2 := moonsN_le e.sky lo (hi + 1 - lo).toNat
  rw [show Sp.moonsN e.sky lo (hi + 1 - lo).toNat = Sp.moonsL e.sky lo hi from rfl] at h2
  show (Sp.eclsOf e.sky e.nw e.fl (Sp.moonsL e.sky lo hi)).length ≤ 100000
  omega
def rmissΦ (p : EP) (e : Ec.Engine) (set : List Int) (lo hi late : Int) (bE : Nat) (w0 : World) (i : Nat) (v : Value) (w : World) : Prop :=
  match i with
  | 0 => v = .agg #[.slice p.Ab e.sky.bodies.length p.cb, .int .i64 e.sky.nnum, .int .i64 e.sky.nden, .int .i64 e.sky.nstart, .slice p.As e.sun.length p.cs, .slice p.Am e.moon.length p.cm, .slice p.An e.node.length p.cn, .slice p.Af e.feasts.length p.cf, .int .i64 e.nw, .int .i64 e.fl, .int .i64 e.wide]
  | 1 => v = .int .i64 lo
  | 2 => v = .int .i64 hi
  | 3 => EclVal w v (Ec.realL e lo hi)
  | 4 => v = .agg #[.slice p.Ab e.sky.bodies.length p.cb, .int .i64 e.sky.nnum, .int .i64 e.sky.nden, .int .i64 e.sky.nstart, .slice p.As e.sun.length p.cs, .slice p.Am e.moon.length p.cm, .slice p.An e.node.length p.cn, .slice p.Af e.feasts.length p.cf, .int .i64 e.nw, .int .i64 e.fl, .int .i64 e.wide]
  | 5 => v = .slice p.At set.length p.ct
  | 6 => v = .int .i64 lo
  | 7 => v = .int .i64 late
  | 8 => v = .int .i64 (lo - late)
  | 9 => v = .int .i64 (max 1 (lo - late))
  | 10 => v = .int .i64 hi
  | 11 => v = .int .i64 late
  | 12 => v = .int .i64 (hi + late)
  | 13 => EclVal w v (Ec.foreL e set (max 1 (lo - late)) (hi + late))
  | 14 => v = .int .i64 late
  | 15 => EclVal w v (Ec.without (Ec.realL e lo hi) (Ec.foreL e set (max 1 (lo - late)) (hi + late)) late)
  | _ => EclVal w v (Ec.without (Ec.realL e lo hi) (Ec.foreL e set (max 1 (lo - late)) (hi + late)) late)
theorem rmissΦ_mono {p : EP} {e : Ec.Engine} {set : List Int} {lo hi late : Int} {bE : Nat} {w0 : World} (i : Nat) (v : Value) (w w' : World) (h : rmissΦ p e set lo hi late bE w0 i v w) (he : Ext w w') : rmissΦ p e set lo hi late bE w0 i v w' := by
  unfold rmissΦ at h ⊢
  split at h <;> first
    | exact h
    | exact EclVal.ext h he
    | exact MkAt.ext h he
    | exact fun hg => MkAt.ext (h hg) he
def rwithΦ (p : EP) (e : Ec.Engine) (set : List Int) (lo hi : Int) (bE : Nat) (w0 : World) (i : Nat) (v : Value) (w : World) : Prop :=
  match i with
  | 0 => v = .agg #[.slice p.Ab e.sky.bodies.length p.cb, .int .i64 e.sky.nnum, .int .i64 e.sky.nden, .int .i64 e.sky.nstart, .slice p.As e.sun.length p.cs, .slice p.Am e.moon.length p.cm, .slice p.An e.node.length p.cn, .slice p.Af e.feasts.length p.cf, .int .i64 e.nw, .int .i64 e.fl, .int .i64 e.wide]
  | 1 => v = .int .i64 lo
  | 2 => v = .int .i64 hi
  | 3 => EclVal w v (Ec.realL e lo hi)
  | 4 => v = .agg #[.slice p.Ab e.sky.bodies.length p.cb, .int .i64 e.sky.nnum, .int .i64 e.sky.nden, .int .i64 e.sky.nstart, .slice p.As e.sun.length p.cs, .slice p.Am e.moon.length p.cm, .slice p.An e.node.length p.cn, .slice p.Af e.feasts.length p.cf, .int .i64 e.nw, .int .i64 e.fl, .int .i64 e.wide]
  | 5 => v = .slice p.At set.length p.ct
  | 6 => v = .int .i64 lo
  | 7 => v = .int .i64 (lo - 30)
  | 8 => v = .int .i64 (max 1 (lo - 30))
  | 9 => v = .int .i64 hi
  | 10 => v = .int .i64 (hi + 30)
  | 11 => EclVal w v (Ec.foreL e set (max 1 (lo - 30)) (hi + 30))
  | 12 => EclVal w v (Ec.realL e lo hi)
  | _ => EclVal w v (Ec.foreL e set (max 1 (lo - 30)) (hi + 30))
theorem rwithΦ_mono {p : EP} {e : Ec.Engine} {set : List Int} {lo hi : Int} {bE : Nat} {w0 : World} (i : Nat) (v : Value) (w w' : World) (h : rwithΦ p e set lo hi bE w0 i v w) (he : Ext w w') : rwithΦ p e set lo hi bE w0 i v w' := by
  unfold rwithΦ at h ⊢
  split at h <;> first
    | exact h
    | exact EclVal.ext h he
    | exact MkAt.ext h he
    | exact fun hg => MkAt.ext (h hg) he
theorem r7_Missed_any (p : EP) (e : Ec.Engine) (set : List Int) (lo hi late : Int) (w : World) (hm : EngSet w p e set) (c0 : Ec.engineOk e = true) (c1 : Ec.setOk e.feasts set = true) (h1 : 1 ≤ lo) (h2 : lo ≤ hi) (h3 : hi ≤ 9000) (h4 : 0 ≤ late) (h5 : late ≤ 30) :
    Calls Tryz.prog 52 #[.agg #[.slice p.Ab e.sky.bodies.length p.cb, .int .i64 e.sky.nnum, .int .i64 e.sky.nden, .int .i64 e.sky.nstart, .slice p.As e.sun.length p.cs, .slice p.Am e.moon.length p.cm, .slice p.An e.node.length p.cn, .slice p.Af e.feasts.length p.cf, .int .i64 e.nw, .int .i64 e.fl, .int .i64 e.wide], .slice p.At set.length p.ct, .int .i64 lo, .int .i64 hi, .int .i64 late] w fun r w' => ∃ v, r = .returned v ∧ EclVal w' v (Ec.missedL e set lo hi late) ∧ Ext w w' := by
  have HM0 := Lib.hid hm
  have HSKY := Lib.hid (fun W (h : EngAt W p e) => r7_Sky_any p e lo hi W h c0 h1 h2 (by omega))
  have HFOR := Lib.hid (fun W (h : EngSet W p e set) => r7_Foretells_any p e set (max 1 (lo - late)) (hi + late) W h c0 c1 (by omega) (by omega) (by omega))
  have HWI := Lib.hid (fun v1 v2 W a b => r7_without_any v1 v2 (Ec.realL e lo hi) (Ec.foreL e set (max 1 (lo - late)) (hi + late)) late W a b (real_few e h1 (by omega)) (fore_few e set (by omega) (by omega)) (real_days e (by omega) (by omega)) (fore_days e set (by omega) (by omega)))
  have HB : Hid ((1 ≤ lo ∧ lo ≤ 9000) ∧ (1 ≤ hi ∧ hi ≤ 9000) ∧ (0 ≤ late ∧ late ≤ 30)) := Lib.hid ⟨⟨h1, by omega⟩, ⟨by omega, h3⟩, h4, h5⟩
  have HMR := Lib.hid (Ec.missed_ref e set lo hi late)
  clear hm c0 c1
  go_enter Tryz.func52, Tryz.ntmps52
  go_wp2_with fail
  have HR0 := Lib.hid (Row.new w 32 #[.slice p.Ab e.sky.bodies.length p.cb, .int .i64 e.sky.nnum, .int .i64 e.sky.nden, .int .i64 e.sky.nstart, .slice p.As e.sun.length p.cs, .slice p.Am e.moon.length p.cm, .slice p.An e.node.length p.cn, .slice p.Af e.feasts.length p.cf, .int .i64 e.nw, .int .i64 e.fl, .int .i64 e.wide])
  have HE0 : Hid (Ext w (w.alloc (.cells #[.slice p.Ab e.sky.bodies.length p.cb, .int .i64 e.sky.nnum, .int .i64 e.sky.nden, .int .i64 e.sky.nstart, .slice p.As e.sun.length p.cs, .slice p.Am e.moon.length p.cm, .slice p.An e.node.length p.cn, .slice p.Af e.feasts.length p.cf, .int .i64 e.nw, .int .i64 e.fl, .int .i64 e.wide] 32))) := Lib.hid ((Ext.refl w).alloc _)
  obtain ⟨wS, hwS⟩ : ∃ W, w.alloc (.cells #[.slice p.Ab e.sky.bodies.length p.cb, .int .i64 e.sky.nnum, .int .i64 e.sky.nden, .int .i64 e.sky.nstart, .slice p.As e.sun.length p.cs, .slice p.Am e.moon.length p.cm, .slice p.An e.node.length p.cn, .slice p.Af e.feasts.length p.cf, .int .i64 e.nw, .int .i64 e.fl, .int .i64 e.wide] 32) = W := ⟨_, rfl⟩
  rw [hwS] at HR0 HE0 ⊢
  obtain ⟨bE, hbE⟩ : ∃ b, w.heap.size = b := ⟨_, rfl⟩
  rw [hbE] at HR0 ⊢
  have HR := HR0
  have HM := Lib.hid (HM0.out.ext HE0.out)
  clear hwS hbE HR0
  refine wp_region_free_tail 17 17 (rmissΦ p e set lo hi late bE wS) (by kernel_rfl) (by simp) (by kernel_rfl) (by kernel_rfl) (by kernel_rfl) (by kernel_rfl) rmissΦ_mono ?hob ?hQ (fun h => absurd h (by omega))
  case hob =>
    intro i o hin ho a wa hE hF
    match i, hin with
    | 0, _ =>
      obtain rfl := Option.some.inj ho
      have h0 : a.tmps[5]?.getD undef = .pointer (some ⟨bE, 0, none⟩) := evalD (hF.old 5 (by decide))
      have q := (Row.ext (HR.out) hE).cell
      refine Ran.value rfl (v := .agg #[.slice p.Ab e.sky.bodies.length p.cb, .int .i64 e.sky.nnum, .int .i64 e.sky.nden, .int .i64 e.sky.nstart, .slice p.As e.sun.length p.cs, .slice p.Am e.moon.length p.cm, .slice p.An e.node.length p.cn, .slice p.Af e.feasts.length p.cf, .int .i64 e.nw, .int .i64 e.fl, .int .i64 e.wide]) (w1 := wa) ?_ ⟨rfl, Ext.refl _⟩
      go_simp
    | 1, _ =>
      obtain rfl := Option.some.inj ho
      have h0 : a.tmps[2]?.getD undef = .int .i64 lo := evalD (hF.old 2 (by decide))
      refine Ran.value rfl (v := .int .i64 lo) (w1 := wa) ?_ ⟨rfl, Ext.refl _⟩
      go_simp
    | 2, _ =>
      obtain rfl := Option.some.inj ho
      have h0 : a.tmps[3]?.getD undef = .int .i64 hi := evalD (hF.old 3 (by decide))
      refine Ran.value rfl (v := .int .i64 hi) (w1 := wa) ?_ ⟨rfl, Ext.refl _⟩
      go_simp
    | 3, _ =>
      obtain rfl := Option.some.inj ho
      have h0 : a.tmps[11]?.getD undef = .agg #[.slice p.Ab e.sky.bodies.length p.cb, .int .i64 e.sky.nnum, .int .i64 e.sky.nden, .int .i64 e.sky.nstart, .slice p.As e.sun.length p.cs, .slice p.Am e.moon.length p.cm, .slice p.An e.node.length p.cn, .slice p.Af e.feasts.length p.cf, .int .i64 e.nw, .int .i64 e.fl, .int .i64 e.wide] := evalD ((hF.from_ 0 11 rfl (by decide)))
      have h1 : a.tmps[12]?.getD undef = .int .i64 lo := evalD ((hF.from_ 1 12 rfl (by decide)))
      have h2 : a.tmps[13]?.getD undef = .int .i64 hi := evalD ((hF.from_ 2 13 rfl (by decide)))
      refine Ran.enter rfl (f := 84) (args := #[.agg #[.slice p.Ab e.sky.bodies.length p.cb, .int .i64 e.sky.nnum, .int .i64 e.sky.nden, .int .i64 e.sky.nstart, .slice p.As e.sun.length p.cs, .slice p.Am e.moon.length p.cm, .slice p.An e.node.length p.cn, .slice p.Af e.feasts.length p.cf, .int .i64 e.nw, .int .i64 e.fl, .int .i64 e.wide], .int .i64 lo, .int .i64 hi]) (w1 := wa) ?_ ?_
      · go_simp
      · refine (HSKY.out wa (HM.out.ext hE).eng).mono ?_
        rintro r w1 ⟨v, rfl, hv, hX⟩
        exact ⟨_, rfl, hv, hX⟩
    | 4, _ =>
      obtain rfl := Option.some.inj ho
      have h0 : a.tmps[5]?.getD undef = .pointer (some ⟨bE, 0, none⟩) := evalD (hF.old 5 (by decide))
      have q := (Row.ext (HR.out) hE).cell
      refine Ran.value rfl (v := .agg #[.slice p.Ab e.sky.bodies.length p.cb, .int .i64 e.sky.nnum, .int .i64 e.sky.nden, .int .i64 e.sky.nstart, .slice p.As e.sun.length p.cs, .slice p.Am e.moon.length p.cm, .slice p.An e.node.length p.cn, .slice p.Af e.feasts.length p.cf, .int .i64 e.nw, .int .i64 e.fl, .int .i64 e.wide]) (w1 := wa) ?_ ⟨rfl, Ext.refl _⟩
      go_simp
    | 5, _ =>
      obtain rfl := Option.some.inj ho
      have h0 : a.tmps[1]?.getD undef = .slice p.At set.length p.ct := evalD (hF.old 1 (by decide))
      refine Ran.value rfl (v := .slice p.At set.length p.ct) (w1 := wa) ?_ ⟨rfl, Ext.refl _⟩
      go_simp
    | 6, _ =>
      obtain rfl := Option.some.inj ho
      have h0 : a.tmps[2]?.getD undef = .int .i64 lo := evalD (hF.old 2 (by decide))
      refine Ran.value rfl (v := .int .i64 lo) (w1 := wa) ?_ ⟨rfl, Ext.refl _⟩
      go_simp
    | 7, _ =>
      obtain rfl := Option.some.inj ho
      have h0 : a.tmps[4]?.getD undef = .int .i64 late := evalD (hF.old 4 (by decide))
      refine Ran.value rfl (v := .int .i64 late) (w1 := wa) ?_ ⟨rfl, Ext.refl _⟩
      go_simp
    | 8, _ =>
      obtain rfl := Option.some.inj ho
      have h0 : a.tmps[17]?.getD undef = .int .i64 lo := evalD ((hF.from_ 6 17 rfl (by decide)))
      have h1 : a.tmps[18]?.getD undef = .int .i64 late := evalD ((hF.from_ 7 18 rfl (by decide)))
      refine Ran.value rfl (v := .int .i64 (lo - late)) (w1 := wa) ?_ ⟨rfl, Ext.refl _⟩
      have hb := HB.out
      go_simp
      exact IntWalk.i64_in _ ⟨by omega, by omega⟩
    | 9, _ =>
      obtain rfl := Option.some.inj ho
      have h0 : a.tmps[19]?.getD undef = .int .i64 (lo - late) := evalD ((hF.from_ 8 19 rfl (by decide)))
      refine Ran.value rfl (v := .int .i64 (max 1 (lo - late))) (w1 := wa) ?_ ⟨rfl, Ext.refl _⟩
      go_simp
    | 10, _ =>
      obtain rfl := Option.some.inj ho
      have h0 : a.tmps[3]?.getD undef = .int .i64 hi := evalD (hF.old 3 (by decide))
      refine Ran.value rfl (v := .int .i64 hi) (w1 := wa) ?_ ⟨rfl, Ext.refl _⟩
      go_simp
    | 11, _ =>
      obtain rfl := Option.some.inj ho
      have h0 : a.tmps[4]?.getD undef = .int .i64 late := evalD (hF.old 4 (by decide))
      refine Ran.value rfl (v := .int .i64 late) (w1 := wa) ?_ ⟨rfl, Ext.refl _⟩
      go_simp
    | 12, _ =>
      obtain rfl := Option.some.inj ho
      have h0 : a.tmps[21]?.getD undef = .int .i64 hi := evalD ((hF.from_ 10 21 rfl (by decide)))
      have h1 : a.tmps[22]?.getD undef = .int .i64 late := evalD ((hF.from_ 11 22 rfl (by decide)))
      refine Ran.value rfl (v := .int .i64 (hi + late)) (w1 := wa) ?_ ⟨rfl, Ext.refl _⟩
      have hb := HB.out
      go_simp
      exact IntWalk.i64_in _ ⟨by omega, by omega⟩
    | 13, _ =>
      obtain rfl := Option.some.inj ho
      have h0 : a.tmps[15]?.getD undef = .agg #[.slice p.Ab e.sky.bodies.length p.cb, .int .i64 e.sky.nnum, .int .i64 e.sky.nden, .int .i64 e.sky.nstart, .slice p.As e.sun.length p.cs, .slice p.Am e.moon.length p.cm, .slice p.An e.node.length p.cn, .slice p.Af e.feasts.length p.cf, .int .i64 e.nw, .int .i64 e.fl, .int .i64 e.wide] := evalD ((hF.from_ 4 15 rfl (by decide)))
      have h1 : a.tmps[16]?.getD undef = .slice p.At set.length p.ct := evalD ((hF.from_ 5 16 rfl (by decide)))
      have h2 : a.tmps[20]?.getD undef = .int .i64 (max 1 (lo - late)) := evalD ((hF.from_ 9 20 rfl (by decide)))
      have h3 : a.tmps[23]?.getD undef = .int .i64 (hi + late) := evalD ((hF.from_ 12 23 rfl (by decide)))
      refine Ran.enter rfl (f := 28) (args := #[.agg #[.slice p.Ab e.sky.bodies.length p.cb, .int .i64 e.sky.nnum, .int .i64 e.sky.nden, .int .i64 e.sky.nstart, .slice p.As e.sun.length p.cs, .slice p.Am e.moon.length p.cm, .slice p.An e.node.length p.cn, .slice p.Af e.feasts.length p.cf, .int .i64 e.nw, .int .i64 e.fl, .int .i64 e.wide], .slice p.At set.length p.ct, .int .i64 (max 1 (lo - late)), .int .i64 (hi + late)]) (w1 := wa) ?_ ?_
      · go_simp
      · refine (HFOR.out wa (HM.out.ext hE)).mono ?_
        rintro r w1 ⟨v, rfl, hv, hX⟩
        exact ⟨_, rfl, hv, hX⟩
    | 14, _ =>
      obtain rfl := Option.some.inj ho
      have h0 : a.tmps[4]?.getD undef = .int .i64 late := evalD (hF.old 4 (by decide))
      refine Ran.value rfl (v := .int .i64 late) (w1 := wa) ?_ ⟨rfl, Ext.refl _⟩
      go_simp
    | 15, _ =>
      obtain rfl := Option.some.inj ho
      obtain ⟨v_h0, h0⟩ : ∃ v, a.eval (.tmp 14) = v := ⟨_, rfl⟩
      have E_h0 : EclVal wa (a.eval (.tmp 14)) (Ec.realL e lo hi) := hF.from_ 3 14 rfl (by decide)
      rw [h0] at E_h0
      replace h0 := evalD h0
      obtain ⟨v_h1, h1⟩ : ∃ v, a.eval (.tmp 24) = v := ⟨_, rfl⟩
      have E_h1 : EclVal wa (a.eval (.tmp 24)) (Ec.foreL e set (max 1 (lo - late)) (hi + late)) := hF.from_ 13 24 rfl (by decide)
      rw [h1] at E_h1
      replace h1 := evalD h1
      have h2 : a.tmps[25]?.getD undef = .int .i64 late := evalD ((hF.from_ 14 25 rfl (by decide)))
      refine Ran.enter rfl (f := 85) (args := #[v_h0, v_h1, .int .i64 late]) (w1 := wa) ?_ ?_
      · go_simp
      · refine (HWI.out _ _ wa E_h0 E_h1).mono ?_
        rintro r w1 ⟨v, rfl, hv, hX⟩
        exact ⟨_, rfl, hv, hX⟩
    | 16, _ =>
      obtain rfl := Option.some.inj ho
      obtain ⟨v_h0, h0⟩ : ∃ v, a.eval (.tmp 26) = v := ⟨_, rfl⟩
      have E_h0 : EclVal wa (a.eval (.tmp 26)) (Ec.without (Ec.realL e lo hi) (Ec.foreL e set (max 1 (lo - late)) (hi + late)) late) := hF.from_ 15 26 rfl (by decide)
      rw [h0] at E_h0
      replace h0 := evalD h0
      refine Ran.value rfl (v := v_h0) (w1 := wa) ?_ ⟨E_h0, Ext.refl _⟩
      go_simp
    | k + 17, hin => omega
  case hQ =>
    intro vs w2 hE hΦ
    have f0 : vs 0 = .agg #[.slice p.Ab e.sky.bodies.length p.cb, .int .i64 e.sky.nnum, .int .i64 e.sky.nden, .int .i64 e.sky.nstart, .slice p.As e.sun.length p.cs, .slice p.Am e.moon.length p.cm, .slice p.An e.node.length p.cn, .slice p.Af e.feasts.length p.cf, .int .i64 e.nw, .int .i64 e.fl, .int .i64 e.wide] := hΦ 0 (by omega)
    have f1 : vs 1 = .int .i64 lo := hΦ 1 (by omega)
    have f2 : vs 2 = .int .i64 hi := hΦ 2 (by omega)
    have e3 : EclVal w2 (vs 3) (Ec.realL e lo hi) := hΦ 3 (by omega)
    obtain ⟨u_3, f3⟩ : ∃ v, vs 3 = v := ⟨_, rfl⟩
    rw [f3] at e3
    have f4 : vs 4 = .agg #[.slice p.Ab e.sky.bodies.length p.cb, .int .i64 e.sky.nnum, .int .i64 e.sky.nden, .int .i64 e.sky.nstart, .slice p.As e.sun.length p.cs, .slice p.Am e.moon.length p.cm, .slice p.An e.node.length p.cn, .slice p.Af e.feasts.length p.cf, .int .i64 e.nw, .int .i64 e.fl, .int .i64 e.wide] := hΦ 4 (by omega)
    have f5 : vs 5 = .slice p.At set.length p.ct := hΦ 5 (by omega)
    have f6 : vs 6 = .int .i64 lo := hΦ 6 (by omega)
    have f7 : vs 7 = .int .i64 late := hΦ 7 (by omega)
    have f8 : vs 8 = .int .i64 (lo - late) := hΦ 8 (by omega)
    have f9 : vs 9 = .int .i64 (max 1 (lo - late)) := hΦ 9 (by omega)
    have f10 : vs 10 = .int .i64 hi := hΦ 10 (by omega)
    have f11 : vs 11 = .int .i64 late := hΦ 11 (by omega)
    have f12 : vs 12 = .int .i64 (hi + late) := hΦ 12 (by omega)
    have e13 : EclVal w2 (vs 13) (Ec.foreL e set (max 1 (lo - late)) (hi + late)) := hΦ 13 (by omega)
    obtain ⟨u_13, f13⟩ : ∃ v, vs 13 = v := ⟨_, rfl⟩
    rw [f13] at e13
    have f14 : vs 14 = .int .i64 late := hΦ 14 (by omega)
    have e15 : EclVal w2 (vs 15) (Ec.without (Ec.realL e lo hi) (Ec.foreL e set (max 1 (lo - late)) (hi + late)) late) := hΦ 15 (by omega)
    obtain ⟨u_15, f15⟩ : ∃ v, vs 15 = v := ⟨_, rfl⟩
    rw [f15] at e15
    have e16 : EclVal w2 (vs 16) (Ec.without (Ec.realL e lo hi) (Ec.foreL e set (max 1 (lo - late)) (hi + late)) late) := hΦ 16 (by omega)
    obtain ⟨u_16, f16⟩ : ∃ v, vs 16 = v := ⟨_, rfl⟩
    rw [f16] at e16
    have hrg : List.range 17 = [0, 1, 2, 3, 4, 5, 6, 7, 8, 9, 10, 11, 12, 13, 14, 15, 16] := rfl
    unfold putAll putS
    simp only [List.length_cons, List.length_nil, List.take_succ_cons, List.take_zero, List.drop_succ_cons, List.drop_zero, Nat.reduceAdd, hrg, List.foldl_cons, List.foldl_nil, dstOf, List.getElem?_cons_succ, List.getElem?_cons_zero, Option.bind_some]
    clear hrg
    rw [f0, f1, f2, f3, f4, f5, f6, f7, f8, f9, f10, f11, f12, f13, f14, f15, f16]
    simp only [Act.put, List.setIfInBounds_toArray, List.set_cons_succ, List.set_cons_zero]
    clear hΦ f0 f1 f2 f3 f4 f5 f6 f7 f8 f9 f10 f11 f12 f13 f14 f15 f16
    have HE := Lib.hid (HE0.out.trans hE)
    clear hE
    go_wp2_with fail
    go_ret
    exact ⟨_, rfl, by rw [HMR.out]; exact e16, HE.out⟩
theorem r7_Until_any (p : EP) (e : Ec.Engine) (set : List Int) (lo hi late : Int) (w : World) (hm : EngSet w p e set) (c0 : Ec.engineOk e = true) (c1 : Ec.setOk e.feasts set = true) (h1 : 1 ≤ lo) (h2 : lo ≤ hi) (h3 : hi ≤ 9000) (h4 : 0 ≤ late) (h5 : late ≤ 30) :
    Calls Tryz.prog 38 #[.agg #[.slice p.Ab e.sky.bodies.length p.cb, .int .i64 e.sky.nnum, .int .i64 e.sky.nden, .int .i64 e.sky.nstart, .slice p.As e.sun.length p.cs, .slice p.Am e.moon.length p.cm, .slice p.An e.node.length p.cn, .slice p.Af e.feasts.length p.cf, .int .i64 e.nw, .int .i64 e.fl, .int .i64 e.wide], .slice p.At set.length p.ct, .int .i64 lo, .int .i64 hi, .int .i64 late] w fun r w' => r = .returned (.int .i64 (Ec.untilI e set lo hi late)) ∧ Ext w w' := by
  have HM0 := Lib.hid hm
  have HMI := Lib.hid (fun W (h : EngSet W p e set) => r7_Missed_any p e set lo hi late W h c0 c1 h1 h2 h3 h4 h5)
  have HUN : Hid (Ec.untilI e set lo hi late = (if (Ec.missedL e set lo hi late).length = 0 then hi else ((Ec.missedL e set lo hi late).headD Ec.noEcl).day - 1)) := Lib.hid rfl
  have HDY : Hid (∀ y ∈ Ec.missedL e set lo hi late, 1 ≤ y.day ∧ y.day ≤ 9000) := Lib.hid (fun y hy => by have := ((Ec.missed_mem ..).1 hy).1; obtain ⟨a, b, _⟩ := (Ec.ecls_mem ..).1 this; omega)
  have HLN : Hid ((Ec.missedL e set lo hi late).length ≤ 100000) := Lib.hid (Nat.le_trans (List.length_filter_le ..) (real_few e h1 (by omega)))
  clear hm c0 c1
  go_enter Tryz.func38, Tryz.ntmps38
  go_wp2_with fail
  have HR0 := Lib.hid (Row.new w 32 #[.slice p.Ab e.sky.bodies.length p.cb, .int .i64 e.sky.nnum, .int .i64 e.sky.nden, .int .i64 e.sky.nstart, .slice p.As e.sun.length p.cs, .slice p.Am e.moon.length p.cm, .slice p.An e.node.length p.cn, .slice p.Af e.feasts.length p.cf, .int .i64 e.nw, .int .i64 e.fl, .int .i64 e.wide])
  have HE0 : Hid (Ext w (w.alloc (.cells #[.slice p.Ab e.sky.bodies.length p.cb, .int .i64 e.sky.nnum, .int .i64 e.sky.nden, .int .i64 e.sky.nstart, .slice p.As e.sun.length p.cs, .slice p.Am e.moon.length p.cm, .slice p.An e.node.length p.cn, .slice p.Af e.feasts.length p.cf, .int .i64 e.nw, .int .i64 e.fl, .int .i64 e.wide] 32))) := Lib.hid ((Ext.refl w).alloc _)
  obtain ⟨wS, hwS⟩ : ∃ W, w.alloc (.cells #[.slice p.Ab e.sky.bodies.length p.cb, .int .i64 e.sky.nnum, .int .i64 e.sky.nden, .int .i64 e.sky.nstart, .slice p.As e.sun.length p.cs, .slice p.Am e.moon.length p.cm, .slice p.An e.node.length p.cn, .slice p.Af e.feasts.length p.cf, .int .i64 e.nw, .int .i64 e.fl, .int .i64 e.wide] 32) = W := ⟨_, rfl⟩
  rw [hwS] at HR0 HE0 ⊢
  obtain ⟨bE, hbE⟩ : ∃ b, w.heap.size = b := ⟨_, rfl⟩
  rw [hbE] at HR0 ⊢
  have HR := HR0
  have HM := Lib.hid (HM0.out.ext HE0.out)
  clear hwS hbE HR0
  have b0 := HR.out.cell
  refine (HMI.out _ HM.out).mono ?_
  rintro r w1 ⟨v, rfl, hv, hE1⟩
  obtain ⟨l, hl⟩ : ∃ l, Ec.missedL e set lo hi late = l := ⟨_, rfl⟩
  rw [hl] at HUN HDY HLN hv
  have HE1 := Lib.hid (HE0.out.trans hE1)
  obtain ⟨A1, c1, rfl, q1⟩ := hv
  clear b0 hE1 hl
  cases l with
  | nil =>
    go_wp2_with fail
    go_ret
    exact ⟨by rw [HUN.out]; rfl, HE1.out⟩
  | cons x l =>
    obtain ⟨b1, o1, rfl, p1⟩ := q1 (by simp)
    have a0 := (p1 0 (by simp)).1
    have hd := HDY.out x (by simp)
    have hln := HLN.out
    simp only [List.getElem_cons_zero, Nat.zero_mul, Nat.add_zero, List.length_cons] at a0 hln ⊢
    have hne : ((((l.length + 1 : Nat) : Int)) == 0) = false := by simp; omega
    have h01 : (0 : Int) < ((l.length + 1 : Nat) : Int) := by omega
    clear p1
    go_wp2_with fail
    go_ret
    exact ⟨by rw [HUN.out]; rfl, HE1.out⟩
theorem wide_missed (e : Ec.Engine) (set : List Int) (lo hi n L H : Int) (hL : 1 ≤ L) (hL2 : L ≤ max 1 (lo - n)) (hH : hi + n ≤ H) : Ec.without (Ec.realL e lo hi) (Ec.foreL e set L H) n = Ec.missedL e set lo hi n := by
  unfold Ec.missedL Ec.without
  apply List.filter_congr
  intro x hx
  obtain ⟨a, b, _⟩ := (Ec.ecls_mem ..).1 hx
  congr 1
  rw [Bool.eq_iff_iff, Ec.told_iff]
  unfold Ec.beside
  simp only [List.any_eq_true, Bool.and_eq_true, beq_iff_eq, decide_eq_true_eq]
  constructor
  · rintro ⟨y, hy, h1, h2, h3⟩
    obtain ⟨g1, g2, g3, _⟩ := (Ec.foreL_mem ..).1 hy
    exact ⟨y.day, by omega, h2, h3, by rw [← h1]; exact g3⟩
  · rintro ⟨d, h1, h2, h3, h4⟩
    exact ⟨⟨d, x.full, Ec.farAt e set d⟩, (Ec.foreL_mem ..).2 ⟨by simp only; omega, by simp only; omega, h4, rfl⟩, rfl, h2, h3⟩
theorem r7_Within_any (p : EP) (e : Ec.Engine) (set : List Int) (lo hi : Int) (w : World) (hm : EngSet w p e set) (c0 : Ec.engineOk e = true) (c1 : Ec.setOk e.feasts set = true) (h1 : 1 ≤ lo) (h2 : lo ≤ hi) (h3 : hi ≤ 9000) :
    Calls Tryz.prog 36 #[.agg #[.slice p.Ab e.sky.bodies.length p.cb, .int .i64 e.sky.nnum, .int .i64 e.sky.nden, .int .i64 e.sky.nstart, .slice p.As e.sun.length p.cs, .slice p.Am e.moon.length p.cm, .slice p.An e.node.length p.cn, .slice p.Af e.feasts.length p.cf, .int .i64 e.nw, .int .i64 e.fl, .int .i64 e.wide], .slice p.At set.length p.ct, .int .i64 lo, .int .i64 hi] w fun r w' => r = .returned (.int .i64 ((Ec.withinO e set lo hi).getD (-1))) ∧ Ext w w' := by
  have HM0 := Lib.hid hm
  have HSKY := Lib.hid (fun W (h : EngAt W p e) => r7_Sky_any p e lo hi W h c0 h1 h2 (by omega))
  have HFOR := Lib.hid (fun W (h : EngSet W p e set) => r7_Foretells_any p e set (max 1 (lo - 30)) (hi + 30) W h c0 c1 (by omega) (by omega) (by omega))
  have HWI := Lib.hid (fun (n : Int) (a1 : 0 ≤ n) (a2 : n ≤ 30) v1 v2 W a b => r7_without_any v1 v2 (Ec.realL e lo hi) (Ec.foreL e set (max 1 (lo - 30)) (hi + 30)) n W a b (real_few e h1 (by omega)) (fore_few e set (by omega) (by omega)) (real_days e (by omega) (by omega)) (fore_days e set (by omega) (by omega)))
  have HWM := Lib.hid (fun (n : Int) (a1 : 0 ≤ n) (a2 : n ≤ 30) => wide_missed e set lo hi n (max 1 (lo - 30)) (hi + 30) (by omega) (by omega) (by omega))
  have HB : Hid ((1 ≤ lo ∧ lo ≤ 9000) ∧ (1 ≤ hi ∧ hi ≤ 9000)) := Lib.hid ⟨⟨h1, by omega⟩, ⟨by omega, h3⟩⟩
  have HLN := Lib.hid (fun n => (Nat.le_trans (List.length_filter_le ..) (real_few e h1 (by omega)) : (Ec.missedL e set lo hi n).length ≤ 100000))
  clear hm c0 c1
  go_enter Tryz.func36, Tryz.ntmps36
  go_wp2_with fail
  have HR0 := Lib.hid (Row.new w 32 #[.slice p.Ab e.sky.bodies.length p.cb, .int .i64 e.sky.nnum, .int .i64 e.sky.nden, .int .i64 e.sky.nstart, .slice p.As e.sun.length p.cs, .slice p.Am e.moon.length p.cm, .slice p.An e.node.length p.cn, .slice p.Af e.feasts.length p.cf, .int .i64 e.nw, .int .i64 e.fl, .int .i64 e.wide])
  have HE0 : Hid (Ext w (w.alloc (.cells #[.slice p.Ab e.sky.bodies.length p.cb, .int .i64 e.sky.nnum, .int .i64 e.sky.nden, .int .i64 e.sky.nstart, .slice p.As e.sun.length p.cs, .slice p.Am e.moon.length p.cm, .slice p.An e.node.length p.cn, .slice p.Af e.feasts.length p.cf, .int .i64 e.nw, .int .i64 e.fl, .int .i64 e.wide] 32))) := Lib.hid ((Ext.refl w).alloc _)
  obtain ⟨wS, hwS⟩ : ∃ W, w.alloc (.cells #[.slice p.Ab e.sky.bodies.length p.cb, .int .i64 e.sky.nnum, .int .i64 e.sky.nden, .int .i64 e.sky.nstart, .slice p.As e.sun.length p.cs, .slice p.Am e.moon.length p.cm, .slice p.An e.node.length p.cn, .slice p.Af e.feasts.length p.cf, .int .i64 e.nw, .int .i64 e.fl, .int .i64 e.wide] 32) = W := ⟨_, rfl⟩
  rw [hwS] at HR0 HE0 ⊢
  obtain ⟨bE, hbE⟩ : ∃ b, w.heap.size = b := ⟨_, rfl⟩
  rw [hbE] at HR0 ⊢
  have HR := HR0
  have HM := Lib.hid (HM0.out.ext HE0.out)
  clear hwS hbE HR0
  refine wp_region_free_tail 14 14 (rwithΦ p e set lo hi bE wS) (by kernel_rfl) (by simp) (by kernel_rfl) (by kernel_rfl) (by kernel_rfl) (by kernel_rfl) rwithΦ_mono ?hob ?hQ (fun h => absurd h (by omega))
  case hob =>
    intro i o hin ho a wa hE hF
    match i, hin with
    | 0, _ =>
      obtain rfl := Option.some.inj ho
      have h0 : a.tmps[4]?.getD undef = .pointer (some ⟨bE, 0, none⟩) := evalD (hF.old 4 (by decide))
      have q := (Row.ext (HR.out) hE).cell
      refine Ran.value rfl (v := .agg #[.slice p.Ab e.sky.bodies.length p.cb, .int .i64 e.sky.nnum, .int .i64 e.sky.nden, .int .i64 e.sky.nstart, .slice p.As e.sun.length p.cs, .slice p.Am e.moon.length p.cm, .slice p.An e.node.length p.cn, .slice p.Af e.feasts.length p.cf, .int .i64 e.nw, .int .i64 e.fl, .int .i64 e.wide]) (w1 := wa) ?_ ⟨rfl, Ext.refl _⟩
      go_simp
    | 1, _ =>
      obtain rfl := Option.some.inj ho
      have h0 : a.tmps[2]?.getD undef = .int .i64 lo := evalD (hF.old 2 (by decide))
      refine Ran.value rfl (v := .int .i64 lo) (w1 := wa) ?_ ⟨rfl, Ext.refl _⟩
      go_simp
    | 2, _ =>
      obtain rfl := Option.some.inj ho
      have h0 : a.tmps[3]?.getD undef = .int .i64 hi := evalD (hF.old 3 (by decide))
      refine Ran.value rfl (v := .int .i64 hi) (w1 := wa) ?_ ⟨rfl, Ext.refl _⟩
      go_simp
    | 3, _ =>
      obtain rfl := Option.some.inj ho
      have h0 : a.tmps[12]?.getD undef = .agg #[.slice p.Ab e.sky.bodies.length p.cb, .int .i64 e.sky.nnum, .int .i64 e.sky.nden, .int .i64 e.sky.nstart, .slice p.As e.sun.length p.cs, .slice p.Am e.moon.length p.cm, .slice p.An e.node.length p.cn, .slice p.Af e.feasts.length p.cf, .int .i64 e.nw, .int .i64 e.fl, .int .i64 e.wide] := evalD ((hF.from_ 0 12 rfl (by decide)))
      have h1 : a.tmps[13]?.getD undef = .int .i64 lo := evalD ((hF.from_ 1 13 rfl (by decide)))
      have h2 : a.tmps[14]?.getD undef = .int .i64 hi := evalD ((hF.from_ 2 14 rfl (by decide)))
      refine Ran.enter rfl (f := 84) (args := #[.agg #[.slice p.Ab e.sky.bodies.length p.cb, .int .i64 e.sky.nnum, .int .i64 e.sky.nden, .int .i64 e.sky.nstart, .slice p.As e.sun.length p.cs, .slice p.Am e.moon.length p.cm, .slice p.An e.node.length p.cn, .slice p.Af e.feasts.length p.cf, .int .i64 e.nw, .int .i64 e.fl, .int .i64 e.wide], .int .i64 lo, .int .i64 hi]) (w1 := wa) ?_ ?_
      · go_simp
      · refine (HSKY.out wa (HM.out.ext hE).eng).mono ?_
        rintro r w1 ⟨v, rfl, hv, hX⟩
        exact ⟨_, rfl, hv, hX⟩
    | 4, _ =>
      obtain rfl := Option.some.inj ho
      have h0 : a.tmps[4]?.getD undef = .pointer (some ⟨bE, 0, none⟩) := evalD (hF.old 4 (by decide))
      have q := (Row.ext (HR.out) hE).cell
      refine Ran.value rfl (v := .agg #[.slice p.Ab e.sky.bodies.length p.cb, .int .i64 e.sky.nnum, .int .i64 e.sky.nden, .int .i64 e.sky.nstart, .slice p.As e.sun.length p.cs, .slice p.Am e.moon.length p.cm, .slice p.An e.node.length p.cn, .slice p.Af e.feasts.length p.cf, .int .i64 e.nw, .int .i64 e.fl, .int .i64 e.wide]) (w1 := wa) ?_ ⟨rfl, Ext.refl _⟩
      go_simp
    | 5, _ =>
      obtain rfl := Option.some.inj ho
      have h0 : a.tmps[1]?.getD undef = .slice p.At set.length p.ct := evalD (hF.old 1 (by decide))
      refine Ran.value rfl (v := .slice p.At set.length p.ct) (w1 := wa) ?_ ⟨rfl, Ext.refl _⟩
      go_simp
    | 6, _ =>
      obtain rfl := Option.some.inj ho
      have h0 : a.tmps[2]?.getD undef = .int .i64 lo := evalD (hF.old 2 (by decide))
      refine Ran.value rfl (v := .int .i64 lo) (w1 := wa) ?_ ⟨rfl, Ext.refl _⟩
      go_simp
    | 7, _ =>
      obtain rfl := Option.some.inj ho
      have h0 : a.tmps[18]?.getD undef = .int .i64 lo := evalD ((hF.from_ 6 18 rfl (by decide)))
      refine Ran.value rfl (v := .int .i64 (lo - 30)) (w1 := wa) ?_ ⟨rfl, Ext.refl _⟩
      have hb := HB.out
      go_simp
      exact IntWalk.i64_in _ ⟨by omega, by omega⟩
    | 8, _ =>
      obtain rfl := Option.some.inj ho
      have h0 : a.tmps[19]?.getD undef = .int .i64 (lo - 30) := evalD ((hF.from_ 7 19 rfl (by decide)))
      refine Ran.value rfl (v := .int .i64 (max 1 (lo - 30))) (w1 := wa) ?_ ⟨rfl, Ext.refl _⟩
      go_simp
    | 9, _ =>
      obtain rfl := Option.some.inj ho
      have h0 : a.tmps[3]?.getD undef = .int .i64 hi := evalD (hF.old 3 (by decide))
      refine Ran.value rfl (v := .int .i64 hi) (w1 := wa) ?_ ⟨rfl, Ext.refl _⟩
      go_simp
    | 10, _ =>
      obtain rfl := Option.some.inj ho
      have h0 : a.tmps[21]?.getD undef = .int .i64 hi := evalD ((hF.from_ 9 21 rfl (by decide)))
      refine Ran.value rfl (v := .int .i64 (hi + 30)) (w1 := wa) ?_ ⟨rfl, Ext.refl _⟩
      have hb := HB.out
      go_simp
      exact IntWalk.i64_in _ ⟨by omega, by omega⟩
    | 11, _ =>
      obtain rfl := Option.some.inj ho
      have h0 : a.tmps[16]?.getD undef = .agg #[.slice p.Ab e.sky.bodies.length p.cb, .int .i64 e.sky.nnum, .int .i64 e.sky.nden, .int .i64 e.sky.nstart, .slice p.As e.sun.length p.cs, .slice p.Am e.moon.length p.cm, .slice p.An e.node.length p.cn, .slice p.Af e.feasts.length p.cf, .int .i64 e.nw, .int .i64 e.fl, .int .i64 e.wide] := evalD ((hF.from_ 4 16 rfl (by decide)))
      have h1 : a.tmps[17]?.getD undef = .slice p.At set.length p.ct := evalD ((hF.from_ 5 17 rfl (by decide)))
      have h2 : a.tmps[20]?.getD undef = .int .i64 (max 1 (lo - 30)) := evalD ((hF.from_ 8 20 rfl (by decide)))
      have h3 : a.tmps[22]?.getD undef = .int .i64 (hi + 30) := evalD ((hF.from_ 10 22 rfl (by decide)))
      refine Ran.enter rfl (f := 28) (args := #[.agg #[.slice p.Ab e.sky.bodies.length p.cb, .int .i64 e.sky.nnum, .int .i64 e.sky.nden, .int .i64 e.sky.nstart, .slice p.As e.sun.length p.cs, .slice p.Am e.moon.length p.cm, .slice p.An e.node.length p.cn, .slice p.Af e.feasts.length p.cf, .int .i64 e.nw, .int .i64 e.fl, .int .i64 e.wide], .slice p.At set.length p.ct, .int .i64 (max 1 (lo - 30)), .int .i64 (hi + 30)]) (w1 := wa) ?_ ?_
      · go_simp
      · refine (HFOR.out wa (HM.out.ext hE)).mono ?_
        rintro r w1 ⟨v, rfl, hv, hX⟩
        exact ⟨_, rfl, hv, hX⟩
    | 12, _ =>
      obtain rfl := Option.some.inj ho
      obtain ⟨v_h0, h0⟩ : ∃ v, a.eval (.tmp 15) = v := ⟨_, rfl⟩
      have E_h0 : EclVal wa (a.eval (.tmp 15)) (Ec.realL e lo hi) := hF.from_ 3 15 rfl (by decide)
      rw [h0] at E_h0
      replace h0 := evalD h0
      refine Ran.value rfl (v := v_h0) (w1 := wa) ?_ ⟨E_h0, Ext.refl _⟩
      go_simp
    | 13, _ =>
      obtain rfl := Option.some.inj ho
      obtain ⟨v_h0, h0⟩ : ∃ v, a.eval (.tmp 23) = v := ⟨_, rfl⟩
      have E_h0 : EclVal wa (a.eval (.tmp 23)) (Ec.foreL e set (max 1 (lo - 30)) (hi + 30)) := hF.from_ 11 23 rfl (by decide)
      rw [h0] at E_h0
      replace h0 := evalD h0
      refine Ran.value rfl (v := v_h0) (w1 := wa) ?_ ⟨E_h0, Ext.refl _⟩
      go_simp
    | k + 14, hin => omega
  case hQ =>
    intro vs w2 hE hΦ
    have f0 : vs 0 = .agg #[.slice p.Ab e.sky.bodies.length p.cb, .int .i64 e.sky.nnum, .int .i64 e.sky.nden, .int .i64 e.sky.nstart, .slice p.As e.sun.length p.cs, .slice p.Am e.moon.length p.cm, .slice p.An e.node.length p.cn, .slice p.Af e.feasts.length p.cf, .int .i64 e.nw, .int .i64 e.fl, .int .i64 e.wide] := hΦ 0 (by omega)
    have f1 : vs 1 = .int .i64 lo := hΦ 1 (by omega)
    have f2 : vs 2 = .int .i64 hi := hΦ 2 (by omega)
    have e3 : EclVal w2 (vs 3) (Ec.realL e lo hi) := hΦ 3 (by omega)
    obtain ⟨u_3, f3⟩ : ∃ v, vs 3 = v := ⟨_, rfl⟩
    rw [f3] at e3
    have f4 : vs 4 = .agg #[.slice p.Ab e.sky.bodies.length p.cb, .int .i64 e.sky.nnum, .int .i64 e.sky.nden, .int .i64 e.sky.nstart, .slice p.As e.sun.length p.cs, .slice p.Am e.moon.length p.cm, .slice p.An e.node.length p.cn, .slice p.Af e.feasts.length p.cf, .int .i64 e.nw, .int .i64 e.fl, .int .i64 e.wide] := hΦ 4 (by omega)
    have f5 : vs 5 = .slice p.At set.length p.ct := hΦ 5 (by omega)
    have f6 : vs 6 = .int .i64 lo := hΦ 6 (by omega)
    have f7 : vs 7 = .int .i64 (lo - 30) := hΦ 7 (by omega)
    have f8 : vs 8 = .int .i64 (max 1 (lo - 30)) := hΦ 8 (by omega)
    have f9 : vs 9 = .int .i64 hi := hΦ 9 (by omega)
    have f10 : vs 10 = .int .i64 (hi + 30) := hΦ 10 (by omega)
    have e11 : EclVal w2 (vs 11) (Ec.foreL e set (max 1 (lo - 30)) (hi + 30)) := hΦ 11 (by omega)
    obtain ⟨u_11, f11⟩ : ∃ v, vs 11 = v := ⟨_, rfl⟩
    rw [f11] at e11
    have e12 : EclVal w2 (vs 12) (Ec.realL e lo hi) := hΦ 12 (by omega)
    obtain ⟨u_12, f12⟩ : ∃ v, vs 12 = v := ⟨_, rfl⟩
    rw [f12] at e12
    have e13 : EclVal w2 (vs 13) (Ec.foreL e set (max 1 (lo - 30)) (hi + 30)) := hΦ 13 (by omega)
    obtain ⟨u_13, f13⟩ : ∃ v, vs 13 = v := ⟨_, rfl⟩
    rw [f13] at e13
    have hrg : List.range 14 = [0, 1, 2, 3, 4, 5, 6, 7, 8, 9, 10, 11, 12, 13] := rfl
    unfold putAll putS
    simp only [List.length_cons, List.length_nil, List.take_succ_cons, List.take_zero, List.drop_succ_cons, List.drop_zero, Nat.reduceAdd, hrg, List.foldl_cons, List.foldl_nil, dstOf, List.getElem?_cons_succ, List.getElem?_cons_zero, Option.bind_some]
    clear hrg
    rw [f0, f1, f2, f3, f4, f5, f6, f7, f8, f9, f10, f11, f12, f13]
    simp only [Act.put, List.setIfInBounds_toArray, List.set_cons_succ, List.set_cons_zero]
    clear hΦ f0 f1 f2 f3 f4 f5 f6 f7 f8 f9 f10 f11 f12 f13
    have HE := Lib.hid (HE0.out.trans hE)
    have HV1 := Lib.hid e12
    have HV2 := Lib.hid e13
    clear hE e12 e13
    go_wp2_with fail
    go_loopw [11] (fun i wr => ∃ k : Nat, k ≤ 31 ∧ i = .int .i64 (k : Int) ∧ Ec.withinO e set lo hi = Ec.withinN e set lo hi (k : Int) (31 - k) ∧ Ext w2 wr) (fun i _ => Nat.sub 31 (intOf i).toNat)
    case atStart => exact ⟨0, by omega, rfl, rfl, Ext.refl _⟩
    case round =>
      obtain ⟨k, hk, rfl, hgo, hX⟩ := hrel
      have HGO := Lib.hid hgo
      have HX := Lib.hid hX
      clear hgo hX
      by_cases hlt : k < 31
      · have HWK := Lib.hid (HWI.out (k : Int) (by omega) (by omega) _ _ wr (HV1.out.ext HX.out) (HV2.out.ext HX.out))
        have HST : Hid (Ec.withinN e set lo hi (k : Int) (31 - k) = if (Ec.missedL e set lo hi (k : Int)).length = 0 then some (k : Int) else Ec.withinN e set lo hi ((k + 1 : Nat) : Int) (31 - (k + 1))) := Lib.hid (by
          rw [show 31 - k = (31 - (k + 1)) + 1 by omega, show ((k + 1 : Nat) : Int) = (k : Int) + 1 by omega]; rfl)
        have hll := HLN.out (k : Int)
        rw [HWM.out (k : Int) (by omega) (by omega)] at HWK
        obtain ⟨l, hl⟩ : ∃ l, Ec.missedL e set lo hi (k : Int) = l := ⟨_, rfl⟩
        rw [hl] at HWK HST hll
        clear hl
        go_wp2_with fail
        refine HWK.out.mono ?_
        rintro r w3 ⟨v, rfl, hv, hE3⟩
        obtain ⟨A1, c1, rfl, q1⟩ := hv
        clear q1
        have HX3 := Lib.hid (HX.out.trans hE3)
        clear hE3
        obtain ⟨NL, hNL⟩ : ∃ N, l.length = N := ⟨_, rfl⟩
        rw [hNL] at HST hll ⊢
        clear hNL HWK
        by_cases h0 : NL = 0
        · subst h0
          go_wp2_with fail
          go_ret
          exact ⟨ret_int (by rw [HGO.out, HST.out]; rfl), HE.out.trans HX3.out⟩
        · have ha : ((NL : Int) == 0) = false := by simp; omega
          have HST2 := Lib.hid (HST.out.trans (if_neg h0))
          clear HST h0
          go_wp2_with fail
          refine ⟨⟨k + 1, by omega, by go_num, by rw [HGO.out, HST2.out], HX3.out⟩, by simp [intOf]; omega⟩
      · obtain rfl : k = 31 := by omega
        go_wp2_with fail
        go_ret
        exact ⟨ret_int (by rw [HGO.out]; rfl), HE.out.trans HX.out⟩
end Go.Proofs.YtcbodpnmndbgnaaGreatDoor
