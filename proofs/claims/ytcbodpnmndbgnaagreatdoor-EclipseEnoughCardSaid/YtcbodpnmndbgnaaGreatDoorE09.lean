/- Volume 9 of the texts that the laws of this seat use: EcWidens: walks of the program's functions, and plain laws. -/
import Derived.Carry
import Derived.Lib.MinMax
import Derived.Test.YtcbodpnmndbgnaaGreatDoorE04
import Derived.Test.YtcbodpnmndbgnaaGreatDoorE06
import Derived.Test.YtcbodpnmndbgnaaGreatDoorE07
namespace Go.Proofs.YtcbodpnmndbgnaaGreatDoor
open Go.RowKit
open Sp (rd)
set_option maxRecDepth 100000
set_option maxHeartbeats 1000000
def widensΦ (p : EP) (e : Ec.Engine) (set : List Int) (lo : Int) (hi : Int) (late : Int) (w0 : World) (i : Nat) (v : Value) (w : World) : Prop :=
  match i with
  | 0 => v = .agg #[.slice p.Ab e.sky.bodies.length p.cb, .int .i64 e.sky.nnum, .int .i64 e.sky.nden, .int .i64 e.sky.nstart, .slice p.As e.sun.length p.cs, .slice p.Am e.moon.length p.cm, .slice p.An e.node.length p.cn, .slice p.Af e.feasts.length p.cf, .int .i64 e.nw, .int .i64 e.fl, .int .i64 e.wide]
  | 1 => v = .slice p.At set.length p.ct
  | 2 => v = .int .i64 lo
  | 3 => v = .int .i64 hi
  | 4 => v = .bool true
  | 5 => v = .bool true
  | 6 => v = .int .i64 late
  | 7 => v = .bool true
  | 8 => v = .bool true
  | 9 => AskTup p e set w0 v w
  | 10 => AskTup p e set w0 v w
  | 11 => AskAgg p e set w0 v w
  | 12 => v = .int .i64 0
  | _ => AskNew w0 v w
theorem widensΦ_mono {p : EP} {e : Ec.Engine} {set : List Int} {lo : Int} {hi : Int} {late : Int} {w0 : World} (i : Nat) (v : Value) (w w' : World) (h : widensΦ p e set lo hi late w0 i v w) (he : Ext w w') : widensΦ p e set lo hi late w0 i v w' := by
  unfold widensΦ at h ⊢
  split at h <;> first
    | exact h
    | exact AskTup.ext h he
    | exact AskAgg.ext h he
    | exact AskNew.ext h he
def phV : Bool → Value
  | true => .iface 162 (.agg #[])
  | false => .iface 161 (.agg #[])
theorem e_phaseOf_any (full : Bool) (w : World) : Calls Tryz.prog 87 #[.bool full] w fun e w' => e = .returned (phV full) ∧ Ext w w' := by
  cases full
  · go_enter Tryz.func87, Tryz.ntmps87
    go_wp2_with fail
    go_ret
    exact ⟨rfl, Ext.refl _⟩
  · go_enter Tryz.func87, Tryz.ntmps87
    go_wp2_with fail
    go_ret
    exact ⟨rfl, Ext.refl _⟩
theorem e_has_any (p : EP) (e : Ec.Engine) (set : List Int) (M : Nat) (day : Int) (full : Bool) (w : World) (hK : Fine e set) (hm : EngSet w p e set) (hc : Seen e set M w) (h1 : 1 ≤ day) (h2 : day ≤ 9030) :
    Calls Tryz.prog 88 #[.agg #[.slice p.Ab e.sky.bodies.length p.cb, .int .i64 e.sky.nnum, .int .i64 e.sky.nden, .int .i64 e.sky.nstart, .slice p.As e.sun.length p.cs, .slice p.Am e.moon.length p.cm, .slice p.An e.node.length p.cn, .slice p.Af e.feasts.length p.cf, .int .i64 e.nw, .int .i64 e.fl, .int .i64 e.wide, .slice p.At set.length p.ct, .map (some M)], phV full, .int .i64 day] w fun r w' => r = .returned (.bool (Ec.hasB e set day full)) ∧ Move e set M w w' := by
  cases full
  · exact e_has_false p e set M day w hK hm hc h1 h2
  · exact e_has_true p e set M day w hK hm hc h1 h2
theorem e_limit_any (p : EP) (e : Ec.Engine) (set : List Int) (M : Nat) (full : Bool) (w : World) :
    Calls Tryz.prog 90 #[.agg #[.slice p.Ab e.sky.bodies.length p.cb, .int .i64 e.sky.nnum, .int .i64 e.sky.nden, .int .i64 e.sky.nstart, .slice p.As e.sun.length p.cs, .slice p.Am e.moon.length p.cm, .slice p.An e.node.length p.cn, .slice p.Af e.feasts.length p.cf, .int .i64 e.nw, .int .i64 e.fl, .int .i64 e.wide, .slice p.At set.length p.ct, .map (some M)], phV full] w fun r w' => r = .returned (.int .i64 (Ec.limitOf e full)) ∧ Ext w w' := by
  cases full
  · exact e_limit_false p e set M w
  · exact e_limit_true p e set M w
theorem leastN_bounds (e : Ec.Engine) (set : List Int) (full : Bool) (lo : Int) (k : Nat) : 0 ≤ Ec.leastN e set full lo k ∧ Ec.leastN e set full lo k ≤ 10800 := by
  induction k with
  | zero => simp [Ec.leastN]
  | succ k ih => unfold Ec.leastN; split <;> omega
theorem wideN_snoc (e : Ec.Engine) (set : List Int) (late : Int) (l : List Sp.Ecl) (x : Sp.Ecl) : Ec.wideN e set late (l ++ [x]) = max (Ec.wideN e set late l) (Ec.leastOf e set late x) := by
  induction l with
  | nil => simp only [List.nil_append, Ec.wideN]; omega
  | cons y l ih => simp only [List.cons_append, Ec.wideN, ih]; omega
theorem wideN_bounds (e : Ec.Engine) (set : List Int) (late : Int) (l : List Sp.Ecl) : 0 ≤ Ec.wideN e set late l ∧ Ec.wideN e set late l ≤ 10800 := by
  induction l with
  | nil => simp [Ec.wideN]
  | cons y l ih =>
    have := leastN_bounds e set y.full (max 1 (y.day - late)) (y.day + late + 1 - max 1 (y.day - late)).toNat
    unfold Ec.wideN Ec.leastOf
    omega
def wideV (n : Int) : Value := if Sp.isLimit n = true then .tuple #[.int .i64 n, .int .i64 0] else .tuple #[.int .i64 0, .int .i64 5]
def WidRel (w4 : World) (e : Ec.Engine) (set : List Int) (M : Nat) (late : Int) (l : List Sp.Ecl) (v d : Value) (wr : World) : Prop :=
  ∃ k : Nat, k ≤ l.length ∧ d = .int .i64 k ∧ v = .int .i64 (Ec.wideN e set late (l.take k)) ∧ Move e set M w4 wr
def LeaRel (w5 : World) (e : Ec.Engine) (set : List Int) (M : Nat) (full : Bool) (lo1 : Int) (n : Nat) (v d : Value) (wr : World) : Prop :=
  ∃ j : Nat, j ≤ n ∧ d = .int .i64 (lo1 + j) ∧ v = .int .i64 (Ec.leastN e set full lo1 j) ∧ Move e set M w5 wr
def widΦ (p : EP) (e : Ec.Engine) (set : List Int) (M : Nat) (full : Bool) (L d : Int) (i : Nat) (v : Value) (_ : World) : Prop :=
  match i with
  | 0 => v = .int .i64 L
  | 1 => v = .agg #[.slice p.Ab e.sky.bodies.length p.cb, .int .i64 e.sky.nnum, .int .i64 e.sky.nden, .int .i64 e.sky.nstart, .slice p.As e.sun.length p.cs, .slice p.Am e.moon.length p.cm, .slice p.An e.node.length p.cn, .slice p.Af e.feasts.length p.cf, .int .i64 e.nw, .int .i64 e.fl, .int .i64 e.wide, .slice p.At set.length p.ct, .map (some M)]
  | 2 => v = .int .i64 d
  | 3 => v = .int .i64 (Ec.farAt e set d)
  | 4 => v = .agg #[.slice p.Ab e.sky.bodies.length p.cb, .int .i64 e.sky.nnum, .int .i64 e.sky.nden, .int .i64 e.sky.nstart, .slice p.As e.sun.length p.cs, .slice p.Am e.moon.length p.cm, .slice p.An e.node.length p.cn, .slice p.Af e.feasts.length p.cf, .int .i64 e.nw, .int .i64 e.fl, .int .i64 e.wide, .slice p.At set.length p.ct, .map (some M)]
  | 5 => v = phV full
  | 6 => v = .int .i64 (Ec.limitOf e full)
  | 7 => v = .int .i64 (Ec.farAt e set d - Ec.limitOf e full)
  | 8 => v = .int .i64 (max 0 (Ec.farAt e set d - Ec.limitOf e full))
  | _ => v = .int .i64 (min L (max 0 (Ec.farAt e set d - Ec.limitOf e full)))
theorem e_Widens_ok (p : EP) (e : Ec.Engine) (set : List Int) (lo hi late : Int) (w : World) (hm : EngSet w p e set) (hl : EngShort e) (hs : set.length ≤ 100000) (c0 : Ec.engineOk e = true) (c1 : Ec.setOk e.feasts set = true) (c2 : Ec.isSpan lo hi = true) (c3 : Ec.isLate late = true) :
    Calls Tryz.prog 40 #[.agg #[.slice p.Ab e.sky.bodies.length p.cb, .int .i64 e.sky.nnum, .int .i64 e.sky.nden, .int .i64 e.sky.nstart, .slice p.As e.sun.length p.cs, .slice p.Am e.moon.length p.cm, .slice p.An e.node.length p.cn, .slice p.Af e.feasts.length p.cf, .int .i64 e.nw, .int .i64 e.fl, .int .i64 e.wide], .slice p.At set.length p.ct, .int .i64 lo, .int .i64 hi, .int .i64 late] w fun r w' => r = .returned (wideV (Ec.widens e set lo hi late)) ∧ Ext w w' := by
  have HM := Lib.hid hm
  have HL := Lib.hid hl
  have HK : Hid (Fine e set) := Lib.hid ⟨c0, c1⟩
  have HR0 : Hid (Row (w.alloc (.cells #[.slice p.Ab e.sky.bodies.length p.cb, .int .i64 e.sky.nnum, .int .i64 e.sky.nden, .int .i64 e.sky.nstart, .slice p.As e.sun.length p.cs, .slice p.Am e.moon.length p.cm, .slice p.An e.node.length p.cn, .slice p.Af e.feasts.length p.cf, .int .i64 e.nw, .int .i64 e.fl, .int .i64 e.wide] 32)) w.heap.size 32 #[.slice p.Ab e.sky.bodies.length p.cb, .int .i64 e.sky.nnum, .int .i64 e.sky.nden, .int .i64 e.sky.nstart, .slice p.As e.sun.length p.cs, .slice p.Am e.moon.length p.cm, .slice p.An e.node.length p.cn, .slice p.Af e.feasts.length p.cf, .int .i64 e.nw, .int .i64 e.fl, .int .i64 e.wide]) := Lib.hid (Row.new w _ _)
  have HE0 := Lib.hid ((Ext.refl w).alloc (.cells #[.slice p.Ab e.sky.bodies.length p.cb, .int .i64 e.sky.nnum, .int .i64 e.sky.nden, .int .i64 e.sky.nstart, .slice p.As e.sun.length p.cs, .slice p.Am e.moon.length p.cm, .slice p.An e.node.length p.cn, .slice p.Af e.feasts.length p.cf, .int .i64 e.nw, .int .i64 e.fl, .int .i64 e.wide] 32))
  have hd : 1 ≤ lo ∧ lo ≤ hi ∧ hi ≤ 9000 ∧ hi - lo ≤ 400 := by
    simp only [Ec.isSpan, Sp.inR, Bool.and_eq_true, decide_eq_true_eq] at c2
    omega
  have hla : 0 ≤ late ∧ late ≤ 30 := by
    simp only [Ec.isLate, Sp.inR, Bool.and_eq_true, decide_eq_true_eq] at c3
    omega
  clear hm hl
  go_enter Tryz.func40, Tryz.ntmps40
  go_wp2_with fail
  obtain ⟨W, hW⟩ : ∃ W, w.alloc (.cells #[.slice p.Ab e.sky.bodies.length p.cb, .int .i64 e.sky.nnum, .int .i64 e.sky.nden, .int .i64 e.sky.nstart, .slice p.As e.sun.length p.cs, .slice p.Am e.moon.length p.cm, .slice p.An e.node.length p.cn, .slice p.Af e.feasts.length p.cf, .int .i64 e.nw, .int .i64 e.fl, .int .i64 e.wide] 32) = W := ⟨_, rfl⟩
  rw [hW] at HR0 HE0 ⊢
  clear hW
  refine Code.wp_mono (Q := fun e' a' w' => e' = .normal ∧ ∃ M4 M5 M b, W.heap.size ≤ b ∧ W.heap.size ≤ M ∧ Ext W w' ∧ Row w' b 100 #[.slice p.Ab e.sky.bodies.length p.cb, .int .i64 e.sky.nnum, .int .i64 e.sky.nden, .int .i64 e.sky.nstart, .slice p.As e.sun.length p.cs, .slice p.Am e.moon.length p.cm, .slice p.An e.node.length p.cn, .slice p.Af e.feasts.length p.cf, .int .i64 e.nw, .int .i64 e.fl, .int .i64 e.wide, .slice p.At set.length p.ct, .map (some M)] ∧ Seen e set M w' ∧ a' = (⟨#[.agg #[.slice p.Ab e.sky.bodies.length p.cb, .int .i64 e.sky.nnum, .int .i64 e.sky.nden, .int .i64 e.sky.nstart, .slice p.As e.sun.length p.cs, .slice p.Am e.moon.length p.cm, .slice p.An e.node.length p.cn, .slice p.Af e.feasts.length p.cf, .int .i64 e.nw, .int .i64 e.fl, .int .i64 e.wide], .slice p.At set.length p.ct, .int .i64 lo, .int .i64 hi, .int .i64 late, .pointer (some ⟨w.heap.size, 0, none⟩), undef, undef, undef, undef, .int .i64 0, .int .i64 0, .pointer (some ⟨b, 0, none⟩), .int .i64 0, undef, undef, undef, undef, undef, undef, .tuple #[.agg #[.slice p.Ab e.sky.bodies.length p.cb, .int .i64 e.sky.nnum, .int .i64 e.sky.nden, .int .i64 e.sky.nstart, .slice p.As e.sun.length p.cs, .slice p.Am e.moon.length p.cm, .slice p.An e.node.length p.cn, .slice p.Af e.feasts.length p.cf, .int .i64 e.nw, .int .i64 e.fl, .int .i64 e.wide, .slice p.At set.length p.ct, .map (some M5)], .int .i64 0], .agg #[.slice p.Ab e.sky.bodies.length p.cb, .int .i64 e.sky.nnum, .int .i64 e.sky.nden, .int .i64 e.sky.nstart, .slice p.As e.sun.length p.cs, .slice p.Am e.moon.length p.cm, .slice p.An e.node.length p.cn, .slice p.Af e.feasts.length p.cf, .int .i64 e.nw, .int .i64 e.fl, .int .i64 e.wide], .slice p.At set.length p.ct, .int .i64 lo, .int .i64 hi, .bool true, .bool true, .int .i64 late, .bool true, .bool true, .tuple #[.agg #[.slice p.Ab e.sky.bodies.length p.cb, .int .i64 e.sky.nnum, .int .i64 e.sky.nden, .int .i64 e.sky.nstart, .slice p.As e.sun.length p.cs, .slice p.Am e.moon.length p.cm, .slice p.An e.node.length p.cn, .slice p.Af e.feasts.length p.cf, .int .i64 e.nw, .int .i64 e.fl, .int .i64 e.wide, .slice p.At set.length p.ct, .map (some M4)], .int .i64 0], .agg #[.slice p.Ab e.sky.bodies.length p.cb, .int .i64 e.sky.nnum, .int .i64 e.sky.nden, .int .i64 e.sky.nstart, .slice p.As e.sun.length p.cs, .slice p.Am e.moon.length p.cm, .slice p.An e.node.length p.cn, .slice p.Af e.feasts.length p.cf, .int .i64 e.nw, .int .i64 e.fl, .int .i64 e.wide, .slice p.At set.length p.ct, .map (some M)], .int .i64 0, undef, undef, undef, undef, undef, undef, undef, undef, undef, undef, undef, undef, undef, undef, undef, undef, undef, undef, undef, undef, undef, undef, undef, undef, undef, undef, undef, undef, undef, undef, undef, undef, undef, undef, undef, undef, undef, undef, undef, undef, undef, undef, undef, undef, undef, undef, undef, undef, undef, undef], []⟩ : Act)) ?hq (wp_region_free_tail 14 12 (widensΦ p e set lo hi late W) (by kernel_rfl) (by simp) (by kernel_rfl) (by kernel_rfl) (by kernel_rfl) (by kernel_rfl) widensΦ_mono ?hob ?hQ ?hZ)
  case hob =>
    intro i o hin ho a wa hE hF
    match i, hin with
    | 0, _ =>
      obtain rfl := Option.some.inj ho
      have h0 : a.tmps[5]?.getD undef = .pointer (some ⟨w.heap.size, 0, none⟩) := evalD (hF.old 5 (by decide))
      have q := (HR0.out.ext hE).cell
      refine Ran.value rfl (v := .agg #[.slice p.Ab e.sky.bodies.length p.cb, .int .i64 e.sky.nnum, .int .i64 e.sky.nden, .int .i64 e.sky.nstart, .slice p.As e.sun.length p.cs, .slice p.Am e.moon.length p.cm, .slice p.An e.node.length p.cn, .slice p.Af e.feasts.length p.cf, .int .i64 e.nw, .int .i64 e.fl, .int .i64 e.wide]) (w1 := wa) ?_ ⟨rfl, Ext.refl _⟩
      go_simp
    | 1, _ =>
      obtain rfl := Option.some.inj ho
      have h0 : a.tmps[1]?.getD undef = .slice p.At set.length p.ct := evalD (hF.old 1 (by decide))
      refine Ran.value rfl (v := .slice p.At set.length p.ct) (w1 := wa) ?_ ⟨rfl, Ext.refl _⟩
      go_simp
    | 2, _ =>
      obtain rfl := Option.some.inj ho
      have h0 : a.tmps[2]?.getD undef = .int .i64 lo := evalD (hF.old 2 (by decide))
      refine Ran.value rfl (v := .int .i64 lo) (w1 := wa) ?_ ⟨rfl, Ext.refl _⟩
      go_simp
    | 3, _ =>
      obtain rfl := Option.some.inj ho
      have h0 : a.tmps[3]?.getD undef = .int .i64 hi := evalD (hF.old 3 (by decide))
      refine Ran.value rfl (v := .int .i64 hi) (w1 := wa) ?_ ⟨rfl, Ext.refl _⟩
      go_simp
    | 4, _ =>
      obtain rfl := Option.some.inj ho
      have h0 : a.tmps[23]?.getD undef = .int .i64 lo := evalD (hF.from_ 2 23 rfl (by decide))
      have h1 : a.tmps[24]?.getD undef = .int .i64 hi := evalD (hF.from_ 3 24 rfl (by decide))
      refine Ran.enter rfl (f := 76) (args := #[.int .i64 lo, .int .i64 hi]) (w1 := wa) ?_ ?_
      · go_simp
      · refine (e_isSpan_any lo hi _).mono ?_
        rintro r w1 ⟨rfl, rfl⟩
        exact ⟨_, rfl, by rw [c2]; rfl, Ext.refl _⟩
    | 5, _ =>
      obtain rfl := Option.some.inj ho
      have h0 : a.tmps[25]?.getD undef = .bool true := evalD (hF.from_ 4 25 rfl (by decide))
      refine Ran.value rfl (v := .bool true) (w1 := wa) ?_ ⟨rfl, Ext.refl _⟩
      go_simp
    | 6, _ =>
      obtain rfl := Option.some.inj ho
      have hg : a.eval (.tmp 26) = .bool true := hF.from_ 5 26 rfl (by decide)
      refine Ran.if_ rfl rfl rfl hg (fun _ => ?_) (fun h => absurd rfl h)
      have h0 : a.tmps[4]?.getD undef = .int .i64 late := evalD (hF.old 4 (by decide))
      refine Ran.value rfl (v := .int .i64 late) (w1 := wa) ?_ ⟨rfl, Ext.refl _⟩
      go_simp
    | 7, _ =>
      obtain rfl := Option.some.inj ho
      have hg : a.eval (.tmp 26) = .bool true := hF.from_ 5 26 rfl (by decide)
      refine Ran.if_ rfl rfl rfl hg (fun _ => ?_) (fun h => absurd rfl h)
      have h0 : a.tmps[27]?.getD undef = .int .i64 late := evalD (hF.from_ 6 27 rfl (by decide))
      refine Ran.enter rfl (f := 83) (args := #[.int .i64 late]) (w1 := wa) ?_ ?_
      · go_simp
      · refine (e_isLate_any late _).mono ?_
        rintro r w1 ⟨rfl, rfl⟩
        exact ⟨_, rfl, by rw [c3]; rfl, Ext.refl _⟩
    | 8, _ =>
      obtain rfl := Option.some.inj ho
      have h0 : a.tmps[26]?.getD undef = .bool true := evalD (hF.from_ 5 26 rfl (by decide))
      have h1 : a.tmps[28]?.getD undef = .bool true := evalD (hF.from_ 7 28 rfl (by decide))
      refine Ran.value rfl (v := .bool true) (w1 := wa) ?_ ⟨rfl, Ext.refl _⟩
      go_simp
    | 9, _ =>
      obtain rfl := Option.some.inj ho
      have h0 : a.tmps[21]?.getD undef = .agg #[.slice p.Ab e.sky.bodies.length p.cb, .int .i64 e.sky.nnum, .int .i64 e.sky.nden, .int .i64 e.sky.nstart, .slice p.As e.sun.length p.cs, .slice p.Am e.moon.length p.cm, .slice p.An e.node.length p.cn, .slice p.Af e.feasts.length p.cf, .int .i64 e.nw, .int .i64 e.fl, .int .i64 e.wide] := evalD (hF.from_ 0 21 rfl (by decide))
      have h1 : a.tmps[22]?.getD undef = .slice p.At set.length p.ct := evalD (hF.from_ 1 22 rfl (by decide))
      have h2 : a.tmps[29]?.getD undef = .bool true := evalD (hF.from_ 8 29 rfl (by decide))
      refine Ran.enter rfl (f := 69) (args := #[.agg #[.slice p.Ab e.sky.bodies.length p.cb, .int .i64 e.sky.nnum, .int .i64 e.sky.nden, .int .i64 e.sky.nstart, .slice p.As e.sun.length p.cs, .slice p.Am e.moon.length p.cm, .slice p.An e.node.length p.cn, .slice p.Af e.feasts.length p.cf, .int .i64 e.nw, .int .i64 e.fl, .int .i64 e.wide], .slice p.At set.length p.ct, .bool true]) (w1 := wa) ?_ ?_
      · go_simp
      · refine (e_asked_ok p e set wa (HM.out.ext (HE0.out.trans hE)) HL.out hs c0 c1).mono ?_
        rintro r w1 ⟨M, rfl, hM, hC, hX⟩
        exact ⟨_, rfl, ⟨M, rfl, Nat.le_trans hE.size hM, hC⟩, hX⟩
    | 10, _ =>
      obtain rfl := Option.some.inj ho
      obtain ⟨M, h0, hM, hC⟩ : AskTup p e set W (a.eval (.tmp 30)) wa := hF.from_ 9 30 rfl (by decide)
      replace h0 := evalD h0
      refine Ran.value rfl (w1 := wa) (v := .tuple #[.agg #[.slice p.Ab e.sky.bodies.length p.cb, .int .i64 e.sky.nnum, .int .i64 e.sky.nden, .int .i64 e.sky.nstart, .slice p.As e.sun.length p.cs, .slice p.Am e.moon.length p.cm, .slice p.An e.node.length p.cn, .slice p.Af e.feasts.length p.cf, .int .i64 e.nw, .int .i64 e.fl, .int .i64 e.wide, .slice p.At set.length p.ct, .map (some M)], .int .i64 0]) ?_ ⟨⟨M, rfl, hM, hC⟩, Ext.refl _⟩
      go_simp
    | 11, _ =>
      obtain rfl := Option.some.inj ho
      obtain ⟨M, h0, hM, hC⟩ : AskTup p e set W (a.eval (.tmp 20)) wa := hF.from_ 10 20 rfl (by decide)
      replace h0 := evalD h0
      refine Ran.value rfl (w1 := wa) (v := .agg #[.slice p.Ab e.sky.bodies.length p.cb, .int .i64 e.sky.nnum, .int .i64 e.sky.nden, .int .i64 e.sky.nstart, .slice p.As e.sun.length p.cs, .slice p.Am e.moon.length p.cm, .slice p.An e.node.length p.cn, .slice p.Af e.feasts.length p.cf, .int .i64 e.nw, .int .i64 e.fl, .int .i64 e.wide, .slice p.At set.length p.ct, .map (some M)]) ?_ ⟨⟨M, rfl, hM, hC⟩, Ext.refl _⟩
      go_simp
    | 12, _ =>
      obtain rfl := Option.some.inj ho
      obtain ⟨M, h0, hM, hC⟩ : AskTup p e set W (a.eval (.tmp 20)) wa := hF.from_ 10 20 rfl (by decide)
      replace h0 := evalD h0
      refine Ran.value rfl (w1 := wa) (v := .int .i64 0) ?_ ⟨rfl, Ext.refl _⟩
      go_simp
    | 13, _ =>
      obtain rfl := Option.some.inj ho
      refine Ran.value rfl (w1 := wa.alloc (.cells zeroEng 100)) (v := .pointer (some ⟨wa.heap.size, 0, none⟩)) (by kernel_rfl) ⟨⟨wa.heap.size, rfl, hE.size, Row.new _ _ _⟩, (Ext.refl _).alloc _⟩
    | k + 14, hin => omega
  case hQ =>
    intro vs w2 hE hΦ
    have f0 : vs 0 = .agg #[.slice p.Ab e.sky.bodies.length p.cb, .int .i64 e.sky.nnum, .int .i64 e.sky.nden, .int .i64 e.sky.nstart, .slice p.As e.sun.length p.cs, .slice p.Am e.moon.length p.cm, .slice p.An e.node.length p.cn, .slice p.Af e.feasts.length p.cf, .int .i64 e.nw, .int .i64 e.fl, .int .i64 e.wide] := hΦ 0 (by omega)
    have f1 : vs 1 = .slice p.At set.length p.ct := hΦ 1 (by omega)
    have f2 : vs 2 = .int .i64 lo := hΦ 2 (by omega)
    have f3 : vs 3 = .int .i64 hi := hΦ 3 (by omega)
    have f4 : vs 4 = .bool true := hΦ 4 (by omega)
    have f5 : vs 5 = .bool true := hΦ 5 (by omega)
    have f6 : vs 6 = .int .i64 late := hΦ 6 (by omega)
    have f7 : vs 7 = .bool true := hΦ 7 (by omega)
    have f8 : vs 8 = .bool true := hΦ 8 (by omega)
    obtain ⟨M4, f9, _, _⟩ : AskTup p e set W (vs 9) w2 := hΦ 9 (by omega)
    obtain ⟨M5, f10, _, _⟩ : AskTup p e set W (vs 10) w2 := hΦ 10 (by omega)
    obtain ⟨M, f11, hM, hC⟩ : AskAgg p e set W (vs 11) w2 := hΦ 11 (by omega)
    have f12 : vs 12 = .int .i64 0 := hΦ 12 (by omega)
    obtain ⟨b, f13, hb, hr⟩ : AskNew W (vs 13) w2 := hΦ 13 (by omega)
    have hrg : List.range 14 = [0, 1, 2, 3, 4, 5, 6, 7, 8, 9, 10, 11, 12, 13] := rfl
    unfold putAll putS
    simp only [List.length_cons, List.length_nil, List.take_succ_cons, List.take_zero, List.drop_succ_cons, List.drop_zero, Nat.reduceAdd, hrg, List.foldl_cons, List.foldl_nil, dstOf, List.getElem?_cons_succ, List.getElem?_cons_zero, Option.bind_some]
    clear hrg
    rw [f0, f1, f2, f3, f4, f5, f6, f7, f8, f9, f10, f11, f12, f13]
    have c := hr.cell
    simp only [zeroEng] at c
    have fz := hr.free
    have hne : b ≠ M := fun h => (hC.not_row hr) h
    go_wp2
    clear c fz
    obtain ⟨W3, hW3⟩ : ∃ W3, setsAt w2 b 0 [.slice p.Ab e.sky.bodies.length p.cb, .int .i64 e.sky.nnum, .int .i64 e.sky.nden, .int .i64 e.sky.nstart, .slice p.As e.sun.length p.cs, .slice p.Am e.moon.length p.cm, .slice p.An e.node.length p.cn, .slice p.Af e.feasts.length p.cf, .int .i64 e.nw, .int .i64 e.fl, .int .i64 e.wide, .slice p.At set.length p.ct, .map (some M)] = W3 := ⟨_, rfl⟩
    have hR3 : Row W3 b 100 #[.slice p.Ab e.sky.bodies.length p.cb, .int .i64 e.sky.nnum, .int .i64 e.sky.nden, .int .i64 e.sky.nstart, .slice p.As e.sun.length p.cs, .slice p.Am e.moon.length p.cm, .slice p.An e.node.length p.cn, .slice p.Af e.feasts.length p.cf, .int .i64 e.nw, .int .i64 e.fl, .int .i64 e.wide, .slice p.At set.length p.ct, .map (some M)] := by rw [← hW3]; exact Row.sets (cs := [.slice none 0 0, .int .i64 0, .int .i64 0, .int .i64 0, .slice none 0 0, .slice none 0 0, .slice none 0 0, .slice none 0 0, .int .i64 0, .int .i64 0, .int .i64 0, .slice none 0 0, .map none]) hr _ rfl
    have hE3 : Ext W W3 := by rw [← hW3]; exact Ext.sets hb _ _ _ hE
    have hC3 : Seen e set M W3 := by rw [← hW3]; exact Cache.sets hne _ _ _ hC
    simp only [setsAt, Nat.reduceAdd] at hW3
    try rw [hW3]
    exact ⟨M4, M5, M, b, hb, hM, hE3, hR3, hC3, by simp⟩
  case hZ =>
    intro _ vs w2 hE hΦ on oz hon hoz
    obtain rfl := Option.some.inj hon
    obtain rfl := Option.some.inj hoz
    have f0 : vs 0 = .agg #[.slice p.Ab e.sky.bodies.length p.cb, .int .i64 e.sky.nnum, .int .i64 e.sky.nden, .int .i64 e.sky.nstart, .slice p.As e.sun.length p.cs, .slice p.Am e.moon.length p.cm, .slice p.An e.node.length p.cn, .slice p.Af e.feasts.length p.cf, .int .i64 e.nw, .int .i64 e.fl, .int .i64 e.wide] := hΦ 0 (by omega) (by omega)
    have f1 : vs 1 = .slice p.At set.length p.ct := hΦ 1 (by omega) (by omega)
    have f2 : vs 2 = .int .i64 lo := hΦ 2 (by omega) (by omega)
    have f3 : vs 3 = .int .i64 hi := hΦ 3 (by omega) (by omega)
    have f4 : vs 4 = .bool true := hΦ 4 (by omega) (by omega)
    have f5 : vs 5 = .bool true := hΦ 5 (by omega) (by omega)
    have f6 : vs 6 = .int .i64 late := hΦ 6 (by omega) (by omega)
    have f7 : vs 7 = .bool true := hΦ 7 (by omega) (by omega)
    have f8 : vs 8 = .bool true := hΦ 8 (by omega) (by omega)
    obtain ⟨M4, f9, _, _⟩ : AskTup p e set W (vs 9) w2 := hΦ 9 (by omega) (by omega)
    obtain ⟨M5, f10, _, _⟩ : AskTup p e set W (vs 10) w2 := hΦ 10 (by omega) (by omega)
    obtain ⟨M, f11, hM, hC⟩ : AskAgg p e set W (vs 11) w2 := hΦ 11 (by omega) (by omega)
    obtain ⟨b, f13, hb, hr⟩ : AskNew W (vs 13) w2 := hΦ 13 (by omega) (by omega)
    have hrg : (List.range 14).filter (· ≠ 12) = [0, 1, 2, 3, 4, 5, 6, 7, 8, 9, 10, 11, 13] := by decide
    rw [hrg]
    unfold putS
    simp only [List.take_succ_cons, List.take_zero, List.drop_succ_cons, List.drop_zero, Nat.reduceAdd, List.foldl_cons, List.foldl_nil, dstOf, List.getElem?_cons_succ, List.getElem?_cons_zero, Option.bind_some]
    clear hrg
    rw [f0, f1, f2, f3, f4, f5, f6, f7, f8, f9, f10, f11, f13]
    have c := hr.cell
    simp only [zeroEng] at c
    have fz := hr.free
    have hne : b ≠ M := fun h => (hC.not_row hr) h
    go_wp2
    clear c fz
    obtain ⟨W3, hW3⟩ : ∃ W3, setsAt w2 b 0 [.slice p.Ab e.sky.bodies.length p.cb, .int .i64 e.sky.nnum, .int .i64 e.sky.nden, .int .i64 e.sky.nstart, .slice p.As e.sun.length p.cs, .slice p.Am e.moon.length p.cm, .slice p.An e.node.length p.cn, .slice p.Af e.feasts.length p.cf, .int .i64 e.nw, .int .i64 e.fl, .int .i64 e.wide, .slice p.At set.length p.ct, .map (some M)] = W3 := ⟨_, rfl⟩
    have hR3 : Row W3 b 100 #[.slice p.Ab e.sky.bodies.length p.cb, .int .i64 e.sky.nnum, .int .i64 e.sky.nden, .int .i64 e.sky.nstart, .slice p.As e.sun.length p.cs, .slice p.Am e.moon.length p.cm, .slice p.An e.node.length p.cn, .slice p.Af e.feasts.length p.cf, .int .i64 e.nw, .int .i64 e.fl, .int .i64 e.wide, .slice p.At set.length p.ct, .map (some M)] := by rw [← hW3]; exact Row.sets (cs := [.slice none 0 0, .int .i64 0, .int .i64 0, .int .i64 0, .slice none 0 0, .slice none 0 0, .slice none 0 0, .slice none 0 0, .int .i64 0, .int .i64 0, .int .i64 0, .slice none 0 0, .map none]) hr _ rfl
    have hE3 : Ext W W3 := by rw [← hW3]; exact Ext.sets hb _ _ _ hE
    have hC3 : Seen e set M W3 := by rw [← hW3]; exact Cache.sets hne _ _ _ hC
    simp only [setsAt, Nat.reduceAdd] at hW3
    try rw [hW3]
    exact ⟨M4, M5, M, b, hb, hM, hE3, hR3, hC3, by simp⟩
  case hq =>
    rintro e' a' w3 ⟨rfl, M4, M5, M, b, hb, hM, hE3, hR3, hC3, rfl⟩
    have hMw := Nat.le_trans HE0.out.size hM
    have HE3 := Lib.hid (HE0.out.trans hE3)
    have HR3 := Lib.hid hR3
    have HC3 := Lib.hid hC3
    have c := hR3.cell
    clear hE3 hR3 hC3
    go_wp2_with fail
    refine (e_real_any p e set M lo hi _ HK.out (HM.out.ext HE3.out) HL.out.sky (by omega) hd.2.1 (by omega) (by omega) (by omega)).mono ?_
    rintro r w4 ⟨v, rfl, hv, hE4⟩
    have hx : max 1 lo = lo := by omega
    rw [hx] at hv
    clear hx c
    have HE4 := Lib.hid (HE3.out.trans hE4)
    have HR4 := Lib.hid (HR3.out.ext hE4)
    have HC4 := Lib.hid (HC3.out.ext hE4)
    have hz4 := HE4.out.size
    have hM4 := HC4.out.lt
    have hll := realL_len e lo hi
    have HD : Hid (∀ x ∈ Ec.realL e lo hi, lo ≤ x.day ∧ x.day ≤ hi) := Lib.hid fun x hx => by
      obtain ⟨a, b, _⟩ := (Ec.ecls_mem _ _ _ _ _ x).1 hx
      exact ⟨a, b⟩
    have HQ : Hid (Ec.widens e set lo hi late = Ec.wideN e set late (Ec.realL e lo hi)) := Lib.hid rfl
    obtain ⟨l, hL⟩ : ∃ l, Ec.realL e lo hi = l := ⟨_, rfl⟩
    rw [hL] at hv hll HD HQ
    clear hL hE4
    obtain ⟨AM, cM, rfl, hcl⟩ := hv
    have HCL := Lib.hid hcl
    clear hcl
    go_wp2_with fail
    go_loopw [14, 41] (fun v d wr => WidRel w4 e set M late l v d wr) (fun _ d _ => l.length - (intOf d).toNat)
    case atStart => exact ⟨0, Nat.zero_le _, rfl, by simp [Ec.wideN], Step.refl HC4.out⟩
    case round =>
      obtain ⟨k, hk, rfl, rfl, hmv⟩ := hrel
      have HMV := Lib.hid hmv
      have hmz := hmv.size
      by_cases hlt : k < l.length
      · have htake : l.take (k + 1) = l.take k ++ [l[k]] := by rw [List.take_succ_eq_append_getElem hlt]
        have hday := HD.out l[k] (List.getElem_mem hlt)
        obtain ⟨b', o, rfl, hcell⟩ := HCL.out (by omega)
        obtain ⟨q1, q2, q3⟩ := hcell k hlt
        replace q1 := hmv.cell HC4.out q1
        replace q2 := hmv.cell HC4.out q2
        replace q3 := hmv.cell HC4.out q3
        have hnext := wideN_snoc e set late (l.take k) l[k]
        rw [← htake] at hnext
        have hvb := wideN_bounds e set late (l.take k)
        obtain ⟨V, hV⟩ : ∃ V, Ec.wideN e set late (l.take k) = V := ⟨_, rfl⟩
        rw [hV] at hnext hvb ⊢
        have HN := Lib.hid hnext
        obtain ⟨m, hm⟩ : ∃ m, l[k] = m := ⟨_, rfl⟩
        rw [hm] at q1 q2 q3 hday HN
        clear hmv hcell htake hnext hm hV
        obtain ⟨md, mf, mr⟩ := m
        simp only at q1 q2 q3 hday
        have j1 := lts (lt_of_cell q1)
        have HNr := Lib.hid (Row.new wr 59 #[.int .i64 md, .bool mf, .int .i64 mr])
        have HCr := Lib.hid (HMV.out.cache.ext ((Ext.refl wr).alloc (.cells #[.int .i64 md, .bool mf, .int .i64 mr] 59)))
        have HMr := Lib.hid (HMV.out.ext ((Ext.refl wr).alloc (.cells #[.int .i64 md, .bool mf, .int .i64 mr] 59)))
        go_wp2_with fail
        refine (e_phaseOf_any mf _).mono ?_
        rintro r w5 ⟨rfl, hE5⟩
        have HN5 := Lib.hid (HNr.out.ext hE5)
        have HC5 := Lib.hid (HCr.out.ext hE5)
        have HM5 := Lib.hid (HMr.out.ext hE5)
        have n5 := HN5.out.cell
        clear hE5 q1 q2 q3
        go_wp2_with fail
        clear n5
        obtain ⟨lo1, hlo1⟩ : ∃ lo1, max 1 (md - late) = lo1 := ⟨_, rfl⟩
        have hl1 : 1 ≤ lo1 ∧ md - late ≤ lo1 ∧ lo1 ≤ md := by omega
        rw [hlo1]
        have HLO := Lib.hid hlo1
        clear hlo1
        obtain ⟨wo, rfl⟩ : ∃ wo : World, wo = wr := ⟨_, rfl⟩
        obtain ⟨n, hn⟩ : ∃ n, (md + late + 1 - lo1).toNat = n := ⟨_, rfl⟩
        go_loopw [18, 19] (fun v d wr => LeaRel w5 e set M mf lo1 n v d wr) (fun _ d _ => (md + late + 1 - intOf d).toNat)
        case atStart => exact ⟨0, Nat.zero_le _, by simp, by simp [Ec.leastN], Step.refl HC5.out⟩
        case round =>
          obtain ⟨j, hj, rfl, rfl, hmv⟩ := hrel
          have HMj := Lib.hid hmv
          have hjb := leastN_bounds e set mf lo1 j
          have nj := (hmv.row HC5.out HN5.out).cell
          have HRx := Lib.hid (hmv.row HC5.out (HM5.out.row HC4.out HR4.out))
          have HCx := Lib.hid hmv.cache
          have HMx := Lib.hid (HM.out.ext (HE4.out.trans' ((HM5.out.trans hmv).below hMw HE4.out.size)))
          clear hmv
          have hs1 : Ec.leastN e set mf lo1 (j + 1) = if Ec.hasB e set (lo1 + j) mf = true then min (Ec.leastN e set mf lo1 j) (max 0 (Ec.farAt e set (lo1 + j) - Ec.limitOf e mf)) else Ec.leastN e set mf lo1 j := rfl
          have HS := Lib.hid hs1
          clear hs1
          obtain ⟨Lj, hLj⟩ : ∃ Lj, Ec.leastN e set mf lo1 j = Lj := ⟨_, rfl⟩
          rw [hLj] at hjb HS ⊢
          have HLJ := Lib.hid hLj
          clear hLj
          by_cases hjn : j < n
          · have c := HRx.out.cell
            go_wp2_with fail
            refine (e_has_any p e set M (lo1 + j) mf wr HK.out HMx.out HCx.out (by omega) (by omega)).mono ?_
            rintro r w6 ⟨rfl, hS6⟩
            replace HRx := Lib.hid (hS6.row HCx.out HRx.out)
            replace HMx := Lib.hid (HMx.out.stay (hS6.stays HCx.out))
            replace HMj := Lib.hid (HMj.out.trans hS6)
            have nj6 := (HMj.out.row HC5.out HN5.out).cell
            replace HCx := Lib.hid hS6.cache
            clear hS6 c nj
            cases hb : Ec.hasB e set (lo1 + j) mf
            · rw [hb] at HS
              have HSS := Lib.hid (HS.out.trans (if_neg (by simp)))
              clear hb
              go_wp2_with fail
              go_roundw
              case rel => exact ⟨j + 1, by omega, by go_num, by rw [HSS.out], HMj.out⟩
              case measure => simp [intOf]; omega
            · rw [hb] at HS
              have HSS := Lib.hid (HS.out.trans (if_pos rfl))
              have hfb := far_bounds e set (lo1 + j)
              have hlb : 0 ≤ Ec.limitOf e mf ∧ Ec.limitOf e mf ≤ 5400 := by
                obtain ⟨a1, a2, _⟩ := HK.out.limits
                unfold Ec.limitOf
                cases mf <;> simp <;> omega
              clear hb nj6
              go_wp2_with fail
              refine wp_region_free_tailR (Move e set M) (Step.of_ext HCx.out ((Ext.refl _).drew)) (fun h k => Step.trans h k) 10 10 (widΦ p e set M mf Lj (lo1 + j)) (by kernel_rfl) (by simp) (by kernel_rfl) (by kernel_rfl) (by kernel_rfl) (by kernel_rfl) (fun _ _ _ _ h _ => h) ?hob ?hQ (fun h => absurd h (by omega))
              case hob =>
                intro i o hin ho a wa hE hF
                match i, hin with
                | 0, _ =>
                  obtain rfl := Option.some.inj ho
                  have h0 : a.tmps[18]?.getD undef = .int .i64 Lj := evalD (hF.old 18 (by decide))
                  refine Ran.value rfl (v := .int .i64 Lj) (w1 := wa) ?_ ⟨rfl, Step.refl hE.cache⟩
                  go_simp
                | 1, _ =>
                  obtain rfl := Option.some.inj ho
                  have h0 : a.tmps[12]?.getD undef = .pointer (some ⟨b, 0, none⟩) := evalD (hF.old 12 (by decide))
                  have q := (hE.row HCx.out HRx.out).cell
                  refine Ran.value rfl (v := .agg #[.slice p.Ab e.sky.bodies.length p.cb, .int .i64 e.sky.nnum, .int .i64 e.sky.nden, .int .i64 e.sky.nstart, .slice p.As e.sun.length p.cs, .slice p.Am e.moon.length p.cm, .slice p.An e.node.length p.cn, .slice p.Af e.feasts.length p.cf, .int .i64 e.nw, .int .i64 e.fl, .int .i64 e.wide, .slice p.At set.length p.ct, .map (some M)]) (w1 := wa) ?_ ⟨rfl, Step.refl hE.cache⟩
                  go_simp
                | 2, _ =>
                  obtain rfl := Option.some.inj ho
                  have h0 : a.tmps[19]?.getD undef = .int .i64 (lo1 + j) := evalD (hF.old 19 (by decide))
                  refine Ran.value rfl (v := .int .i64 (lo1 + j)) (w1 := wa) ?_ ⟨rfl, Step.refl hE.cache⟩
                  go_simp
                | 3, _ =>
                  obtain rfl := Option.some.inj ho
                  have h0 : a.tmps[66]?.getD undef = .agg #[.slice p.Ab e.sky.bodies.length p.cb, .int .i64 e.sky.nnum, .int .i64 e.sky.nden, .int .i64 e.sky.nstart, .slice p.As e.sun.length p.cs, .slice p.Am e.moon.length p.cm, .slice p.An e.node.length p.cn, .slice p.Af e.feasts.length p.cf, .int .i64 e.nw, .int .i64 e.fl, .int .i64 e.wide, .slice p.At set.length p.ct, .map (some M)] := evalD (hF.from_ 1 66 rfl (by decide))
                  have h1 : a.tmps[67]?.getD undef = .int .i64 (lo1 + j) := evalD (hF.from_ 2 67 rfl (by decide))
                  refine Ran.enter rfl (f := 89) (args := #[.agg #[.slice p.Ab e.sky.bodies.length p.cb, .int .i64 e.sky.nnum, .int .i64 e.sky.nden, .int .i64 e.sky.nstart, .slice p.As e.sun.length p.cs, .slice p.Am e.moon.length p.cm, .slice p.An e.node.length p.cn, .slice p.Af e.feasts.length p.cf, .int .i64 e.nw, .int .i64 e.fl, .int .i64 e.wide, .slice p.At set.length p.ct, .map (some M)], .int .i64 (lo1 + j)]) (w1 := wa) ?_ ?_
                  · go_simp
                  · refine (e_far_any p e set M (lo1 + j) wa HK.out (HMx.out.stay (hE.stays HCx.out)) hE.cache (by omega) (by omega)).mono ?_
                    rintro r w1 ⟨rfl, hS⟩
                    exact ⟨_, rfl, rfl, hS⟩
                | 4, _ =>
                  obtain rfl := Option.some.inj ho
                  have h0 : a.tmps[12]?.getD undef = .pointer (some ⟨b, 0, none⟩) := evalD (hF.old 12 (by decide))
                  have q := (hE.row HCx.out HRx.out).cell
                  refine Ran.value rfl (v := .agg #[.slice p.Ab e.sky.bodies.length p.cb, .int .i64 e.sky.nnum, .int .i64 e.sky.nden, .int .i64 e.sky.nstart, .slice p.As e.sun.length p.cs, .slice p.Am e.moon.length p.cm, .slice p.An e.node.length p.cn, .slice p.Af e.feasts.length p.cf, .int .i64 e.nw, .int .i64 e.fl, .int .i64 e.wide, .slice p.At set.length p.ct, .map (some M)]) (w1 := wa) ?_ ⟨rfl, Step.refl hE.cache⟩
                  go_simp
                | 5, _ =>
                  obtain rfl := Option.some.inj ho
                  have h0 : a.tmps[17]?.getD undef = phV mf := evalD (hF.old 17 (by decide))
                  refine Ran.value rfl (v := phV mf) (w1 := wa) ?_ ⟨rfl, Step.refl hE.cache⟩
                  go_simp
                | 6, _ =>
                  obtain rfl := Option.some.inj ho
                  have h0 : a.tmps[69]?.getD undef = .agg #[.slice p.Ab e.sky.bodies.length p.cb, .int .i64 e.sky.nnum, .int .i64 e.sky.nden, .int .i64 e.sky.nstart, .slice p.As e.sun.length p.cs, .slice p.Am e.moon.length p.cm, .slice p.An e.node.length p.cn, .slice p.Af e.feasts.length p.cf, .int .i64 e.nw, .int .i64 e.fl, .int .i64 e.wide, .slice p.At set.length p.ct, .map (some M)] := evalD (hF.from_ 4 69 rfl (by decide))
                  have h1 : a.tmps[70]?.getD undef = phV mf := evalD (hF.from_ 5 70 rfl (by decide))
                  refine Ran.enter rfl (f := 90) (args := #[.agg #[.slice p.Ab e.sky.bodies.length p.cb, .int .i64 e.sky.nnum, .int .i64 e.sky.nden, .int .i64 e.sky.nstart, .slice p.As e.sun.length p.cs, .slice p.Am e.moon.length p.cm, .slice p.An e.node.length p.cn, .slice p.Af e.feasts.length p.cf, .int .i64 e.nw, .int .i64 e.fl, .int .i64 e.wide, .slice p.At set.length p.ct, .map (some M)], phV mf]) (w1 := wa) ?_ ?_
                  · go_simp
                  · refine (e_limit_any p e set M mf wa).mono ?_
                    rintro r w1 ⟨rfl, hS⟩
                    exact ⟨_, rfl, rfl, Step.of_ext hE.cache hS⟩
                | 7, _ =>
                  obtain rfl := Option.some.inj ho
                  have h0 : a.tmps[68]?.getD undef = .int .i64 (Ec.farAt e set (lo1 + j)) := evalD (hF.from_ 3 68 rfl (by decide))
                  have h1 : a.tmps[71]?.getD undef = .int .i64 (Ec.limitOf e mf) := evalD (hF.from_ 6 71 rfl (by decide))
                  refine Ran.value rfl (v := .int .i64 (Ec.farAt e set (lo1 + j) - Ec.limitOf e mf)) (w1 := wa) ?_ ⟨rfl, Step.refl hE.cache⟩
                  go_simp
                  exact IntWalk.i64_in _ ⟨by omega, by omega⟩
                | 8, _ =>
                  obtain rfl := Option.some.inj ho
                  have h0 : a.tmps[72]?.getD undef = .int .i64 (Ec.farAt e set (lo1 + j) - Ec.limitOf e mf) := evalD (hF.from_ 7 72 rfl (by decide))
                  refine Ran.value rfl (v := .int .i64 (max 0 (Ec.farAt e set (lo1 + j) - Ec.limitOf e mf))) (w1 := wa) ?_ ⟨rfl, Step.refl hE.cache⟩
                  go_simp
                | 9, _ =>
                  obtain rfl := Option.some.inj ho
                  have h0 : a.tmps[65]?.getD undef = .int .i64 Lj := evalD (hF.from_ 0 65 rfl (by decide))
                  have h1 : a.tmps[73]?.getD undef = .int .i64 (max 0 (Ec.farAt e set (lo1 + j) - Ec.limitOf e mf)) := evalD (hF.from_ 8 73 rfl (by decide))
                  refine Ran.value rfl (v := .int .i64 (min Lj (max 0 (Ec.farAt e set (lo1 + j) - Ec.limitOf e mf)))) (w1 := wa) ?_ ⟨rfl, Step.refl hE.cache⟩
                  go_simp
                | k + 10, hin => omega
              case hQ =>
                intro vs w2 hE hΦ
                have f0 : vs 0 = .int .i64 Lj := hΦ 0 (by omega)
                have f1 : vs 1 = .agg #[.slice p.Ab e.sky.bodies.length p.cb, .int .i64 e.sky.nnum, .int .i64 e.sky.nden, .int .i64 e.sky.nstart, .slice p.As e.sun.length p.cs, .slice p.Am e.moon.length p.cm, .slice p.An e.node.length p.cn, .slice p.Af e.feasts.length p.cf, .int .i64 e.nw, .int .i64 e.fl, .int .i64 e.wide, .slice p.At set.length p.ct, .map (some M)] := hΦ 1 (by omega)
                have f2 : vs 2 = .int .i64 (lo1 + j) := hΦ 2 (by omega)
                have f3 : vs 3 = .int .i64 (Ec.farAt e set (lo1 + j)) := hΦ 3 (by omega)
                have f4 : vs 4 = .agg #[.slice p.Ab e.sky.bodies.length p.cb, .int .i64 e.sky.nnum, .int .i64 e.sky.nden, .int .i64 e.sky.nstart, .slice p.As e.sun.length p.cs, .slice p.Am e.moon.length p.cm, .slice p.An e.node.length p.cn, .slice p.Af e.feasts.length p.cf, .int .i64 e.nw, .int .i64 e.fl, .int .i64 e.wide, .slice p.At set.length p.ct, .map (some M)] := hΦ 4 (by omega)
                have f5 : vs 5 = phV mf := hΦ 5 (by omega)
                have f6 : vs 6 = .int .i64 (Ec.limitOf e mf) := hΦ 6 (by omega)
                have f7 : vs 7 = .int .i64 (Ec.farAt e set (lo1 + j) - Ec.limitOf e mf) := hΦ 7 (by omega)
                have f8 : vs 8 = .int .i64 (max 0 (Ec.farAt e set (lo1 + j) - Ec.limitOf e mf)) := hΦ 8 (by omega)
                have f9 : vs 9 = .int .i64 (min Lj (max 0 (Ec.farAt e set (lo1 + j) - Ec.limitOf e mf))) := hΦ 9 (by omega)
                have hrg : List.range 10 = [0, 1, 2, 3, 4, 5, 6, 7, 8, 9] := rfl
                unfold putAll putS
                simp only [List.length_cons, List.length_nil, List.take_succ_cons, List.take_zero, List.drop_succ_cons, List.drop_zero, Nat.reduceAdd, hrg, List.foldl_cons, List.foldl_nil, dstOf, List.getElem?_cons_succ, List.getElem?_cons_zero, Option.bind_some]
                clear hrg
                rw [f0, f1, f2, f3, f4, f5, f6, f7, f8, f9]

                have HM9 := Lib.hid (HMj.out.trans hE)
                have n9 := (HM9.out.row HC5.out HN5.out).cell
                clear hΦ f0 f1 f2 f3 f4 f5 f6 f7 f8 f9 hE
                go_wp2_with fail
                go_roundw
                case rel => exact ⟨j + 1, by omega, by go_num, by rw [HSS.out], HM9.out⟩
                case measure => simp [intOf]; omega
          · obtain rfl : j = n := by omega
            have HF : Hid (Ec.leastOf e set late ⟨md, mf, mr⟩ = Lj) := Lib.hid (by unfold Ec.leastOf; simp only; rw [HLO.out, hn, HLJ.out])
            go_wp2_with fail
            go_roundw
            case rel => exact ⟨k + 1, by omega, by go_num, by rw [HN.out, HF.out], HM5.out.trans HMj.out⟩
            case measure => simp [intOf]; omega
      · obtain rfl : k = l.length := by omega
        have HEr := Lib.hid (HE4.out.trans' (hmv.below hMw HE4.out.size))
        have hvb := wideN_bounds e set late l
        rw [List.take_length]
        rw [← HQ.out] at hvb ⊢
        obtain ⟨V, hV⟩ : ∃ V, Ec.widens e set lo hi late = V := ⟨_, rfl⟩
        rw [hV] at hvb ⊢
        have HV := Lib.hid hV
        clear hmv hV
        go_wp2_with fail
        refine (e_isLimit_any V _).mono ?_
        rintro r w6 ⟨rfl, rfl⟩
        cases hb : Sp.isLimit V
        · have HH9 : Hid (wideV (Ec.widens e set lo hi late) = .tuple #[.int .i64 0, .int .i64 5]) := Lib.hid (by rw [HV.out, wideV, hb]; rfl)
          go_wp2_with fail
          go_ret2
          have h9 := HH9.out
          exact ⟨by rw [h9] <;> rfl, HEr.out⟩
        · have HH9 : Hid (wideV (Ec.widens e set lo hi late) = .tuple #[.int .i64 V, .int .i64 0]) := Lib.hid (by rw [HV.out, wideV, hb]; rfl)
          go_wp2_with fail
          go_ret2
          have h9 := HH9.out
          exact ⟨by rw [h9] <;> rfl, HEr.out⟩
end Go.Proofs.YtcbodpnmndbgnaaGreatDoor
