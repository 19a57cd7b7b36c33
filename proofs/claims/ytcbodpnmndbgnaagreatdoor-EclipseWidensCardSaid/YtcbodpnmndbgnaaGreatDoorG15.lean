/- Volume 15 of the texts that the laws of this seat use: EcRef14 EcSetW: walks of the program's functions, and plain laws. -/
import Derived.Carry
import Derived.Test.YtcbodpnmndbgnaaGreatDoorG14
import Derived.Test.YtcbodpnmndbgnaaGreatDoorG10
namespace Go.Proofs.YtcbodpnmndbgnaaGreatDoor
open Go.RowKit
open Sp (rd)
set_option maxRecDepth 100000
set_option maxHeartbeats 8000000
set_option linter.unusedVariables false
theorem least_lim (x : Sp.Ecl) (late : Int) : ∀ (M : List Sp.Ecl) (a : Int), (∀ y ∈ M, 0 ≤ y.far ∧ y.far ≤ 5400) → -1 ≤ a → a ≤ 5400 → -1 ≤ M.foldl (Ec.lstep x late) a ∧ M.foldl (Ec.lstep x late) a ≤ 5400 := by
 intro M
 induction M with
 | nil => intro a _ h1 h2; exact ⟨h1, h2⟩
 | cons z M ih =>
  intro a hf h1 h2
  have hz := hf z (by simp)
  simp only [List.foldl_cons]
  refine ih _ (fun y hy => hf y (by simp [hy])) ?_ ?_
  ·unfold Ec.lstep; split <;> omega
  ·unfold Ec.lstep; split <;> omega
theorem least_take (x : Sp.Ecl) (late : Int) {M : List Sp.Ecl} {j : Nat} (hj : j < M.length) : (M.take (j + 1)).foldl (Ec.lstep x late) (-1) = Ec.lstep x late ((M.take j).foldl (Ec.lstep x late) (-1)) M[j] := by
 rw [List.take_succ_eq_append_getElem hj, List.foldl_append]
 rfl
theorem beside_one (x y : Sp.Ecl) (late : Int) : Ec.beside [y] x late = bsP x late y := by
 show ([y].any (bsP x late)) = _
 simp
theorem ecl_one {w : World} {b o c : Nat} {d f : Int} {u : Bool} (h0 : w.cell? ⟨b, o, none⟩ = some (.int .i64 d)) (h1 : w.cell? ⟨b, o + 1, none⟩ = some (.bool u)) (h2 : w.cell? ⟨b, o + 2, none⟩ = some (.int .i64 f)) : EclVal w (.slice (some ⟨b, o, none⟩) 1 c) [⟨d, u, f⟩] :=
 ⟨_, _, rfl, fun _ => ⟨b, o, rfl, fun k hk => by
  obtain rfl : k = 0 := by simp at hk; omega
  exact ⟨h0, h1, h2⟩⟩⟩
def rwidΦ (p : EP) (e : Ec.Engine) (wd ls lm : Int) (xf : Bool) (S : List Sp.Ecl) (k cS bs os bE : Nat) (w0 : World) (i : Nat) (v : Value) (w : World) : Prop :=
 match i with
 | 0 => v = .int .i64 wd
 | 1 => v = .int .i64 ls
 | 2 => v = .agg #[.slice p.Ab e.sky.bodies.length p.cb, .int .i64 e.sky.nnum, .int .i64 e.sky.nden, .int .i64 e.sky.nstart, .slice p.As e.sun.length p.cs, .slice p.Am e.moon.length p.cm, .slice p.An e.node.length p.cn, .slice p.Af e.feasts.length p.cf, .int .i64 e.nw, .int .i64 e.fl, .int .i64 e.wide]
 | 3 => v = .agg #[.slice p.Ab e.sky.bodies.length p.cb, .int .i64 e.sky.nnum, .int .i64 e.sky.nden, .int .i64 e.sky.nstart, .slice p.As e.sun.length p.cs, .slice p.Am e.moon.length p.cm, .slice p.An e.node.length p.cn, .slice p.Af e.feasts.length p.cf, .int .i64 e.nw, .int .i64 e.fl, .int .i64 0]
 | 4 => v = .slice (some ⟨bs, os, none⟩) S.length cS
 | 5 => v = .int .i64 (k : Int)
 | 6 => v = .pointer (some ⟨bs, os + k * 3, none⟩)
 | 7 => v = .pointer (some ⟨bs, os + k * 3 + 1, none⟩)
 | 8 => v = .bool xf
 | 9 => v = .int .i64 lm
 | 10 => v = .int .i64 (ls - lm)
 | _ => v = .int .i64 (max wd (ls - lm))
theorem rwidΦ_mono {p : EP} {e : Ec.Engine} {wd ls lm : Int} {xf : Bool} {S : List Sp.Ecl} {k cS bs os bE : Nat} {w0 : World} (i : Nat) (v : Value) (w w' : World) (h : rwidΦ p e wd ls lm xf S k cS bs os bE w0 i v w) (he : Ext w w') : rwidΦ p e wd ls lm xf S k cS bs os bE w0 i v w' := by
 unfold rwidΦ at h ⊢
 split at h <;> first
  | exact h
  | exact MkAt.ext h he
  | exact fun hg => MkAt.ext (h hg) he
theorem r7_Widens_any (p : EP) (e : Ec.Engine) (set : List Int) (lo hi late : Int) (w : World) (hm : EngSet w p e set) (c0 : Ec.engineOk e = true) (c1 : Ec.setOk e.feasts set = true) (h1 : 1 ≤ lo) (h2 : lo ≤ hi) (h3 : hi ≤ 9000) (h4 : 0 ≤ late) (h5 : late ≤ 30) :
  Calls Tryz.prog 42 #[.agg #[.slice p.Ab e.sky.bodies.length p.cb, .int .i64 e.sky.nnum, .int .i64 e.sky.nden, .int .i64 e.sky.nstart, .slice p.As e.sun.length p.cs, .slice p.Am e.moon.length p.cm, .slice p.An e.node.length p.cn, .slice p.Af e.feasts.length p.cf, .int .i64 e.nw, .int .i64 e.fl, .int .i64 e.wide], .slice p.At set.length p.ct, .int .i64 lo, .int .i64 hi, .int .i64 late] w fun r w' => r = .returned (.int .i64 (Ec.widensDoc e set lo hi late)) ∧ Ext w w' := by
 have hlims := (Fine.limits ⟨c0, c1⟩ : (0 ≤ e.nw ∧ e.nw ≤ 5400) ∧ (0 ≤ e.fl ∧ e.fl ≤ 5400) ∧ (0 ≤ e.wide ∧ e.wide ≤ 5400))
 have c5 := widened_ok (n := 5400) c0 (by omega) (by omega)
 have HM0 := Lib.hid hm
 have HSKY := Lib.hid (fun W (h : EngAt W p e) => r7_Sky_any p e lo hi W h c0 h1 h2 (by omega))
 have HFOR := Lib.hid (fun W (h : EngSet W p e set) => r7_Foretells_cap p (Ec.widened e 5400) set (max 1 (lo - late)) (hi + late) W (widened_set _ h) c5 c1 (by omega) (by omega) (by omega))
 have HLM : Hid (∀ full W, Calls Tryz.prog 78 #[.agg #[.slice p.Ab e.sky.bodies.length p.cb, .int .i64 e.sky.nnum, .int .i64 e.sky.nden, .int .i64 e.sky.nstart, .slice p.As e.sun.length p.cs, .slice p.Am e.moon.length p.cm, .slice p.An e.node.length p.cn, .slice p.Af e.feasts.length p.cf, .int .i64 e.nw, .int .i64 e.fl, .int .i64 0], .bool full] W fun r w' => r = .returned (.int .i64 (Ec.limitOf e full)) ∧ Ext W w') := Lib.hid (fun full W => (r7_limit_any p (Ec.widened e 0) full W ⟨hlims.1, hlims.2.1, by show 0 ≤ (0 : Int) ∧ (0 : Int) ≤ 5400; omega⟩).mono fun r w' ⟨h, hE⟩ => ⟨by rw [h, show Ec.limitOf (Ec.widened e 0) full + (Ec.widened e 0).wide = Ec.limitOf e full by show Ec.limitOf e full + 0 = _; omega], hE⟩)
 have HLL : Hid (∀ full, 0 ≤ Ec.limitOf e full ∧ Ec.limitOf e full ≤ 5400) := Lib.hid (fun full => by unfold Ec.limitOf; split <;> omega)
 have HDS := Lib.hid (real_days e (lo := lo) (hi := hi) (by omega) (by omega))
 have HDM : Hid (∀ y ∈ Ec.moonsAll e set lo hi late, (0 ≤ y.day ∧ y.day ≤ 20000) ∧ (0 ≤ y.far ∧ y.far ≤ 5400)) := Lib.hid (fun y hy => by
  obtain ⟨a, b, _, d⟩ := (Ec.moonsAll_mem hlims.1.1 hlims.2.1.1 set lo hi late y).1 hy
  have := far_bounds e set y.day
  omega)
 have hls := real_few e (lo := lo) (hi := hi) h1 (by omega)
 have hlm : (Ec.moonsAll e set lo hi late).length ≤ 100000 := fore_few (Ec.widened e 5400) set (by omega) (by omega)
 have HW0 : Hid (Ec.widensDoc e set lo hi late = Ec.wideDocN e (Ec.moonsAll e set lo hi late) late (Ec.realL e lo hi) 0) := Lib.hid rfl
 rw [HW0.out]
 clear hm c0 c1 c5 HW0
 go_enter Tryz.func42, Tryz.ntmps42
 go_wp2_with fail
 have HR0 := Lib.hid (Row.new w 32 #[.slice p.Ab e.sky.bodies.length p.cb, .int .i64 e.sky.nnum, .int .i64 e.sky.nden, .int .i64 e.sky.nstart, .slice p.As e.sun.length p.cs, .slice p.Am e.moon.length p.cm, .slice p.An e.node.length p.cn, .slice p.Af e.feasts.length p.cf, .int .i64 e.nw, .int .i64 e.fl, .int .i64 e.wide])
 have HE0 : Hid (Ext w (w.alloc (.cells #[.slice p.Ab e.sky.bodies.length p.cb, .int .i64 e.sky.nnum, .int .i64 e.sky.nden, .int .i64 e.sky.nstart, .slice p.As e.sun.length p.cs, .slice p.Am e.moon.length p.cm, .slice p.An e.node.length p.cn, .slice p.Af e.feasts.length p.cf, .int .i64 e.nw, .int .i64 e.fl, .int .i64 e.wide] 32))) := Lib.hid ((Ext.refl w).alloc _)
 generalize w.alloc (.cells #[.slice p.Ab e.sky.bodies.length p.cb, .int .i64 e.sky.nnum, .int .i64 e.sky.nden, .int .i64 e.sky.nstart, .slice p.As e.sun.length p.cs, .slice p.Am e.moon.length p.cm, .slice p.An e.node.length p.cn, .slice p.Af e.feasts.length p.cf, .int .i64 e.nw, .int .i64 e.fl, .int .i64 e.wide] 32) = w0 at *
 obtain ⟨bE, hbE⟩ : ∃ b, w.heap.size = b := ⟨_, rfl⟩
 rw [hbE] at HR0 ⊢
 clear hbE
 have b0 := HR0.out.cell
 refine (HSKY.out w0 (HM0.out.eng.ext HE0.out)).mono ?_
 rintro r w1 ⟨vs, rfl, hvs, hE1⟩
 have HE1 := Lib.hid (HE0.out.trans hE1)
 have HR1 := Lib.hid (HR0.out.ext hE1)
 have HVS1 := Lib.hid hvs
 clear b0 hE1 hvs
 have b0 := HR1.out.cell
 go_wp2_with fail
 refine (r7_Widened_any p e 5400 w1).mono ?_
 rintro r w2 ⟨rfl, hE2⟩
 have HE2 := Lib.hid (HE1.out.trans hE2)
 have HR2 := Lib.hid (HR1.out.ext hE2)
 have HVS2 := Lib.hid (HVS1.out.ext hE2)
 clear b0 hE2
 go_wp2_with fail
 refine (HFOR.out w2 (HM0.out.ext HE2.out)).mono ?_
 rintro r w3 ⟨AM, cM, rfl, hcM, hcM2, hvm, hE3⟩
 have HE3 := Lib.hid (HE2.out.trans hE3)
 have HR3 := Lib.hid (HR2.out.ext hE3)
 have HVS3 := Lib.hid (HVS2.out.ext hE3)
 have HVM3 : Hid (EclVal w3 (.slice AM (Ec.moonsAll e set lo hi late).length cM) (Ec.moonsAll e set lo hi late)) := Lib.hid hvm
 replace hcM : (Ec.moonsAll e set lo hi late).length ≤ cM := hcM
 clear hE3 hvm
 rw [show (Ec.foreL (Ec.widened e 5400) set (max 1 (lo - late)) (hi + late)).length = (Ec.moonsAll e set lo hi late).length from rfl]
 obtain ⟨M, hM⟩ : ∃ M, Ec.moonsAll e set lo hi late = M := ⟨_, rfl⟩
 rw [hM] at HVM3 HDM hlm hcM ⊢
 obtain ⟨S, hS⟩ : ∃ S, Ec.realL e lo hi = S := ⟨_, rfl⟩
 rw [hS] at HVS3 HDS hls
 have HMQ := Lib.hid hM
 have HSQ := Lib.hid hS
 clear hM hS
 obtain ⟨AS, cS, rfl, qS⟩ := HVS3.out
 have HQS := Lib.hid qS
 obtain ⟨AM2, cM2, hAM, qM⟩ := HVM3.out
 obtain ⟨rfl, rfl⟩ : AM = AM2 ∧ cM = cM2 := by cases hAM; exact ⟨rfl, rfl⟩
 have HQM := Lib.hid qM
 have hmax : (maxLen : Int) ≤ 9223372036854775807 := by decide
 clear qS qM hAM
 go_wp2_with fail
 go_loopw [13, 14] (fun v i wr => ∃ (k : Nat) (wd : Int), k ≤ S.length ∧ i = .int .i64 (k : Int) ∧ v = .int .i64 wd ∧ (0 ≤ wd ∧ wd ≤ 5400) ∧ Ec.wideDocN e M late S 0 = Ec.wideDocN e M late (S.drop k) wd ∧ Ext w3 wr) (fun _ i _ => S.length - (intOf i).toNat)
 case atStart => exact ⟨0, 0, Nat.zero_le _, rfl, rfl, by omega, rfl, Ext.refl _⟩
 case round =>
  obtain ⟨k, wd, hk, rfl, rfl, hwd, hgo, hX⟩ := hrel
  have HGO := Lib.hid hgo
  have HX := Lib.hid hX
  clear hgo hX
  by_cases hkl : k < S.length
  ·obtain ⟨bs, os, hAS, pS⟩ := HQS.out (by omega)
   subst hAS
   have s0 := HX.out.cell (pS k hkl).1
   have s1 := HX.out.cell (pS k hkl).2.1
   have s2 := HX.out.cell (pS k hkl).2.2
   have hdx := HDS.out _ (List.getElem_mem hkl)
   have HST : Hid (Ec.wideDocN e M late (S.drop k) wd = if Ec.leastDoc M S[k] late < 0 then -1 else Ec.wideDocN e M late (S.drop (k + 1)) (max wd (Ec.leastDoc M S[k] late - Ec.limitOf e S[k].full))) := Lib.hid (by rw [List.drop_eq_getElem_cons hkl]; rfl)
   clear pS
   obtain ⟨x, hx⟩ : ∃ x, S[k] = x := ⟨_, rfl⟩
   rw [hx] at s0 s1 s2 hdx HST
   clear hx
   have HLF : Hid (Ec.leastDoc M x late = M.foldl (Ec.lstep x late) (-1)) := Lib.hid rfl
   have hll := HLL.out x.full
   have HLX := Lib.hid (fun W => HLM.out x.full W)
   have HBS := Lib.hid (fun y (hy : 0 ≤ y.day ∧ y.day ≤ 20000) v W h => r7_Beside_any v [y] x late W h (by simp) (fun z hz => by rw [List.mem_singleton.1 hz]; exact hy) hdx)
   have HTK := Lib.hid (fun j (hj : j < M.length) => least_take x late hj)
   have HLIM := Lib.hid (fun j => least_lim x late (M.take j) (-1) (fun y hy => (HDM.out y (List.mem_of_mem_take hy)).2) (by omega) (by omega))
   have HSTEP : Hid (∀ (least : Int) (y : Sp.Ecl), Ec.lstep x late least y = if bsP x late y && (decide (least < 0) || decide (y.far < least)) then y.far else least) := Lib.hid fun _ _ => rfl
   have s0' := s0
   have s1' := s1
   have s2' := s2
   obtain ⟨xd, xf, xr⟩ := x
   dsimp only at s0 s1 s2 s0' s1' s2' hll hdx HLX
   obtain ⟨lm, hlm2⟩ : ∃ l, Ec.limitOf e xf = l := ⟨_, rfl⟩
   rw [show Ec.limitOf e (⟨xd, xf, xr⟩ : Sp.Ecl).full = Ec.limitOf e xf from rfl, hlm2] at HST
   rw [hlm2] at hll HLX
   clear hlm2
   clear s0 s1 s2
   go_wp2_with fail
   go_loopw [15, 16] (fun v j ws => ∃ n : Nat, n ≤ M.length ∧ j = .int .i64 (n : Int) ∧ v = .int .i64 ((M.take n).foldl (Ec.lstep ⟨xd, xf, xr⟩ late) (-1)) ∧ Ext wr ws) (fun _ j _ => M.length - (intOf j).toNat)
   case atStart => exact ⟨0, Nat.zero_le _, rfl, rfl, Ext.refl _⟩
   case round =>
    obtain ⟨n, hn, rfl, rfl, hY⟩ := hrel
    have HY := Lib.hid hY
    have HXY := Lib.hid (HX.out.trans hY)
    have s0 := hY.cell s0'
    have s1 := hY.cell s1'
    have s2 := hY.cell s2'
    clear hY
    have hli := HLIM.out n
    by_cases hnl : n < M.length
    ·obtain ⟨bm, om, hAM, pM⟩ := HQM.out (by omega)
     subst hAM
     have m0 := HXY.out.cell (pM n hnl).1
     have m1 := HXY.out.cell (pM n hnl).2.1
     have m2 := HXY.out.cell (pM n hnl).2.2
     have hdm := HDM.out _ (List.getElem_mem hnl)
     have HNX := Lib.hid (HTK.out n hnl)
     clear pM
     obtain ⟨m, hmm⟩ : ∃ m, M[n] = m := ⟨_, rfl⟩
     rw [hmm] at m0 m1 m2 hdm HNX
     clear hmm
     obtain ⟨ls, hls2⟩ : ∃ l, (M.take n).foldl (Ec.lstep ⟨xd, xf, xr⟩ late) (-1) = l := ⟨_, rfl⟩
     rw [hls2] at hli HNX ⊢
     clear hls2
     have HNY : Hid ((M.take (n + 1)).foldl (Ec.lstep ⟨xd, xf, xr⟩ late) (-1) = if bsP ⟨xd, xf, xr⟩ late m && (decide (ls < 0) || decide (m.far < ls)) then m.far else ls) := Lib.hid (by rw [HNX.out, HSTEP.out])
     have HBM := Lib.hid (fun v W h => HBS.out m hdm.1 v W h)
     simp only [beside_one] at HBM
     obtain ⟨bq, hbq⟩ : ∃ b, bsP ⟨xd, xf, xr⟩ late m = b := ⟨_, rfl⟩
     rw [hbq] at HNY
     simp only [hbq] at HBM
     clear hbq HNX
     obtain ⟨md, mf, mr⟩ := m
     dsimp only at m0 m1 m2 hdm HNY
     have m0' := m0
     have m1' := m1
     have m2' := m2
     have hsl1 : (n : Int) ≤ (n : Int) + 1 := by omega
     have hsl2 : (n : Int) + 1 ≤ (cM : Int) := by omega
     cases bq
     ·go_wp2_with fail
      refine wp_region_later (by kernel_rfl) (by kernel_rfl) (fun W hW => ?_)
      subst hW
      have q0 := fun X : Later _ => X.ext.cell m0'
      have q1 := fun X : Later _ => X.ext.cell m1'
      have q2 := fun X : Later _ => X.ext.cell m2'
      have q3 := fun X : Later _ => X.ext.cell s0
      have q4 := fun X : Later _ => X.ext.cell s1
      have q5 := fun X : Later _ => X.ext.cell s2
      have HSUB := Lib.hid (fun (X : Later _) c => ecl_one (c := c) (X.ext.cell m0') (X.ext.cell m1') (X.ext.cell m2'))
      clear m0 m1 m2 m0' m1' m2' s0 s1 s2
      repeat (go_big_quiet_step (fail))
      go_big_quiet_step ((go_at_call 99; exact Later.call (HBM.out _ _ (HSUB.out _ _))))
      repeat (go_big_quiet_step (fail))
      refine wpQuiet_nil ?_
      rintro ⟨wz, hEz⟩
      dsimp only
      have y2 := q2 ⟨wz, hEz⟩
      dsimp only at y2
      clear q0 q1 q2 q3 q4 q5
      go_wp2_with fail
      refine ⟨⟨n + 1, by omega, by go_num, by rw [HNY.out]; rfl, HY.out.trans hEz⟩, by simp [intOf]; omega⟩
     ·by_cases hlt : ls < 0
      ·have hdec : decide (ls < 0) = true := decide_eq_true hlt
       go_wp2_with fail
       refine wp_region_later (by kernel_rfl) (by kernel_rfl) (fun W hW => ?_)
       subst hW
       have q0 := fun X : Later _ => X.ext.cell m0'
       have q1 := fun X : Later _ => X.ext.cell m1'
       have q2 := fun X : Later _ => X.ext.cell m2'
       have q3 := fun X : Later _ => X.ext.cell s0
       have q4 := fun X : Later _ => X.ext.cell s1
       have q5 := fun X : Later _ => X.ext.cell s2
       have HSUB := Lib.hid (fun (X : Later _) c => ecl_one (c := c) (X.ext.cell m0') (X.ext.cell m1') (X.ext.cell m2'))
       clear m0 m1 m2 m0' m1' m2' s0 s1 s2
       repeat (go_big_quiet_step (fail))
       go_big_quiet_step ((go_at_call 99; exact Later.call (HBM.out _ _ (HSUB.out _ _))))
       repeat (go_big_quiet_step (fail))
       refine wpQuiet_nil ?_
       rintro ⟨wz, hEz⟩
       dsimp only
       have y2 := q2 ⟨wz, hEz⟩
       dsimp only at y2
       clear q0 q1 q2 q3 q4 q5
       go_wp2_with fail
       refine ⟨⟨n + 1, by omega, by go_num, by rw [HNY.out, decide_eq_true (show ls < 0 by omega)]; rfl, HY.out.trans hEz⟩, by simp [intOf]; omega⟩
      ·by_cases hlf : mr < ls
       ·have hdec : decide (ls < 0) = false := decide_eq_false hlt
        have hdec2 : decide (mr < ls) = true := decide_eq_true hlf
        go_wp2_with fail
        refine wp_region_later (by kernel_rfl) (by kernel_rfl) (fun W hW => ?_)
        subst hW
        have q0 := fun X : Later _ => X.ext.cell m0'
        have q1 := fun X : Later _ => X.ext.cell m1'
        have q2 := fun X : Later _ => X.ext.cell m2'
        have q3 := fun X : Later _ => X.ext.cell s0
        have q4 := fun X : Later _ => X.ext.cell s1
        have q5 := fun X : Later _ => X.ext.cell s2
        have HSUB := Lib.hid (fun (X : Later _) c => ecl_one (c := c) (X.ext.cell m0') (X.ext.cell m1') (X.ext.cell m2'))
        clear m0 m1 m2 m0' m1' m2' s0 s1 s2
        repeat (go_big_quiet_step (fail))
        go_big_quiet_step ((go_at_call 99; exact Later.call (HBM.out _ _ (HSUB.out _ _))))
        repeat (go_big_quiet_step (fail))
        refine wpQuiet_nil ?_
        rintro ⟨wz, hEz⟩
        dsimp only
        have y2 := q2 ⟨wz, hEz⟩
        dsimp only at y2
        clear q0 q1 q2 q3 q4 q5
        go_wp2_with fail
        refine ⟨⟨n + 1, by omega, by go_num, by rw [HNY.out, decide_eq_true (show mr < ls by omega), Bool.or_true]; rfl, HY.out.trans hEz⟩, by simp [intOf]; omega⟩
       ·have hdec : decide (ls < 0) = false := decide_eq_false hlt
        have hdec2 : decide (mr < ls) = false := decide_eq_false hlf
        go_wp2_with fail
        refine wp_region_later (by kernel_rfl) (by kernel_rfl) (fun W hW => ?_)
        subst hW
        have q0 := fun X : Later _ => X.ext.cell m0'
        have q1 := fun X : Later _ => X.ext.cell m1'
        have q2 := fun X : Later _ => X.ext.cell m2'
        have q3 := fun X : Later _ => X.ext.cell s0
        have q4 := fun X : Later _ => X.ext.cell s1
        have q5 := fun X : Later _ => X.ext.cell s2
        have HSUB := Lib.hid (fun (X : Later _) c => ecl_one (c := c) (X.ext.cell m0') (X.ext.cell m1') (X.ext.cell m2'))
        clear m0 m1 m2 m0' m1' m2' s0 s1 s2
        repeat (go_big_quiet_step (fail))
        go_big_quiet_step ((go_at_call 99; exact Later.call (HBM.out _ _ (HSUB.out _ _))))
        repeat (go_big_quiet_step (fail))
        refine wpQuiet_nil ?_
        rintro ⟨wz, hEz⟩
        dsimp only
        have y2 := q2 ⟨wz, hEz⟩
        dsimp only at y2
        clear q0 q1 q2 q3 q4 q5
        go_wp2_with fail
        refine ⟨⟨n + 1, by omega, by go_num, by rw [HNY.out, decide_eq_false (show ¬ ls < 0 by omega), decide_eq_false (show ¬ mr < ls by omega)]; rfl, HY.out.trans hEz⟩, by simp [intOf]; omega⟩
    ·obtain rfl : n = M.length := by omega
     rw [List.take_length] at hli ⊢
     rw [HLF.out] at HST
     obtain ⟨ls, hls2⟩ : ∃ l, M.foldl (Ec.lstep ⟨xd, xf, xr⟩ late) (-1) = l := ⟨_, rfl⟩
     rw [hls2] at hli HST ⊢
     clear hls2 hnl hn
     by_cases hneg : ls < 0
     ·have HFI := Lib.hid (HST.out.trans (if_pos hneg))
      clear s0 s1 s2
      go_wp2_with fail
      go_ret
      exact ⟨ret_int (by rw [HMQ.out, HSQ.out, HGO.out, HFI.out]), HE3.out.trans HXY.out⟩
     ·have HFI := Lib.hid (HST.out.trans (if_neg hneg))
      obtain ⟨wq, hwq⟩ : ∃ W, W = wr := ⟨_, rfl⟩
      subst hwq
      have HR := Lib.hid (HR3.out.ext HXY.out)
      have HCX := Lib.hid s1
      have HKN : Hid ((0 : Int) ≤ k ∧ (k : Int) < S.length) := Lib.hid ⟨by omega, by omega⟩
      have HB : Hid ((0 ≤ wd ∧ wd ≤ 5400) ∧ (0 ≤ ls ∧ ls ≤ 5400) ∧ (0 ≤ lm ∧ lm ≤ 5400)) := Lib.hid ⟨hwd, ⟨by omega, hli.2⟩, hll⟩
      have HLI := HLX
      clear s0 s1 s2
      go_wp2_with fail
      refine wp_region_free_tail 12 12 (rwidΦ p e wd ls lm xf S k cS bs os bE wq) (by kernel_rfl) (by simp) (by kernel_rfl) (by kernel_rfl) (by kernel_rfl) (by kernel_rfl) rwidΦ_mono ?hob ?hQ (fun h => absurd h (by omega))
      case hob =>
       intro i o hin ho a wa hE hF
       match i, hin with
       | 0, _ =>
        cases ho
        have h0 : a.tmps[13]?.getD undef = .int .i64 wd := evalD (hF.old 13 (by decide))
        refine Ran.value rfl (v := .int .i64 wd) (w1 := wa) ?_ ⟨rfl, Ext.refl _⟩
        go_simp
       | 1, _ =>
        cases ho
        have h0 : a.tmps[15]?.getD undef = .int .i64 ls := evalD (hF.old 15 (by decide))
        refine Ran.value rfl (v := .int .i64 ls) (w1 := wa) ?_ ⟨rfl, Ext.refl _⟩
        go_simp
       | 2, _ =>
        cases ho
        have h0 : a.tmps[5]?.getD undef = .pointer (some ⟨bE, 0, none⟩) := evalD (hF.old 5 (by decide))
        have q := (Row.ext (HR.out) hE).cell
        refine Ran.value rfl (v := .agg #[.slice p.Ab e.sky.bodies.length p.cb, .int .i64 e.sky.nnum, .int .i64 e.sky.nden, .int .i64 e.sky.nstart, .slice p.As e.sun.length p.cs, .slice p.Am e.moon.length p.cm, .slice p.An e.node.length p.cn, .slice p.Af e.feasts.length p.cf, .int .i64 e.nw, .int .i64 e.fl, .int .i64 e.wide]) (w1 := wa) ?_ ⟨rfl, Ext.refl _⟩
        go_simp
       | 3, _ =>
        cases ho
        have h0 : a.tmps[77]?.getD undef = .agg #[.slice p.Ab e.sky.bodies.length p.cb, .int .i64 e.sky.nnum, .int .i64 e.sky.nden, .int .i64 e.sky.nstart, .slice p.As e.sun.length p.cs, .slice p.Am e.moon.length p.cm, .slice p.An e.node.length p.cn, .slice p.Af e.feasts.length p.cf, .int .i64 e.nw, .int .i64 e.fl, .int .i64 e.wide] := evalD ((hF.from_ 2 77 rfl (by decide)))
        refine Ran.enter rfl (f := 46) (args := #[.agg #[.slice p.Ab e.sky.bodies.length p.cb, .int .i64 e.sky.nnum, .int .i64 e.sky.nden, .int .i64 e.sky.nstart, .slice p.As e.sun.length p.cs, .slice p.Am e.moon.length p.cm, .slice p.An e.node.length p.cn, .slice p.Af e.feasts.length p.cf, .int .i64 e.nw, .int .i64 e.fl, .int .i64 e.wide], .int .i64 0]) (w1 := wa) ?_ ?_
        ·go_simp
        ·refine (r7_Widened_any p e 0 wa).mono ?_
         rintro r w1 ⟨rfl, hX⟩
         exact ⟨_, rfl, rfl, hX⟩
       | 4, _ =>
        cases ho
        have h0 : a.tmps[11]?.getD undef = .slice (some ⟨bs, os, none⟩) S.length cS := evalD (hF.old 11 (by decide))
        refine Ran.value rfl (v := .slice (some ⟨bs, os, none⟩) S.length cS) (w1 := wa) ?_ ⟨rfl, Ext.refl _⟩
        go_simp
       | 5, _ =>
        cases ho
        have h0 : a.tmps[14]?.getD undef = .int .i64 (k : Int) := evalD (hF.old 14 (by decide))
        refine Ran.value rfl (v := .int .i64 (k : Int)) (w1 := wa) ?_ ⟨rfl, Ext.refl _⟩
        go_simp
       | 6, _ =>
        cases ho
        have h0 : a.tmps[79]?.getD undef = .slice (some ⟨bs, os, none⟩) S.length cS := evalD ((hF.from_ 4 79 rfl (by decide)))
        have h1 : a.tmps[80]?.getD undef = .int .i64 (k : Int) := evalD ((hF.from_ 5 80 rfl (by decide)))
        refine Ran.value rfl (v := .pointer (some ⟨bs, os + k * 3, none⟩)) (w1 := wa) ?_ ⟨rfl, Ext.refl _⟩
        have hk := HKN.out
        go_simp
       | 7, _ =>
        cases ho
        have h0 : a.tmps[81]?.getD undef = .pointer (some ⟨bs, os + k * 3, none⟩) := evalD ((hF.from_ 6 81 rfl (by decide)))
        refine Ran.value rfl (v := .pointer (some ⟨bs, os + k * 3 + 1, none⟩)) (w1 := wa) ?_ ⟨rfl, Ext.refl _⟩
        go_simp
       | 8, _ =>
        cases ho
        have h0 : a.tmps[82]?.getD undef = .pointer (some ⟨bs, os + k * 3 + 1, none⟩) := evalD (hF.from_ 7 82 rfl (by decide))
        have q := hE.cell HCX.out
        refine Ran.value rfl (v := .bool xf) (w1 := wa) ?_ ⟨rfl, Ext.refl _⟩
        go_simp
       | 9, _ =>
        cases ho
        have h0 : a.tmps[78]?.getD undef = .agg #[.slice p.Ab e.sky.bodies.length p.cb, .int .i64 e.sky.nnum, .int .i64 e.sky.nden, .int .i64 e.sky.nstart, .slice p.As e.sun.length p.cs, .slice p.Am e.moon.length p.cm, .slice p.An e.node.length p.cn, .slice p.Af e.feasts.length p.cf, .int .i64 e.nw, .int .i64 e.fl, .int .i64 0] := evalD ((hF.from_ 3 78 rfl (by decide)))
        have h1 : a.tmps[83]?.getD undef = .bool xf := evalD ((hF.from_ 8 83 rfl (by decide)))
        refine Ran.enter rfl (f := 78) (args := #[.agg #[.slice p.Ab e.sky.bodies.length p.cb, .int .i64 e.sky.nnum, .int .i64 e.sky.nden, .int .i64 e.sky.nstart, .slice p.As e.sun.length p.cs, .slice p.Am e.moon.length p.cm, .slice p.An e.node.length p.cn, .slice p.Af e.feasts.length p.cf, .int .i64 e.nw, .int .i64 e.fl, .int .i64 0], .bool xf]) (w1 := wa) ?_ ?_
        ·go_simp
        ·refine (HLI.out wa).mono ?_
         rintro r w1 ⟨rfl, hX⟩
         exact ⟨_, rfl, rfl, hX⟩
       | 10, _ =>
        cases ho
        have h0 : a.tmps[76]?.getD undef = .int .i64 ls := evalD ((hF.from_ 1 76 rfl (by decide)))
        have h1 : a.tmps[84]?.getD undef = .int .i64 lm := evalD ((hF.from_ 9 84 rfl (by decide)))
        refine Ran.value rfl (v := .int .i64 (ls - lm)) (w1 := wa) ?_ ⟨rfl, Ext.refl _⟩
        have hb := HB.out
        go_simp
        exact IntWalk.i64_in _ ⟨by omega, by omega⟩
       | 11, _ =>
        cases ho
        have h0 : a.tmps[75]?.getD undef = .int .i64 wd := evalD ((hF.from_ 0 75 rfl (by decide)))
        have h1 : a.tmps[85]?.getD undef = .int .i64 (ls - lm) := evalD ((hF.from_ 10 85 rfl (by decide)))
        refine Ran.value rfl (v := .int .i64 (max wd (ls - lm))) (w1 := wa) ?_ ⟨rfl, Ext.refl _⟩
        go_simp
       | k + 12, hin => omega
      case hQ =>
       intro vs w2 hE hΦ
       have f0 : vs 0 = .int .i64 wd := hΦ 0 (by omega)
       have f1 : vs 1 = .int .i64 ls := hΦ 1 (by omega)
       have f2 : vs 2 = .agg #[.slice p.Ab e.sky.bodies.length p.cb, .int .i64 e.sky.nnum, .int .i64 e.sky.nden, .int .i64 e.sky.nstart, .slice p.As e.sun.length p.cs, .slice p.Am e.moon.length p.cm, .slice p.An e.node.length p.cn, .slice p.Af e.feasts.length p.cf, .int .i64 e.nw, .int .i64 e.fl, .int .i64 e.wide] := hΦ 2 (by omega)
       have f3 : vs 3 = .agg #[.slice p.Ab e.sky.bodies.length p.cb, .int .i64 e.sky.nnum, .int .i64 e.sky.nden, .int .i64 e.sky.nstart, .slice p.As e.sun.length p.cs, .slice p.Am e.moon.length p.cm, .slice p.An e.node.length p.cn, .slice p.Af e.feasts.length p.cf, .int .i64 e.nw, .int .i64 e.fl, .int .i64 0] := hΦ 3 (by omega)
       have f4 : vs 4 = .slice (some ⟨bs, os, none⟩) S.length cS := hΦ 4 (by omega)
       have f5 : vs 5 = .int .i64 (k : Int) := hΦ 5 (by omega)
       have f6 : vs 6 = .pointer (some ⟨bs, os + k * 3, none⟩) := hΦ 6 (by omega)
       have f7 : vs 7 = .pointer (some ⟨bs, os + k * 3 + 1, none⟩) := hΦ 7 (by omega)
       have f8 : vs 8 = .bool xf := hΦ 8 (by omega)
       have f9 : vs 9 = .int .i64 lm := hΦ 9 (by omega)
       have f10 : vs 10 = .int .i64 (ls - lm) := hΦ 10 (by omega)
       have f11 : vs 11 = .int .i64 (max wd (ls - lm)) := hΦ 11 (by omega)
       have hrg : List.range 12 = [0, 1, 2, 3, 4, 5, 6, 7, 8, 9, 10, 11] := rfl
       unfold putAll putS
       simp only [List.length_cons, List.length_nil, List.take_succ_cons, List.take_zero, List.drop_succ_cons, List.drop_zero, Nat.reduceAdd, hrg, List.foldl_cons, List.foldl_nil, dstOf, List.getElem?_cons_succ, List.getElem?_cons_zero, Option.bind_some]
       clear hrg
       rw [f0, f1, f2, f3, f4, f5, f6, f7, f8, f9, f10, f11]
       simp only [Act.put, List.setIfInBounds_toArray, List.set_cons_succ, List.set_cons_zero]
       have HXE := Lib.hid (HXY.out.trans hE)
       clear hΦ f0 f1 f2 f3 f4 f5 f6 f7 f8 f9 f10 f11 hE
       have hb := HB.out
       go_wp2_with fail
       refine ⟨⟨k + 1, max wd (ls - lm), by omega, by go_num, rfl, by omega, by rw [HGO.out, HFI.out], HXE.out⟩, by simp [intOf]; omega⟩
  ·obtain rfl : k = S.length := by omega
   have HFI : Hid (Ec.wideDocN e M late (S.drop S.length) wd = wd) := Lib.hid (by rw [List.drop_length]; rfl)
   go_wp2_with fail
   go_ret
   exact ⟨ret_int (by rw [HMQ.out, HSQ.out, HGO.out, HFI.out]), HE3.out.trans HX.out⟩
end Go.Proofs.YtcbodpnmndbgnaaGreatDoor
namespace Go.Proofs.YtcbodpnmndbgnaaGreatDoor
open Go.RowKit
open Sp (rd)
set_option maxRecDepth 100000
set_option maxHeartbeats 4000000
set_option linter.unusedVariables false
namespace Ec
theorem doc_hit {good : List Int → Bool} {n m j : Nat} (hm : m ≤ n) (h1 : ∀ k, k < m → ∀ l ∈ listsN n k 0, good l = false) (hj : j < (listsN n m 0).length) (h2 : ∀ l ∈ (listsN n m 0).take j, good l = false) (h3 : good (listsN n m 0)[j] = true) : docSet good n = some (listsN n m 0)[j] := by
 refine List.find?_eq_some_iff_append.2 ⟨h3, ((List.range m).map fun m => listsN n m 0).flatten ++ (listsN n m 0).take j, (listsN n m 0).drop (j + 1) ++ (((List.range (n - m)).map fun k => listsN n (m + (k + 1)) 0).flatten), ?_, ?_⟩
 ·have e1 : List.range (n + 1) = List.range m ++ m :: (List.range (n - m)).map fun k => m + (k + 1) := by
   rw [show n + 1 = m + (n - m + 1) by omega, List.range_add, List.range_succ_eq_map]
   simp [Function.comp_def]
  unfold allN
  rw [e1]
  simp only [List.map_append, List.map_cons, List.flatten_append, List.flatten_cons, List.map_map, List.append_assoc, Function.comp_def]
  congr 1
  rw [← List.cons_append, ← List.append_assoc, ← List.drop_eq_getElem_cons hj, List.take_append_drop]
 ·intro a ha
  simp only [List.mem_append, List.mem_flatten, List.mem_map, List.mem_range] at ha
  rcases ha with ⟨_, ⟨k, hk, rfl⟩, ha⟩ | ha
  ·simp [h1 k hk a ha]
  ·simp [h2 a ha]
theorem doc_miss {good : List Int → Bool} {n : Nat} (h1 : ∀ k, k < n + 1 → ∀ l ∈ listsN n k 0, good l = false) : docSet good n = none := by
 refine List.find?_eq_none.2 fun a ha => ?_
 simp only [allN, List.mem_flatten, List.mem_map, List.mem_range] at ha
 obtain ⟨_, ⟨k, hk, rfl⟩, ha⟩ := ha
 simp [h1 k hk a ha]
end Ec
def DocPost (w' : World) (r : Ending) (o : Option (List Int)) : Prop := match o with
 | some y => ∃ A c, r = .returned (.tuple #[.slice A y.length c, .bool true]) ∧ Ints w' A y
 | none => r = .returned (.tuple #[.slice none 0 0, .bool false])
theorem setOk_of_lists {feasts l : List Int} {m : Nat} (h : l ∈ Ec.listsN feasts.length m 0) : Ec.setOk feasts l = true := setOk_of_incr ((Ec.listsN_mem ..).1 h).2
def esetΦ (p : EP) (e : Ec.Engine) (l : List Int) (lo hi late : Int) (bE g N c j cx : Nat) (A : Option Addr) (w0 : World) (i : Nat) (v : Value) (w : World) : Prop :=
 match i with
 | 0 => v = .agg #[.slice p.Ab e.sky.bodies.length p.cb, .int .i64 e.sky.nnum, .int .i64 e.sky.nden, .int .i64 e.sky.nstart, .slice p.As e.sun.length p.cs, .slice p.Am e.moon.length p.cm, .slice p.An e.node.length p.cn, .slice p.Af e.feasts.length p.cf, .int .i64 e.nw, .int .i64 e.fl, .int .i64 e.wide]
 | 1 => v = .slice (some ⟨g, 0, none⟩) N c
 | 2 => v = .int .i64 (j : Int)
 | 3 => v = .pointer (some ⟨g, j, none⟩)
 | 4 => v = .slice A l.length cx
 | 5 => v = .int .i64 lo
 | 6 => v = .int .i64 hi
 | 7 => v = .int .i64 late
 | 8 => EclVal w v (Ec.missedL e l lo hi late)
 | 9 => v = .int .i64 ((Ec.missedL e l lo hi late).length : Int)
 | _ => v = .bool (((Ec.missedL e l lo hi late).length : Int) == 0)
theorem esetΦ_mono {p : EP} {e : Ec.Engine} {l : List Int} {lo hi late : Int} {bE g N c j cx : Nat} {A : Option Addr} {w0 : World} (i : Nat) (v : Value) (w w' : World) (h : esetΦ p e l lo hi late bE g N c j cx A w0 i v w) (he : Ext w w') : esetΦ p e l lo hi late bE g N c j cx A w0 i v w' := by
 unfold esetΦ at h ⊢
 split at h <;> first
  | exact h
  | exact EclVal.ext h he
  | exact MkAt.ext h he
  | exact fun hg => MkAt.ext (h hg) he
theorem r7_Settings_any (p : EP) (e : Ec.Engine) (lo hi late : Int) (w : World) (hm : EngAt w p e) (c0 : Ec.engineOk e = true) (h1 : 1 ≤ lo) (h2 : lo ≤ hi) (h3 : hi ≤ 9000) (h4 : 0 ≤ late) (h5 : late ≤ 30) :
  Calls Tryz.prog 43 #[.agg #[.slice p.Ab e.sky.bodies.length p.cb, .int .i64 e.sky.nnum, .int .i64 e.sky.nden, .int .i64 e.sky.nstart, .slice p.As e.sun.length p.cs, .slice p.Am e.moon.length p.cm, .slice p.An e.node.length p.cn, .slice p.Af e.feasts.length p.cf, .int .i64 e.nw, .int .i64 e.fl, .int .i64 e.wide], .int .i64 lo, .int .i64 hi, .int .i64 late] w fun r w' => DocPost w' r (Ec.docSet (goodB e lo hi late) e.feasts.length) ∧ Ext w w' := by
 have HM0 := Lib.hid hm
 have HMM := Lib.hid (fun (A : Option Addr) (cx : Nat) (l : List Int) W (hW : EngAt W p e) (hl : Ints W A l) (c1 : Ec.setOk e.feasts l = true) => r7_Missed_any ⟨p.Ab, p.cb, p.As, p.cs, p.Am, p.cm, p.An, p.cn, p.Af, p.cf, A, cx⟩ e l lo hi late W ⟨⟨hW.bodies, hW.sun, hW.moon, hW.node, hW.feasts⟩, hl⟩ c0 c1 h1 h2 h3 h4 h5)
 have hf8 : e.feasts.length ≤ 8 := by
  have := (engineOk_parts c0).2.2.1
  simp only [Ec.feastsOk, Bool.and_eq_true, decide_eq_true_eq] at this
  exact this.2
 have HLS := Lib.hid (fun (m : Nat) W (h : m ≤ 8) => r7_lists_any (e.feasts.length : Int) (by omega) m (m : Int) 0 W rfl h (by omega) (by omega))
 have HLN := Lib.hid (fun (m : Nat) => (Ec.listsN_len (e.feasts.length : Int) (by omega) m 0 (by omega)).1)
 clear hm c0
 go_enter Tryz.func43, Tryz.ntmps43
 go_wp2_with fail
 have HR0 := Lib.hid (Row.new w 32 #[.slice p.Ab e.sky.bodies.length p.cb, .int .i64 e.sky.nnum, .int .i64 e.sky.nden, .int .i64 e.sky.nstart, .slice p.As e.sun.length p.cs, .slice p.Am e.moon.length p.cm, .slice p.An e.node.length p.cn, .slice p.Af e.feasts.length p.cf, .int .i64 e.nw, .int .i64 e.fl, .int .i64 e.wide])
 have HE0 : Hid (Ext w (w.alloc (.cells #[.slice p.Ab e.sky.bodies.length p.cb, .int .i64 e.sky.nnum, .int .i64 e.sky.nden, .int .i64 e.sky.nstart, .slice p.As e.sun.length p.cs, .slice p.Am e.moon.length p.cm, .slice p.An e.node.length p.cn, .slice p.Af e.feasts.length p.cf, .int .i64 e.nw, .int .i64 e.fl, .int .i64 e.wide] 32))) := Lib.hid ((Ext.refl w).alloc _)
 obtain ⟨wS, hwS⟩ : ∃ W, w.alloc (.cells #[.slice p.Ab e.sky.bodies.length p.cb, .int .i64 e.sky.nnum, .int .i64 e.sky.nden, .int .i64 e.sky.nstart, .slice p.As e.sun.length p.cs, .slice p.Am e.moon.length p.cm, .slice p.An e.node.length p.cn, .slice p.Af e.feasts.length p.cf, .int .i64 e.nw, .int .i64 e.fl, .int .i64 e.wide] 32) = W := ⟨_, rfl⟩
 rw [hwS] at HR0 HE0 ⊢
 obtain ⟨bE, hbE⟩ : ∃ b, w.heap.size = b := ⟨_, rfl⟩
 rw [hbE] at HR0 ⊢
 clear hwS hbE
 go_loopw [10] (fun k wr => ∃ m : Nat, m ≤ e.feasts.length + 1 ∧ k = .int .i64 m ∧ (∀ k, k < m → ∀ l ∈ Ec.listsN e.feasts.length k 0, goodB e lo hi late l = false) ∧ Ext wS wr) (fun k _ => e.feasts.length + 1 - (intOf k).toNat)
 case atStart => exact ⟨0, Nat.zero_le _, rfl, fun k hk => absurd hk (Nat.not_lt_zero _), Ext.refl _⟩
 case round =>
  obtain ⟨m, hm, rfl, hno, hE⟩ := hrel
  have HNO := Lib.hid hno
  have HE := Lib.hid hE
  have b0 := (HR0.out.ext hE).cell
  clear hno hE
  by_cases hlt : m < e.feasts.length + 1
  ·have HC := Lib.hid (HLS.out m wr (by omega))
   have hln : (Ec.listsN e.feasts.length m 0).length ≤ 16777216 := Nat.le_trans (HLN.out m) (Nat.le_trans (Nat.pow_le_pow_right (by omega) (show m ≤ 8 by omega)) (by decide))
   go_wp2_with fail
   refine HC.out.mono ?_
   rintro r w2 ⟨u, rfl, hLu, hE2⟩
   obtain ⟨ls, hls⟩ : ∃ ls, Ec.listsN e.feasts.length m 0 = ls := ⟨_, rfl⟩
   have HLSE := Lib.hid hls
   rw [hls] at hLu hln
   obtain ⟨A0, c, rfl⟩ := hLu.shape
   have HU0 := Lib.hid hLu
   have HE2 := Lib.hid (HE.out.trans hE2)
   obtain ⟨B2, hB2⟩ : ∃ B, wr.heap.size = B := ⟨_, rfl⟩
   rw [hB2] at HU0
   clear hLu hE2 hls HC b0 hB2
   go_wp2_with fail
   go_loopw [12] (fun k wr => ∃ j : Nat, j ≤ ls.length ∧ k = .int .i64 j ∧ (∀ l ∈ ls.take j, goodB e lo hi late l = false) ∧ LL wr B2 (.slice A0 ls.length c) ls ∧ Ext wS wr) (fun k _ => ls.length - (intOf k).toNat)
   case atStart => exact ⟨0, Nat.zero_le _, rfl, by simp, HU0.out, HE2.out⟩
   case round =>
    obtain ⟨j, hj, rfl, hng, hu, hE⟩ := hrel
    have HNG := Lib.hid hng
    have HEX := Lib.hid hE
    clear HU0 HE2 hng hE
    by_cases hl2 : j < ls.length
    ·obtain ⟨g, x, rfl, hc, hx⟩ := hu.cell hl2
     obtain ⟨A, cx, rfl, hi'⟩ := hx.ints
     have HSO : Hid (Ec.setOk e.feasts ls[j] = true) := Lib.hid (setOk_of_lists (m := m) (HLSE.out ▸ List.getElem_mem hl2))
     have HTK : Hid (∀ P : List Int → Prop, (∀ l ∈ ls.take j, P l) → P ls[j] → ∀ l ∈ ls.take (j + 1), P l) := Lib.hid (fun P a b l hl => by
      rw [List.take_succ_eq_append_getElem hl2, List.mem_append, List.mem_singleton] at hl
      rcases hl with hl | rfl
      ·exact a l hl
      ·exact b)
     have HHIT : Hid (goodB e lo hi late ls[j] = true → Ec.docSet (goodB e lo hi late) e.feasts.length = some ls[j]) := Lib.hid (fun hg => by
      have a := HLSE.out
      subst a
      exact Ec.doc_hit (by omega) HNO.out hl2 HNG.out hg)
     have HU := Lib.hid hu
     have HR := Lib.hid (HR0.out.ext HEX.out)
     have HM := Lib.hid (HM0.out.ext (HE0.out.trans HEX.out))
     have HC := Lib.hid hc
     have HI := Lib.hid hi'
     have HG : Hid (goodB e lo hi late ls[j] = decide ((Ec.missedL e ls[j] lo hi late).length = 0)) := Lib.hid rfl
     generalize ls[j] = l at *
     have HMI := Lib.hid (fun W (hW : Ext wr W) => HMM.out A cx l W (HM.out.ext hW) (HI.out.ext hW) HSO.out)
     have HJ : Hid (j < ls.length) := Lib.hid hl2
     generalize hN : ls.length = N at *
     clear hu hc hx hi'
     go_wp2_with fail
     refine wp_region_free_tail 11 11 (esetΦ p e l lo hi late bE g N c j cx A wr) (by kernel_rfl) (by simp) (by kernel_rfl) (by kernel_rfl) (by kernel_rfl) (by kernel_rfl) esetΦ_mono ?hob ?hQ (fun h => absurd h (by omega))
     case hob =>
      intro i o hin ho a wa hE hF
      match i, hin with
      | 0, _ =>
       cases ho
       have h0 : a.tmps[4]?.getD undef = .pointer (some ⟨bE, 0, none⟩) := evalD (hF.old 4 (by decide))
       have q := (Row.ext (HR.out) hE).cell
       refine Ran.value rfl (v := .agg #[.slice p.Ab e.sky.bodies.length p.cb, .int .i64 e.sky.nnum, .int .i64 e.sky.nden, .int .i64 e.sky.nstart, .slice p.As e.sun.length p.cs, .slice p.Am e.moon.length p.cm, .slice p.An e.node.length p.cn, .slice p.Af e.feasts.length p.cf, .int .i64 e.nw, .int .i64 e.fl, .int .i64 e.wide]) (w1 := wa) ?_ ⟨rfl, Ext.refl _⟩
       go_simp
      | 1, _ =>
       cases ho
       have h0 : a.tmps[11]?.getD undef = .slice (some ⟨g, 0, none⟩) N c := evalD (hF.old 11 (by decide))
       refine Ran.value rfl (v := .slice (some ⟨g, 0, none⟩) N c) (w1 := wa) ?_ ⟨rfl, Ext.refl _⟩
       go_simp
      | 2, _ =>
       cases ho
       have h0 : a.tmps[12]?.getD undef = .int .i64 (j : Int) := evalD (hF.old 12 (by decide))
       refine Ran.value rfl (v := .int .i64 (j : Int)) (w1 := wa) ?_ ⟨rfl, Ext.refl _⟩
       go_simp
      | 3, _ =>
       cases ho
       have h0 : a.tmps[32]?.getD undef = .slice (some ⟨g, 0, none⟩) N c := evalD ((hF.from_ 1 32 rfl (by decide)))
       have h1 : a.tmps[33]?.getD undef = .int .i64 (j : Int) := evalD ((hF.from_ 2 33 rfl (by decide)))
       refine Ran.value rfl (v := .pointer (some ⟨g, j, none⟩)) (w1 := wa) ?_ ⟨rfl, Ext.refl _⟩
       have hj := HJ.out
       go_simp
      | 4, _ =>
       cases ho
       have h0 : a.tmps[34]?.getD undef = .pointer (some ⟨g, j, none⟩) := evalD ((hF.from_ 3 34 rfl (by decide)))
       refine Ran.value rfl (v := .slice A l.length cx) (w1 := wa) ?_ ⟨rfl, Ext.refl _⟩
       have q := hE.cell HC.out
       go_simp
      | 5, _ =>
       cases ho
       have h0 : a.tmps[1]?.getD undef = .int .i64 lo := evalD (hF.old 1 (by decide))
       refine Ran.value rfl (v := .int .i64 lo) (w1 := wa) ?_ ⟨rfl, Ext.refl _⟩
       go_simp
      | 6, _ =>
       cases ho
       have h0 : a.tmps[2]?.getD undef = .int .i64 hi := evalD (hF.old 2 (by decide))
       refine Ran.value rfl (v := .int .i64 hi) (w1 := wa) ?_ ⟨rfl, Ext.refl _⟩
       go_simp
      | 7, _ =>
       cases ho
       have h0 : a.tmps[3]?.getD undef = .int .i64 late := evalD (hF.old 3 (by decide))
       refine Ran.value rfl (v := .int .i64 late) (w1 := wa) ?_ ⟨rfl, Ext.refl _⟩
       go_simp
      | 8, _ =>
       cases ho
       have h0 : a.tmps[31]?.getD undef = .agg #[.slice p.Ab e.sky.bodies.length p.cb, .int .i64 e.sky.nnum, .int .i64 e.sky.nden, .int .i64 e.sky.nstart, .slice p.As e.sun.length p.cs, .slice p.Am e.moon.length p.cm, .slice p.An e.node.length p.cn, .slice p.Af e.feasts.length p.cf, .int .i64 e.nw, .int .i64 e.fl, .int .i64 e.wide] := evalD ((hF.from_ 0 31 rfl (by decide)))
       have h1 : a.tmps[35]?.getD undef = .slice A l.length cx := evalD ((hF.from_ 4 35 rfl (by decide)))
       have h2 : a.tmps[36]?.getD undef = .int .i64 lo := evalD ((hF.from_ 5 36 rfl (by decide)))
       have h3 : a.tmps[37]?.getD undef = .int .i64 hi := evalD ((hF.from_ 6 37 rfl (by decide)))
       have h4 : a.tmps[38]?.getD undef = .int .i64 late := evalD ((hF.from_ 7 38 rfl (by decide)))
       refine Ran.enter rfl (f := 52) (args := #[.agg #[.slice p.Ab e.sky.bodies.length p.cb, .int .i64 e.sky.nnum, .int .i64 e.sky.nden, .int .i64 e.sky.nstart, .slice p.As e.sun.length p.cs, .slice p.Am e.moon.length p.cm, .slice p.An e.node.length p.cn, .slice p.Af e.feasts.length p.cf, .int .i64 e.nw, .int .i64 e.fl, .int .i64 e.wide], .slice A l.length cx, .int .i64 lo, .int .i64 hi, .int .i64 late]) (w1 := wa) ?_ ?_
       ·go_simp
       ·refine (HMI.out wa hE).mono ?_
        rintro r w1 ⟨v, rfl, hv, hX⟩
        exact ⟨_, rfl, hv, hX⟩
      | 9, _ =>
       cases ho
       have E : EclVal wa (a.eval (.tmp 39)) (Ec.missedL e l lo hi late) := hF.from_ 8 39 rfl (by decide)
       obtain ⟨A9, c9, e9, _⟩ := E
       have h0 := evalD e9
       refine Ran.value rfl (v := .int .i64 ((Ec.missedL e l lo hi late).length : Int)) (w1 := wa) ?_ ⟨rfl, Ext.refl _⟩
       go_simp
      | 10, _ =>
       cases ho
       have h0 : a.tmps[40]?.getD undef = .int .i64 ((Ec.missedL e l lo hi late).length : Int) := evalD ((hF.from_ 9 40 rfl (by decide)))
       refine Ran.value rfl (v := .bool (((Ec.missedL e l lo hi late).length : Int) == 0)) (w1 := wa) ?_ ⟨rfl, Ext.refl _⟩
       go_simp
      | k + 11, hin => omega
     case hQ =>
      intro vs w2 hE hΦ
      have f0 : vs 0 = .agg #[.slice p.Ab e.sky.bodies.length p.cb, .int .i64 e.sky.nnum, .int .i64 e.sky.nden, .int .i64 e.sky.nstart, .slice p.As e.sun.length p.cs, .slice p.Am e.moon.length p.cm, .slice p.An e.node.length p.cn, .slice p.Af e.feasts.length p.cf, .int .i64 e.nw, .int .i64 e.fl, .int .i64 e.wide] := hΦ 0 (by omega)
      have f1 : vs 1 = .slice (some ⟨g, 0, none⟩) N c := hΦ 1 (by omega)
      have f2 : vs 2 = .int .i64 (j : Int) := hΦ 2 (by omega)
      have f3 : vs 3 = .pointer (some ⟨g, j, none⟩) := hΦ 3 (by omega)
      have f4 : vs 4 = .slice A l.length cx := hΦ 4 (by omega)
      have f5 : vs 5 = .int .i64 lo := hΦ 5 (by omega)
      have f6 : vs 6 = .int .i64 hi := hΦ 6 (by omega)
      have f7 : vs 7 = .int .i64 late := hΦ 7 (by omega)
      have e8 : EclVal w2 (vs 8) (Ec.missedL e l lo hi late) := hΦ 8 (by omega)
      obtain ⟨u_8, f8⟩ : ∃ v, vs 8 = v := ⟨_, rfl⟩
      rw [f8] at e8
      have f9 : vs 9 = .int .i64 ((Ec.missedL e l lo hi late).length : Int) := hΦ 9 (by omega)
      have f10 : vs 10 = .bool (((Ec.missedL e l lo hi late).length : Int) == 0) := hΦ 10 (by omega)
      have hrg : List.range 11 = [0, 1, 2, 3, 4, 5, 6, 7, 8, 9, 10] := rfl
      unfold putAll putS
      simp only [List.length_cons, List.length_nil, List.take_succ_cons, List.take_zero, List.drop_succ_cons, List.drop_zero, Nat.reduceAdd, hrg, List.foldl_cons, List.foldl_nil, dstOf, List.getElem?_cons_succ, List.getElem?_cons_zero, Option.bind_some]
      clear hrg
      rw [f0, f1, f2, f3, f4, f5, f6, f7, f8, f9, f10]
      simp only [Act.put, List.setIfInBounds_toArray, List.set_cons_succ, List.set_cons_zero]
      clear hΦ f0 f1 f2 f3 f4 f5 f6 f7 f8 f9 f10
      have HEX2 := Lib.hid (HEX.out.trans hE)
      have HU2 := Lib.hid (HU.out.ext hE)
      have HI2 := Lib.hid (HI.out.ext hE)
      have hc2 := hE.cell HC.out
      have hjj := HJ.out
      obtain ⟨M, hM⟩ : ∃ M, (Ec.missedL e l lo hi late).length = M := ⟨_, rfl⟩
      rw [hM] at HG ⊢
      clear hM hE
      rcases Nat.eq_zero_or_pos M with h0 | h0
      ·have hq : ((M : Int) == 0) = true := by simp [h0]
       have HDF := Lib.hid (HHIT.out (by rw [HG.out]; simpa using h0))
       go_wp2_with fail
       go_ret2
       exact ⟨by rw [HDF.out]; exact ⟨A, cx, rfl, HI2.out⟩, HE0.out.trans HEX2.out⟩
      ·have hq : ((M : Int) == 0) = false := by rw [beq_eq_false_iff_ne]; omega
       have HNX := Lib.hid (HTK.out (fun l => goodB e lo hi late l = false) HNG.out (by rw [HG.out]; simp; omega))
       go_wp2_with fail
       exact ⟨⟨j + 1, by omega, by go_num, HNX.out, HU2.out, HEX2.out⟩, by simp [intOf]; omega⟩
    ·obtain rfl : j = ls.length := by omega
     rw [List.take_length] at HNG
     clear hu
     go_wp2_with fail
     refine ⟨⟨m + 1, by omega, by go_num, fun k hk l hl => ?_, HEX.out⟩, by simp [intOf]; omega⟩
     rcases Nat.lt_or_ge k m with hlt' | hge
     ·exact HNO.out k hlt' l hl
     ·obtain rfl : k = m := by omega
      rw [HLSE.out] at hl
      exact HNG.out l hl
  ·obtain rfl : m = e.feasts.length + 1 := by omega
   have HD := Lib.hid (Ec.doc_miss HNO.out)
   clear HNO
   go_wp2_with fail
   go_ret2
   exact ⟨by rw [HD.out]; rfl, HE0.out.trans HE.out⟩
end Go.Proofs.YtcbodpnmndbgnaaGreatDoor
