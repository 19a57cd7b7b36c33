/- Volume 7 of the texts that the laws of this seat use: EcFore1 EcSeq EcTold EcReal EcMissed EcMissed2 EcForetells TpEmptyPre: walks of the program's functions, and plain laws. -/
import Derived.Carry
import Derived.Maps.OwnIn
import Derived.Test.YtimkmokomohgjaaGreatR02
import Derived.Test.YtimkmokomohgjaaGreatR05
import Derived.Test.YtimkmokomohgjaaGreatR06
namespace Go.Proofs.YtimkmokomohgjaaGreat
open Go.RowKit Go.Shelf
open Sp (rd)
attribute [local go_sem] Oper.semAt_some
set_option maxRecDepth 100000
set_option maxHeartbeats 4000000
theorem OnlyEnd.normal {Q : Exit → Act → World → Prop} {a : Act} {w : World} (h : Q .normal a w) : OnlyEnd Q .normal a w := h
/-- Between two days. -/
def ForeRel (w0 : World) (p : EP) (e : Ec.Engine) (set : List Int) (M bT bX : Nat) (lo hi : Int) (J : List Ecl1 → World → Prop) (d : Value) (wr : World) : Prop :=
  ∃ (k : Nat) (pre : List Ecl1), d = .int .i64 (lo + (k : Int)) ∧ k ≤ (hi + 1 - lo).toNat ∧ pre.map Subtype.val = Ec.foreN e set lo k ∧ J pre wr ∧ ForeIn w0 p e set M bT bX hi wr
/-- Between two kinds of moons on a day. -/
def ForeRel2 (w0 : World) (p : EP) (e : Ec.Engine) (set : List Int) (M bT bX : Nat) (lo hi : Int) (J : List Ecl1 → World → Prop) (k : Nat) (i : Value) (wr : World) : Prop :=
  ∃ pre : List Ecl1, J pre wr ∧ ForeIn w0 p e set M bT bX hi wr ∧ ((i = .int .i64 0 ∧ pre.map Subtype.val = Ec.foreN e set lo k ++ forePart e set (lo + (k : Int)) 0) ∨
    (i = .int .i64 1 ∧ pre.map Subtype.val = Ec.foreN e set lo k ++ forePart e set (lo + (k : Int)) 1) ∨ (i = .int .i64 2 ∧ pre.map Subtype.val = Ec.foreN e set lo k ++ forePart e set (lo + (k : Int)) 2))
def ForeOut (e : Ec.Engine) (set : List Int) (lo hi : Int) (J Jx : List Ecl1 → World → Prop) (r : Ending) (B : World) : Prop :=
  (∃ v, r = .returned v) ∧ ((∃ xs : List Ecl1, xs.map Subtype.val = Ec.foreL e set lo hi ∧ J xs B) ∨ (∃ pre : List Ecl1, (∃ rest, pre.map Subtype.val ++ rest = Ec.foreL e set lo hi) ∧ Jx pre B))
theorem part_no (e : Ec.Engine) (set : List Int) (d : Int) (full : Bool) (h : Ec.foreB e set d full = false) : forePart e set d (if full then 2 else 1) = forePart e set d (if full then 1 else 0) := by
  cases full
  · show (if Ec.foreB e set d false = true then [(⟨d, false, Ec.farAt e set d⟩ : Sp.Ecl)] else []) = []
    rw [h]; rfl
  · show Ec.foreD e set d = (if Ec.foreB e set d false = true then [(⟨d, false, Ec.farAt e set d⟩ : Sp.Ecl)] else [])
    unfold Ec.foreD
    rw [h]; exact List.append_nil _
theorem part_yes (e : Ec.Engine) (set : List Int) (d : Int) (full : Bool) (h : Ec.foreB e set d full = true) : forePart e set d (if full then 2 else 1) = forePart e set d (if full then 1 else 0) ++ [⟨d, full, Ec.farAt e set d⟩] := by
  cases full
  · show (if Ec.foreB e set d false = true then [(⟨d, false, Ec.farAt e set d⟩ : Sp.Ecl)] else []) = [⟨d, false, Ec.farAt e set d⟩]
    rw [h]; rfl
  · show Ec.foreD e set d = (if Ec.foreB e set d false = true then [(⟨d, false, Ec.farAt e set d⟩ : Sp.Ecl)] else []) ++ [⟨d, true, Ec.farAt e set d⟩]
    unfold Ec.foreD
    rw [h]; rfl
theorem fore_no1 {e : Ec.Engine} {set : List Int} {d : Int} {full : Bool} (h : Ec.hasB e set d full = false) : Ec.foreB e set d full = false := by simp [Ec.foreB, h]
theorem fore_no2 {e : Ec.Engine} {set : List Int} {d : Int} {full : Bool} (h : ¬ Ec.farAt e set d ≤ Ec.limitOf e full + e.wide) : Ec.foreB e set d full = false := by simp [Ec.foreB]; omega
theorem fore_yes {e : Ec.Engine} {set : List Int} {d : Int} {full : Bool} (h1 : Ec.hasB e set d full = true) (h : Ec.farAt e set d ≤ Ec.limitOf e full + e.wide) : Ec.foreB e set d full = true := by simp [Ec.foreB, h1, h]
theorem fore_len {e : Ec.Engine} {set : List Int} {lo hi : Int} {k j : Nat} {pre : List Ecl1} (hp : pre.map Subtype.val = Ec.foreN e set lo k ++ forePart e set (lo + (k : Int)) j) (hk : k < (hi + 1 - lo).toNat) (full : Bool) (hj : j = if full then 1 else 0)
    (h : Ec.foreB e set (lo + (k : Int)) full = true) : pre.length < (Ec.foreL e set lo hi).length := by
  obtain ⟨rest, hr⟩ := foreL_split e set lo hi k hk (if full then 2 else 1) (by cases full <;> simp)
  have h1 : pre.length = (Ec.foreN e set lo k ++ forePart e set (lo + (k : Int)) j).length := by rw [← hp, List.length_map]
  rw [← hr, h1, part_yes e set _ full h, hj]
  simp only [List.length_append, List.length_cons, List.length_nil]
  omega
theorem fore_pre {e : Ec.Engine} {set : List Int} {lo hi : Int} {k j : Nat} {pre : List Ecl1} (hp : pre.map Subtype.val = Ec.foreN e set lo k ++ forePart e set (lo + (k : Int)) j) (hk : k < (hi + 1 - lo).toNat) (full : Bool) (hj : j = if full then 1 else 0)
    (h : Ec.foreB e set (lo + (k : Int)) full = true) (x : Ecl1) (hx : x.1 = ⟨lo + (k : Int), full, Ec.farAt e set (lo + (k : Int))⟩) : (pre ++ [x]).map Subtype.val = Ec.foreN e set lo k ++ forePart e set (lo + (k : Int)) (if full then 2 else 1) ∧
      ∃ rest, (pre ++ [x]).map Subtype.val ++ rest = Ec.foreL e set lo hi := by
  have h1 : (pre ++ [x]).map Subtype.val = Ec.foreN e set lo k ++ forePart e set (lo + (k : Int)) (if full then 2 else 1) := by
    rw [List.map_append, hp, part_yes e set _ full h, hj, List.append_assoc]
    simp [hx]
  refine ⟨h1, ?_⟩
  rw [h1]
  exact foreL_split e set lo hi k hk _ (by cases full <;> simp)
theorem e_fore1_any (n : Nat) (hn : 1 ≤ n) (l bF bT bX : Nat) (w0 : World) (p : EP) (e : Ec.Engine) (set : List Int) (M : Nat) (lo0 lo hi : Int) (N : Nat) (J Jx : List Ecl1 → World → Prop) (hK : Fine e set) (hm : EngSet w0 p e set) (hM : w0.heap.size ≤ M)
    (hlo : lo = max 1 lo0) (hlo9 : lo0 ≤ 9030) (hlo0 : -9030 ≤ lo0) (hhi : hi ≤ 9030) (hhi0 : -9030 ≤ hi) (hN : (Ec.foreL e set lo hi).length ≤ N)
    (hJ : ∀ s A B, J s A → Move e set M A B → J s B)
    (hY : ∀ pre x A, J pre A → pre.length < N → YieldAt Fence.wide (n - 1) Tryz.prog l #[eclV x.1] A fun r B =>
      (r = .returned (.bool true) ∧ J (pre ++ [x]) B ∧ KeepsEng w0.heap.size bT bX M A B) ∨ (r = .returned (.bool false) ∧ Jx (pre ++ [x]) B))
    (W : World) (hF : Row W bF 3 #[.int .i64 lo0]) (hI : ForeIn w0 p e set M bT bX hi W) (h0 : J [] W) :
    Calls Tryz.prog 141 #[.func (.yield l) #[] #[], .pointer (some ⟨bF, 0, none⟩), .pointer (some ⟨bT, 0, none⟩), .pointer (some ⟨bX, 0, none⟩)] W (ForeOut e set lo hi J Jx) := by
  have i0 := pickP0
  have i1 := pickP1
  have hn1 : ∀ w, (nilAhead 378 206 (.agg #[]) "tellurion/eclipse.full").run Tryz.prog w = .ok (some false) w := fun _ => by kernel_rfl
  have hn1' : ∀ w, (method 378 206 (.agg #[]) "tellurion/eclipse.full").run Tryz.prog w = .ok (230, .agg #[]) w := fun _ => by kernel_rfl
  have hn2 : ∀ w, (nilAhead 378 207 (.agg #[]) "tellurion/eclipse.full").run Tryz.prog w = .ok (some false) w := fun _ => by kernel_rfl
  have hn2' : ∀ w, (method 378 207 (.agg #[]) "tellurion/eclipse.full").run Tryz.prog w = .ok (231, .agg #[]) w := fun _ => by kernel_rfl
  have HK := Lib.hid hK
  have HM := Lib.hid hm
  have HJ := Lib.hid hJ
  have HY := Lib.hid hY
  have HNN := Lib.hid hN
  have HL := Lib.hid hlo
  obtain ⟨⟨v1, v2⟩, ⟨v3, v4⟩, v5, v6⟩ := hK.limits
  have hl1 : 1 ≤ lo := by omega
  have hl9 : lo ≤ 9030 := by omega
  have cF := hF.cell
  clear hK hm hJ hY hN hF
  rcases (show (1 < lo0 ∧ lo = lo0) ∨ (lo0 ≤ 1 ∧ lo = 1) by omega) with ⟨hp, rfl⟩ | ⟨hp, rfl⟩
  ·
    clear hlo
    go_enter Tryz.func141, Tryz.ntmps141
    go_wp2_with fail
    clear cF
    go_loopw [5, 7, 8] (fun d _ _ wr => ForeRel w0 p e set M bT bX lo hi J d wr) (fun d _ _ _ => (hi + 1 - intOf d).toNat)
    case atStart => exact ⟨0, [], by simp, Nat.zero_le _, rfl, h0, hI⟩
    case round =>
      obtain ⟨k, pre, rfl, hk, hp1, hJ1, hI1⟩ := hrel
      have HP := Lib.hid hp1
      have HI1 := Lib.hid hI1
      have cT := hI1.to.cell
      clear hp1 hI1
      by_cases hlt : k < (hi + 1 - lo).toNat
      · have hle : decide (lo + (k : Int) ≤ hi) = true := by simp only [decide_eq_true_eq]; omega
        go_wp2_with fail
        obtain ⟨wo, rfl⟩ : ∃ wo : World, wo = wr := ⟨_, rfl⟩
        clear cT
        go_loopw [7, 8, 21] (fun _ _ i wr => ForeRel2 w0 p e set M bT bX lo hi J k i wr) (fun _ _ i _ => 2 - (intOf i).toNat)
        case atStart => exact ⟨pre, hJ1, HI1.out, .inl ⟨rfl, by rw [HP.out]; exact (List.append_nil _).symm⟩⟩
        case round =>
          obtain ⟨pre2, hJ2, hI2, ⟨rfl, hp2⟩ | ⟨rfl, hp2⟩ | ⟨rfl, hp2⟩⟩ := hrel
          · have HP2 := Lib.hid hp2
            have HI2 := Lib.hid hI2
            clear hp2 hI2
            have hI2c := HI2.out.x.cell
            cases hb : Ec.hasB e set (lo + (k : Int)) false
            · have HB := Lib.hid hb
              clear hb
              go_wp2_with fail
              refine (e_has_false p e set M (lo + (k : Int)) wr HK.out (HM.out.ext HI2.out.ext) HI2.out.cache (by omega) (by omega)).mono ?_
              rintro r w1 ⟨rfl, hS⟩
              rw [HB.out]
              have HS := Lib.hid hS
              clear hS hI2c
              go_wp2_with fail
              go_roundw
              case rel => exact ⟨pre2, HJ.out _ _ _ hJ2 HS.out, HI2.out.move hM HS.out, .inr (.inl ⟨rfl, by rw [HP2.out]; exact congrArg _ (part_no e set _ false (fore_no1 HB.out)).symm⟩)⟩
              case measure => simp [intOf]
            · have HB := Lib.hid hb
              have hfb := far_bounds e set (lo + (k : Int))
              clear hb
              go_wp2_with fail
              refine (e_has_false p e set M (lo + (k : Int)) wr HK.out (HM.out.ext HI2.out.ext) HI2.out.cache (by omega) (by omega)).mono ?_
              rintro r w1 ⟨rfl, hS⟩
              rw [HB.out]
              have HI3 := Lib.hid (HI2.out.move hM hS)
              have HJ3 := Lib.hid (HJ.out _ _ _ hJ2 hS)
              clear hS hI2c
              have hI3c := HI3.out.x.cell
              go_wp2_with fail
              refine (e_far_any p e set M (lo + (k : Int)) w1 HK.out (HM.out.ext HI3.out.ext) HI3.out.cache (by omega) (by omega)).mono ?_
              rintro r w2 ⟨rfl, hS⟩
              have HI4 := Lib.hid (HI3.out.move hM hS)
              have HJ4 := Lib.hid (HJ.out _ _ _ HJ3.out hS)
              clear hS hI3c
              obtain ⟨fr, hfr⟩ : ∃ fr, Ec.farAt e set (lo + (k : Int)) = fr := ⟨_, rfl⟩
              have HFR := Lib.hid hfr
              rw [hfr] at hfb ⊢
              clear hfr
              obtain ⟨f1, f2⟩ := hfb
              go_wp2_with fail
              by_cases hf : fr ≤ e.nw + e.wide
              · have HF := Lib.hid hf
                have hfd : decide (fr ≤ e.nw + e.wide) = true := by simpa using hf
                have HFB : Hid (Ec.foreB e set (lo + (k : Int)) false = true) := Lib.hid (fore_yes HB.out (by rw [HFR.out]; simpa [Ec.limitOf] using hf))
                clear hf
                refine (wpIn_wide (n := n)).1 ?_
                refine wpIn_region_later_tail 16 (by kernel_rfl) (by kernel_rfl) (fun W hW => ?_)
                have q1 := Later.block (w := W) (by rw [hW]; exact HI4.out.x)
                have HLM := Lib.hid (fun x : Later W => show Calls Tryz.prog 144 #[.agg #[.slice p.Ab e.sky.bodies.length p.cb, .int .i64 e.sky.nnum, .int .i64 e.sky.nden, .int .i64 e.sky.nstart, .slice p.As e.sun.length p.cs, .slice p.Am e.moon.length p.cm, .slice p.An e.node.length p.cn, .slice p.Af e.feasts.length p.cf, .int .i64 e.nw, .int .i64 e.fl, .int .i64 e.wide, .slice p.At set.length p.ct, .map (some M)], .iface 206 (.agg #[])] x.world fun r w' => r = .returned (.int .i64 e.nw) ∧ Ext x.world w' from e_limit_false p e set M x.world)
                simp only [List.take_succ_cons, List.take_zero, List.drop_succ_cons, List.drop_zero]
                repeat (go_big_quiet_step ((first | (go_at_call 144; exact Later.call (HLM.out _)) | (exact Later.call (e_new_full _)))))
                refine wpQuiet_nil ?_
                intro x
                subst hW
                have HSX := Lib.hid (Step.of_ext HI4.out.cache x.ext)
                have HI5 := Lib.hid (HI4.out.move hM HSX.out)
                have HJ5 := Lib.hid (HJ.out _ _ _ HJ4.out HSX.out)
                obtain ⟨fn, tmps, assign, body, hy, hR⟩ := HY.out pre2 ⟨⟨(lo + (k : Int)), false, fr⟩, ⟨by simp only; omega, by simp only; omega⟩, by simp only; omega, by simp only; omega⟩ x.world HJ5.out (Nat.lt_of_lt_of_le (fore_len HP2.out hlt false rfl HFB.out) HNN.out)
                have HRR := Lib.hid hR
                have HPP := Lib.hid (fore_pre HP2.out hlt false rfl HFB.out ⟨⟨(lo + (k : Int)), false, fr⟩, ⟨by simp only; omega, by simp only; omega⟩, by simp only; omega, by simp only; omega⟩ (congrArg (fun z => (⟨(lo + (k : Int)), false, z⟩ : Sp.Ecl)) HFR.out.symm))
                simp only [eclV] at hy
                clear hR q1
                gi_wp2
                refine HRR.out.mono ?_
                rintro r B (⟨rfl, hJ6, hk6⟩ | ⟨rfl, hJx6⟩)
                · have HI6 := Lib.hid (HI5.out.keep hk6)
                  have HJ6 := Lib.hid hJ6
                  clear hk6 hJ6
                  gi_wp2
                  refine OnlyEnd.normal ?_
                  go_wp2
                  go_roundw
                  case rel => exact ⟨_, HJ6.out, HI6.out, .inr (.inl ⟨rfl, HPP.out.1⟩)⟩
                  case measure => simp [intOf]
                · have HJ6 := Lib.hid hJx6
                  clear hJx6
                  gi_wp2
                  refine OnlyEnd.normal ?_
                  go_wp2
                  go_end0
                  exact ⟨⟨_, rfl⟩, .inr ⟨_, HPP.out.2, HJ6.out⟩⟩
              · have HF := Lib.hid hf
                have hfd : decide (fr ≤ e.nw + e.wide) = false := by simpa using hf
                have HFB : Hid (Ec.foreB e set (lo + (k : Int)) false = false) := Lib.hid (fore_no2 (by rw [HFR.out]; simpa [Ec.limitOf] using hf))
                clear hf
                refine wp_region_later (by kernel_rfl) (by kernel_rfl) (fun W hW => ?_)
                have q1 := Later.block (w := W) (by rw [hW]; exact HI4.out.x)
                have HLM := Lib.hid (fun x : Later W => show Calls Tryz.prog 144 #[.agg #[.slice p.Ab e.sky.bodies.length p.cb, .int .i64 e.sky.nnum, .int .i64 e.sky.nden, .int .i64 e.sky.nstart, .slice p.As e.sun.length p.cs, .slice p.Am e.moon.length p.cm, .slice p.An e.node.length p.cn, .slice p.Af e.feasts.length p.cf, .int .i64 e.nw, .int .i64 e.fl, .int .i64 e.wide, .slice p.At set.length p.ct, .map (some M)], .iface 206 (.agg #[])] x.world fun r w' => r = .returned (.int .i64 e.nw) ∧ Ext x.world w' from e_limit_false p e set M x.world)
                repeat (go_big_quiet_step ((go_at_call 144; exact Later.call (HLM.out _))))
                refine wpQuiet_nil ?_
                rintro ⟨w3, hE⟩
                subst hW
                have HS := Lib.hid (Step.of_ext HI4.out.cache hE)
                dsimp only
                clear q1 hE
                go_wp2
                go_roundw
                case rel => exact ⟨pre2, HJ.out _ _ _ HJ4.out HS.out, HI4.out.move hM HS.out, .inr (.inl ⟨rfl, by rw [HP2.out]; exact congrArg _ (part_no e set _ false HFB.out).symm⟩)⟩
                case measure => simp [intOf]
          · have HP2 := Lib.hid hp2
            have HI2 := Lib.hid hI2
            clear hp2 hI2
            have hI2c := HI2.out.x.cell
            cases hb : Ec.hasB e set (lo + (k : Int)) true
            · have HB := Lib.hid hb
              clear hb
              go_wp2_with fail
              refine (e_has_true p e set M (lo + (k : Int)) wr HK.out (HM.out.ext HI2.out.ext) HI2.out.cache (by omega) (by omega)).mono ?_
              rintro r w1 ⟨rfl, hS⟩
              rw [HB.out]
              have HS := Lib.hid hS
              clear hS hI2c
              go_wp2_with fail
              go_roundw
              case rel => exact ⟨pre2, HJ.out _ _ _ hJ2 HS.out, HI2.out.move hM HS.out, .inr (.inr ⟨rfl, by rw [HP2.out]; exact congrArg _ (part_no e set _ true (fore_no1 HB.out)).symm⟩)⟩
              case measure => simp [intOf]
            · have HB := Lib.hid hb
              have hfb := far_bounds e set (lo + (k : Int))
              clear hb
              go_wp2_with fail
              refine (e_has_true p e set M (lo + (k : Int)) wr HK.out (HM.out.ext HI2.out.ext) HI2.out.cache (by omega) (by omega)).mono ?_
              rintro r w1 ⟨rfl, hS⟩
              rw [HB.out]
              have HI3 := Lib.hid (HI2.out.move hM hS)
              have HJ3 := Lib.hid (HJ.out _ _ _ hJ2 hS)
              clear hS hI2c
              have hI3c := HI3.out.x.cell
              go_wp2_with fail
              refine (e_far_any p e set M (lo + (k : Int)) w1 HK.out (HM.out.ext HI3.out.ext) HI3.out.cache (by omega) (by omega)).mono ?_
              rintro r w2 ⟨rfl, hS⟩
              have HI4 := Lib.hid (HI3.out.move hM hS)
              have HJ4 := Lib.hid (HJ.out _ _ _ HJ3.out hS)
              clear hS hI3c
              obtain ⟨fr, hfr⟩ : ∃ fr, Ec.farAt e set (lo + (k : Int)) = fr := ⟨_, rfl⟩
              have HFR := Lib.hid hfr
              rw [hfr] at hfb ⊢
              clear hfr
              obtain ⟨f1, f2⟩ := hfb
              go_wp2_with fail
              by_cases hf : fr ≤ e.fl + e.wide
              · have HF := Lib.hid hf
                have hfd : decide (fr ≤ e.fl + e.wide) = true := by simpa using hf
                have HFB : Hid (Ec.foreB e set (lo + (k : Int)) true = true) := Lib.hid (fore_yes HB.out (by rw [HFR.out]; simpa [Ec.limitOf] using hf))
                clear hf
                refine (wpIn_wide (n := n)).1 ?_
                refine wpIn_region_later_tail 16 (by kernel_rfl) (by kernel_rfl) (fun W hW => ?_)
                have q1 := Later.block (w := W) (by rw [hW]; exact HI4.out.x)
                have HLM := Lib.hid (fun x : Later W => show Calls Tryz.prog 144 #[.agg #[.slice p.Ab e.sky.bodies.length p.cb, .int .i64 e.sky.nnum, .int .i64 e.sky.nden, .int .i64 e.sky.nstart, .slice p.As e.sun.length p.cs, .slice p.Am e.moon.length p.cm, .slice p.An e.node.length p.cn, .slice p.Af e.feasts.length p.cf, .int .i64 e.nw, .int .i64 e.fl, .int .i64 e.wide, .slice p.At set.length p.ct, .map (some M)], .iface 207 (.agg #[])] x.world fun r w' => r = .returned (.int .i64 e.fl) ∧ Ext x.world w' from e_limit_true p e set M x.world)
                simp only [List.take_succ_cons, List.take_zero, List.drop_succ_cons, List.drop_zero]
                repeat (go_big_quiet_step ((first | (go_at_call 144; exact Later.call (HLM.out _)) | (exact Later.call (e_full_full _)))))
                refine wpQuiet_nil ?_
                intro x
                subst hW
                have HSX := Lib.hid (Step.of_ext HI4.out.cache x.ext)
                have HI5 := Lib.hid (HI4.out.move hM HSX.out)
                have HJ5 := Lib.hid (HJ.out _ _ _ HJ4.out HSX.out)
                obtain ⟨fn, tmps, assign, body, hy, hR⟩ := HY.out pre2 ⟨⟨(lo + (k : Int)), true, fr⟩, ⟨by simp only; omega, by simp only; omega⟩, by simp only; omega, by simp only; omega⟩ x.world HJ5.out (Nat.lt_of_lt_of_le (fore_len HP2.out hlt true rfl HFB.out) HNN.out)
                have HRR := Lib.hid hR
                have HPP := Lib.hid (fore_pre HP2.out hlt true rfl HFB.out ⟨⟨(lo + (k : Int)), true, fr⟩, ⟨by simp only; omega, by simp only; omega⟩, by simp only; omega, by simp only; omega⟩ (congrArg (fun z => (⟨(lo + (k : Int)), true, z⟩ : Sp.Ecl)) HFR.out.symm))
                simp only [eclV] at hy
                clear hR q1
                gi_wp2
                refine HRR.out.mono ?_
                rintro r B (⟨rfl, hJ6, hk6⟩ | ⟨rfl, hJx6⟩)
                · have HI6 := Lib.hid (HI5.out.keep hk6)
                  have HJ6 := Lib.hid hJ6
                  clear hk6 hJ6
                  gi_wp2
                  refine OnlyEnd.normal ?_
                  go_wp2
                  go_roundw
                  case rel => exact ⟨_, HJ6.out, HI6.out, .inr (.inr ⟨rfl, HPP.out.1⟩)⟩
                  case measure => simp [intOf]
                · have HJ6 := Lib.hid hJx6
                  clear hJx6
                  gi_wp2
                  refine OnlyEnd.normal ?_
                  go_wp2
                  go_end0
                  exact ⟨⟨_, rfl⟩, .inr ⟨_, HPP.out.2, HJ6.out⟩⟩
              · have HF := Lib.hid hf
                have hfd : decide (fr ≤ e.fl + e.wide) = false := by simpa using hf
                have HFB : Hid (Ec.foreB e set (lo + (k : Int)) true = false) := Lib.hid (fore_no2 (by rw [HFR.out]; simpa [Ec.limitOf] using hf))
                clear hf
                refine wp_region_later (by kernel_rfl) (by kernel_rfl) (fun W hW => ?_)
                have q1 := Later.block (w := W) (by rw [hW]; exact HI4.out.x)
                have HLM := Lib.hid (fun x : Later W => show Calls Tryz.prog 144 #[.agg #[.slice p.Ab e.sky.bodies.length p.cb, .int .i64 e.sky.nnum, .int .i64 e.sky.nden, .int .i64 e.sky.nstart, .slice p.As e.sun.length p.cs, .slice p.Am e.moon.length p.cm, .slice p.An e.node.length p.cn, .slice p.Af e.feasts.length p.cf, .int .i64 e.nw, .int .i64 e.fl, .int .i64 e.wide, .slice p.At set.length p.ct, .map (some M)], .iface 207 (.agg #[])] x.world fun r w' => r = .returned (.int .i64 e.fl) ∧ Ext x.world w' from e_limit_true p e set M x.world)
                repeat (go_big_quiet_step ((go_at_call 144; exact Later.call (HLM.out _))))
                refine wpQuiet_nil ?_
                rintro ⟨w3, hE⟩
                subst hW
                have HS := Lib.hid (Step.of_ext HI4.out.cache hE)
                dsimp only
                clear q1 hE
                go_wp2
                go_roundw
                case rel => exact ⟨pre2, HJ.out _ _ _ HJ4.out HS.out, HI4.out.move hM HS.out, .inr (.inr ⟨rfl, by rw [HP2.out]; exact congrArg _ (part_no e set _ true HFB.out).symm⟩)⟩
                case measure => simp [intOf]
          · have HP2 := Lib.hid hp2
            have HI2 := Lib.hid hI2
            clear hp2 hI2
            go_wp2_with fail
            go_roundw
            case rel => exact ⟨k + 1, pre2, by simp; omega, by omega, HP2.out, hJ2, HI2.out⟩
            case measure => simp [intOf]; omega
      · go_wp2_with fail
        go_end0
        exact ⟨⟨_, rfl⟩, .inl ⟨pre, by rw [HP.out]; unfold Ec.foreL; rw [show k = (hi + 1 - lo).toNat by omega], hJ1⟩⟩
  ·
    clear hlo
    go_enter Tryz.func141, Tryz.ntmps141
    go_wp2_with fail
    clear cF
    go_loopw [5, 7, 8] (fun d _ _ wr => ForeRel w0 p e set M bT bX 1 hi J d wr) (fun d _ _ _ => (hi + 1 - intOf d).toNat)
    case atStart => exact ⟨0, [], by simp, Nat.zero_le _, rfl, h0, hI⟩
    case round =>
      obtain ⟨k, pre, rfl, hk, hp1, hJ1, hI1⟩ := hrel
      have HP := Lib.hid hp1
      have HI1 := Lib.hid hI1
      have cT := hI1.to.cell
      clear hp1 hI1
      by_cases hlt : k < (hi + 1 - 1).toNat
      · have hle : decide (1 + (k : Int) ≤ hi) = true := by simp only [decide_eq_true_eq]; omega
        go_wp2_with fail
        obtain ⟨wo, rfl⟩ : ∃ wo : World, wo = wr := ⟨_, rfl⟩
        clear cT
        go_loopw [7, 8, 21] (fun _ _ i wr => ForeRel2 w0 p e set M bT bX 1 hi J k i wr) (fun _ _ i _ => 2 - (intOf i).toNat)
        case atStart => exact ⟨pre, hJ1, HI1.out, .inl ⟨rfl, by rw [HP.out]; exact (List.append_nil _).symm⟩⟩
        case round =>
          obtain ⟨pre2, hJ2, hI2, ⟨rfl, hp2⟩ | ⟨rfl, hp2⟩ | ⟨rfl, hp2⟩⟩ := hrel
          · have HP2 := Lib.hid hp2
            have HI2 := Lib.hid hI2
            clear hp2 hI2
            have hI2c := HI2.out.x.cell
            cases hb : Ec.hasB e set (1 + (k : Int)) false
            · have HB := Lib.hid hb
              clear hb
              go_wp2_with fail
              refine (e_has_false p e set M (1 + (k : Int)) wr HK.out (HM.out.ext HI2.out.ext) HI2.out.cache (by omega) (by omega)).mono ?_
              rintro r w1 ⟨rfl, hS⟩
              rw [HB.out]
              have HS := Lib.hid hS
              clear hS hI2c
              go_wp2_with fail
              go_roundw
              case rel => exact ⟨pre2, HJ.out _ _ _ hJ2 HS.out, HI2.out.move hM HS.out, .inr (.inl ⟨rfl, by rw [HP2.out]; exact congrArg _ (part_no e set _ false (fore_no1 HB.out)).symm⟩)⟩
              case measure => simp [intOf]
            · have HB := Lib.hid hb
              have hfb := far_bounds e set (1 + (k : Int))
              clear hb
              go_wp2_with fail
              refine (e_has_false p e set M (1 + (k : Int)) wr HK.out (HM.out.ext HI2.out.ext) HI2.out.cache (by omega) (by omega)).mono ?_
              rintro r w1 ⟨rfl, hS⟩
              rw [HB.out]
              have HI3 := Lib.hid (HI2.out.move hM hS)
              have HJ3 := Lib.hid (HJ.out _ _ _ hJ2 hS)
              clear hS hI2c
              have hI3c := HI3.out.x.cell
              go_wp2_with fail
              refine (e_far_any p e set M (1 + (k : Int)) w1 HK.out (HM.out.ext HI3.out.ext) HI3.out.cache (by omega) (by omega)).mono ?_
              rintro r w2 ⟨rfl, hS⟩
              have HI4 := Lib.hid (HI3.out.move hM hS)
              have HJ4 := Lib.hid (HJ.out _ _ _ HJ3.out hS)
              clear hS hI3c
              obtain ⟨fr, hfr⟩ : ∃ fr, Ec.farAt e set (1 + (k : Int)) = fr := ⟨_, rfl⟩
              have HFR := Lib.hid hfr
              rw [hfr] at hfb ⊢
              clear hfr
              obtain ⟨f1, f2⟩ := hfb
              go_wp2_with fail
              by_cases hf : fr ≤ e.nw + e.wide
              · have HF := Lib.hid hf
                have hfd : decide (fr ≤ e.nw + e.wide) = true := by simpa using hf
                have HFB : Hid (Ec.foreB e set (1 + (k : Int)) false = true) := Lib.hid (fore_yes HB.out (by rw [HFR.out]; simpa [Ec.limitOf] using hf))
                clear hf
                refine (wpIn_wide (n := n)).1 ?_
                refine wpIn_region_later_tail 16 (by kernel_rfl) (by kernel_rfl) (fun W hW => ?_)
                have q1 := Later.block (w := W) (by rw [hW]; exact HI4.out.x)
                have HLM := Lib.hid (fun x : Later W => show Calls Tryz.prog 144 #[.agg #[.slice p.Ab e.sky.bodies.length p.cb, .int .i64 e.sky.nnum, .int .i64 e.sky.nden, .int .i64 e.sky.nstart, .slice p.As e.sun.length p.cs, .slice p.Am e.moon.length p.cm, .slice p.An e.node.length p.cn, .slice p.Af e.feasts.length p.cf, .int .i64 e.nw, .int .i64 e.fl, .int .i64 e.wide, .slice p.At set.length p.ct, .map (some M)], .iface 206 (.agg #[])] x.world fun r w' => r = .returned (.int .i64 e.nw) ∧ Ext x.world w' from e_limit_false p e set M x.world)
                simp only [List.take_succ_cons, List.take_zero, List.drop_succ_cons, List.drop_zero]
                repeat (go_big_quiet_step ((first | (go_at_call 144; exact Later.call (HLM.out _)) | (exact Later.call (e_new_full _)))))
                refine wpQuiet_nil ?_
                intro x
                subst hW
                have HSX := Lib.hid (Step.of_ext HI4.out.cache x.ext)
                have HI5 := Lib.hid (HI4.out.move hM HSX.out)
                have HJ5 := Lib.hid (HJ.out _ _ _ HJ4.out HSX.out)
                obtain ⟨fn, tmps, assign, body, hy, hR⟩ := HY.out pre2 ⟨⟨(1 + (k : Int)), false, fr⟩, ⟨by simp only; omega, by simp only; omega⟩, by simp only; omega, by simp only; omega⟩ x.world HJ5.out (Nat.lt_of_lt_of_le (fore_len HP2.out hlt false rfl HFB.out) HNN.out)
                have HRR := Lib.hid hR
                have HPP := Lib.hid (fore_pre HP2.out hlt false rfl HFB.out ⟨⟨(1 + (k : Int)), false, fr⟩, ⟨by simp only; omega, by simp only; omega⟩, by simp only; omega, by simp only; omega⟩ (congrArg (fun z => (⟨(1 + (k : Int)), false, z⟩ : Sp.Ecl)) HFR.out.symm))
                simp only [eclV] at hy
                clear hR q1
                gi_wp2
                refine HRR.out.mono ?_
                rintro r B (⟨rfl, hJ6, hk6⟩ | ⟨rfl, hJx6⟩)
                · have HI6 := Lib.hid (HI5.out.keep hk6)
                  have HJ6 := Lib.hid hJ6
                  clear hk6 hJ6
                  gi_wp2
                  refine OnlyEnd.normal ?_
                  go_wp2
                  go_roundw
                  case rel => exact ⟨_, HJ6.out, HI6.out, .inr (.inl ⟨rfl, HPP.out.1⟩)⟩
                  case measure => simp [intOf]
                · have HJ6 := Lib.hid hJx6
                  clear hJx6
                  gi_wp2
                  refine OnlyEnd.normal ?_
                  go_wp2
                  go_end0
                  exact ⟨⟨_, rfl⟩, .inr ⟨_, HPP.out.2, HJ6.out⟩⟩
              · have HF := Lib.hid hf
                have hfd : decide (fr ≤ e.nw + e.wide) = false := by simpa using hf
                have HFB : Hid (Ec.foreB e set (1 + (k : Int)) false = false) := Lib.hid (fore_no2 (by rw [HFR.out]; simpa [Ec.limitOf] using hf))
                clear hf
                refine wp_region_later (by kernel_rfl) (by kernel_rfl) (fun W hW => ?_)
                have q1 := Later.block (w := W) (by rw [hW]; exact HI4.out.x)
                have HLM := Lib.hid (fun x : Later W => show Calls Tryz.prog 144 #[.agg #[.slice p.Ab e.sky.bodies.length p.cb, .int .i64 e.sky.nnum, .int .i64 e.sky.nden, .int .i64 e.sky.nstart, .slice p.As e.sun.length p.cs, .slice p.Am e.moon.length p.cm, .slice p.An e.node.length p.cn, .slice p.Af e.feasts.length p.cf, .int .i64 e.nw, .int .i64 e.fl, .int .i64 e.wide, .slice p.At set.length p.ct, .map (some M)], .iface 206 (.agg #[])] x.world fun r w' => r = .returned (.int .i64 e.nw) ∧ Ext x.world w' from e_limit_false p e set M x.world)
                repeat (go_big_quiet_step ((go_at_call 144; exact Later.call (HLM.out _))))
                refine wpQuiet_nil ?_
                rintro ⟨w3, hE⟩
                subst hW
                have HS := Lib.hid (Step.of_ext HI4.out.cache hE)
                dsimp only
                clear q1 hE
                go_wp2
                go_roundw
                case rel => exact ⟨pre2, HJ.out _ _ _ HJ4.out HS.out, HI4.out.move hM HS.out, .inr (.inl ⟨rfl, by rw [HP2.out]; exact congrArg _ (part_no e set _ false HFB.out).symm⟩)⟩
                case measure => simp [intOf]
          · have HP2 := Lib.hid hp2
            have HI2 := Lib.hid hI2
            clear hp2 hI2
            have hI2c := HI2.out.x.cell
            cases hb : Ec.hasB e set (1 + (k : Int)) true
            · have HB := Lib.hid hb
              clear hb
              go_wp2_with fail
              refine (e_has_true p e set M (1 + (k : Int)) wr HK.out (HM.out.ext HI2.out.ext) HI2.out.cache (by omega) (by omega)).mono ?_
              rintro r w1 ⟨rfl, hS⟩
              rw [HB.out]
              have HS := Lib.hid hS
              clear hS hI2c
              go_wp2_with fail
              go_roundw
              case rel => exact ⟨pre2, HJ.out _ _ _ hJ2 HS.out, HI2.out.move hM HS.out, .inr (.inr ⟨rfl, by rw [HP2.out]; exact congrArg _ (part_no e set _ true (fore_no1 HB.out)).symm⟩)⟩
              case measure => simp [intOf]
            · have HB := Lib.hid hb
              have hfb := far_bounds e set (1 + (k : Int))
              clear hb
              go_wp2_with fail
              refine (e_has_true p e set M (1 + (k : Int)) wr HK.out (HM.out.ext HI2.out.ext) HI2.out.cache (by omega) (by omega)).mono ?_
              rintro r w1 ⟨rfl, hS⟩
              rw [HB.out]
              have HI3 := Lib.hid (HI2.out.move hM hS)
              have HJ3 := Lib.hid (HJ.out _ _ _ hJ2 hS)
              clear hS hI2c
              have hI3c := HI3.out.x.cell
              go_wp2_with fail
              refine (e_far_any p e set M (1 + (k : Int)) w1 HK.out (HM.out.ext HI3.out.ext) HI3.out.cache (by omega) (by omega)).mono ?_
              rintro r w2 ⟨rfl, hS⟩
              have HI4 := Lib.hid (HI3.out.move hM hS)
              have HJ4 := Lib.hid (HJ.out _ _ _ HJ3.out hS)
              clear hS hI3c
              obtain ⟨fr, hfr⟩ : ∃ fr, Ec.farAt e set (1 + (k : Int)) = fr := ⟨_, rfl⟩
              have HFR := Lib.hid hfr
              rw [hfr] at hfb ⊢
              clear hfr
              obtain ⟨f1, f2⟩ := hfb
              go_wp2_with fail
              by_cases hf : fr ≤ e.fl + e.wide
              · have HF := Lib.hid hf
                have hfd : decide (fr ≤ e.fl + e.wide) = true := by simpa using hf
                have HFB : Hid (Ec.foreB e set (1 + (k : Int)) true = true) := Lib.hid (fore_yes HB.out (by rw [HFR.out]; simpa [Ec.limitOf] using hf))
                clear hf
                refine (wpIn_wide (n := n)).1 ?_
                refine wpIn_region_later_tail 16 (by kernel_rfl) (by kernel_rfl) (fun W hW => ?_)
                have q1 := Later.block (w := W) (by rw [hW]; exact HI4.out.x)
                have HLM := Lib.hid (fun x : Later W => show Calls Tryz.prog 144 #[.agg #[.slice p.Ab e.sky.bodies.length p.cb, .int .i64 e.sky.nnum, .int .i64 e.sky.nden, .int .i64 e.sky.nstart, .slice p.As e.sun.length p.cs, .slice p.Am e.moon.length p.cm, .slice p.An e.node.length p.cn, .slice p.Af e.feasts.length p.cf, .int .i64 e.nw, .int .i64 e.fl, .int .i64 e.wide, .slice p.At set.length p.ct, .map (some M)], .iface 207 (.agg #[])] x.world fun r w' => r = .returned (.int .i64 e.fl) ∧ Ext x.world w' from e_limit_true p e set M x.world)
                simp only [List.take_succ_cons, List.take_zero, List.drop_succ_cons, List.drop_zero]
                repeat (go_big_quiet_step ((first | (go_at_call 144; exact Later.call (HLM.out _)) | (exact Later.call (e_full_full _)))))
                refine wpQuiet_nil ?_
                intro x
                subst hW
                have HSX := Lib.hid (Step.of_ext HI4.out.cache x.ext)
                have HI5 := Lib.hid (HI4.out.move hM HSX.out)
                have HJ5 := Lib.hid (HJ.out _ _ _ HJ4.out HSX.out)
                obtain ⟨fn, tmps, assign, body, hy, hR⟩ := HY.out pre2 ⟨⟨(1 + (k : Int)), true, fr⟩, ⟨by simp only; omega, by simp only; omega⟩, by simp only; omega, by simp only; omega⟩ x.world HJ5.out (Nat.lt_of_lt_of_le (fore_len HP2.out hlt true rfl HFB.out) HNN.out)
                have HRR := Lib.hid hR
                have HPP := Lib.hid (fore_pre HP2.out hlt true rfl HFB.out ⟨⟨(1 + (k : Int)), true, fr⟩, ⟨by simp only; omega, by simp only; omega⟩, by simp only; omega, by simp only; omega⟩ (congrArg (fun z => (⟨(1 + (k : Int)), true, z⟩ : Sp.Ecl)) HFR.out.symm))
                simp only [eclV] at hy
                clear hR q1
                gi_wp2
                refine HRR.out.mono ?_
                rintro r B (⟨rfl, hJ6, hk6⟩ | ⟨rfl, hJx6⟩)
                · have HI6 := Lib.hid (HI5.out.keep hk6)
                  have HJ6 := Lib.hid hJ6
                  clear hk6 hJ6
                  gi_wp2
                  refine OnlyEnd.normal ?_
                  go_wp2
                  go_roundw
                  case rel => exact ⟨_, HJ6.out, HI6.out, .inr (.inr ⟨rfl, HPP.out.1⟩)⟩
                  case measure => simp [intOf]
                · have HJ6 := Lib.hid hJx6
                  clear hJx6
                  gi_wp2
                  refine OnlyEnd.normal ?_
                  go_wp2
                  go_end0
                  exact ⟨⟨_, rfl⟩, .inr ⟨_, HPP.out.2, HJ6.out⟩⟩
              · have HF := Lib.hid hf
                have hfd : decide (fr ≤ e.fl + e.wide) = false := by simpa using hf
                have HFB : Hid (Ec.foreB e set (1 + (k : Int)) true = false) := Lib.hid (fore_no2 (by rw [HFR.out]; simpa [Ec.limitOf] using hf))
                clear hf
                refine wp_region_later (by kernel_rfl) (by kernel_rfl) (fun W hW => ?_)
                have q1 := Later.block (w := W) (by rw [hW]; exact HI4.out.x)
                have HLM := Lib.hid (fun x : Later W => show Calls Tryz.prog 144 #[.agg #[.slice p.Ab e.sky.bodies.length p.cb, .int .i64 e.sky.nnum, .int .i64 e.sky.nden, .int .i64 e.sky.nstart, .slice p.As e.sun.length p.cs, .slice p.Am e.moon.length p.cm, .slice p.An e.node.length p.cn, .slice p.Af e.feasts.length p.cf, .int .i64 e.nw, .int .i64 e.fl, .int .i64 e.wide, .slice p.At set.length p.ct, .map (some M)], .iface 207 (.agg #[])] x.world fun r w' => r = .returned (.int .i64 e.fl) ∧ Ext x.world w' from e_limit_true p e set M x.world)
                repeat (go_big_quiet_step ((go_at_call 144; exact Later.call (HLM.out _))))
                refine wpQuiet_nil ?_
                rintro ⟨w3, hE⟩
                subst hW
                have HS := Lib.hid (Step.of_ext HI4.out.cache hE)
                dsimp only
                clear q1 hE
                go_wp2
                go_roundw
                case rel => exact ⟨pre2, HJ.out _ _ _ HJ4.out HS.out, HI4.out.move hM HS.out, .inr (.inr ⟨rfl, by rw [HP2.out]; exact congrArg _ (part_no e set _ true HFB.out).symm⟩)⟩
                case measure => simp [intOf]
          · have HP2 := Lib.hid hp2
            have HI2 := Lib.hid hI2
            clear hp2 hI2
            go_wp2_with fail
            go_roundw
            case rel => exact ⟨k + 1, pre2, by simp; omega, by omega, HP2.out, hJ2, HI2.out⟩
            case measure => simp [intOf]; omega
      · go_wp2_with fail
        go_end0
        exact ⟨⟨_, rfl⟩, .inl ⟨pre, by rw [HP.out]; unfold Ec.foreL; rw [show k = (hi + 1 - 1).toNat by omega], hJ1⟩⟩
end Go.Proofs.YtimkmokomohgjaaGreat
namespace Go.Proofs.YtimkmokomohgjaaGreat
open Go.RowKit
open Sp (rd)
theorem ForeIn.later {w0 : World} {p : EP} {e : Ec.Engine} {set : List Int} {M bT bX : Nat} {hi : Int} {W W' : World} (h : ForeIn w0 p e set M bT bX hi W) (he : Ext W W') : ForeIn w0 p e set M bT bX hi W' :=
  ⟨h.ext.trans he, h.cache.ext he, h.to.ext he, h.x.ext he⟩
theorem fore_seq (n : Nat) (hn : 1 ≤ n) (p : EP) (e : Ec.Engine) (set : List Int) (M : Nat) (lo hi : Int) (w0 : World) (hK : Fine e set) (hm : EngSet w0 p e set) (hM : w0.heap.size ≤ M) (h1 : lo ≤ 9030) (h2 : -9030 ≤ lo) (h3 : hi ≤ 9030) (h4 : -9030 ≤ hi)
    (b : Nat) (W : World) (hF : Row W (b + 1) 3 #[.int .i64 lo]) (hI : ForeIn w0 p e set M (b + 2) b hi W) (W' : World) (hW : Ext W W') :
    SeqStep Fence.wide n Tryz.prog 141 #[.pointer (some ⟨b + 1, 0, none⟩), .pointer (some ⟨b + 2, 0, none⟩), .pointer (some ⟨b, 0, none⟩)] (fun x : Ecl1 => #[eclV x.1]) (KeepsEng w0.heap.size (b + 2) b M) (Move e set M)
      (ForeAll e set lo hi) (ForeSome e set lo hi) (Ec.foreL e set (max 1 lo) hi).length W' := fun l J Jx hJ hY h0 =>
  callsIn_wide.2 (e_fore1_any n hn l (b + 1) (b + 2) b w0 p e set M lo (max 1 lo) hi _ J Jx hK hm hM rfl h1 h2 h3 h4 (Nat.le_refl _) hJ hY W' (hF.ext hW) (hI.later hW) h0)
/-- The world behind the call of foretold serves the sequence. -/
theorem foreIn_new {w0 w : World} {p : EP} {e : Ec.Engine} {set : List Int} {M : Nat} (lo hi : Int) (hE : Ext w0 w) (hC : Seen e set M w) : ForeIn w0 p e set M (w.heap.size + 2) w.heap.size hi (foreW p e set M lo hi w) :=
  ⟨hE.trans (foreW_ext p e set M lo hi w), hC.ext (foreW_ext p e set M lo hi w), foreW_T p e set M lo hi w, foreW_X p e set M lo hi w⟩
end Go.Proofs.YtimkmokomohgjaaGreat
namespace Go.Proofs.YtimkmokomohgjaaGreat
open Go.RowKit
open Sp (rd)
set_option maxRecDepth 100000
set_option maxHeartbeats 1000000
attribute [local go_sem] Oper.semAt_some
/-- What is grown beyond, later than a step, is one step with it. -/
theorem Step.grown {P : Program} {kt : TypeId} {f : Int → Value} {M : Nat} {w w1 w2 : World} {row : Option Nat} (h : Step P kt f M w w1) (hg : w1.grownBy w2 row) (hr : ∀ k, row = some k → w.heap.size ≤ k) (hM : row ≠ some M) : Step P kt f M w w2 :=
  ⟨⟨hg.os.trans h.1.os, hg.tape.trans h.1.tape, hg.output.trans h.1.output, Nat.le_trans h.1.size hg.size, fun i hi hne => (hg.block i (Nat.lt_of_lt_of_le hi h.1.size) (fun e => by have := hr i e.symm; omega)).trans (h.1.block i hi hne)⟩, h.2.kept hg (Ne.symm hM)⟩
def TolI (w3 : World) (e : Ec.Engine) (set : List Int) (M : Nat) (full : Bool) (pre : List Ecl1) (W : World) : Prop := (∀ y ∈ pre, y.1.full ≠ full) ∧ (Move e set M w3 W ∧ w3.heap.size + 3 ≤ W.heap.size)
def TolX (w : World) (e : Ec.Engine) (set : List Int) (M : Nat) (full : Bool) (c : Code) (pre : List Ecl1) (W : World) : Prop := c = .ret ∧ (∃ y ∈ pre, y.1.full = full) ∧ (Row W (w.heap.size + 2) 4 #[.bool true] ∧ Move e set M w W)
theorem tolI_own {w3 : World} {e : Ec.Engine} {set : List Int} {M B : Nat} {full : Bool} (hB : w3.heap.size ≤ B) (hM : M < B) : OwnFrom B (TolI w3 e set M full) := fun _ _ _ _ ⟨h, hm, hz⟩ hg hr =>
  ⟨h, Step.grown hm hg (fun k e => Nat.le_trans hB (hr k e).1) (fun e => by have := (hr M e).1; omega), Nat.le_trans hz hg.size⟩
theorem tolX_own {w : World} {e : Ec.Engine} {set : List Int} {M B : Nat} {full : Bool} (hB : w.heap.size ≤ B) (hM : M < B) (c : Code) : OwnFrom B (TolX w e set M full c) := fun _ _ _ _ ⟨hc, h, hr0, hm⟩ hg hr =>
  ⟨hc, h, hr0.kept hg fun r e => (hr r e).2, Step.grown hm hg (fun k e => Nat.le_trans hB (hr k e).1) (fun e => by have := (hr M e).1; omega)⟩
theorem tolI_step {w3 : World} {e : Ec.Engine} {set : List Int} {M : Nat} {full : Bool} (s : List Ecl1) (A B : World) (h : TolI w3 e set M full s A) (hm : Move e set M A B) : TolI w3 e set M full s B :=
  ⟨h.1, h.2.1.trans hm, Nat.le_trans h.2.2 hm.size⟩
theorem told_no {e : Ec.Engine} {set : List Int} {x : Sp.Ecl} {late : Int} {xs : List Ecl1} (hS : ForeAll e set (x.day - late) (x.day + late) xs) (h : ∀ y ∈ xs, y.1.full ≠ x.full) : Ec.toldB e set x late = false := by
  unfold ForeAll at hS
  unfold Ec.toldB
  rw [← hS]
  cases hb : (xs.map Subtype.val).any fun y => y.full == x.full
  · rfl
  · obtain ⟨y, hy, hf⟩ := List.any_eq_true.1 hb
    obtain ⟨z, hz, rfl⟩ := List.mem_map.1 hy
    exact absurd (by simpa using hf) (h z hz)
theorem told_yes {e : Ec.Engine} {set : List Int} {x : Sp.Ecl} {late : Int} {pre : List Ecl1} (hS : ForeSome e set (x.day - late) (x.day + late) pre) (h : ∃ y ∈ pre, y.1.full = x.full) : Ec.toldB e set x late = true := by
  obtain ⟨rest, hS⟩ := hS
  obtain ⟨y, hy, hf⟩ := h
  unfold Ec.toldB
  rw [← hS]
  exact List.any_eq_true.2 ⟨y.1, List.mem_append.2 (.inl (List.mem_map.2 ⟨y, hy, rfl⟩)), by simp [hf]⟩
theorem told_results (tmps : Array Value) (W : World) (b : Nat) (v : Bool) (h6 : tmps[6]?.getD undef = .pointer (some ⟨b, 0, none⟩)) (c : W.cell? ⟨b, 0, none⟩ = some (.bool v)) : (results Tryz.f139 tmps).run Tryz.prog W = .ok (.bool v) W := by
  simp [results, Tryz.results139, go_sem, h6, c]
theorem e_told_any (p : EP) (e : Ec.Engine) (set : List Int) (M : Nat) (x : Sp.Ecl) (late : Int) (w0 w : World) (hK : Fine e set) (hm : EngSet w0 p e set) (hM : w0.heap.size ≤ M) (hE : Ext w0 w) (hc : Seen e set M w) (h1 : 1 ≤ x.day) (h2 : x.day ≤ 9000) (h3 : 0 ≤ late) (h4 : late ≤ 30) :
    Calls Tryz.prog 139 #[.agg #[.slice p.Ab e.sky.bodies.length p.cb, .int .i64 e.sky.nnum, .int .i64 e.sky.nden, .int .i64 e.sky.nstart, .slice p.As e.sun.length p.cs, .slice p.Am e.moon.length p.cm, .slice p.An e.node.length p.cn, .slice p.Af e.feasts.length p.cf, .int .i64 e.nw, .int .i64 e.fl, .int .i64 e.wide, .slice p.At set.length p.ct, .map (some M)], .agg #[.int .i64 x.day, .bool x.full, .int .i64 x.far], .int .i64 late] w fun r w' => r = .returned (.bool (Ec.toldB e set x late)) ∧ Move e set M w w' := by
  have HM := Lib.hid hm
  have HR1 : Hid (Row (((w.alloc (.cells #[.slice p.Ab e.sky.bodies.length p.cb, .int .i64 e.sky.nnum, .int .i64 e.sky.nden, .int .i64 e.sky.nstart, .slice p.As e.sun.length p.cs, .slice p.Am e.moon.length p.cm, .slice p.An e.node.length p.cn, .slice p.Af e.feasts.length p.cf, .int .i64 e.nw, .int .i64 e.fl, .int .i64 e.wide, .slice p.At set.length p.ct, .map (some M)] 144)).alloc (.cells #[.int .i64 x.day, .bool x.full, .int .i64 x.far] 156)).alloc (.cells #[.bool false] 4)) (w.heap.size + 1) 156 #[.int .i64 x.day, .bool x.full, .int .i64 x.far]) := Lib.hid (blocks3 w _ _ _).2.1
  have HR2 : Hid (Row (((w.alloc (.cells #[.slice p.Ab e.sky.bodies.length p.cb, .int .i64 e.sky.nnum, .int .i64 e.sky.nden, .int .i64 e.sky.nstart, .slice p.As e.sun.length p.cs, .slice p.Am e.moon.length p.cm, .slice p.An e.node.length p.cn, .slice p.Af e.feasts.length p.cf, .int .i64 e.nw, .int .i64 e.fl, .int .i64 e.wide, .slice p.At set.length p.ct, .map (some M)] 144)).alloc (.cells #[.int .i64 x.day, .bool x.full, .int .i64 x.far] 156)).alloc (.cells #[.bool false] 4)) (w.heap.size + 2) 4 #[.bool false]) := Lib.hid (blocks3 w _ _ _).2.2
  have HEw := Lib.hid ((((Ext.refl w).alloc (.cells #[.slice p.Ab e.sky.bodies.length p.cb, .int .i64 e.sky.nnum, .int .i64 e.sky.nden, .int .i64 e.sky.nstart, .slice p.As e.sun.length p.cs, .slice p.Am e.moon.length p.cm, .slice p.An e.node.length p.cn, .slice p.Af e.feasts.length p.cf, .int .i64 e.nw, .int .i64 e.fl, .int .i64 e.wide, .slice p.At set.length p.ct, .map (some M)] 144)).alloc (.cells #[.int .i64 x.day, .bool x.full, .int .i64 x.far] 156)).alloc (.cells #[.bool false] 4))
  have hz3 : (((w.alloc (.cells #[.slice p.Ab e.sky.bodies.length p.cb, .int .i64 e.sky.nnum, .int .i64 e.sky.nden, .int .i64 e.sky.nstart, .slice p.As e.sun.length p.cs, .slice p.Am e.moon.length p.cm, .slice p.An e.node.length p.cn, .slice p.Af e.feasts.length p.cf, .int .i64 e.nw, .int .i64 e.fl, .int .i64 e.wide, .slice p.At set.length p.ct, .map (some M)] 144)).alloc (.cells #[.int .i64 x.day, .bool x.full, .int .i64 x.far] 156)).alloc (.cells #[.bool false] 4)).heap.size = w.heap.size + 3 := by simp
  have HC := Lib.hid hc
  have HE := Lib.hid hE
  have hMl := hc.lt
  clear hm hc hE
  refine (callsIn_wide (n := 8)).1 ?_
  refine callsIn_of_wp_marks Tryz.func139 rfl trivial ?_ rfl
  simp only [Tryz.ntmps139, List.size_toArray, List.length_cons, List.length_nil, Nat.reduceAdd, Nat.reduceSub, Array.replicate_succ, Array.replicate_zero, List.push_toArray, List.append_toArray, List.nil_append, List.cons_append]
  refine wpIn_wide.2 ?_
  go_wp2_with fail
  refine (e_foretold_any p e set M (x.day - late) (x.day + late) _).mono ?_
  rintro r w5 ⟨rfl, rfl⟩
  obtain ⟨w3, hw3⟩ : ∃ w3, ((w.alloc (.cells #[.slice p.Ab e.sky.bodies.length p.cb, .int .i64 e.sky.nnum, .int .i64 e.sky.nden, .int .i64 e.sky.nstart, .slice p.As e.sun.length p.cs, .slice p.Am e.moon.length p.cm, .slice p.An e.node.length p.cn, .slice p.Af e.feasts.length p.cf, .int .i64 e.nw, .int .i64 e.fl, .int .i64 e.wide, .slice p.At set.length p.ct, .map (some M)] 144)).alloc (.cells #[.int .i64 x.day, .bool x.full, .int .i64 x.far] 156)).alloc (.cells #[.bool false] 4) = w3 := ⟨_, rfl⟩
  rw [hw3] at HR1 HR2 HEw hz3 ⊢
  clear hw3
  have HC3 := Lib.hid (HC.out.ext HEw.out)
  have HI := Lib.hid (foreIn_new (p := p) (x.day - late) (x.day + late) (HE.out.trans HEw.out) HC3.out)
  have HF := Lib.hid (foreW_F p e set M (x.day - late) (x.day + late) w3)
  have HX5 := Lib.hid (foreW_ext p e set M (x.day - late) (x.day + late) w3)
  have hsz := foreW_size p e set M (x.day - late) (x.day + late) w3
  have hw0 := HE.out.size
  obtain ⟨W5, hW5⟩ : ∃ W5, foreW p e set M (x.day - late) (x.day + late) w3 = W5 := ⟨_, rfl⟩
  rw [hW5] at HI HF HX5 hsz ⊢
  clear hW5
  rw [hz3] at HI HF hsz ⊢
  go_wp2_with fail
  refine (wpIn_wide (n := 8)).1 ?_
  refine wpIn_range_step rfl (by omega) (gf := 141) (lb := #[.pointer (some ⟨w.heap.size + 3 + 1, 0, none⟩), .pointer (some ⟨w.heap.size + 3 + 2, 0, none⟩), .pointer (some ⟨w.heap.size + 3, 0, none⟩)]) rfl trivial (enters_of Tryz.func141 (by kernel_rfl) rfl)
    (fun W' hW' => fore_seq (8 - 1) (by omega) p e set M (x.day - late) (x.day + late) w0 hK HM.out hM (by omega) (by omega) (by omega) (by omega) (w.heap.size + 3) W5 HF.out HI.out W' hW')
    (fun h k => keepsEng_t h k) (fun W l o o' h1 h2 h3 h4 => keepsEng_b (by omega) (by omega) (by omega) (by omega) W l o o' h1 h2 h3 h4)
    (fun A B h => Step.keeps h (by omega)) (fun _ => rfl)
    (TolI w3 e set M x.full)
    (TolX w e set M x.full)
    (tolI_own (by omega) (by omega))
    (tolX_own (by omega) (by omega))
    tolI_step
    ⟨by simp, Step.of_ext HC3.out HX5.out, by omega⟩
    (fun y a' W => ∃ Bx, w.heap.size + 6 ≤ Bx ∧ Row W Bx 156 #[.int .i64 y.1.day, .bool y.1.full, .int .i64 y.1.far] ∧ a' = (⟨#[.agg #[.slice p.Ab e.sky.bodies.length p.cb, .int .i64 e.sky.nnum, .int .i64 e.sky.nden, .int .i64 e.sky.nstart, .slice p.As e.sun.length p.cs, .slice p.Am e.moon.length p.cm, .slice p.An e.node.length p.cn, .slice p.Af e.feasts.length p.cf, .int .i64 e.nw, .int .i64 e.fl, .int .i64 e.wide, .slice p.At set.length p.ct, .map (some M)], .agg #[.int .i64 x.day, .bool x.full, .int .i64 x.far], .int .i64 late, .pointer (some ⟨w.heap.size, 0, none⟩), .pointer (some ⟨w.heap.size + 1, 0, none⟩), undef, .pointer (some ⟨w.heap.size + 2, 0, none⟩), .pointer (some ⟨Bx, 0, none⟩), .agg #[.slice p.Ab e.sky.bodies.length p.cb, .int .i64 e.sky.nnum, .int .i64 e.sky.nden, .int .i64 e.sky.nstart, .slice p.As e.sun.length p.cs, .slice p.Am e.moon.length p.cm, .slice p.An e.node.length p.cn, .slice p.Af e.feasts.length p.cf, .int .i64 e.nw, .int .i64 e.fl, .int .i64 e.wide, .slice p.At set.length p.ct, .map (some M)], .pointer (some ⟨w.heap.size + 1, 0, none⟩), .int .i64 x.day, .int .i64 late, .int .i64 (x.day - late), .pointer (some ⟨w.heap.size + 1, 0, none⟩), .int .i64 x.day, .int .i64 late, .int .i64 (x.day + late), foreV (w.heap.size + 3), .agg #[.int .i64 y.1.day, .bool y.1.full, .int .i64 y.1.far], undef, undef, undef, undef, undef], []⟩ : Act))
    (fun y a' _ X Y row hs hg hr => by obtain ⟨Bx, h0, h1, h2⟩ := hs; exact ⟨Bx, h0, h1.kept hg fun r e => (hr r e).2, h2⟩)
    ?assign ?body ?done ?stop
  case assign =>
    rintro l pre y W K ⟨hn, hmv, hz⟩ hK'
    simp only [eclV]
    gi_wp2
    exact hK' _ _ ((KeepsOthers.alloc _ _).from _) ⟨(Below.refl _ _).alloc (by omega) _, Below.heap_alloc _ _ _ (by omega), Below.heap_alloc _ _ _ (by omega), Below.heap_alloc _ _ _ (by have := hmv.size; omega)⟩
      ⟨hn, hmv.ext ((Ext.refl _).alloc _), by simp; omega⟩ ⟨_, by omega, Row.new _ _ _, rfl⟩
  case body =>
    rintro l pre y a' W hl' ⟨hn, hmv, hz⟩ ⟨Bx, hBx, rX, rfl⟩ hlt
    have s1 := hmv.row HC3.out HR1.out
    have s2 := hmv.row HC3.out HR2.out
    have q0 := rX.cell
    have q1 := s1.cell
    have q2 := s2.cell
    have f2 := s2.free
    have ne : w.heap.size + 2 ≠ Bx := by omega
    have HN := Lib.hid hn
    have HMV := Lib.hid hmv
    have hmz := hmv.size
    clear hn hmv hlt
    cases hb : (y.1.full == x.full)
    · gi_wp2
      refine ⟨(KeepsOthers.refl _).from _, ⟨Below.refl _ _, rfl, rfl, rfl⟩, ?_, HMV.out, hz⟩
      intro z hz'
      rcases List.mem_append.1 hz' with h | h
      · exact HN.out z h
      · rw [List.mem_singleton.1 h]; simpa using hb
    · gi_wp2
      refine ⟨(KeepsOthers.setCell _ _ _).from _, rfl, ⟨y, by simp, by simpa using hb⟩, by simpa using s2.set_ 0 (.bool true), ?_⟩
      exact ((Step.of_ext HC.out HEw.out).trans HMV.out).setCell HC.out (by simp) _
  case done =>
    rintro D xs W hD hS ⟨hn, hmv, hz⟩ hK'
    have s2 := hmv.row HC3.out HR2.out
    have q2 := s2.cell
    have f2 := s2.free
    have HMV := Lib.hid hmv
    have hmz := hmv.size
    clear hmv
    go_wp2_with fail
    have hK2 := (KeepsOthers.setCell W ⟨w.heap.size + 2, 0, none⟩ (.bool false)).same D _ hK' rfl
    refine ⟨by simp, .inl ⟨_, _, rfl, run_takeDeferred hK2, ?_⟩⟩
    have k2 := (s2.set_ 0 (.bool false)).kept (grownBy_putObj' _ D (.deferred none)) (fun r e => by cases e; exact ⟨_, hK2, rfl⟩)
    refine ⟨_, told_results _ _ (w.heap.size + 2) false rfl (by simpa using k2.cell 0), by rw [told_no hS hn], ?_⟩
    have hF := ((Step.of_ext HC.out HEw.out).trans HMV.out).setCell HC.out (p := ⟨w.heap.size + 2, 0, none⟩) (by simp) (.bool false)
    exact hF.grown (grownBy_putObj' _ D (.deferred none)) (fun k e => by cases e; omega) (fun e => by cases e; omega)
  case stop =>
    rintro D c' pre W hD hS ⟨rfl, hy, s2, hmv⟩ hK'
    gi_wp2
    refine ⟨by simp, .inl ⟨_, _, rfl, run_takeDeferred hK', ?_⟩⟩
    have k2 := s2.kept (grownBy_putObj' _ D (.deferred none)) (fun r e => by cases e; exact ⟨_, hK', rfl⟩)
    refine ⟨_, told_results _ _ (w.heap.size + 2) true rfl (by simpa using k2.cell 0), by rw [told_yes hS hy], ?_⟩
    exact hmv.grown (grownBy_putObj' _ D (.deferred none)) (fun k e => by cases e; omega) (fun e => by cases e; omega)
end Go.Proofs.YtimkmokomohgjaaGreat
namespace Go.Proofs.YtimkmokomohgjaaGreat
open Go.RowKit
open Sp (rd)
set_option maxRecDepth 100000
set_option maxHeartbeats 1000000
/-- real: lo may lie ahead of the first day. -/
theorem e_real_any (p : EP) (e : Ec.Engine) (set : List Int) (M : Nat) (lo hi : Int) (w : World) (hK : Fine e set) (hm : EngSet w p e set) (hl : Short e.sky.bodies) (h1 : -9030 ≤ lo) (h2 : lo ≤ hi) (h0 : 1 ≤ hi) (h3 : hi ≤ 9030) (h4 : hi - lo ≤ 500) :
    Calls Tryz.prog 86 #[.agg #[.slice p.Ab e.sky.bodies.length p.cb, .int .i64 e.sky.nnum, .int .i64 e.sky.nden, .int .i64 e.sky.nstart, .slice p.As e.sun.length p.cs, .slice p.Am e.moon.length p.cm, .slice p.An e.node.length p.cn, .slice p.Af e.feasts.length p.cf, .int .i64 e.nw, .int .i64 e.fl, .int .i64 e.wide, .slice p.At set.length p.ct, .map (some M)], .int .i64 lo, .int .i64 hi] w fun r w' => ∃ v, r = .returned v ∧ EclVal w' v (Ec.realL e (max 1 lo) hi) ∧ Ext w w' := by
  have HM := Lib.hid hm
  have HL := Lib.hid hl
  have hs := (engineOk_parts hK.eng).2.1.1
  have HR0 : Hid (Row (w.alloc (.cells #[.slice p.Ab e.sky.bodies.length p.cb, .int .i64 e.sky.nnum, .int .i64 e.sky.nden, .int .i64 e.sky.nstart, .slice p.As e.sun.length p.cs, .slice p.Am e.moon.length p.cm, .slice p.An e.node.length p.cn, .slice p.Af e.feasts.length p.cf, .int .i64 e.nw, .int .i64 e.fl, .int .i64 e.wide, .slice p.At set.length p.ct, .map (some M)] 144)) w.heap.size 144 #[.slice p.Ab e.sky.bodies.length p.cb, .int .i64 e.sky.nnum, .int .i64 e.sky.nden, .int .i64 e.sky.nstart, .slice p.As e.sun.length p.cs, .slice p.Am e.moon.length p.cm, .slice p.An e.node.length p.cn, .slice p.Af e.feasts.length p.cf, .int .i64 e.nw, .int .i64 e.fl, .int .i64 e.wide, .slice p.At set.length p.ct, .map (some M)]) := Lib.hid (Row.new w _ _)
  have HE0 := Lib.hid ((Ext.refl w).alloc (.cells #[.slice p.Ab e.sky.bodies.length p.cb, .int .i64 e.sky.nnum, .int .i64 e.sky.nden, .int .i64 e.sky.nstart, .slice p.As e.sun.length p.cs, .slice p.Am e.moon.length p.cm, .slice p.An e.node.length p.cn, .slice p.Af e.feasts.length p.cf, .int .i64 e.nw, .int .i64 e.fl, .int .i64 e.wide, .slice p.At set.length p.ct, .map (some M)] 144))
  obtain ⟨hnw, hfl, _⟩ := (engineOk_parts hK.eng).2.2.2
  clear hm hl hK
  rcases (show 1 < lo ∨ lo ≤ 1 by omega) with hlo | hlo
  · have c3 : Sp.isSpan lo hi = true := by simp only [Sp.isSpan, Sp.inR, Bool.and_eq_true, decide_eq_true_eq]; omega
    have hx : max 1 lo = lo := by omega
    rw [hx]
    clear hx
    go_enter Tryz.func86, Tryz.ntmps86
    go_wp2_with fail
    refine (Ecl_ok e.sky p.Ab p.cb e.nw e.fl lo hi _ (HM.out.ext HE0.out).eng.bodies HL.out hs hnw hfl c3).mono ?_
    rintro r w1 ⟨v, rfl, hv, hE⟩
    go_wp2_with fail
    go_ret
    exact ⟨v, rfl, hv, HE0.out.trans hE⟩
  · have c3 : Sp.isSpan 1 hi = true := by simp only [Sp.isSpan, Sp.inR, Bool.and_eq_true, decide_eq_true_eq]; omega
    have hx : max 1 lo = 1 := by omega
    rw [hx]
    clear hx
    go_enter Tryz.func86, Tryz.ntmps86
    go_wp2_with fail
    refine (Ecl_ok e.sky p.Ab p.cb e.nw e.fl 1 hi _ (HM.out.ext HE0.out).eng.bodies HL.out hs hnw hfl c3).mono ?_
    rintro r w1 ⟨v, rfl, hv, hE⟩
    go_wp2_with fail
    go_ret
    exact ⟨v, rfl, hv, HE0.out.trans hE⟩
end Go.Proofs.YtimkmokomohgjaaGreat
namespace Go.Proofs.YtimkmokomohgjaaGreat
open Go.RowKit
open Sp (rd)
set_option maxRecDepth 100000
set_option maxHeartbeats 1000000
/-- What is missed of a list. -/
def Ec.misOf (e : Ec.Engine) (set : List Int) (late : Int) (l : List Sp.Ecl) : List Sp.Ecl := l.filter fun x => !Ec.toldB e set x late
theorem misOf_snoc (e : Ec.Engine) (set : List Int) (late : Int) (l : List Sp.Ecl) (x : Sp.Ecl) : Ec.misOf e set late (l ++ [x]) = Ec.misOf e set late l ++ (if Ec.toldB e set x late = true then [] else [x]) := by
  unfold Ec.misOf
  rw [List.filter_append]
  cases h : Ec.toldB e set x late <;> simp [h]
theorem misOf_len (e : Ec.Engine) (set : List Int) (late : Int) (l : List Sp.Ecl) : (Ec.misOf e set late l).length ≤ l.length := List.length_filter_le _ _
theorem realL_len (e : Ec.Engine) (lo hi : Int) : (Ec.realL e lo hi).length ≤ 2 * (hi + 1 - lo).toNat := Nat.le_trans (ecls_le _ _ _ _) (moonsN_le _ _ _)
/-- Between two rounds. -/
def MisRel (w2 : World) (e : Ec.Engine) (set : List Int) (M : Nat) (late : Int) (l : List Sp.Ecl) (v d : Value) (wr : World) : Prop :=
  ∃ k : Nat, k ≤ l.length ∧ d = .int .i64 k ∧ wr.ownsRow w2.heap.size 156 3 v (Ec.misOf e set late (l.take k)).length (eclCells (Ec.misOf e set late (l.take k))) ∧ Move e set M w2 wr
theorem e_missed_any (p : EP) (e : Ec.Engine) (set : List Int) (M : Nat) (lo hi late : Int) (w0 w : World) (hK : Fine e set) (hm : EngSet w0 p e set) (hM : w0.heap.size ≤ M) (hE : Ext w0 w) (hc : Seen e set M w) (hl : Short e.sky.bodies) (h1 : 1 ≤ lo) (h2 : lo ≤ hi) (h3 : hi ≤ 9000) (h4 : hi - lo ≤ 400) (h5 : 0 ≤ late) (h6 : late ≤ 30) :
    Calls Tryz.prog 85 #[.agg #[.slice p.Ab e.sky.bodies.length p.cb, .int .i64 e.sky.nnum, .int .i64 e.sky.nden, .int .i64 e.sky.nstart, .slice p.As e.sun.length p.cs, .slice p.Am e.moon.length p.cm, .slice p.An e.node.length p.cn, .slice p.Af e.feasts.length p.cf, .int .i64 e.nw, .int .i64 e.fl, .int .i64 e.wide, .slice p.At set.length p.ct, .map (some M)], .int .i64 lo, .int .i64 hi, .int .i64 late] w fun r w' => ∃ v, r = .returned v ∧ EclVal w' v (Ec.missedL e set lo hi late) ∧ Move e set M w w' := by
  have HM := Lib.hid hm
  have HL := Lib.hid hl
  have HC := Lib.hid hc
  have HE := Lib.hid hE
  have HK := Lib.hid hK
  have HE1 := Lib.hid ((Ext.refl w).alloc (.cells #[.slice p.Ab e.sky.bodies.length p.cb, .int .i64 e.sky.nnum, .int .i64 e.sky.nden, .int .i64 e.sky.nstart, .slice p.As e.sun.length p.cs, .slice p.Am e.moon.length p.cm, .slice p.An e.node.length p.cn, .slice p.Af e.feasts.length p.cf, .int .i64 e.nw, .int .i64 e.fl, .int .i64 e.wide, .slice p.At set.length p.ct, .map (some M)] 144))
  have HR1 := Lib.hid (Row.new w 144 #[.slice p.Ab e.sky.bodies.length p.cb, .int .i64 e.sky.nnum, .int .i64 e.sky.nden, .int .i64 e.sky.nstart, .slice p.As e.sun.length p.cs, .slice p.Am e.moon.length p.cm, .slice p.An e.node.length p.cn, .slice p.Af e.feasts.length p.cf, .int .i64 e.nw, .int .i64 e.fl, .int .i64 e.wide, .slice p.At set.length p.ct, .map (some M)])
  have hMl := hc.lt
  have hw0 := hE.size
  obtain ⟨i0, hi0, hi1, hi2, hi3⟩ := info_parts info_ecl
  clear hm hl hc hE hK
  go_enter Tryz.func85, Tryz.ntmps85
  go_wp2_with fail
  refine (e_real_any p e set M lo hi _ HK.out (HM.out.ext (HE.out.trans HE1.out)) HL.out (by omega) h2 (by omega) (by omega) (by omega)).mono ?_
  rintro r w2 ⟨v, rfl, hv, hE2⟩
  have hx : max 1 lo = lo := by omega
  rw [hx] at hv
  clear hx
  have HE2 := Lib.hid (HE1.out.trans hE2)
  have HR2 := Lib.hid (HR1.out.ext hE2)
  have HC2 := Lib.hid (HC.out.ext HE2.out)
  have hz2 := HE2.out.size
  have hll := realL_len e lo hi
  have HD : Hid (∀ x ∈ Ec.realL e lo hi, lo ≤ x.day ∧ x.day ≤ hi) := Lib.hid fun x hx => by
    obtain ⟨a, b, _⟩ := (Ec.ecls_mem _ _ _ _ _ x).1 hx
    exact ⟨a, b⟩
  have HQ : Hid (Ec.missedL e set lo hi late = Ec.misOf e set late (Ec.realL e lo hi)) := Lib.hid rfl
  obtain ⟨l, hL⟩ : ∃ l, Ec.realL e lo hi = l := ⟨_, rfl⟩
  rw [hL] at hv hll HD HQ
  clear hL hE2
  obtain ⟨AM, cM, rfl, hcl⟩ := hv
  have HCL := Lib.hid hcl
  clear hcl
  go_wp2_with fail
  go_loopw [9, 17] (fun v d wr => MisRel w2 e set M late l v d wr) (fun _ d _ => l.length - (intOf d).toNat)
  case atStart => exact ⟨0, Nat.zero_le _, rfl, by simp [Ec.misOf, eclCells, World.ownsRow], Step.refl HC2.out⟩
  case round =>
    obtain ⟨k, hk, rfl, hown, hmv⟩ := hrel
    have HMV := Lib.hid hmv
    have hmz := hmv.size
    have b0 := (hmv.row HC2.out HR2.out).cell
    by_cases hlt : k < l.length
    · have hle := misOf_len e set late (l.take k)
      rw [List.length_take] at hle
      have htake : l.take (k + 1) = l.take k ++ [l[k]] := by rw [List.take_succ_eq_append_getElem hlt]
      have hday := HD.out l[k] (List.getElem_mem hlt)
      obtain ⟨b, o, rfl, hcell⟩ := HCL.out (by omega)
      obtain ⟨q1, q2, q3⟩ := hcell k hlt
      replace q1 := hmv.cell HC2.out q1
      replace q2 := hmv.cell HC2.out q2
      replace q3 := hmv.cell HC2.out q3
      have hnext := misOf_snoc e set late (l.take k) l[k]
      rw [← htake] at hnext
      obtain ⟨L, hL⟩ : ∃ L, Ec.misOf e set late (l.take k) = L := ⟨_, rfl⟩
      rw [hL] at hown hle hnext
      have HN := Lib.hid hnext
      obtain ⟨m, hm⟩ : ∃ m, l[k] = m := ⟨_, rfl⟩
      rw [hm] at q1 q2 q3 hday HN
      clear hmv hcell htake hnext hL hm
      have j1 := lts (lt_of_cell q1)
      have j0 := lts (show w.heap.size < wr.heap.size by have := (HMV.out.row HC2.out HR2.out).lt; omega)
      have HO := Lib.hid hown
      have HEr := Lib.hid (((HE.out.trans HE2.out).trans' (HMV.out.below hM (HE.out.trans HE2.out).size)).alloc (.cells #[.int .i64 m.day, .bool m.full, .int .i64 m.far] 156))
      have HCr := Lib.hid (HMV.out.cache.ext ((Ext.refl wr).alloc (.cells #[.int .i64 m.day, .bool m.full, .int .i64 m.far] 156)))
      have HMr := Lib.hid (HMV.out.ext ((Ext.refl wr).alloc (.cells #[.int .i64 m.day, .bool m.full, .int .i64 m.far] 156)))
      have HNr := Lib.hid (Row.new wr 156 #[.int .i64 m.day, .bool m.full, .int .i64 m.far])
      have HOr := Lib.hid (hown.alloc (.cells #[.int .i64 m.day, .bool m.full, .int .i64 m.far] 156))
      clear hown
      go_wp2_with fail
      refine (e_told_any p e set M m late w0 _ HK.out HM.out hM HEr.out HCr.out (by omega) (by omega) h5 h6).mono ?_
      rintro r w3 ⟨rfl, hmv3⟩
      have n3 := (hmv3.row HCr.out HNr.out).cell
      have hown3 := hmv3.own HCr.out HOr.out
      have HM3 := Lib.hid (HMr.out.trans hmv3)
      have hz3 := hmv3.size
      rw [World.size_alloc] at hz3
      clear b0 q1 q2 q3 hmv3
      cases ht : Ec.toldB e set m late
      · have hown4 := hown3.alloc (.cells #[.int .i64 m.day, .bool m.full, .int .i64 m.far] 156)
        have HO4 := Lib.hid hown4
        have HT := Lib.hid ht
        clear hown3 ht
        go_wp2_with (at_builtin; refine wpList_append_lies _ rfl _ _ 92 rfl w2.heap.size 156 i0 _ 3 24 Tryz.underlying92 hi0 hi1 hi2 hi3 rfl (by decide) _ L.length (eclCells L) rfl hown4 ⟨w3.heap.size, 0, none⟩ 1 1 [.int .i64 m.day, .bool m.full, .int .i64 m.far] rfl rfl (World.news_of_block (cs := #[.int .i64 m.day, .bool m.full, .int .i64 m.far]) (t := 156) (fr := (0, 0)) (heap_alloc_new _ _)) (by simp [Value.oneCell']) (by omega) (by simp only [maxLen]; omega) (by omega) (by simp; omega) _ rfl ?_; intro gg cap w4 hown5 hgrow hat hlt4; have HO5 := Lib.hid hown5; have HG := Lib.hid hgrow; clear hown5 hgrow)
        refine ⟨⟨k + 1, by omega, by go_num, ?_, (HM3.out.ext ((Ext.refl _).alloc _)).grown HG.out (fun g hg => (HO4.out.lt g hg).1) (fun hg => by have := (HO4.out.lt M hg).1; omega)⟩, by simp [intOf]; omega⟩
        rw [HN.out, HT.out]
        simpa [eclCells_append, eclCells] using HO5.out
      · have HT := Lib.hid ht
        have HO3 := Lib.hid hown3
        clear ht hown3
        go_wp2_with fail
        refine ⟨⟨k + 1, by omega, by go_num, ?_, HM3.out⟩, by simp [intOf]; omega⟩
        rw [HN.out, HT.out]
        simpa using HO3.out
    · obtain rfl : k = l.length := by omega
      clear b0
      have HO := Lib.hid hown
      clear hown hmv
      go_wp2_with fail
      go_ret
      refine ⟨_, rfl, ?_, (Step.of_ext HC.out HE2.out).trans HMV.out⟩
      have := EclVal.of_own (l := Ec.misOf e set late (l.take l.length)) HO.out
      rwa [List.take_length, ← HQ.out] at this
end Go.Proofs.YtimkmokomohgjaaGreat
namespace Go.Proofs.YtimkmokomohgjaaGreat
open Go.RowKit
open Sp (rd)
set_option maxRecDepth 100000
set_option maxHeartbeats 1000000
def missedΦ (p : EP) (e : Ec.Engine) (set : List Int) (lo : Int) (hi : Int) (late : Int) (w0 : World) (i : Nat) (v : Value) (w : World) : Prop :=
  match i with
  | 0 => v = .agg #[.slice p.Ab e.sky.bodies.length p.cb, .int .i64 e.sky.nnum, .int .i64 e.sky.nden, .int .i64 e.sky.nstart, .slice p.As e.sun.length p.cs, .slice p.Am e.moon.length p.cm, .slice p.An e.node.length p.cn, .slice p.Af e.feasts.length p.cf, .int .i64 e.nw, .int .i64 e.fl, .int .i64 e.wide]
  | 1 => v = .slice p.At set.length p.ct
  | 2 => v = .int .i64 lo
  | 3 => v = .int .i64 hi
  | 4 => v = .bool true
  | 5 => v = .bool true
  | 6 => v = .int .i64 late
  | 7 => v = .bool true
  | 8 => v = .bool true
  | 9 => AskTup p e set w0 v w
  | 10 => AskTup p e set w0 v w
  | 11 => AskAgg p e set w0 v w
  | 12 => v = .int .i64 0
  | _ => AskNew w0 v w
theorem missedΦ_mono {p : EP} {e : Ec.Engine} {set : List Int} {lo : Int} {hi : Int} {late : Int} {w0 : World} (i : Nat) (v : Value) (w w' : World) (h : missedΦ p e set lo hi late w0 i v w) (he : Ext w w') : missedΦ p e set lo hi late w0 i v w' := by
  unfold missedΦ at h ⊢
  split at h <;> first
    | exact h
    | exact AskTup.ext h he
    | exact AskAgg.ext h he
    | exact AskNew.ext h he
theorem e_Missed_ok (p : EP) (e : Ec.Engine) (set : List Int) (lo hi late : Int) (w : World) (hm : EngSet w p e set) (hl : EngShort e) (hs : set.length ≤ 100000) (c0 : Ec.engineOk e = true) (c1 : Ec.setOk e.feasts set = true) (c2 : Ec.isSpan lo hi = true) (c3 : Ec.isLate late = true) :
    Calls Tryz.prog 29 #[.agg #[.slice p.Ab e.sky.bodies.length p.cb, .int .i64 e.sky.nnum, .int .i64 e.sky.nden, .int .i64 e.sky.nstart, .slice p.As e.sun.length p.cs, .slice p.Am e.moon.length p.cm, .slice p.An e.node.length p.cn, .slice p.Af e.feasts.length p.cf, .int .i64 e.nw, .int .i64 e.fl, .int .i64 e.wide], .slice p.At set.length p.ct, .int .i64 lo, .int .i64 hi, .int .i64 late] w fun r w' => ∃ v, r = .returned (.tuple #[v, .int .i64 0]) ∧ EclVal w' v (Ec.missedL e set lo hi late) ∧ Ext w w' := by
  have HM := Lib.hid hm
  have HL := Lib.hid hl
  have HK : Hid (Fine e set) := Lib.hid ⟨c0, c1⟩
  have HR0 : Hid (Row (w.alloc (.cells #[.slice p.Ab e.sky.bodies.length p.cb, .int .i64 e.sky.nnum, .int .i64 e.sky.nden, .int .i64 e.sky.nstart, .slice p.As e.sun.length p.cs, .slice p.Am e.moon.length p.cm, .slice p.An e.node.length p.cn, .slice p.Af e.feasts.length p.cf, .int .i64 e.nw, .int .i64 e.fl, .int .i64 e.wide] 83)) w.heap.size 83 #[.slice p.Ab e.sky.bodies.length p.cb, .int .i64 e.sky.nnum, .int .i64 e.sky.nden, .int .i64 e.sky.nstart, .slice p.As e.sun.length p.cs, .slice p.Am e.moon.length p.cm, .slice p.An e.node.length p.cn, .slice p.Af e.feasts.length p.cf, .int .i64 e.nw, .int .i64 e.fl, .int .i64 e.wide]) := Lib.hid (Row.new w _ _)
  have HE0 := Lib.hid ((Ext.refl w).alloc (.cells #[.slice p.Ab e.sky.bodies.length p.cb, .int .i64 e.sky.nnum, .int .i64 e.sky.nden, .int .i64 e.sky.nstart, .slice p.As e.sun.length p.cs, .slice p.Am e.moon.length p.cm, .slice p.An e.node.length p.cn, .slice p.Af e.feasts.length p.cf, .int .i64 e.nw, .int .i64 e.fl, .int .i64 e.wide] 83))
  have hd : 1 ≤ lo ∧ lo ≤ hi ∧ hi ≤ 9000 ∧ hi - lo ≤ 400 := by
    simp only [Ec.isSpan, Sp.inR, Bool.and_eq_true, decide_eq_true_eq] at c2
    omega
  have hla : 0 ≤ late ∧ late ≤ 30 := by
    simp only [Ec.isLate, Sp.inR, Bool.and_eq_true, decide_eq_true_eq] at c3
    omega
  clear hm hl
  go_enter Tryz.func29, Tryz.ntmps29
  go_wp2_with fail
  obtain ⟨W, hW⟩ : ∃ W, w.alloc (.cells #[.slice p.Ab e.sky.bodies.length p.cb, .int .i64 e.sky.nnum, .int .i64 e.sky.nden, .int .i64 e.sky.nstart, .slice p.As e.sun.length p.cs, .slice p.Am e.moon.length p.cm, .slice p.An e.node.length p.cn, .slice p.Af e.feasts.length p.cf, .int .i64 e.nw, .int .i64 e.fl, .int .i64 e.wide] 83) = W := ⟨_, rfl⟩
  rw [hW] at HR0 HE0 ⊢
  clear hW
  refine Code.wp_mono (Q := fun e' a' w' => e' = .normal ∧ ∃ M4 M5 M b, W.heap.size ≤ b ∧ W.heap.size ≤ M ∧ Ext W w' ∧ Row w' b 144 #[.slice p.Ab e.sky.bodies.length p.cb, .int .i64 e.sky.nnum, .int .i64 e.sky.nden, .int .i64 e.sky.nstart, .slice p.As e.sun.length p.cs, .slice p.Am e.moon.length p.cm, .slice p.An e.node.length p.cn, .slice p.Af e.feasts.length p.cf, .int .i64 e.nw, .int .i64 e.fl, .int .i64 e.wide, .slice p.At set.length p.ct, .map (some M)] ∧ Seen e set M w' ∧ a' = (⟨#[.agg #[.slice p.Ab e.sky.bodies.length p.cb, .int .i64 e.sky.nnum, .int .i64 e.sky.nden, .int .i64 e.sky.nstart, .slice p.As e.sun.length p.cs, .slice p.Am e.moon.length p.cm, .slice p.An e.node.length p.cn, .slice p.Af e.feasts.length p.cf, .int .i64 e.nw, .int .i64 e.fl, .int .i64 e.wide], .slice p.At set.length p.ct, .int .i64 lo, .int .i64 hi, .int .i64 late, .pointer (some ⟨w.heap.size, 0, none⟩), undef, undef, undef, undef, .slice none 0 0, .int .i64 0, .pointer (some ⟨b, 0, none⟩), .int .i64 0, .tuple #[.agg #[.slice p.Ab e.sky.bodies.length p.cb, .int .i64 e.sky.nnum, .int .i64 e.sky.nden, .int .i64 e.sky.nstart, .slice p.As e.sun.length p.cs, .slice p.Am e.moon.length p.cm, .slice p.An e.node.length p.cn, .slice p.Af e.feasts.length p.cf, .int .i64 e.nw, .int .i64 e.fl, .int .i64 e.wide, .slice p.At set.length p.ct, .map (some M5)], .int .i64 0], .agg #[.slice p.Ab e.sky.bodies.length p.cb, .int .i64 e.sky.nnum, .int .i64 e.sky.nden, .int .i64 e.sky.nstart, .slice p.As e.sun.length p.cs, .slice p.Am e.moon.length p.cm, .slice p.An e.node.length p.cn, .slice p.Af e.feasts.length p.cf, .int .i64 e.nw, .int .i64 e.fl, .int .i64 e.wide], .slice p.At set.length p.ct, .int .i64 lo, .int .i64 hi, .bool true, .bool true, .int .i64 late, .bool true, .bool true, .tuple #[.agg #[.slice p.Ab e.sky.bodies.length p.cb, .int .i64 e.sky.nnum, .int .i64 e.sky.nden, .int .i64 e.sky.nstart, .slice p.As e.sun.length p.cs, .slice p.Am e.moon.length p.cm, .slice p.An e.node.length p.cn, .slice p.Af e.feasts.length p.cf, .int .i64 e.nw, .int .i64 e.fl, .int .i64 e.wide, .slice p.At set.length p.ct, .map (some M4)], .int .i64 0], .agg #[.slice p.Ab e.sky.bodies.length p.cb, .int .i64 e.sky.nnum, .int .i64 e.sky.nden, .int .i64 e.sky.nstart, .slice p.As e.sun.length p.cs, .slice p.Am e.moon.length p.cm, .slice p.An e.node.length p.cn, .slice p.Af e.feasts.length p.cf, .int .i64 e.nw, .int .i64 e.fl, .int .i64 e.wide, .slice p.At set.length p.ct, .map (some M)], .int .i64 0, undef, undef, undef, undef, undef, undef, undef, undef], []⟩ : Act)) ?hq (wp_region_free_tail 14 12 (missedΦ p e set lo hi late W) (by kernel_rfl) (by simp) (by kernel_rfl) (by kernel_rfl) (by kernel_rfl) (by kernel_rfl) missedΦ_mono ?hob ?hQ ?hZ)
  case hob =>
    intro i o hin ho a wa hE hF
    match i, hin with
    | 0, _ =>
      obtain rfl := Option.some.inj ho
      have h0 : a.tmps[5]?.getD undef = .pointer (some ⟨w.heap.size, 0, none⟩) := evalD (hF.old 5 (by decide))
      have q := (HR0.out.ext hE).cell
      refine Ran.value rfl (v := .agg #[.slice p.Ab e.sky.bodies.length p.cb, .int .i64 e.sky.nnum, .int .i64 e.sky.nden, .int .i64 e.sky.nstart, .slice p.As e.sun.length p.cs, .slice p.Am e.moon.length p.cm, .slice p.An e.node.length p.cn, .slice p.Af e.feasts.length p.cf, .int .i64 e.nw, .int .i64 e.fl, .int .i64 e.wide]) (w1 := wa) ?_ ⟨rfl, Ext.refl _⟩
      go_simp
    | 1, _ =>
      obtain rfl := Option.some.inj ho
      have h0 : a.tmps[1]?.getD undef = .slice p.At set.length p.ct := evalD (hF.old 1 (by decide))
      refine Ran.value rfl (v := .slice p.At set.length p.ct) (w1 := wa) ?_ ⟨rfl, Ext.refl _⟩
      go_simp
    | 2, _ =>
      obtain rfl := Option.some.inj ho
      have h0 : a.tmps[2]?.getD undef = .int .i64 lo := evalD (hF.old 2 (by decide))
      refine Ran.value rfl (v := .int .i64 lo) (w1 := wa) ?_ ⟨rfl, Ext.refl _⟩
      go_simp
    | 3, _ =>
      obtain rfl := Option.some.inj ho
      have h0 : a.tmps[3]?.getD undef = .int .i64 hi := evalD (hF.old 3 (by decide))
      refine Ran.value rfl (v := .int .i64 hi) (w1 := wa) ?_ ⟨rfl, Ext.refl _⟩
      go_simp
    | 4, _ =>
      obtain rfl := Option.some.inj ho
      have h0 : a.tmps[17]?.getD undef = .int .i64 lo := evalD (hF.from_ 2 17 rfl (by decide))
      have h1 : a.tmps[18]?.getD undef = .int .i64 hi := evalD (hF.from_ 3 18 rfl (by decide))
      refine Ran.enter rfl (f := 83) (args := #[.int .i64 lo, .int .i64 hi]) (w1 := wa) ?_ ?_
      · go_simp
      · refine (e_isSpan_any lo hi _).mono ?_
        rintro r w1 ⟨rfl, rfl⟩
        exact ⟨_, rfl, by rw [c2]; rfl, Ext.refl _⟩
    | 5, _ =>
      obtain rfl := Option.some.inj ho
      have h0 : a.tmps[19]?.getD undef = .bool true := evalD (hF.from_ 4 19 rfl (by decide))
      refine Ran.value rfl (v := .bool true) (w1 := wa) ?_ ⟨rfl, Ext.refl _⟩
      go_simp
    | 6, _ =>
      obtain rfl := Option.some.inj ho
      have hg : a.eval (.tmp 20) = .bool true := hF.from_ 5 20 rfl (by decide)
      refine Ran.if_ rfl rfl rfl hg (fun _ => ?_) (fun h => absurd rfl h)
      have h0 : a.tmps[4]?.getD undef = .int .i64 late := evalD (hF.old 4 (by decide))
      refine Ran.value rfl (v := .int .i64 late) (w1 := wa) ?_ ⟨rfl, Ext.refl _⟩
      go_simp
    | 7, _ =>
      obtain rfl := Option.some.inj ho
      have hg : a.eval (.tmp 20) = .bool true := hF.from_ 5 20 rfl (by decide)
      refine Ran.if_ rfl rfl rfl hg (fun _ => ?_) (fun h => absurd rfl h)
      have h0 : a.tmps[21]?.getD undef = .int .i64 late := evalD (hF.from_ 6 21 rfl (by decide))
      refine Ran.enter rfl (f := 84) (args := #[.int .i64 late]) (w1 := wa) ?_ ?_
      · go_simp
      · refine (e_isLate_any late _).mono ?_
        rintro r w1 ⟨rfl, rfl⟩
        exact ⟨_, rfl, by rw [c3]; rfl, Ext.refl _⟩
    | 8, _ =>
      obtain rfl := Option.some.inj ho
      have h0 : a.tmps[20]?.getD undef = .bool true := evalD (hF.from_ 5 20 rfl (by decide))
      have h1 : a.tmps[22]?.getD undef = .bool true := evalD (hF.from_ 7 22 rfl (by decide))
      refine Ran.value rfl (v := .bool true) (w1 := wa) ?_ ⟨rfl, Ext.refl _⟩
      go_simp
    | 9, _ =>
      obtain rfl := Option.some.inj ho
      have h0 : a.tmps[15]?.getD undef = .agg #[.slice p.Ab e.sky.bodies.length p.cb, .int .i64 e.sky.nnum, .int .i64 e.sky.nden, .int .i64 e.sky.nstart, .slice p.As e.sun.length p.cs, .slice p.Am e.moon.length p.cm, .slice p.An e.node.length p.cn, .slice p.Af e.feasts.length p.cf, .int .i64 e.nw, .int .i64 e.fl, .int .i64 e.wide] := evalD (hF.from_ 0 15 rfl (by decide))
      have h1 : a.tmps[16]?.getD undef = .slice p.At set.length p.ct := evalD (hF.from_ 1 16 rfl (by decide))
      have h2 : a.tmps[23]?.getD undef = .bool true := evalD (hF.from_ 8 23 rfl (by decide))
      refine Ran.enter rfl (f := 77) (args := #[.agg #[.slice p.Ab e.sky.bodies.length p.cb, .int .i64 e.sky.nnum, .int .i64 e.sky.nden, .int .i64 e.sky.nstart, .slice p.As e.sun.length p.cs, .slice p.Am e.moon.length p.cm, .slice p.An e.node.length p.cn, .slice p.Af e.feasts.length p.cf, .int .i64 e.nw, .int .i64 e.fl, .int .i64 e.wide], .slice p.At set.length p.ct, .bool true]) (w1 := wa) ?_ ?_
      · go_simp
      · refine (e_asked_ok p e set wa (HM.out.ext (HE0.out.trans hE)) HL.out hs c0 c1).mono ?_
        rintro r w1 ⟨M, rfl, hM, hC, hX⟩
        exact ⟨_, rfl, ⟨M, rfl, Nat.le_trans hE.size hM, hC⟩, hX⟩
    | 10, _ =>
      obtain rfl := Option.some.inj ho
      obtain ⟨M, h0, hM, hC⟩ : AskTup p e set W (a.eval (.tmp 24)) wa := hF.from_ 9 24 rfl (by decide)
      replace h0 := evalD h0
      refine Ran.value rfl (w1 := wa) (v := .tuple #[.agg #[.slice p.Ab e.sky.bodies.length p.cb, .int .i64 e.sky.nnum, .int .i64 e.sky.nden, .int .i64 e.sky.nstart, .slice p.As e.sun.length p.cs, .slice p.Am e.moon.length p.cm, .slice p.An e.node.length p.cn, .slice p.Af e.feasts.length p.cf, .int .i64 e.nw, .int .i64 e.fl, .int .i64 e.wide, .slice p.At set.length p.ct, .map (some M)], .int .i64 0]) ?_ ⟨⟨M, rfl, hM, hC⟩, Ext.refl _⟩
      go_simp
    | 11, _ =>
      obtain rfl := Option.some.inj ho
      obtain ⟨M, h0, hM, hC⟩ : AskTup p e set W (a.eval (.tmp 14)) wa := hF.from_ 10 14 rfl (by decide)
      replace h0 := evalD h0
      refine Ran.value rfl (w1 := wa) (v := .agg #[.slice p.Ab e.sky.bodies.length p.cb, .int .i64 e.sky.nnum, .int .i64 e.sky.nden, .int .i64 e.sky.nstart, .slice p.As e.sun.length p.cs, .slice p.Am e.moon.length p.cm, .slice p.An e.node.length p.cn, .slice p.Af e.feasts.length p.cf, .int .i64 e.nw, .int .i64 e.fl, .int .i64 e.wide, .slice p.At set.length p.ct, .map (some M)]) ?_ ⟨⟨M, rfl, hM, hC⟩, Ext.refl _⟩
      go_simp
    | 12, _ =>
      obtain rfl := Option.some.inj ho
      obtain ⟨M, h0, hM, hC⟩ : AskTup p e set W (a.eval (.tmp 14)) wa := hF.from_ 10 14 rfl (by decide)
      replace h0 := evalD h0
      refine Ran.value rfl (w1 := wa) (v := .int .i64 0) ?_ ⟨rfl, Ext.refl _⟩
      go_simp
    | 13, _ =>
      obtain rfl := Option.some.inj ho
      refine Ran.value rfl (w1 := wa.alloc (.cells zeroEng 144)) (v := .pointer (some ⟨wa.heap.size, 0, none⟩)) (by kernel_rfl) ⟨⟨wa.heap.size, rfl, hE.size, Row.new _ _ _⟩, (Ext.refl _).alloc _⟩
    | k + 14, hin => omega
  case hQ =>
    intro vs w2 hE hΦ
    have f0 : vs 0 = .agg #[.slice p.Ab e.sky.bodies.length p.cb, .int .i64 e.sky.nnum, .int .i64 e.sky.nden, .int .i64 e.sky.nstart, .slice p.As e.sun.length p.cs, .slice p.Am e.moon.length p.cm, .slice p.An e.node.length p.cn, .slice p.Af e.feasts.length p.cf, .int .i64 e.nw, .int .i64 e.fl, .int .i64 e.wide] := hΦ 0 (by omega)
    have f1 : vs 1 = .slice p.At set.length p.ct := hΦ 1 (by omega)
    have f2 : vs 2 = .int .i64 lo := hΦ 2 (by omega)
    have f3 : vs 3 = .int .i64 hi := hΦ 3 (by omega)
    have f4 : vs 4 = .bool true := hΦ 4 (by omega)
    have f5 : vs 5 = .bool true := hΦ 5 (by omega)
    have f6 : vs 6 = .int .i64 late := hΦ 6 (by omega)
    have f7 : vs 7 = .bool true := hΦ 7 (by omega)
    have f8 : vs 8 = .bool true := hΦ 8 (by omega)
    obtain ⟨M4, f9, _, _⟩ : AskTup p e set W (vs 9) w2 := hΦ 9 (by omega)
    obtain ⟨M5, f10, _, _⟩ : AskTup p e set W (vs 10) w2 := hΦ 10 (by omega)
    obtain ⟨M, f11, hM, hC⟩ : AskAgg p e set W (vs 11) w2 := hΦ 11 (by omega)
    have f12 : vs 12 = .int .i64 0 := hΦ 12 (by omega)
    obtain ⟨b, f13, hb, hr⟩ : AskNew W (vs 13) w2 := hΦ 13 (by omega)
    have hrg : List.range 14 = [0, 1, 2, 3, 4, 5, 6, 7, 8, 9, 10, 11, 12, 13] := rfl
    unfold putAll putS
    simp only [List.length_cons, List.length_nil, List.take_succ_cons, List.take_zero, List.drop_succ_cons, List.drop_zero, Nat.reduceAdd, hrg, List.foldl_cons, List.foldl_nil, dstOf, List.getElem?_cons_succ, List.getElem?_cons_zero, Option.bind_some]
    clear hrg
    rw [f0, f1, f2, f3, f4, f5, f6, f7, f8, f9, f10, f11, f12, f13]
    have c := hr.cell
    simp only [zeroEng] at c
    have fz := hr.free
    have hne : b ≠ M := fun h => (hC.not_row hr) h
    go_wp2
    clear c fz
    obtain ⟨W3, hW3⟩ : ∃ W3, setsAt w2 b 0 [.slice p.Ab e.sky.bodies.length p.cb, .int .i64 e.sky.nnum, .int .i64 e.sky.nden, .int .i64 e.sky.nstart, .slice p.As e.sun.length p.cs, .slice p.Am e.moon.length p.cm, .slice p.An e.node.length p.cn, .slice p.Af e.feasts.length p.cf, .int .i64 e.nw, .int .i64 e.fl, .int .i64 e.wide, .slice p.At set.length p.ct, .map (some M)] = W3 := ⟨_, rfl⟩
    have hR3 : Row W3 b 144 #[.slice p.Ab e.sky.bodies.length p.cb, .int .i64 e.sky.nnum, .int .i64 e.sky.nden, .int .i64 e.sky.nstart, .slice p.As e.sun.length p.cs, .slice p.Am e.moon.length p.cm, .slice p.An e.node.length p.cn, .slice p.Af e.feasts.length p.cf, .int .i64 e.nw, .int .i64 e.fl, .int .i64 e.wide, .slice p.At set.length p.ct, .map (some M)] := by rw [← hW3]; exact Row.sets (cs := [.slice none 0 0, .int .i64 0, .int .i64 0, .int .i64 0, .slice none 0 0, .slice none 0 0, .slice none 0 0, .slice none 0 0, .int .i64 0, .int .i64 0, .int .i64 0, .slice none 0 0, .map none]) hr _ rfl
    have hE3 : Ext W W3 := by rw [← hW3]; exact Ext.sets hb _ _ _ hE
    have hC3 : Seen e set M W3 := by rw [← hW3]; exact Cache.sets hne _ _ _ hC
    simp only [setsAt, Nat.reduceAdd] at hW3
    try rw [hW3]
    exact ⟨M4, M5, M, b, hb, hM, hE3, hR3, hC3, by simp⟩
  case hZ =>
    intro _ vs w2 hE hΦ on oz hon hoz
    obtain rfl := Option.some.inj hon
    obtain rfl := Option.some.inj hoz
    have f0 : vs 0 = .agg #[.slice p.Ab e.sky.bodies.length p.cb, .int .i64 e.sky.nnum, .int .i64 e.sky.nden, .int .i64 e.sky.nstart, .slice p.As e.sun.length p.cs, .slice p.Am e.moon.length p.cm, .slice p.An e.node.length p.cn, .slice p.Af e.feasts.length p.cf, .int .i64 e.nw, .int .i64 e.fl, .int .i64 e.wide] := hΦ 0 (by omega) (by omega)
    have f1 : vs 1 = .slice p.At set.length p.ct := hΦ 1 (by omega) (by omega)
    have f2 : vs 2 = .int .i64 lo := hΦ 2 (by omega) (by omega)
    have f3 : vs 3 = .int .i64 hi := hΦ 3 (by omega) (by omega)
    have f4 : vs 4 = .bool true := hΦ 4 (by omega) (by omega)
    have f5 : vs 5 = .bool true := hΦ 5 (by omega) (by omega)
    have f6 : vs 6 = .int .i64 late := hΦ 6 (by omega) (by omega)
    have f7 : vs 7 = .bool true := hΦ 7 (by omega) (by omega)
    have f8 : vs 8 = .bool true := hΦ 8 (by omega) (by omega)
    obtain ⟨M4, f9, _, _⟩ : AskTup p e set W (vs 9) w2 := hΦ 9 (by omega) (by omega)
    obtain ⟨M5, f10, _, _⟩ : AskTup p e set W (vs 10) w2 := hΦ 10 (by omega) (by omega)
    obtain ⟨M, f11, hM, hC⟩ : AskAgg p e set W (vs 11) w2 := hΦ 11 (by omega) (by omega)
    obtain ⟨b, f13, hb, hr⟩ : AskNew W (vs 13) w2 := hΦ 13 (by omega) (by omega)
    have hrg : (List.range 14).filter (· ≠ 12) = [0, 1, 2, 3, 4, 5, 6, 7, 8, 9, 10, 11, 13] := by decide
    rw [hrg]
    unfold putS
    simp only [List.take_succ_cons, List.take_zero, List.drop_succ_cons, List.drop_zero, Nat.reduceAdd, List.foldl_cons, List.foldl_nil, dstOf, List.getElem?_cons_succ, List.getElem?_cons_zero, Option.bind_some]
    clear hrg
    rw [f0, f1, f2, f3, f4, f5, f6, f7, f8, f9, f10, f11, f13]
    have c := hr.cell
    simp only [zeroEng] at c
    have fz := hr.free
    have hne : b ≠ M := fun h => (hC.not_row hr) h
    go_wp2
    clear c fz
    obtain ⟨W3, hW3⟩ : ∃ W3, setsAt w2 b 0 [.slice p.Ab e.sky.bodies.length p.cb, .int .i64 e.sky.nnum, .int .i64 e.sky.nden, .int .i64 e.sky.nstart, .slice p.As e.sun.length p.cs, .slice p.Am e.moon.length p.cm, .slice p.An e.node.length p.cn, .slice p.Af e.feasts.length p.cf, .int .i64 e.nw, .int .i64 e.fl, .int .i64 e.wide, .slice p.At set.length p.ct, .map (some M)] = W3 := ⟨_, rfl⟩
    have hR3 : Row W3 b 144 #[.slice p.Ab e.sky.bodies.length p.cb, .int .i64 e.sky.nnum, .int .i64 e.sky.nden, .int .i64 e.sky.nstart, .slice p.As e.sun.length p.cs, .slice p.Am e.moon.length p.cm, .slice p.An e.node.length p.cn, .slice p.Af e.feasts.length p.cf, .int .i64 e.nw, .int .i64 e.fl, .int .i64 e.wide, .slice p.At set.length p.ct, .map (some M)] := by rw [← hW3]; exact Row.sets (cs := [.slice none 0 0, .int .i64 0, .int .i64 0, .int .i64 0, .slice none 0 0, .slice none 0 0, .slice none 0 0, .slice none 0 0, .int .i64 0, .int .i64 0, .int .i64 0, .slice none 0 0, .map none]) hr _ rfl
    have hE3 : Ext W W3 := by rw [← hW3]; exact Ext.sets hb _ _ _ hE
    have hC3 : Seen e set M W3 := by rw [← hW3]; exact Cache.sets hne _ _ _ hC
    simp only [setsAt, Nat.reduceAdd] at hW3
    try rw [hW3]
    exact ⟨M4, M5, M, b, hb, hM, hE3, hR3, hC3, by simp⟩
  case hq =>
    rintro e' a' w3 ⟨rfl, M4, M5, M, b, hb, hM, hE3, hR3, hC3, rfl⟩
    have hMw := Nat.le_trans HE0.out.size hM
    have HE3 := Lib.hid (HE0.out.trans hE3)
    have HR3 := Lib.hid hR3
    have HC3 := Lib.hid hC3
    have c := hR3.cell
    clear hE3 hR3 hC3
    go_wp2_with fail
    refine (e_missed_any p e set M lo hi late w _ HK.out HM.out hMw HE3.out HC3.out HL.out.sky hd.1 hd.2.1 hd.2.2.1 hd.2.2.2 hla.1 hla.2).mono ?_
    rintro r w4 ⟨v, rfl, hv, hmv⟩
    have hE4 := HE3.out.trans' (hmv.below hMw HE3.out.size)
    clear hmv c
    go_wp2_with fail
    go_ret2
    exact ⟨v, rfl, hv, hE4⟩
end Go.Proofs.YtimkmokomohgjaaGreat
namespace Go.Proofs.YtimkmokomohgjaaGreat
open Go.RowKit
open Sp (rd)
set_option maxRecDepth 100000
set_option maxHeartbeats 1000000
attribute [local go_sem] Oper.semAt_some
theorem foreD_len (e : Ec.Engine) (set : List Int) (d : Int) : (Ec.foreD e set d).length ≤ 2 := by
  unfold Ec.foreD
  split <;> split <;> simp
theorem foreN_len (e : Ec.Engine) (set : List Int) (lo : Int) : ∀ k, (Ec.foreN e set lo k).length ≤ 2 * k
  | 0 => by simp [Ec.foreN]
  | k + 1 => by
    have h1 := foreN_len e set lo k
    have h2 := foreD_len e set (lo + (k : Nat))
    simp only [Ec.foreN, List.length_append]
    omega
end Go.Proofs.YtimkmokomohgjaaGreat
namespace Go.Proofs.YtimkmokomohgjaaGreat
open Go.RowKit
open Sp (rd)
set_option linter.unusedVariables false
def bsP (x : Sp.Ecl) (late : Int) (y : Sp.Ecl) : Bool := (y.full == x.full) && (decide (x.day - late ≤ y.day) && decide (y.day ≤ x.day + late))
theorem any_take {α : Type} {P : α → Bool} {l : List α} {k : Nat} (hk : k < l.length) (h : (l.take k).any P = false) (hn : P l[k] = false) : (l.take (k + 1)).any P = false := by
  rw [List.take_succ_eq_append_getElem hk, List.any_append, h]
  simp [hn]
theorem any_at {α : Type} {P : α → Bool} {l : List α} {k : Nat} (hk : k < l.length) (hn : P l[k] = true) : l.any P = true := List.any_eq_true.2 ⟨_, List.getElem_mem hk, hn⟩
/-- All days of a list can be. -/
def DaysIn (l : List Sp.Ecl) : Prop := ∀ y ∈ l, 0 ≤ y.day ∧ y.day ≤ 20000
theorem real_days (e : Ec.Engine) {lo hi : Int} (h1 : 0 ≤ lo) (h3 : hi ≤ 20000) : DaysIn (Ec.realL e lo hi) := fun y hy => by
  obtain ⟨a, b, _⟩ := (Ec.ecls_mem ..).1 hy
  omega
theorem real_few (e : Ec.Engine) {lo hi : Int} (h1 : 1 ≤ lo) (h3 : hi ≤ 20000) : (Ec.realL e lo hi).length ≤ 100000 := by
  have h := ecls_le e.sky e.nw e.fl (Sp.moonsL e.sky lo hi)
  have h2 := moonsN_le e.sky lo (hi + 1 - lo).toNat
  rw [show Sp.moonsN e.sky lo (hi + 1 - lo).toNat = Sp.moonsL e.sky lo hi from rfl] at h2
  show (Sp.eclsOf e.sky e.nw e.fl (Sp.moonsL e.sky lo hi)).length ≤ 100000
  omega
end Go.Proofs.YtimkmokomohgjaaGreat
