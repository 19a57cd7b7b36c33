/- Volume 12: TpNear: a walk of the program's function. -/
import Derived.Carry
import Derived.BigQuiet
import Derived.Test.YtimkmokomohgjaaGreatP02
import Derived.Test.YtimkmokomohgjaaGreatP03
import Derived.Test.YtimkmokomohgjaaGreatP04
import Derived.Test.YtimkmokomohgjaaGreatP05
import Derived.Test.YtimkmokomohgjaaGreatP11
namespace Go.Proofs.YtimkmokomohgjaaGreat
open Go.RowKit
open Sp (rd)
set_option maxRecDepth 100000
set_option maxHeartbeats 4000000
set_option linter.unusedVariables false
theorem Tp.pick2_0 (x0 x1 : Value) (w : World) : (Instr.index 233 (.agg #[x0, x1]) (.int .i64 0)).run Tryz.prog w = .ok x0 w := by kernel_rfl
theorem Tp.pick2_1 (x0 x1 : Value) (w : World) : (Instr.index 233 (.agg #[x0, x1]) (.int .i64 1)).run Tryz.prog w = .ok x1 w := by kernel_rfl
/-- What near's loops hold: the list of fractions, how far they are, and what both boxes hold. -/
structure Tp.NearR (w : World) (cw : Array Value) (fn fd : Int) (v : Value) (st : List Ec.Pair × Ec.Pair) (W : World) : Prop where
  out : W.ownsRow (w.heap.size + 4) 69 2 v st.1.length (Tp.pc st.1)
  least : Row W (w.heap.size + 1 + 1 + 1) 69 #[.int .i64 st.2.drives, .int .i64 st.2.driven]
  res : Row W (w.heap.size + 1 + 1) 69 #[.int .i64 0, .int .i64 0]
  f : Row W (w.heap.size + 1) 69 #[.int .i64 fn, .int .i64 fd]
  wheels : Row W w.heap.size 165 cw
  ext : Ext w W
  ok : Tp.DistOk st.2
  val : ∃ B d, v = .slice B st.1.length d
theorem Tp.NearR.to {w : World} {cw : Array Value} {fn fd : Int} {v : Value} {st : List Ec.Pair × Ec.Pair} {W W' : World} (h : Tp.NearR w cw fn fd v st W) (he : Ext W W') : Tp.NearR w cw fn fd v st W' :=
  ⟨own_ext h.out he, h.least.ext he, h.res.ext he, h.f.ext he, h.wheels.ext he, h.ext.trans he, h.ok, h.val⟩
theorem Tp.NearR.set {w : World} {cw : Array Value} {fn fd : Int} {v : Value} {st : List Ec.Pair × Ec.Pair} {W : World} (h : Tp.NearR w cw fn fd v st W) (d : Ec.Pair) (hd : Tp.DistOk d) :
    Tp.NearR w cw fn fd (.slice none 0 0) ([], d) ((W.setCell ⟨w.heap.size + 1 + 1 + 1, 0, none⟩ (.int .i64 d.drives)).setCell ⟨w.heap.size + 1 + 1 + 1, 1, none⟩ (.int .i64 d.driven)) :=
  ⟨by simp [World.ownsRow, Tp.pc], by simpa using (h.least.set_ 0 (.int .i64 d.drives)).set_ 1 (.int .i64 d.driven), (h.res.far (p := ⟨w.heap.size + 1 + 1 + 1, 0, none⟩) (by simp) _).far (p := ⟨w.heap.size + 1 + 1 + 1, 1, none⟩) (by simp) _, (h.f.far (p := ⟨w.heap.size + 1 + 1 + 1, 0, none⟩) (by simp) _).far (p := ⟨w.heap.size + 1 + 1 + 1, 1, none⟩) (by simp) _, (h.wheels.far (p := ⟨w.heap.size + 1 + 1 + 1, 0, none⟩) (by simp; omega) _).far (p := ⟨w.heap.size + 1 + 1 + 1, 1, none⟩) (by simp; omega) _, (h.ext.setCell (p := ⟨w.heap.size + 1 + 1 + 1, 0, none⟩) (by simp; omega) _).setCell (p := ⟨w.heap.size + 1 + 1 + 1, 1, none⟩) (by simp; omega) _, hd, ⟨none, 0, rfl⟩⟩
theorem Tp.NearR.grown {w : World} {cw : Array Value} {fn fd : Int} {v : Value} {gg cap : Nat} {st : List Ec.Pair × Ec.Pair} {x : Ec.Pair} {W W' : World} (h : Tp.NearR w cw fn fd v st W) (hg : W.grownBy W' v.ownBlock) (ho : W'.ownsRow (w.heap.size + 4) 69 2 (.slice (some ⟨gg, 0, none⟩) (st.1.length + 1) cap) (st.1.length + 1) (Tp.pc st.1 ++ [.int .i64 x.drives, .int .i64 x.driven])) :
    Tp.NearR w cw fn fd (.slice (some ⟨gg, 0, none⟩) (st.1.length + 1) cap) (st.1 ++ [x], st.2) W' :=
  ⟨by rw [Tp.pc_append, List.length_append]; exact ho, Tp.grown_far h.least hg (Tp.own_ne h.out (by omega)), Tp.grown_far h.res hg (Tp.own_ne h.out (by omega)), Tp.grown_far h.f hg (Tp.own_ne h.out (by omega)), Tp.grown_far h.wheels hg (Tp.own_ne h.out (by omega)), h.ext.grown hg (fun g hg => by have := (h.out.lt g hg).1; omega), h.ok, ⟨_, _, by rw [List.length_append]; rfl⟩⟩
theorem Tp.cmp_self (d : Ec.Pair) : Tp.cmpF d d = 0 := by unfold Tp.cmpF; omega
/-- What one fraction makes of what is nearest so far. -/
theorem Tp.nearOne_out {all : List Int} {f : Ec.Pair} {dr i : Int} {st : List Ec.Pair × Ec.Pair} (h : Sp.inR i 0 (all.length - 1) = false) : Tp.nearOne all f dr i st = st := by
  unfold Tp.nearOne
  rw [if_neg (by rw [h]; decide)]
theorem Tp.nearOne_new {all : List Int} {f : Ec.Pair} {dr i y : Int} {x d : Ec.Pair} {st : List Ec.Pair × Ec.Pair} (h : Sp.inR i 0 (all.length - 1) = true) (hy : rd all i.toNat = y) (hx : Tp.red dr y = x) (hd : Tp.dist x f = d) (hc : st.1.length = 0 ∨ Tp.cmpF d st.2 < 0) : Tp.nearOne all f dr i st = ([x], d) := by
  unfold Tp.nearOne
  rw [if_pos h]
  dsimp only
  rw [hy, hx, hd, if_pos hc, if_pos ⟨Tp.cmp_self d, rfl⟩]
  rfl
theorem Tp.nearOne_old {all : List Int} {f : Ec.Pair} {dr i y : Int} {x d : Ec.Pair} {st : List Ec.Pair × Ec.Pair} (h : Sp.inR i 0 (all.length - 1) = true) (hy : rd all i.toNat = y) (hx : Tp.red dr y = x) (hd : Tp.dist x f = d) (hc : ¬ (st.1.length = 0 ∨ Tp.cmpF d st.2 < 0)) :
    Tp.nearOne all f dr i st = if Tp.cmpF d st.2 = 0 ∧ Tp.frIs st.1 x = false then (st.1 ++ [x], st.2) else st := by
  unfold Tp.nearOne
  rw [if_pos h]
  dsimp only
  rw [hy, hx, hd, if_neg hc]
theorem t_near_any (a b p s : Int) (V T : Value) (bs os ns cs : Nat) (M : Value) (k : Nat) (A : Option Addr) (cA : Nat) (all : List Int) (fn fd : Int) (w : World)
    (hk : k < ns) (hns : ns ≤ 1000) (hrow : w.cell? ⟨bs, os + k, none⟩ = some (.slice A all.length cA)) (hm : Ints w A all) (hlen : all.length ≤ 1000) (hall : ∀ k, k < all.length → 1 ≤ rd all k ∧ rd all k ≤ 1000000) (hf : (1 ≤ fn ∧ fn ≤ 1000) ∧ (1 ≤ fd ∧ fd ≤ 1000)) :
    Calls Tryz.prog 152 #[.agg #[.int .i64 a, .int .i64 b, .int .i64 p, .int .i64 s, V, T, .slice (some ⟨bs, os, none⟩) ns cs, M], .int .i64 (k : Int), .agg #[.int .i64 fn, .int .i64 fd]] w fun e w' => ∃ B d, e = .returned (.tuple #[.slice B (Tp.near all ⟨fn, fd⟩).1.length d, .agg #[.int .i64 (Tp.near all ⟨fn, fd⟩).2.drives, .int .i64 (Tp.near all ⟨fn, fd⟩).2.driven]]) ∧ w'.ownsRow (w.heap.size + 4) 69 2 (.slice B (Tp.near all ⟨fn, fd⟩).1.length d) (Tp.near all ⟨fn, fd⟩).1.length (Tp.pc (Tp.near all ⟨fn, fd⟩).1) ∧ Ext w w' := by
  have hmf : ∀ fn first cap w, (Instr.makeFunc fn first cap).run Tryz.prog w = .ok (.func fn first cap) w := fun _ _ _ _ => rfl
  have hp0 := Tp.pick2_0
  have hp1 := Tp.pick2_1
  have HM := Lib.hid hm
  have HALL := Lib.hid hall
  have HF := Lib.hid hf
  obtain ⟨i0, hi0, hi1, hi2, hi3⟩ := info_parts Tp.info_fr
  have hk1 : (k : Int) < (ns : Int) := by omega
  have HR0 : Hid (Tp.NearR w #[.int .i64 a, .int .i64 b, .int .i64 p, .int .i64 s, V, T, .slice (some ⟨bs, os, none⟩) ns cs, M] fn fd (.slice none 0 0) ([], ⟨0, 0⟩) ((((w.alloc (.cells #[.int .i64 a, .int .i64 b, .int .i64 p, .int .i64 s, V, T, .slice (some ⟨bs, os, none⟩) ns cs, M] 165)).alloc (.cells #[.int .i64 fn, .int .i64 fd] 69)).alloc (.cells #[.int .i64 0, .int .i64 0] 69)).alloc (.cells #[.int .i64 0, .int .i64 0] 69))) := Lib.hid ⟨by simp [World.ownsRow, Tp.pc], (blocks4 w _ _ _ _).2.2.2, (blocks4 w _ _ _ _).2.2.1, (blocks4 w _ _ _ _).2.1, (blocks4 w _ _ _ _).1, ((((Ext.refl w).alloc _).alloc _).alloc _).alloc _, by unfold Tp.DistOk; simp, ⟨none, 0, rfl⟩⟩
  have c0 := HR0.out.wheels.cell
  have c1 := HR0.out.ext.cell hrow
  have HRW := Lib.hid hrow
  clear hm hall hrow
  obtain ⟨fu, hfu⟩ : ∃ fu, Tp.near all ⟨fn, fd⟩ = fu := ⟨_, rfl⟩
  have HFU : Hid (Tp.nearN all ⟨fn, fd⟩ all.length = fu) := Lib.hid hfu
  rw [hfu]
  clear hfu
  go_enter Tryz.func152, Tryz.ntmps152
  go_wp2_with fail
  clear c0 c1
  obtain ⟨W0, hW0⟩ : ∃ W, (((w.alloc (.cells #[.int .i64 a, .int .i64 b, .int .i64 p, .int .i64 s, V, T, .slice (some ⟨bs, os, none⟩) ns cs, M] 165)).alloc (.cells #[.int .i64 fn, .int .i64 fd] 69)).alloc (.cells #[.int .i64 0, .int .i64 0] 69)).alloc (.cells #[.int .i64 0, .int .i64 0] 69) = W := ⟨_, rfl⟩
  rw [hW0] at HR0 ⊢
  clear hW0
  go_loopw [8, 26] (fun v i wr => ∃ k : Nat, k ≤ all.length ∧ i = .int .i64 (k : Int) ∧ Tp.NearR w #[.int .i64 a, .int .i64 b, .int .i64 p, .int .i64 s, V, T, .slice (some ⟨bs, os, none⟩) ns cs, M] fn fd v (Tp.nearN all ⟨fn, fd⟩ k) wr) (fun _ i _ => all.length - (intOf i).toNat)
  case atStart => exact ⟨0, Nat.zero_le _, rfl, HR0.out⟩
  case round =>
    obtain ⟨j, hj, rfl, hR⟩ := hrel
    obtain ⟨B1, d1, rfl⟩ := hR.val
    have HR := Lib.hid hR
    have hL2 := Tp.nearN_len (all := all) (f := ⟨fn, fd⟩) j
    clear hR
    by_cases hlt : j < all.length
    · have hlt' : (j : Int) < (all.length : Int) := by omega
      have hdr := HALL.out j hlt
      have HNX : Hid (Tp.nearN all ⟨fn, fd⟩ (j + 1) = Tp.nearOne all ⟨fn, fd⟩ (rd all j) ((Tp.bsL all fn (rd all j * fd) : Nat) : Int) (Tp.nearOne all ⟨fn, fd⟩ (rd all j) (((Tp.bsL all fn (rd all j * fd) : Nat) : Int) - 1) (Tp.nearN all ⟨fn, fd⟩ j))) := Lib.hid rfl
      have hSL : (Tp.nearN all ⟨fn, fd⟩ j).1.length ≤ 2000 := by omega
      obtain ⟨S, hS⟩ : ∃ S, Tp.nearN all ⟨fn, fd⟩ j = S := ⟨_, rfl⟩
      rw [hS] at HR HNX hSL ⊢
      clear hS hL2
      have hbs := (Tp.bs_le (fun k => decide (rd all k * fn < (rd all j * fd))) all.length 0 all.length (Nat.zero_le _)).1
      rw [show Tp.bs (fun k => decide (rd all k * fn < (rd all j * fd))) all.length 0 all.length = Tp.bsL all fn (rd all j * fd) from rfl] at hbs
      have HSE := Lib.hid (fun W h h2 => t_search_any A cA all (rd all j * fd) fn fd (w.heap.size + 1) W h h2 (by omega) (by have := HF.out; omega) (fun k hk => by have := HALL.out k hk; omega))
      obtain ⟨q, hq⟩ : ∃ q, Tp.bsL all fn (rd all j * fd) = q := ⟨_, rfl⟩
      rw [hq] at HSE HNX hbs
      clear hq
      obtain ⟨bb, o, rfl, hc⟩ := HM.out (by omega)
      have q0 := HR.out.ext.cell (hc j hlt)
      obtain ⟨dr, hdr2⟩ : ∃ dr, rd all j = dr := ⟨_, rfl⟩
      rw [hdr2] at q0 hdr HNX HSE
      have hmul := mul_bounds0 (a := dr) (b := fd) (A := 1000000) (B := 1000) (by omega) hdr.2 (by omega) hf.2.2
      have cf := HR.out.f.cell
      clear hc hdr2
      go_wp2_with fail
      refine (HSE.out _ (HM.out.ext HR.out.ext) HR.out.f).mono ?_
      rintro e w1 ⟨⟨bo, rfl⟩, rfl⟩
      go_wp2_with fail
      obtain ⟨S1, hS1⟩ : ∃ S1, Tp.nearOne all ⟨fn, fd⟩ dr ((q : Int) - 1) S = S1 := ⟨_, rfl⟩
      rw [hS1] at HNX
      obtain ⟨S2, hS2⟩ : ∃ S2, Tp.nearOne all ⟨fn, fd⟩ dr (q : Int) S1 = S2 := ⟨_, rfl⟩
      rw [hS2] at HNX
      have hL1 : S1.1.length ≤ 2001 := by rw [← hS1]; have := Tp.nearOne_len (all := all) (f := ⟨fn, fd⟩) (drives := dr) (i := (q : Int) - 1) (st := S); omega
      obtain ⟨ia, hia⟩ : ∃ ia, (q : Int) - 1 = ia := ⟨_, rfl⟩
      obtain ⟨ib, hib⟩ : ∃ ib, (q : Int) = ib := ⟨_, rfl⟩
      rw [hia] at hS1 ⊢
      rw [hib] at hS2 ⊢
      have HS1 := Lib.hid hS1
      have HS2 := Lib.hid hS2
      have HIA := Lib.hid (show -1 ≤ ia ∧ ia ≤ 1000 by omega)
      have HIB := Lib.hid (show -1 ≤ ib ∧ ib ≤ 1000 by omega)
      have HWX := Lib.hid (show w.heap.size + 4 ≤ wr.heap.size from by have := HR.out.least.lt; omega)
      obtain ⟨wo, hwo⟩ : ∃ wo : World, wo = wr := ⟨_, rfl⟩
      clear hia hib hS1 hS2 q0 cf
      go_loopw [8, 44] (fun v i wr => (i = .int .i64 0 ∧ Tp.NearR w #[.int .i64 a, .int .i64 b, .int .i64 p, .int .i64 s, V, T, .slice (some ⟨bs, os, none⟩) ns cs, M] fn fd v S wr) ∨ (i = .int .i64 1 ∧ Tp.NearR w #[.int .i64 a, .int .i64 b, .int .i64 p, .int .i64 s, V, T, .slice (some ⟨bs, os, none⟩) ns cs, M] fn fd v S1 wr) ∨ (i = .int .i64 2 ∧ Tp.NearR w #[.int .i64 a, .int .i64 b, .int .i64 p, .int .i64 s, V, T, .slice (some ⟨bs, os, none⟩) ns cs, M] fn fd v S2 wr)) (fun _ i _ => 2 - (intOf i).toNat)
      case atStart => exact .inl ⟨rfl, HR.out⟩
      case round =>
        clear hwo HR HWX wo
        rcases hrel with ⟨rfl, hR⟩ | ⟨rfl, hR⟩ | ⟨rfl, hR⟩
        · obtain ⟨B2, d2, rfl⟩ := hR.val
          have HR := Lib.hid hR
          have hok := hR.ok
          unfold Tp.DistOk at hok
          have HIN := Lib.hid (fun W => t_in_any ia 0 ((all.length : Int) - 1) W)
          obtain ⟨bi, hbi⟩ : ∃ bi, Sp.inR ia 0 ((all.length : Int) - 1) = bi := ⟨_, rfl⟩
          rw [hbi] at HIN
          have HBI := Lib.hid hbi
          clear hR hbi
          cases bi
          · go_wp2_with fail
            refine (HIN.out _).mono ?_
            rintro e w1 ⟨rfl, rfl⟩
            dsimp only
            go_wp2_with fail
            go_roundw
            case rel => exact .inr (.inl ⟨rfl, by rw [← HS1.out, Tp.nearOne_out HBI.out]; exact HR.out⟩)
            case measure => simp [intOf]
          · have hrg : 0 ≤ ia ∧ ia < (all.length : Int) := by have := HBI.out; simp [Sp.inR] at this; omega
            obtain ⟨r, rfl⟩ : ∃ r : Nat, ia = (r : Int) := ⟨ia.toNat, by omega⟩
            have hr1 : r < all.length := by omega
            have hyb := HALL.out r hr1
            obtain ⟨bb2, o2, he2, hc⟩ := HM.out (by omega)
            cases he2
            have q0 := HR.out.ext.cell (hc r hr1)
            have hry : rd all ((r : Int)).toNat = rd all r := rfl
            obtain ⟨y, hy⟩ : ∃ y, rd all r = y := ⟨_, rfl⟩
            rw [hy] at q0 hyb hry
            have hxl := Tp.red_lims hdr hyb
            have HRD := Lib.hid (fun W => t_reduced_any dr y W hdr.1 hdr.2 hyb.1 hyb.2)
            rw [show (dr / (Int.gcd dr y : Int)) = (Tp.red dr y).drives from rfl, show (y / (Int.gcd dr y : Int)) = (Tp.red dr y).driven from rfl] at HRD
            obtain ⟨⟨x1, x2⟩, hX⟩ : ∃ X, Tp.red dr y = X := ⟨_, rfl⟩
            rw [hX] at HRD hxl
            have hdo := Tp.dist_ok (f := ⟨fn, fd⟩) hxl hf
            have HDI := Lib.hid (fun W => t_distance_any x1 x2 fn fd W (by have := hxl.1; simp only at this; omega) (by have := hxl.2; simp only at this; omega) (by omega) (by omega))
            obtain ⟨⟨e1, e2⟩, hD⟩ : ∃ D, Tp.dist ⟨x1, x2⟩ ⟨fn, fd⟩ = D := ⟨_, rfl⟩
            have hD1 : max (Tp.cmpF ⟨x1, x2⟩ ⟨fn, fd⟩) (-(Tp.cmpF ⟨x1, x2⟩ ⟨fn, fd⟩)) = e1 := congrArg Ec.Pair.drives hD
            have hD2 : x2 = e2 := congrArg Ec.Pair.driven hD
            rw [hD] at hdo
            unfold Tp.DistOk at hdo
            simp only at hdo hxl
            have HDI2 : Hid (∀ W, Calls Tryz.prog 193 #[.agg #[.int .i64 x1, .int .i64 x2], .agg #[.int .i64 fn, .int .i64 fd]] W fun e w' => e = .returned (.agg #[.int .i64 e1, .int .i64 e2]) ∧ Ext W w') := Lib.hid fun W => by have := HDI.out W; rw [hD1] at this; rw [← hD2]; exact this
            have HNEW : Hid ((S.1.length = 0 ∨ Tp.cmpF ⟨e1, e2⟩ S.2 < 0) → S1 = ([⟨x1, x2⟩], ⟨e1, e2⟩)) := Lib.hid fun h => by rw [← HS1.out]; exact Tp.nearOne_new HBI.out hry hX hD h
            have HOLD : Hid (¬ (S.1.length = 0 ∨ Tp.cmpF ⟨e1, e2⟩ S.2 < 0) → S1 = if Tp.cmpF ⟨e1, e2⟩ S.2 = 0 ∧ Tp.frIs S.1 ⟨x1, x2⟩ = false then (S.1 ++ [⟨x1, x2⟩], S.2) else S) := Lib.hid fun h => by rw [← HS1.out]; exact Tp.nearOne_old HBI.out hry hX hD h
            have hdd := HR.out.ok
            have HOK : Hid (Tp.DistOk ⟨e1, e2⟩) := Lib.hid (by unfold Tp.DistOk; simp only; exact hdo)
            clear HDI hX hD hD1 hD2 hy hry hc hyb hdd
            go_wp2_with fail
            refine (HIN.out _).mono ?_
            rintro e w1 ⟨rfl, rfl⟩
            dsimp only
            go_wp2_with fail
            refine (HRD.out _).mono ?_
            rintro e w1 ⟨rfl, hE1⟩
            have HR1 := Lib.hid ((HR.out.to hE1).to ((Ext.refl _).alloc (.cells #[.int .i64 x1, .int .i64 x2] 69)))
            have HX1 := Lib.hid (Row.new w1 69 #[.int .i64 x1, .int .i64 x2])
            have cX := HX1.out.cell
            have cf := HR1.out.f.cell
            have hz1 := hE1.size
            clear q0 hE1
            go_wp2_with fail
            refine (HDI2.out _).mono ?_
            rintro e w2 ⟨rfl, hE2⟩
            have hz2s : w1.heap.size ≤ w2.heap.size := by have := hE2.size; simp only [World.size_alloc] at this; omega
            have HR2 := Lib.hid ((HR1.out.to hE2).to ((Ext.refl _).alloc (.cells #[.int .i64 e1, .int .i64 e2] 69)))
            have HX2 := Lib.hid ((HX1.out.ext hE2).ext ((Ext.refl _).alloc (.cells #[.int .i64 e1, .int .i64 e2] 69)))
            have HD2 := Lib.hid (Row.new w2 69 #[.int .i64 e1, .int .i64 e2])
            obtain ⟨bX, hbX⟩ : ∃ bX, w1.heap.size = bX := ⟨_, rfl⟩
            have HBX : Hid (w.heap.size + 4 ≤ bX) := Lib.hid (by have h1 := hz1; have h2 := HR.out.least.lt; omega)
            rw [hbX] at HX2 hz2s ⊢
            have cX := HX2.out.cell
            have cD := HD2.out.cell
            have cL := HR2.out.least.cell
            have HCD := Lib.hid (fun W => t_compare_any e1 e2 e1 e2 W (by omega) (by omega) (by omega) (by omega))
            rw [Tp.cmp_self] at HCD
            have HCM := Lib.hid (fun W => t_compare_any e1 e2 S.2.drives S.2.driven W (by omega) (by omega) (by omega) (by omega))
            obtain ⟨cc, hcc⟩ : ∃ cc, Tp.cmpF ⟨e1, e2⟩ S.2 = cc := ⟨_, rfl⟩
            have hcc2 : Tp.cmpF ⟨e1, e2⟩ ⟨S.2.drives, S.2.driven⟩ = cc := hcc
            rw [hcc2] at HCM
            rw [hcc] at HNEW HOLD
            have HBL := Lib.hid (HR.out.least.lt)
            clear hE2 hbX cf hcc hcc2 hok hdo hxl
            by_cases hz : S.1.length = 0
            · have hz2 : ((S.1.length : Int) == 0) = true := by rw [hz]; rfl
              go_wp2_with fail
              obtain ⟨W3, hW3⟩ : ∃ W, w2.alloc (.cells #[.int .i64 e1, .int .i64 e2] 69) = W := ⟨_, rfl⟩
              obtain ⟨bD, hbD⟩ : ∃ bD, w2.heap.size = bD := ⟨_, rfl⟩
              rw [hW3, hbD] at HD2
              rw [hW3] at HR2 HX2
              rw [hW3, hbD]
              have HBD : Hid (w.heap.size + 4 ≤ bD) := Lib.hid (by have h1 := hz2s; have h2 := HBX.out; omega)
              clear cX cD cL hW3 hbD hz2
              have HO2 := Lib.hid (HNEW.out (.inl hz))
              have cD := HD2.out.cell
              have cL := HR2.out.least.cell
              have fL := HR2.out.least.free
              have jL := lts HR2.out.least.lt
              have hn1 : w.heap.size + 1 + 1 + 1 ≠ bD ∧ bD ≠ w.heap.size + 1 + 1 + 1 := by have := HBD.out; omega
              have hn2 := hn1.1
              have hn3 := hn1.2
              refine Tp.wp_named (fun a0 ha0 => ?_)
              refine Code.wp_mono (Q := fun e a' w' => e = .normal ∧ a' = (a0.put (some 71) (.agg #[.int .i64 e1, .int .i64 e2])).put (some 8) (.slice none 0 0) ∧ Tp.NearR w #[.int .i64 a, .int .i64 b, .int .i64 p, .int .i64 s, V, T, .slice (some ⟨bs, os, none⟩) ns cs, M] fn fd (.slice none 0 0) ([], ⟨e1, e2⟩) w' ∧ Row w' bX 69 #[.int .i64 x1, .int .i64 x2] ∧ Row w' bD 69 #[.int .i64 e1, .int .i64 e2]) ?hq ?hr
              case hr =>
                subst ha0
                go_region_held3 (fun w' => w'.cell? ⟨bD, 0, none⟩ = some (.int .i64 e1) ∧ w'.cell? ⟨bD, 1, none⟩ = some (.int .i64 e2)) (go_keep) (fail)
                refine ⟨rfl, ?_, (HR2.out.set ⟨e1, e2⟩ HOK.out).to ((Ext.refl _).drew), ?_, ?_⟩
                · rfl
                · exact ((HX2.out.far (p := ⟨w.heap.size + 1 + 1 + 1, 0, none⟩) (by have := HBX.out; simp; omega) _).far (p := ⟨w.heap.size + 1 + 1 + 1, 1, none⟩) (by have := HBX.out; simp; omega) _).ext ((Ext.refl _).drew)
                · exact ((HD2.out.far (p := ⟨w.heap.size + 1 + 1 + 1, 0, none⟩) (by have := HBX.out; simp; omega) _).far (p := ⟨w.heap.size + 1 + 1 + 1, 1, none⟩) (by have := HBX.out; simp; omega) _).ext ((Ext.refl _).drew)
              case hq =>
                rintro e a' w4 ⟨rfl, rfl, hR4, hX4, hD4⟩
                subst ha0
                simp only [Act.put, List.setIfInBounds_toArray, List.set_cons_succ, List.set_cons_zero]
                have HR4 := Lib.hid hR4
                have HX4 := Lib.hid hX4
                have cD := hD4.cell
                have cL := hR4.least.cell
                clear hR4 hX4 hD4 fL jL
                go_wp2_with fail
                refine (HCD.out _).mono ?_
                rintro e w5 ⟨rfl, hE5⟩
                have HR5 := Lib.hid (HR4.out.to hE5)
                have HX5 := Lib.hid (HX4.out.ext hE5)
                have cX := HX5.out.cell
                clear hE5 cD cL
                dsimp only
                go_wp2_with fail
                refine (t_hasFr_any none 0 [] x1 x2 _ (fun h => by cases h) (by simp)).mono ?_
                rintro e w6 ⟨rfl, hE6⟩
                have HR6 := Lib.hid (HR5.out.to hE6)
                have HX6 := Lib.hid (HX5.out.ext hE6)
                clear hE6 cX
                dsimp only [Tp.frIs, List.any_nil]
                have cX := HX6.out.cell
                have HOW := Lib.hid (HR6.out.out.alloc (.cells #[.int .i64 x1, .int .i64 x2] 69))
                have HRA := Lib.hid (HR6.out.to ((Ext.refl _).alloc (.cells #[.int .i64 x1, .int .i64 x2] 69)))
                have hzz := HR6.out.least.lt
                skip
                go_wp2_with (at_builtin; refine wpList_append_lies _ rfl _ _ 62 rfl (w.heap.size + 4) 69 i0 _ 2 16 Tryz.underlying62 hi0 hi1 hi2 hi3 rfl (by decide) _ (0) ([]) rfl HOW.out ⟨_, 0, none⟩ 1 1 [.int .i64 x1, .int .i64 x2] rfl rfl (World.news_of_block (cs := #[.int .i64 x1, .int .i64 x2]) (t := 69) (fr := (0, 0)) (heap_alloc_new _ _)) (by simp [Value.oneCell']) (by omega) (by simp only [maxLen]; omega) (by omega) (by simp; omega) _ rfl ?_; intro gg cap w7 hown7 hgrow hat hlt7; have HR7 := Lib.hid (Tp.NearR.grown (x := ⟨x1, x2⟩) HRA.out hgrow hown7); clear hown7 hgrow hat cX)
                go_roundw
                case rel => exact .inr (.inl ⟨rfl, by rw [HO2.out]; exact HR7.out⟩)
                case measure => simp [intOf]
            · have hz2 : ((S.1.length : Int) == 0) = false := by rw [beq_eq_false_iff_ne]; omega
              go_wp2_with fail
              refine (HCM.out _).mono ?_
              rintro e w3 ⟨rfl, hE3⟩
              have HR3 := Lib.hid (HR2.out.to hE3)
              have HX3 := Lib.hid (HX2.out.ext hE3)
              have HD3 := Lib.hid (HD2.out.ext hE3)
              obtain ⟨bD, hbD⟩ : ∃ bD, w2.heap.size = bD := ⟨_, rfl⟩
              have HBD : Hid (w.heap.size + 4 ≤ bD) := Lib.hid (by have h1 := hz2s; have h2 := HBX.out; omega)
              rw [hbD] at HD3 ⊢
              clear cX cD cL hE3 hbD hz2
              dsimp only
              by_cases hlc : cc < 0
              · go_wp2_with fail
                have HO2 := Lib.hid (HNEW.out (.inr hlc))
                have cD := HD3.out.cell
                have cL := HR3.out.least.cell
                have fL := HR3.out.least.free
                have jL := lts HR3.out.least.lt
                have hn1 : w.heap.size + 1 + 1 + 1 ≠ bD ∧ bD ≠ w.heap.size + 1 + 1 + 1 := by have := HBD.out; omega
                have hn2 := hn1.1
                have hn3 := hn1.2
                refine Tp.wp_named (fun a0 ha0 => ?_)
                refine Code.wp_mono (Q := fun e a' w' => e = .normal ∧ a' = (a0.put (some 71) (.agg #[.int .i64 e1, .int .i64 e2])).put (some 8) (.slice none 0 0) ∧ Tp.NearR w #[.int .i64 a, .int .i64 b, .int .i64 p, .int .i64 s, V, T, .slice (some ⟨bs, os, none⟩) ns cs, M] fn fd (.slice none 0 0) ([], ⟨e1, e2⟩) w' ∧ Row w' bX 69 #[.int .i64 x1, .int .i64 x2] ∧ Row w' bD 69 #[.int .i64 e1, .int .i64 e2]) ?hq ?hr
                case hr =>
                  subst ha0
                  go_region_held3 (fun w' => w'.cell? ⟨bD, 0, none⟩ = some (.int .i64 e1) ∧ w'.cell? ⟨bD, 1, none⟩ = some (.int .i64 e2)) (go_keep) (fail)
                  refine ⟨rfl, ?_, (HR3.out.set ⟨e1, e2⟩ HOK.out).to ((Ext.refl _).drew), ?_, ?_⟩
                  · rfl
                  · exact ((HX3.out.far (p := ⟨w.heap.size + 1 + 1 + 1, 0, none⟩) (by have := HBX.out; simp; omega) _).far (p := ⟨w.heap.size + 1 + 1 + 1, 1, none⟩) (by have := HBX.out; simp; omega) _).ext ((Ext.refl _).drew)
                  · exact ((HD3.out.far (p := ⟨w.heap.size + 1 + 1 + 1, 0, none⟩) (by have := HBX.out; simp; omega) _).far (p := ⟨w.heap.size + 1 + 1 + 1, 1, none⟩) (by have := HBX.out; simp; omega) _).ext ((Ext.refl _).drew)
                case hq =>
                  rintro e a' w4 ⟨rfl, rfl, hR4, hX4, hD4⟩
                  subst ha0
                  simp only [Act.put, List.setIfInBounds_toArray, List.set_cons_succ, List.set_cons_zero]
                  have HR4 := Lib.hid hR4
                  have HX4 := Lib.hid hX4
                  have cD := hD4.cell
                  have cL := hR4.least.cell
                  clear hR4 hX4 hD4 fL jL
                  go_wp2_with fail
                  refine (HCD.out _).mono ?_
                  rintro e w5 ⟨rfl, hE5⟩
                  have HR5 := Lib.hid (HR4.out.to hE5)
                  have HX5 := Lib.hid (HX4.out.ext hE5)
                  have cX := HX5.out.cell
                  clear hE5 cD cL
                  dsimp only
                  go_wp2_with fail
                  refine (t_hasFr_any none 0 [] x1 x2 _ (fun h => by cases h) (by simp)).mono ?_
                  rintro e w6 ⟨rfl, hE6⟩
                  have HR6 := Lib.hid (HR5.out.to hE6)
                  have HX6 := Lib.hid (HX5.out.ext hE6)
                  clear hE6 cX
                  dsimp only [Tp.frIs, List.any_nil]
                  have cX := HX6.out.cell
                  have HOW := Lib.hid (HR6.out.out.alloc (.cells #[.int .i64 x1, .int .i64 x2] 69))
                  have HRA := Lib.hid (HR6.out.to ((Ext.refl _).alloc (.cells #[.int .i64 x1, .int .i64 x2] 69)))
                  have hzz := HR6.out.least.lt
                  skip
                  go_wp2_with (at_builtin; refine wpList_append_lies _ rfl _ _ 62 rfl (w.heap.size + 4) 69 i0 _ 2 16 Tryz.underlying62 hi0 hi1 hi2 hi3 rfl (by decide) _ (0) ([]) rfl HOW.out ⟨_, 0, none⟩ 1 1 [.int .i64 x1, .int .i64 x2] rfl rfl (World.news_of_block (cs := #[.int .i64 x1, .int .i64 x2]) (t := 69) (fr := (0, 0)) (heap_alloc_new _ _)) (by simp [Value.oneCell']) (by omega) (by simp only [maxLen]; omega) (by omega) (by simp; omega) _ rfl ?_; intro gg cap w7 hown7 hgrow hat hlt7; have HR7 := Lib.hid (Tp.NearR.grown (x := ⟨x1, x2⟩) HRA.out hgrow hown7); clear hown7 hgrow hat cX)
                  go_roundw
                  case rel => exact .inr (.inl ⟨rfl, by rw [HO2.out]; exact HR7.out⟩)
                  case measure => simp [intOf]
              · have HO := Lib.hid (HOLD.out (by omega))
                have cX := HX3.out.cell
                have cD := HD3.out.cell
                have cL := HR3.out.least.cell
                go_wp2_with fail
                refine (HCM.out _).mono ?_
                rintro e w4 ⟨rfl, hE4⟩
                have HR4 := Lib.hid (HR3.out.to hE4)
                have HX4 := Lib.hid (HX3.out.ext hE4)
                clear cX cD cL hE4
                dsimp only
                by_cases hce : cc = 0
                · have hce2 : (cc == 0) = true := by simpa using hce
                  obtain ⟨A5, c5, he5, hp5⟩ := Tp.pairs_own HR4.out.out
                  cases he5
                  have HHAS := Lib.hid (fun W h => t_hasFr_any B2 d2 S.1 x1 x2 W h (by omega))
                  have HP5 := Lib.hid hp5
                  have cX := HX4.out.cell
                  obtain ⟨qq, hqq⟩ : ∃ qq, Tp.frIs S.1 ⟨x1, x2⟩ = qq := ⟨_, rfl⟩
                  rw [hqq] at HHAS HO
                  clear hqq hp5
                  go_wp2_with fail
                  refine (HHAS.out _ HP5.out).mono ?_
                  rintro e w5 ⟨rfl, hE5⟩
                  have HR5 := Lib.hid (HR4.out.to hE5)
                  have HX5 := Lib.hid (HX4.out.ext hE5)
                  clear cX hE5
                  dsimp only
                  cases qq
                  · have HO2 : Hid (S1 = (S.1 ++ [⟨x1, x2⟩], S.2)) := Lib.hid (by rw [HO.out, if_pos ⟨hce, rfl⟩])
                    have cX := HX5.out.cell
                    have HOW := Lib.hid (HR5.out.out.alloc (.cells #[.int .i64 x1, .int .i64 x2] 69))
                    have HRA := Lib.hid (HR5.out.to ((Ext.refl _).alloc (.cells #[.int .i64 x1, .int .i64 x2] 69)))
                    have hzz := HR5.out.least.lt
                    have hls : S.1.length ≤ 2001 := by omega
                    go_wp2_with (at_builtin; refine wpList_append_lies _ rfl _ _ 62 rfl (w.heap.size + 4) 69 i0 _ 2 16 Tryz.underlying62 hi0 hi1 hi2 hi3 rfl (by decide) _ (S.1.length) (Tp.pc S.1) rfl HOW.out ⟨_, 0, none⟩ 1 1 [.int .i64 x1, .int .i64 x2] rfl rfl (World.news_of_block (cs := #[.int .i64 x1, .int .i64 x2]) (t := 69) (fr := (0, 0)) (heap_alloc_new _ _)) (by simp [Value.oneCell']) (by omega) (by simp only [maxLen]; omega) (by omega) (by simp; omega) _ rfl ?_; intro gg cap w7 hown7 hgrow hat hlt7; have HR7 := Lib.hid (Tp.NearR.grown (x := ⟨x1, x2⟩) HRA.out hgrow hown7); clear hown7 hgrow hat cX)
                    go_roundw
                    case rel => exact .inr (.inl ⟨rfl, by rw [HO2.out]; exact HR7.out⟩)
                    case measure => simp [intOf]
                  · have HO2 : Hid (S1 = S) := Lib.hid (by rw [HO.out, if_neg (fun h => by cases h.2)])
                    go_wp2_with fail
                    go_roundw
                    case rel => exact .inr (.inl ⟨rfl, by rw [HO2.out]; exact HR5.out⟩)
                    case measure => simp [intOf]
                · have hce2 : (cc == 0) = false := by simpa using hce
                  have HO2 : Hid (S1 = S) := Lib.hid (by rw [HO.out, if_neg (fun h => hce h.1)])
                  go_wp2_with fail
                  go_roundw
                  case rel => exact .inr (.inl ⟨rfl, by rw [HO2.out]; exact HR4.out⟩)
                  case measure => simp [intOf]
        · obtain ⟨B2, d2, rfl⟩ := hR.val
          have HR := Lib.hid hR
          have hok := hR.ok
          unfold Tp.DistOk at hok
          have HIN := Lib.hid (fun W => t_in_any ib 0 ((all.length : Int) - 1) W)
          obtain ⟨bi, hbi⟩ : ∃ bi, Sp.inR ib 0 ((all.length : Int) - 1) = bi := ⟨_, rfl⟩
          rw [hbi] at HIN
          have HBI := Lib.hid hbi
          clear hR hbi
          cases bi
          · go_wp2_with fail
            refine (HIN.out _).mono ?_
            rintro e w1 ⟨rfl, rfl⟩
            dsimp only
            go_wp2_with fail
            go_roundw
            case rel => exact .inr (.inr ⟨rfl, by rw [← HS2.out, Tp.nearOne_out HBI.out]; exact HR.out⟩)
            case measure => simp [intOf]
          · have hrg : 0 ≤ ib ∧ ib < (all.length : Int) := by have := HBI.out; simp [Sp.inR] at this; omega
            obtain ⟨r, rfl⟩ : ∃ r : Nat, ib = (r : Int) := ⟨ib.toNat, by omega⟩
            have hr1 : r < all.length := by omega
            have hyb := HALL.out r hr1
            obtain ⟨bb2, o2, he2, hc⟩ := HM.out (by omega)
            cases he2
            have q0 := HR.out.ext.cell (hc r hr1)
            have hry : rd all ((r : Int)).toNat = rd all r := rfl
            obtain ⟨y, hy⟩ : ∃ y, rd all r = y := ⟨_, rfl⟩
            rw [hy] at q0 hyb hry
            have hxl := Tp.red_lims hdr hyb
            have HRD := Lib.hid (fun W => t_reduced_any dr y W hdr.1 hdr.2 hyb.1 hyb.2)
            rw [show (dr / (Int.gcd dr y : Int)) = (Tp.red dr y).drives from rfl, show (y / (Int.gcd dr y : Int)) = (Tp.red dr y).driven from rfl] at HRD
            obtain ⟨⟨x1, x2⟩, hX⟩ : ∃ X, Tp.red dr y = X := ⟨_, rfl⟩
            rw [hX] at HRD hxl
            have hdo := Tp.dist_ok (f := ⟨fn, fd⟩) hxl hf
            have HDI := Lib.hid (fun W => t_distance_any x1 x2 fn fd W (by have := hxl.1; simp only at this; omega) (by have := hxl.2; simp only at this; omega) (by omega) (by omega))
            obtain ⟨⟨e1, e2⟩, hD⟩ : ∃ D, Tp.dist ⟨x1, x2⟩ ⟨fn, fd⟩ = D := ⟨_, rfl⟩
            have hD1 : max (Tp.cmpF ⟨x1, x2⟩ ⟨fn, fd⟩) (-(Tp.cmpF ⟨x1, x2⟩ ⟨fn, fd⟩)) = e1 := congrArg Ec.Pair.drives hD
            have hD2 : x2 = e2 := congrArg Ec.Pair.driven hD
            rw [hD] at hdo
            unfold Tp.DistOk at hdo
            simp only at hdo hxl
            have HDI2 : Hid (∀ W, Calls Tryz.prog 193 #[.agg #[.int .i64 x1, .int .i64 x2], .agg #[.int .i64 fn, .int .i64 fd]] W fun e w' => e = .returned (.agg #[.int .i64 e1, .int .i64 e2]) ∧ Ext W w') := Lib.hid fun W => by have := HDI.out W; rw [hD1] at this; rw [← hD2]; exact this
            have HNEW : Hid ((S1.1.length = 0 ∨ Tp.cmpF ⟨e1, e2⟩ S1.2 < 0) → S2 = ([⟨x1, x2⟩], ⟨e1, e2⟩)) := Lib.hid fun h => by rw [← HS2.out]; exact Tp.nearOne_new HBI.out hry hX hD h
            have HOLD : Hid (¬ (S1.1.length = 0 ∨ Tp.cmpF ⟨e1, e2⟩ S1.2 < 0) → S2 = if Tp.cmpF ⟨e1, e2⟩ S1.2 = 0 ∧ Tp.frIs S1.1 ⟨x1, x2⟩ = false then (S1.1 ++ [⟨x1, x2⟩], S1.2) else S1) := Lib.hid fun h => by rw [← HS2.out]; exact Tp.nearOne_old HBI.out hry hX hD h
            have hdd := HR.out.ok
            have HOK : Hid (Tp.DistOk ⟨e1, e2⟩) := Lib.hid (by unfold Tp.DistOk; simp only; exact hdo)
            clear HDI hX hD hD1 hD2 hy hry hc hyb hdd
            go_wp2_with fail
            refine (HIN.out _).mono ?_
            rintro e w1 ⟨rfl, rfl⟩
            dsimp only
            go_wp2_with fail
            refine (HRD.out _).mono ?_
            rintro e w1 ⟨rfl, hE1⟩
            have HR1 := Lib.hid ((HR.out.to hE1).to ((Ext.refl _).alloc (.cells #[.int .i64 x1, .int .i64 x2] 69)))
            have HX1 := Lib.hid (Row.new w1 69 #[.int .i64 x1, .int .i64 x2])
            have cX := HX1.out.cell
            have cf := HR1.out.f.cell
            have hz1 := hE1.size
            clear q0 hE1
            go_wp2_with fail
            refine (HDI2.out _).mono ?_
            rintro e w2 ⟨rfl, hE2⟩
            have hz2s : w1.heap.size ≤ w2.heap.size := by have := hE2.size; simp only [World.size_alloc] at this; omega
            have HR2 := Lib.hid ((HR1.out.to hE2).to ((Ext.refl _).alloc (.cells #[.int .i64 e1, .int .i64 e2] 69)))
            have HX2 := Lib.hid ((HX1.out.ext hE2).ext ((Ext.refl _).alloc (.cells #[.int .i64 e1, .int .i64 e2] 69)))
            have HD2 := Lib.hid (Row.new w2 69 #[.int .i64 e1, .int .i64 e2])
            obtain ⟨bX, hbX⟩ : ∃ bX, w1.heap.size = bX := ⟨_, rfl⟩
            have HBX : Hid (w.heap.size + 4 ≤ bX) := Lib.hid (by have h1 := hz1; have h2 := HR.out.least.lt; omega)
            rw [hbX] at HX2 hz2s ⊢
            have cX := HX2.out.cell
            have cD := HD2.out.cell
            have cL := HR2.out.least.cell
            have HCD := Lib.hid (fun W => t_compare_any e1 e2 e1 e2 W (by omega) (by omega) (by omega) (by omega))
            rw [Tp.cmp_self] at HCD
            have HCM := Lib.hid (fun W => t_compare_any e1 e2 S1.2.drives S1.2.driven W (by omega) (by omega) (by omega) (by omega))
            obtain ⟨cc, hcc⟩ : ∃ cc, Tp.cmpF ⟨e1, e2⟩ S1.2 = cc := ⟨_, rfl⟩
            have hcc2 : Tp.cmpF ⟨e1, e2⟩ ⟨S1.2.drives, S1.2.driven⟩ = cc := hcc
            rw [hcc2] at HCM
            rw [hcc] at HNEW HOLD
            have HBL := Lib.hid (HR.out.least.lt)
            clear hE2 hbX cf hcc hcc2 hok hdo hxl
            by_cases hz : S1.1.length = 0
            · have hz2 : ((S1.1.length : Int) == 0) = true := by rw [hz]; rfl
              go_wp2_with fail
              obtain ⟨W3, hW3⟩ : ∃ W, w2.alloc (.cells #[.int .i64 e1, .int .i64 e2] 69) = W := ⟨_, rfl⟩
              obtain ⟨bD, hbD⟩ : ∃ bD, w2.heap.size = bD := ⟨_, rfl⟩
              rw [hW3, hbD] at HD2
              rw [hW3] at HR2 HX2
              rw [hW3, hbD]
              have HBD : Hid (w.heap.size + 4 ≤ bD) := Lib.hid (by have h1 := hz2s; have h2 := HBX.out; omega)
              clear cX cD cL hW3 hbD hz2
              have HO2 := Lib.hid (HNEW.out (.inl hz))
              have cD := HD2.out.cell
              have cL := HR2.out.least.cell
              have fL := HR2.out.least.free
              have jL := lts HR2.out.least.lt
              have hn1 : w.heap.size + 1 + 1 + 1 ≠ bD ∧ bD ≠ w.heap.size + 1 + 1 + 1 := by have := HBD.out; omega
              have hn2 := hn1.1
              have hn3 := hn1.2
              refine Tp.wp_named (fun a0 ha0 => ?_)
              refine Code.wp_mono (Q := fun e a' w' => e = .normal ∧ a' = (a0.put (some 71) (.agg #[.int .i64 e1, .int .i64 e2])).put (some 8) (.slice none 0 0) ∧ Tp.NearR w #[.int .i64 a, .int .i64 b, .int .i64 p, .int .i64 s, V, T, .slice (some ⟨bs, os, none⟩) ns cs, M] fn fd (.slice none 0 0) ([], ⟨e1, e2⟩) w' ∧ Row w' bX 69 #[.int .i64 x1, .int .i64 x2] ∧ Row w' bD 69 #[.int .i64 e1, .int .i64 e2]) ?hq ?hr
              case hr =>
                subst ha0
                go_region_held3 (fun w' => w'.cell? ⟨bD, 0, none⟩ = some (.int .i64 e1) ∧ w'.cell? ⟨bD, 1, none⟩ = some (.int .i64 e2)) (go_keep) (fail)
                refine ⟨rfl, ?_, (HR2.out.set ⟨e1, e2⟩ HOK.out).to ((Ext.refl _).drew), ?_, ?_⟩
                · rfl
                · exact ((HX2.out.far (p := ⟨w.heap.size + 1 + 1 + 1, 0, none⟩) (by have := HBX.out; simp; omega) _).far (p := ⟨w.heap.size + 1 + 1 + 1, 1, none⟩) (by have := HBX.out; simp; omega) _).ext ((Ext.refl _).drew)
                · exact ((HD2.out.far (p := ⟨w.heap.size + 1 + 1 + 1, 0, none⟩) (by have := HBX.out; simp; omega) _).far (p := ⟨w.heap.size + 1 + 1 + 1, 1, none⟩) (by have := HBX.out; simp; omega) _).ext ((Ext.refl _).drew)
              case hq =>
                rintro e a' w4 ⟨rfl, rfl, hR4, hX4, hD4⟩
                subst ha0
                simp only [Act.put, List.setIfInBounds_toArray, List.set_cons_succ, List.set_cons_zero]
                have HR4 := Lib.hid hR4
                have HX4 := Lib.hid hX4
                have cD := hD4.cell
                have cL := hR4.least.cell
                clear hR4 hX4 hD4 fL jL
                go_wp2_with fail
                refine (HCD.out _).mono ?_
                rintro e w5 ⟨rfl, hE5⟩
                have HR5 := Lib.hid (HR4.out.to hE5)
                have HX5 := Lib.hid (HX4.out.ext hE5)
                have cX := HX5.out.cell
                clear hE5 cD cL
                dsimp only
                go_wp2_with fail
                refine (t_hasFr_any none 0 [] x1 x2 _ (fun h => by cases h) (by simp)).mono ?_
                rintro e w6 ⟨rfl, hE6⟩
                have HR6 := Lib.hid (HR5.out.to hE6)
                have HX6 := Lib.hid (HX5.out.ext hE6)
                clear hE6 cX
                dsimp only [Tp.frIs, List.any_nil]
                have cX := HX6.out.cell
                have HOW := Lib.hid (HR6.out.out.alloc (.cells #[.int .i64 x1, .int .i64 x2] 69))
                have HRA := Lib.hid (HR6.out.to ((Ext.refl _).alloc (.cells #[.int .i64 x1, .int .i64 x2] 69)))
                have hzz := HR6.out.least.lt
                skip
                go_wp2_with (at_builtin; refine wpList_append_lies _ rfl _ _ 62 rfl (w.heap.size + 4) 69 i0 _ 2 16 Tryz.underlying62 hi0 hi1 hi2 hi3 rfl (by decide) _ (0) ([]) rfl HOW.out ⟨_, 0, none⟩ 1 1 [.int .i64 x1, .int .i64 x2] rfl rfl (World.news_of_block (cs := #[.int .i64 x1, .int .i64 x2]) (t := 69) (fr := (0, 0)) (heap_alloc_new _ _)) (by simp [Value.oneCell']) (by omega) (by simp only [maxLen]; omega) (by omega) (by simp; omega) _ rfl ?_; intro gg cap w7 hown7 hgrow hat hlt7; have HR7 := Lib.hid (Tp.NearR.grown (x := ⟨x1, x2⟩) HRA.out hgrow hown7); clear hown7 hgrow hat cX)
                go_roundw
                case rel => exact .inr (.inr ⟨rfl, by rw [HO2.out]; exact HR7.out⟩)
                case measure => simp [intOf]
            · have hz2 : ((S1.1.length : Int) == 0) = false := by rw [beq_eq_false_iff_ne]; omega
              go_wp2_with fail
              refine (HCM.out _).mono ?_
              rintro e w3 ⟨rfl, hE3⟩
              have HR3 := Lib.hid (HR2.out.to hE3)
              have HX3 := Lib.hid (HX2.out.ext hE3)
              have HD3 := Lib.hid (HD2.out.ext hE3)
              obtain ⟨bD, hbD⟩ : ∃ bD, w2.heap.size = bD := ⟨_, rfl⟩
              have HBD : Hid (w.heap.size + 4 ≤ bD) := Lib.hid (by have h1 := hz2s; have h2 := HBX.out; omega)
              rw [hbD] at HD3 ⊢
              clear cX cD cL hE3 hbD hz2
              dsimp only
              by_cases hlc : cc < 0
              · go_wp2_with fail
                have HO2 := Lib.hid (HNEW.out (.inr hlc))
                have cD := HD3.out.cell
                have cL := HR3.out.least.cell
                have fL := HR3.out.least.free
                have jL := lts HR3.out.least.lt
                have hn1 : w.heap.size + 1 + 1 + 1 ≠ bD ∧ bD ≠ w.heap.size + 1 + 1 + 1 := by have := HBD.out; omega
                have hn2 := hn1.1
                have hn3 := hn1.2
                refine Tp.wp_named (fun a0 ha0 => ?_)
                refine Code.wp_mono (Q := fun e a' w' => e = .normal ∧ a' = (a0.put (some 71) (.agg #[.int .i64 e1, .int .i64 e2])).put (some 8) (.slice none 0 0) ∧ Tp.NearR w #[.int .i64 a, .int .i64 b, .int .i64 p, .int .i64 s, V, T, .slice (some ⟨bs, os, none⟩) ns cs, M] fn fd (.slice none 0 0) ([], ⟨e1, e2⟩) w' ∧ Row w' bX 69 #[.int .i64 x1, .int .i64 x2] ∧ Row w' bD 69 #[.int .i64 e1, .int .i64 e2]) ?hq ?hr
                case hr =>
                  subst ha0
                  go_region_held3 (fun w' => w'.cell? ⟨bD, 0, none⟩ = some (.int .i64 e1) ∧ w'.cell? ⟨bD, 1, none⟩ = some (.int .i64 e2)) (go_keep) (fail)
                  refine ⟨rfl, ?_, (HR3.out.set ⟨e1, e2⟩ HOK.out).to ((Ext.refl _).drew), ?_, ?_⟩
                  · rfl
                  · exact ((HX3.out.far (p := ⟨w.heap.size + 1 + 1 + 1, 0, none⟩) (by have := HBX.out; simp; omega) _).far (p := ⟨w.heap.size + 1 + 1 + 1, 1, none⟩) (by have := HBX.out; simp; omega) _).ext ((Ext.refl _).drew)
                  · exact ((HD3.out.far (p := ⟨w.heap.size + 1 + 1 + 1, 0, none⟩) (by have := HBX.out; simp; omega) _).far (p := ⟨w.heap.size + 1 + 1 + 1, 1, none⟩) (by have := HBX.out; simp; omega) _).ext ((Ext.refl _).drew)
                case hq =>
                  rintro e a' w4 ⟨rfl, rfl, hR4, hX4, hD4⟩
                  subst ha0
                  simp only [Act.put, List.setIfInBounds_toArray, List.set_cons_succ, List.set_cons_zero]
                  have HR4 := Lib.hid hR4
                  have HX4 := Lib.hid hX4
                  have cD := hD4.cell
                  have cL := hR4.least.cell
                  clear hR4 hX4 hD4 fL jL
                  go_wp2_with fail
                  refine (HCD.out _).mono ?_
                  rintro e w5 ⟨rfl, hE5⟩
                  have HR5 := Lib.hid (HR4.out.to hE5)
                  have HX5 := Lib.hid (HX4.out.ext hE5)
                  have cX := HX5.out.cell
                  clear hE5 cD cL
                  dsimp only
                  go_wp2_with fail
                  refine (t_hasFr_any none 0 [] x1 x2 _ (fun h => by cases h) (by simp)).mono ?_
                  rintro e w6 ⟨rfl, hE6⟩
                  have HR6 := Lib.hid (HR5.out.to hE6)
                  have HX6 := Lib.hid (HX5.out.ext hE6)
                  clear hE6 cX
                  dsimp only [Tp.frIs, List.any_nil]
                  have cX := HX6.out.cell
                  have HOW := Lib.hid (HR6.out.out.alloc (.cells #[.int .i64 x1, .int .i64 x2] 69))
                  have HRA := Lib.hid (HR6.out.to ((Ext.refl _).alloc (.cells #[.int .i64 x1, .int .i64 x2] 69)))
                  have hzz := HR6.out.least.lt
                  skip
                  go_wp2_with (at_builtin; refine wpList_append_lies _ rfl _ _ 62 rfl (w.heap.size + 4) 69 i0 _ 2 16 Tryz.underlying62 hi0 hi1 hi2 hi3 rfl (by decide) _ (0) ([]) rfl HOW.out ⟨_, 0, none⟩ 1 1 [.int .i64 x1, .int .i64 x2] rfl rfl (World.news_of_block (cs := #[.int .i64 x1, .int .i64 x2]) (t := 69) (fr := (0, 0)) (heap_alloc_new _ _)) (by simp [Value.oneCell']) (by omega) (by simp only [maxLen]; omega) (by omega) (by simp; omega) _ rfl ?_; intro gg cap w7 hown7 hgrow hat hlt7; have HR7 := Lib.hid (Tp.NearR.grown (x := ⟨x1, x2⟩) HRA.out hgrow hown7); clear hown7 hgrow hat cX)
                  go_roundw
                  case rel => exact .inr (.inr ⟨rfl, by rw [HO2.out]; exact HR7.out⟩)
                  case measure => simp [intOf]
              · have HO := Lib.hid (HOLD.out (by omega))
                have cX := HX3.out.cell
                have cD := HD3.out.cell
                have cL := HR3.out.least.cell
                go_wp2_with fail
                refine (HCM.out _).mono ?_
                rintro e w4 ⟨rfl, hE4⟩
                have HR4 := Lib.hid (HR3.out.to hE4)
                have HX4 := Lib.hid (HX3.out.ext hE4)
                clear cX cD cL hE4
                dsimp only
                by_cases hce : cc = 0
                · have hce2 : (cc == 0) = true := by simpa using hce
                  obtain ⟨A5, c5, he5, hp5⟩ := Tp.pairs_own HR4.out.out
                  cases he5
                  have HHAS := Lib.hid (fun W h => t_hasFr_any B2 d2 S1.1 x1 x2 W h (by omega))
                  have HP5 := Lib.hid hp5
                  have cX := HX4.out.cell
                  obtain ⟨qq, hqq⟩ : ∃ qq, Tp.frIs S1.1 ⟨x1, x2⟩ = qq := ⟨_, rfl⟩
                  rw [hqq] at HHAS HO
                  clear hqq hp5
                  go_wp2_with fail
                  refine (HHAS.out _ HP5.out).mono ?_
                  rintro e w5 ⟨rfl, hE5⟩
                  have HR5 := Lib.hid (HR4.out.to hE5)
                  have HX5 := Lib.hid (HX4.out.ext hE5)
                  clear cX hE5
                  dsimp only
                  cases qq
                  · have HO2 : Hid (S2 = (S1.1 ++ [⟨x1, x2⟩], S1.2)) := Lib.hid (by rw [HO.out, if_pos ⟨hce, rfl⟩])
                    have cX := HX5.out.cell
                    have HOW := Lib.hid (HR5.out.out.alloc (.cells #[.int .i64 x1, .int .i64 x2] 69))
                    have HRA := Lib.hid (HR5.out.to ((Ext.refl _).alloc (.cells #[.int .i64 x1, .int .i64 x2] 69)))
                    have hzz := HR5.out.least.lt
                    have hls : S1.1.length ≤ 2001 := by omega
                    go_wp2_with (at_builtin; refine wpList_append_lies _ rfl _ _ 62 rfl (w.heap.size + 4) 69 i0 _ 2 16 Tryz.underlying62 hi0 hi1 hi2 hi3 rfl (by decide) _ (S1.1.length) (Tp.pc S1.1) rfl HOW.out ⟨_, 0, none⟩ 1 1 [.int .i64 x1, .int .i64 x2] rfl rfl (World.news_of_block (cs := #[.int .i64 x1, .int .i64 x2]) (t := 69) (fr := (0, 0)) (heap_alloc_new _ _)) (by simp [Value.oneCell']) (by omega) (by simp only [maxLen]; omega) (by omega) (by simp; omega) _ rfl ?_; intro gg cap w7 hown7 hgrow hat hlt7; have HR7 := Lib.hid (Tp.NearR.grown (x := ⟨x1, x2⟩) HRA.out hgrow hown7); clear hown7 hgrow hat cX)
                    go_roundw
                    case rel => exact .inr (.inr ⟨rfl, by rw [HO2.out]; exact HR7.out⟩)
                    case measure => simp [intOf]
                  · have HO2 : Hid (S2 = S1) := Lib.hid (by rw [HO.out, if_neg (fun h => by cases h.2)])
                    go_wp2_with fail
                    go_roundw
                    case rel => exact .inr (.inr ⟨rfl, by rw [HO2.out]; exact HR5.out⟩)
                    case measure => simp [intOf]
                · have hce2 : (cc == 0) = false := by simpa using hce
                  have HO2 : Hid (S2 = S1) := Lib.hid (by rw [HO.out, if_neg (fun h => hce h.1)])
                  go_wp2_with fail
                  go_roundw
                  case rel => exact .inr (.inr ⟨rfl, by rw [HO2.out]; exact HR4.out⟩)
                  case measure => simp [intOf]
        · obtain ⟨B2, d2, rfl⟩ := hR.val
          have HR := Lib.hid hR
          clear hR
          go_wp2_with fail
          go_roundw
          case rel => exact ⟨j + 1, by omega, by go_num, by rw [HNX.out]; exact HR.out⟩
          case measure => simp [intOf]; omega
    · obtain rfl : j = all.length := by omega
      have hlt' : ¬ ((all.length : Int) < (all.length : Int)) := by omega
      rw [HFU.out] at HR hL2 ⊢
      have cL := HR.out.least.cell
      have fR := HR.out.res.free
      have cR := HR.out.res.cell
      have jR := lts HR.out.res.lt
      obtain ⟨A5, c5, he5, hp5⟩ := Tp.pairs_own HR.out.out
      cases he5
      have HP5 := Lib.hid hp5
      clear hp5
      go_wp2_with fail
      refine Tp.wp_named (fun a0 ha0 => ?_)
      refine Code.wp_mono (Q := fun e a' w' => e = .normal ∧ a' = (((a0.put (some 88) (.slice B1 fu.1.length d1)).put (some 89) (.agg #[.int .i64 fu.2.drives, .int .i64 fu.2.driven])).put (some 6) (.slice B1 fu.1.length d1)) ∧ Row w' (w.heap.size + 1 + 1) 69 #[.int .i64 fu.2.drives, .int .i64 fu.2.driven] ∧ w'.ownsRow (w.heap.size + 4) 69 2 (.slice B1 fu.1.length d1) fu.1.length (Tp.pc fu.1) ∧ Ext w w') ?hq ?hr
      case hr =>
        subst ha0
        go_region_held3 (fun w' => w'.cell? ⟨w.heap.size + 1 + 1 + 1, 0, none⟩ = some (.int .i64 fu.2.drives) ∧ w'.cell? ⟨w.heap.size + 1 + 1 + 1, 1, none⟩ = some (.int .i64 fu.2.driven)) (go_keep) (fail)
        refine ⟨rfl, ?_, (by simpa using (HR.out.res.set_ 0 (.int .i64 fu.2.drives)).set_ 1 (.int .i64 fu.2.driven) : Row _ _ _ _).ext ((Ext.refl _).drew), ?_, ((HR.out.ext.setCell (p := ⟨w.heap.size + 1 + 1, 0, none⟩) (by simp <;> omega) _).setCell (p := ⟨w.heap.size + 1 + 1, 1, none⟩) (by simp <;> omega) _).drew⟩
        · rfl
        · exact own_ext (Tp.own_set (Tp.own_set HR.out.out (a := ⟨w.heap.size + 1 + 1, 0, none⟩) (by simp <;> omega) (.int .i64 fu.2.drives)) (a := ⟨w.heap.size + 1 + 1, 1, none⟩) (by simp <;> omega) (.int .i64 fu.2.driven)) ((Ext.refl _).drew)
      case hq =>
        rintro e a' w4 ⟨rfl, rfl, hR4, hP4, hE4⟩
        subst ha0
        simp only [Act.put, List.setIfInBounds_toArray, List.set_cons_succ, List.set_cons_zero]
        have c4 := hR4.cell
        go_wp2_with fail
        exact bodyPost_ret (v := .tuple #[.slice B1 fu.1.length d1, .agg #[.int .i64 fu.2.drives, .int .i64 fu.2.driven]]) (by simp [results, Tryz.results152, go_sem, c4]) rfl ⟨B1, d1, rfl, hP4, hE4⟩
end Go.Proofs.YtimkmokomohgjaaGreat
