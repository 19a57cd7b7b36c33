/- The walk of the reference's Read. (Printed by wip/mkrread.py.) -/
import Derived.Test.YtlcddcnmoajpjaaGreatDoorRefText
import Derived.Test.YtlcddcnmoajpjaaGreatDoorAppNotes
namespace Go.Proofs.YtlcddcnmoajpjaaGreatDoor
open Go.RowKit
open Sp (rd)
set_option linter.unusedSimpArgs false
set_option linter.unusedVariables false

/-- Nothing that was there has changed but block b. -/
abbrev Sole (b : Nat) (w w' : World) : Prop := w.grownBy w' (some b)
theorem Sole.refl (b : Nat) (w : World) : Sole b w w := ⟨rfl, rfl, rfl, Nat.le_refl _, fun _ _ _ => rfl⟩
theorem Sole.ext {b : Nat} {w a c : World} (h : Sole b w a) (he : Ext a c) : Sole b w c :=
  ⟨he.os.trans h.os, he.tape.trans h.tape, he.output.trans h.output, Nat.le_trans h.size he.size, fun k hk hn => (he.block k (Nat.lt_of_lt_of_le hk h.size)).trans (h.block k hk hn)⟩
theorem Sole.set_ {b : Nat} {w a : World} (h : Sole b w a) (o : Nat) (u : Value) : Sole b w (a.setCell ⟨b, o, none⟩ u) :=
  ⟨h.os, h.tape, h.output, by simpa using h.size, fun k hk hn => (Below.heap_setCell a ⟨b, o, none⟩ u k (fun e => hn (by rw [e]))).trans (h.block k hk hn)⟩
theorem Sole.grown {b : Nat} {w a c : World} {row : Option Nat} (h : Sole b w a) (hg : a.grownBy c row) (hr : ∀ k, row = some k → w.heap.size ≤ k) : Sole b w c :=
  ⟨hg.os.trans h.os, hg.tape.trans h.tape, hg.output.trans h.output, Nat.le_trans h.size hg.size, fun k hk hn => (hg.block k (Nat.lt_of_lt_of_le hk h.size) (fun e => by have := hr k e.symm; omega)).trans (h.block k hk hn)⟩
theorem Sole.row {b : Nat} {w a : World} (h : Sole b w a) {g : Nat} {t : TypeId} {cs : Array Value} (hr : Row w g t cs) (hne : g ≠ b) : Row a g t cs := (h.block g hr.lt (fun e => hne (Option.some.inj e))).trans hr
theorem Sole.cell {b : Nat} {w a : World} (h : Sole b w a) {p : Addr} {v : Value} (hc : w.cell? p = some v) (hne : p.block ≠ b) : a.cell? p = some v := World.grownBy.cell h hc (fun e => hne (Option.some.inj e))
theorem rowsR_none {rows : List Bs} {k n : Nat} (h : rowsR rows k = none) (hn : k ≤ n) : rowsR rows n = none := by
  induction n with
  | zero =>
    obtain rfl : k = 0 := by omega
    exact h
  | succ n ih =>
    rcases Nat.lt_or_ge n k with h' | h'
    · obtain rfl : k = n + 1 := by omega
      exact h
    · rw [rowsR, ih h']; rfl
/-- What the reference's Read returns. -/
def RReadPost (w : World) (x : Bs) (e : Ending) (w' : World) : Prop := Ext w w' ∧
  ((readR x = none ∧ e = .returned (.tuple #[.agg zeroSky, .bool false])) ∨
   (∃ s A c, readR x = some s ∧ SkyText s ∧ e = .returned (.tuple #[.agg #[.slice A s.bodies.length c, .int .i64 s.nnum, .int .i64 s.nden, .int .i64 s.nstart], .bool true]) ∧ Bodies w' A s.bodies))
def RReadRel (W : World) (b4 : Nat) (L : List Bs) (i : Value) (wr : World) : Prop :=
  ∃ (k : Nat) (s : Sp.Sky) (v : Value), k ≤ L.length - 3 ∧ i = .int .i64 ((k + 1 : Nat) : Int) ∧ rowsR L k = some s ∧ (∀ b ∈ s.bodies, b.road.length ≤ 1000) ∧
    Row wr b4 28 #[v, .int .i64 s.nnum, .int .i64 s.nden, .int .i64 s.nstart] ∧ BodiesOwn wr W.heap.size b4 v s.bodies ∧ Sole b4 W wr
/-- Behind 'p := api.SkyPeriod{Num: n[0], Den: n[1]}'. -/
def PerPost (w0 : World) (cs : Array Value) (a0 : Act) : Exit → Act → World → Prop
  | .normal, a', w' => ∃ (y1 y2 y3 y4 y5 y6 y7 : Value) (b : Nat), w0.heap.size ≤ b ∧ Ext w0 w' ∧ Row w' b 24 cs ∧
      a' = (((((((a0.put (some 39) y1).put (some 40) y2).put (some 41) y3).put (some 42) y4).put (some 43) y5).put (some 44) y6).put (some 45) y7).put (some 10) (.pointer (some ⟨b, 0, none⟩))
  | _, _, _ => False
theorem PerPost.get {w0 : World} {cs : Array Value} {a0 : Act} {e : Exit} {a' : Act} {w' : World} (h : PerPost w0 cs a0 e a' w') :
    e = .normal ∧ ∃ (y1 y2 y3 y4 y5 y6 y7 : Value) (b : Nat), w0.heap.size ≤ b ∧ Ext w0 w' ∧ Row w' b 24 cs ∧
      a' = (((((((a0.put (some 39) y1).put (some 40) y2).put (some 41) y3).put (some 42) y4).put (some 43) y5).put (some 44) y6).put (some 45) y7).put (some 10) (.pointer (some ⟨b, 0, none⟩)) := by
  cases e <;> first | exact ⟨rfl, h⟩ | exact h.elim
theorem PerPost.mk {w0 : World} {cs : Array Value} {a0 a' : Act} {w' : World} (y1 y2 y3 y4 y5 y6 y7 : Value) (b : Nat) (h1 : w0.heap.size ≤ b) (h2 : Ext w0 w') (h3 : Row w' b 24 cs)
    (h4 : a' = (((((((a0.put (some 39) y1).put (some 40) y2).put (some 41) y3).put (some 42) y4).put (some 43) y5).put (some 44) y6).put (some 45) y7).put (some 10) (.pointer (some ⟨b, 0, none⟩))) : PerPost w0 cs a0 .normal a' w' := ⟨y1, y2, y3, y4, y5, y6, y7, b, h1, h2, h3, h4⟩
theorem rread_results (tmps : Array Value) (W : World) (p : Nat) (x0 x1 x2 x3 : Value) (b : Bool) (h2 : tmps.getD 2 undef = .pointer (some ⟨p, 0, none⟩)) (h3 : tmps.getD 3 undef = .bool b) (hr : Row W p 28 #[x0, x1, x2, x3]) :
    (results Tryz.f63 tmps).run Tryz.prog W = .ok (.tuple #[.agg #[x0, x1, x2, x3], .bool b]) W := by
  have h2' : tmps[2]?.getD undef = .pointer (some ⟨p, 0, none⟩) := by simpa using h2
  have h3' : tmps[3]?.getD undef = .bool b := by simpa using h3
  have r0 : W.cell? ⟨p, 0, none⟩ = some x0 := hr.cell 0
  have r1 : W.cell? ⟨p, 1, none⟩ = some x1 := hr.cell 1
  have r2 : W.cell? ⟨p, 2, none⟩ = some x2 := hr.cell 2
  have r3 : W.cell? ⟨p, 3, none⟩ = some x3 := hr.cell 3
  simp [results, Tryz.results63, h2', h3', asAddr, go_sem, r0, r1, r2, r3]
theorem Sole.extends {b : Nat} {w0 w a : World} (h0 : Ext w0 w) (h : Sole b w a) (hb : w0.heap.size ≤ b) : Ext w0 a := h0.grown h (fun k e => by cases e; exact hb)
theorem own_ints {w : World} {base g n cap : Nat} {l : List Int} (h : w.ownsRow base 3 1 (.slice (some ⟨g, 0, none⟩) n cap) n (intCells l)) (hn : n = l.length) : Ints w (some ⟨g, 0, none⟩) l ∧ l.length ≤ cap := by
  subst hn
  constructor
  · obtain ⟨A, c, e, hI⟩ := IntsVal.of_own h
    simp only [Value.slice.injEq, true_and] at e
    rw [e.1]
    exact hI
  · rcases h.2 with ⟨e, _⟩ | ⟨g', cap', cur, e, _, _, hc, _⟩
    · cases e
    · cases e
      exact hc
theorem mapM_len {α β : Type} {f : α → Option β} {l : List α} {r : List β} (h : l.mapM f = some r) : r.length = l.length := by
  have := congrArg List.length (mapM_some.1 h)
  simpa using this.symm
theorem skyText_rows {L : List Bs} {k : Nat} {s : Sp.Sky} (h : rowsR L k = some s) (hk : k ≤ 1000) (hr : ∀ b ∈ s.bodies, b.road.length ≤ 1000) : SkyText s := by
  obtain ⟨⟨h1, h2, h3, h4⟩, h5⟩ := rowsR_num L k s h
  exact ⟨⟨by omega, h1, h2, h3, h4⟩, by omega, hr⟩
theorem str_ne {W : World} {b o : Nat} {p : Nat} {x : ByteArray} (h : W.cell? ⟨b, o, none⟩ = some (.string x)) (hr : Row W p 28 zeroSky) : b ≠ p := by
  rintro rfl
  rw [hr.cell] at h
  rcases o with _ | _ | _ | _ | o <;> simp [zeroSky] at h

set_option maxRecDepth 100000 in
set_option maxHeartbeats 4000000 in
theorem r_Read_any (x : Bs) (w : World) (hx : x.length ≤ 500) : Calls Tryz.prog 63 #[.string (bs x)] w (RReadPost w x) := by
  have HRD : Hid (readR x = (rowsR (sp1 10 x) ((sp1 10 x).length - 3)).bind fun y => if (sp1 10 x).length < 4 ∨ textL y ≠ x then none else some y) := Lib.hid rfl
  go_enter Tryz.func63, Tryz.ntmps63
  go_wp2_with fail
  have rT := (blocks2 w (.cells zeroSky 28) (.cells zeroSky 28)).1
  have rS := (blocks2 w (.cells zeroSky 28) (.cells zeroSky 28)).2
  have hE0 : Ext w ((w.alloc (.cells zeroSky 28)).alloc (.cells zeroSky 28)) := ((Ext.refl w).alloc _).alloc _
  have hz0 : w.heap.size + 2 ≤ ((w.alloc (.cells zeroSky 28)).alloc (.cells zeroSky 28)).heap.size := by simp
  change Row _ w.heap.size 28 zeroSky at rT
  change Row _ (w.heap.size + 1) 28 zeroSky at rS
  simp only [zeroSky] at rT rS hE0 hz0
  generalize (w.alloc (.cells #[.slice none 0 0, .int .i64 0, .int .i64 0, .int .i64 0] 28)).alloc (.cells #[.slice none 0 0, .int .i64 0, .int .i64 0, .int .i64 0] 28) = w0 at *
  change Row _ _ _ zeroSky at rT rS
  refine (r_split_any 10 10 rfl x w0 (by omega)).mono ?_
  rintro e w1 ⟨A, cap, rfl, hcap, hS, _, hE1⟩
  have hlx := sp1_length 10 x
  have hcx : x.count 10 ≤ x.length := List.count_le_length
  have hsub : ∀ y ∈ sp1 10 x, y.length ≤ 500 := fun y hy => by have := sp1_le 10 x y hy; omega
  obtain ⟨L, hL⟩ : ∃ L, sp1 10 x = L := ⟨_, rfl⟩
  rw [hL] at hlx hcap hS hsub HRD ⊢
  have hL1 : 1 ≤ L.length := by omega
  have hL2 : L.length ≤ 501 := by omega
  obtain ⟨b, o, rfl, hc⟩ := hS (by omega)
  have rT1 := rT.ext hE1
  have rS1 := rS.ext hE1
  have hbne : b ≠ w.heap.size + 1 := str_ne (hc 0 (by omega)) rS1
  have HC := Lib.hid hc
  have HSUB := Lib.hid hsub
  have HT := Lib.hid rT1
  have HS := Lib.hid rS1
  have HE1 := Lib.hid (hE0.trans hE1)
  have hsz1 := hE1.size
  clear hc hsub rT rS rT1 rS1 hE0 hE1 hL hlx hcx hS hcap
  obtain ⟨i0, hi0, hz0', hz1, hz2⟩ := info_parts info_body
  go_wp2_with fail
  go_loopw [6] (fun i wr => RReadRel w1 (w.heap.size + 1) L i wr) (fun i _ => L.length - (intOf i).toNat)
  case atStart => exact ⟨0, noSky, .slice none 0 0, Nat.zero_le _, rfl, rfl, (fun b hb => by cases hb), HS.out, ⟨[], World.ownsRow_nil _ _ _ _, by simp [Value.ownBlock], fun j hj => by simp [noSky] at hj⟩, Sole.refl _ _⟩
  case round =>
    obtain ⟨k, s, v, hk, rfl, hrows, hroads, hbox, hbo, hX⟩ := hrel
    have hszX := hX.size
    have rT2 := hX.row HT.out (by omega)
    have HT2 := Lib.hid rT2
    have hEw := Sole.extends HE1.out hX (Nat.le_succ _)
    have HEW := Lib.hid hEw
    clear hEw rT2
    by_cases hlt : k < L.length - 3
    · have hk1 : k + 1 < L.length := by omega
      have c0 := hX.cell (HC.out (k + 1) hk1) hbne
      have hyl := HSUB.out (L.getD (k + 1) []) (by rw [List.getD_eq_getElem?_getD, List.getElem?_eq_getElem hk1]; exact List.getElem_mem hk1)
      have HSTEP : Hid (rowsR L (k + 1) = rowR s (L.getD (k + 1) [])) := Lib.hid (by rw [rowsR, hrows]; rfl)
      obtain ⟨y, hy⟩ : ∃ y, L.getD (k + 1) [] = y := ⟨_, rfl⟩
      rw [hy] at c0 hyl HSTEP
      have HX := Lib.hid hX
      have HBOX := Lib.hid hbox
      have HBO := Lib.hid hbo
      have HVL : Hid (∀ q, v.ownBlock = some q → q < wr.heap.size) := Lib.hid (fun q e => HBO.out.lt_own e)
      have HROADS := Lib.hid hroads
      have HLT := Lib.hid hlt
      have i1 : (k : Int) + 1 < (L.length : Int) - 2 := by omega
      have i2 : (k : Int) + 1 < (L.length : Int) := by omega
      have hboxlt := hbox.lt
      clear hX hbox hbo hroads hlt hk hk1 hy hrows
      go_wp2_with fail
      refine (r_split_any 32 32 rfl y wr (by omega)).mono ?_
      rintro e w4 ⟨A4, cap4, rfl, hcap4, hS4, hA4, hE4⟩
      have hlm := sp1_length 32 y
      have hcm : y.count 32 ≤ y.length := List.count_le_length
      have hsub4 : ∀ z ∈ sp1 32 y, z.length ≤ 500 := fun z hz => by have := sp1_le 32 y z hz; omega
      have hrow : rowR s y = ((sp1 32 y).tail.mapM numP).bind fun n => if n.length < 3 then none else some (stepR s ((sp1 32 y).headD []) n) := rfl
      rw [← HSTEP.out] at hrow
      have HX4 := Lib.hid (HX.out.ext hE4)
      have HBOX4 := Lib.hid (HBOX.out.ext hE4)
      have HBO4 := Lib.hid (HBO.out.ext hE4)
      have HT4 := Lib.hid (HT2.out.ext hE4)
      have HEW4 := Lib.hid (HEW.out.trans hE4)
      have hsz4 := hE4.size
      clear HX HBOX HBO HT2 HEW c0 HSTEP hE4
      cases hM : sp1 32 y with
      | nil => exact absurd hM (sp1_ne 32 y)
      | cons Hd T =>
        rw [hM] at hrow hlm hsub4 hcap4 hS4
        simp only [List.tail_cons, List.headD_cons] at hrow
        simp only [List.length_cons] at hlm hcap4 ⊢
        obtain ⟨b4, o4, rfl, hc4⟩ := hS4 (by simp)
        have hb4 := hA4 b4 o4 rfl
        have d0 := hc4 0 (by simp)
        simp only [List.getD_cons_zero, Nat.add_zero] at d0
        have hT5 : T.length ≤ 500 := by omega
        have HROW := Lib.hid hrow
        have hsT : ∀ z ∈ T, z.length ≤ 100000 := fun z hz => by have := hsub4 z (List.mem_cons_of_mem _ hz); omega
        have HST := Lib.hid hsT
        have hTS : Strs w4 (some ⟨b4, o4 + 1, none⟩) T := fun h0 => ⟨b4, o4 + 1, rfl, fun j hj => by have := hc4 (j + 1) (by simp; omega); simp only [List.getD_cons_succ] at this; rw [← this]; congr 2; omega⟩
        have HTS := Lib.hid hTS
        have HD0 := Lib.hid d0
        have h1l : (1 : Int) ≤ (T.length : Int) + 1 := by omega
        have hXn : (∃ m, ((T.mapM numP).bind fun n => if n.length < 3 then none else some (stepR s Hd n)) = m) := ⟨_, rfl⟩
        clear hrow hlm hcm hsub4 hS4 hc4 hM hsT hTS hXn d0
        have hNONE : Hid (rowsR L (k + 1) = none → readR x = none) := Lib.hid (fun h => by rw [HRD.out, rowsR_none h (by have := HLT.out; omega)]; rfl)
        by_cases hcap1 : cap4 = 1
        · obtain rfl : T = [] := List.eq_nil_of_length_eq_zero (by omega)
          subst hcap1
          simp only [List.length_nil] at *
          go_wp2_with fail
          refine (r_numbers_any [] (some ⟨b4, o4, none⟩) 0 w4 (fun h => by simp at h) (by simp) (fun y hy => by cases hy)).mono ?_
          rintro e w5 ⟨hE5, ⟨r, v5, hr, rfl, hown5⟩ | ⟨hno, rfl⟩⟩
          · obtain rfl : r = [] := by simpa using hr.symm
            obtain ⟨A5, c5, rfl, _⟩ := IntsVal.of_own hown5
            have HT5 := Lib.hid (HT4.out.ext hE5)
            have HE5 := Lib.hid (HEW4.out.trans hE5)
            clear hE5 hr hown5
            have t0 := HT5.out.cell 0
            have t1 := HT5.out.cell 1
            have t2 := HT5.out.cell 2
            have t3 := HT5.out.cell 3
            have f0 := HT5.out.free 0
            have f1 := HT5.out.free 1
            have f2 := HT5.out.free 2
            have f3 := HT5.out.free 3
            simp only [zeroSky, List.getElem?_toArray, List.getElem?_cons_succ, List.getElem?_cons_zero] at t0 t1 t2 t3
            have HNO : Hid (readR x = none) := Lib.hid (hNONE.out (by rw [HROW.out]; rfl))
            go_wp2_with fail
            refine bodyPost_ret (rread_results _ _ w.heap.size _ _ _ _ false rfl rfl ((((HT5.out.set_ 0 (.slice none 0 0)).set_ 1 (.int .i64 0)).set_ 2 (.int .i64 0)).set_ 3 (.int .i64 0))) rfl ?_
            exact ⟨(((HE5.out.setCell (Nat.le_refl _) _).setCell (Nat.le_refl _) _).setCell (Nat.le_refl _) _).setCell (Nat.le_refl _) _, .inl ⟨HNO.out, rfl⟩⟩
          · simp at hno
        · have hc1 : ¬ ((cap4 : Int) = 1) := by omega
          have hc2 : (1 : Int) ≤ (cap4 : Int) := by omega
          go_wp2_with fail
          refine (r_numbers_any T (some ⟨b4, o4 + 1, none⟩) (cap4 - 1) w4 HTS.out (by omega) HST.out).mono ?_
          rintro e w5 ⟨hE5, ⟨r, v5, hr, rfl, hown5⟩ | ⟨hno, rfl⟩⟩
          · have hrl := mapM_len hr
            have hrl9 : r.length ≤ 500 := by omega
            clear hrl
            have HT5 := Lib.hid (HT4.out.ext hE5)
            have HE5 := Lib.hid (HEW4.out.trans hE5)
            have HX5 := Lib.hid (HX4.out.ext hE5)
            have HBOX5 := Lib.hid (HBOX4.out.ext hE5)
            have HBO5 := Lib.hid (HBO4.out.ext hE5)
            have d5 := hE5.cell HD0.out
            have hsz5 := hE5.size
            have hrow := HROW.out
            rw [hr] at hrow
            simp only [Option.bind_some] at hrow
            have HR2 := Lib.hid hrow
            clear HT4 HEW4 HX4 HBOX4 HBO4 hE5 hr hrow
            by_cases h3 : r.length < 3
            · have h3' : (r.length : Int) < 3 := by omega
              obtain ⟨A5, c5, rfl, _⟩ := IntsVal.of_own hown5
              have t0 := HT5.out.cell 0
              have t1 := HT5.out.cell 1
              have t2 := HT5.out.cell 2
              have t3 := HT5.out.cell 3
              have f0 := HT5.out.free 0
              have f1 := HT5.out.free 1
              have f2 := HT5.out.free 2
              have f3 := HT5.out.free 3
              simp only [zeroSky, List.getElem?_toArray, List.getElem?_cons_succ, List.getElem?_cons_zero] at t0 t1 t2 t3
              have HNO : Hid (readR x = none) := Lib.hid (hNONE.out (by rw [HR2.out, if_pos h3]))
              go_wp2_with fail
              refine bodyPost_ret (rread_results _ _ w.heap.size _ _ _ _ false rfl rfl ((((HT5.out.set_ 0 (.slice none 0 0)).set_ 1 (.int .i64 0)).set_ 2 (.int .i64 0)).set_ 3 (.int .i64 0))) rfl ?_
              exact ⟨(((HE5.out.setCell (Nat.le_refl _) _).setCell (Nat.le_refl _) _).setCell (Nat.le_refl _) _).setCell (Nat.le_refl _) _, .inl ⟨HNO.out, rfl⟩⟩
            · have h3' : ¬ ((r.length : Int) < 3) := by omega
              have HNEW : Hid (rowsR L (k + 1) = some (stepR s Hd r)) := Lib.hid (by rw [HR2.out, if_neg h3])
              obtain ⟨g, cap5, rfl, hgb, hgl⟩ := hown5.form (by omega)
              obtain ⟨hI5, hcap5⟩ := own_ints hown5 rfl
              have hcells : ∀ j, j < r.length → w5.cell? ⟨g, j, none⟩ = some (.int .i64 (rd r j)) := fun j hj => by
                obtain ⟨b, o, hb, hc⟩ := hI5 (by omega)
                injection hb with hb
                injection hb with e1 e2
                subst e1 e2
                have := hc j hj
                rwa [Nat.zero_add] at this
              have q0 := hcells 0 (by omega)
              have q1 := hcells 1 (by omega)
              have q2 := hcells 2 (by omega)
              have HI5 := Lib.hid hI5
              have r0 : (0 : Int) < (r.length : Int) := by omega
              have r1 : (1 : Int) < (r.length : Int) := by omega
              have r2 : (2 : Int) < (r.length : Int) := by omega
              have r3 : (3 : Int) ≤ (r.length : Int) := by omega
              have r4 : 3 ≤ r.length := by omega
              have r0n : 0 < r.length := by omega
              have r1n : 1 < r.length := by omega
              have r2n : 2 < r.length := by omega
              have r5 : (r.length : Int) ≤ (cap5 : Int) := by omega
              obtain ⟨n0, hn0⟩ : ∃ n, rd r 0 = n := ⟨_, rfl⟩
              obtain ⟨n1, hn1⟩ : ∃ n, rd r 1 = n := ⟨_, rfl⟩
              obtain ⟨n2, hn2⟩ : ∃ n, rd r 2 = n := ⟨_, rfl⟩
              rw [hn0] at q0
              rw [hn1] at q1
              rw [hn2] at q2
              have HN0 := Lib.hid hn0
              have HN1 := Lib.hid hn1
              have HN2 := Lib.hid hn2
              clear hown5 hI5 hcells h3 hn0 hn1 hn2
              go_wp2_with fail
              refine cut_at (PerPost w5 #[.int .i64 n0, .int .i64 n1]) ?hr ?hq
              case hr =>
                clear d5 q2
                go_region_held3 (fun w' => w'.cell? ⟨g, 0, none⟩ = some (.int .i64 n0) ∧ w'.cell? ⟨g, 1, none⟩ = some (.int .i64 n1)) (go_keep) (fail)
                all_goals exact PerPost.mk (.slice (some ⟨g, 0, none⟩) r.length cap5) (.pointer (some ⟨g, 0, none⟩)) (.int .i64 n0) (.slice (some ⟨g, 0, none⟩) r.length cap5) (.pointer (some ⟨g, 1, none⟩)) (.int .i64 n1) (.agg #[.int .i64 n0, .int .i64 n1]) w5.heap.size (Nat.le_refl _) ((Ext.refl _).alloc _).drew (Row.new w5 _ _) (by simp only [Act.put, List.setIfInBounds_toArray, List.set_cons_succ, List.set_cons_zero])
              case hq =>
                intro e a' w6 hap
                obtain ⟨rfl, y1, y2, y3, y4, y5, y6, y7, bp, hbp, hE6, rP, rfl⟩ := hap.get
                clear hap
                simp only [Act.put, List.setIfInBounds_toArray, List.set_cons_succ, List.set_cons_zero]
                have HT6 := Lib.hid (HT5.out.ext hE6)
                have HE6 := Lib.hid (HE5.out.trans hE6)
                have HX6 := Lib.hid (HX5.out.ext hE6)
                have HBOX6 := Lib.hid (HBOX5.out.ext hE6)
                have HBO6 := Lib.hid (HBO5.out.ext hE6)
                have d6 := hE6.cell d5
                have q6 := hE6.cell q2
                have HI6 := Lib.hid (HI5.out.ext hE6)
                have HP := Lib.hid rP
                have p0 := rP.cell 0
                have p1 := rP.cell 1
                simp only [List.getElem?_toArray, List.getElem?_cons_succ, List.getElem?_cons_zero] at p0 p1
                have hsz6 := hE6.size
                have hgl6 : g < w6.heap.size := by omega
                clear HT5 HE5 HX5 HBOX5 HBO5 d5 q2 q0 q1 hE6 HI5 rP
                have HK9 : Hid (k + 1 ≤ L.length - 3) := Lib.hid HLT.out
                have hbb : s.bodies.length ≤ 1000 := by
                  have := (rowsR_num L (k + 1) _ HNEW.out).2
                  have h2 : (stepR s Hd r).bodies.length = s.bodies.length ∨ (stepR s Hd r).bodies.length = s.bodies.length + 1 := by unfold stepR; split <;> split <;> simp
                  omega
                by_cases hH : Hd = wBody
                · have e1 : ((bs Hd).toList == [98, 111, 100, 121]) = true := by rw [toList_bs, hH]; rfl
                  have e2 : ((bs Hd).toList == [110, 111, 100, 101]) = false := by rw [toList_bs, hH]; rfl
                  have HST2 : Hid (stepR s Hd r = ⟨s.bodies ++ [bodyOf r], s.nnum, s.nden, s.nstart⟩) := Lib.hid (by rw [hH]; rfl)
                  have HBF : Hid (bodyOf r = ⟨n0, n1, n2, r.drop 3⟩) := Lib.hid (by rw [← HN0.out, ← HN1.out, ← HN2.out]; rfl)
                  have hb4b : ¬ b4 = w.heap.size + 1 := by omega
                  have hb4v : some b4 ≠ v.ownBlock := fun e => by have := HVL.out b4 e.symm; omega
                  have HB4V := Lib.hid hb4v
                  clear hH hb4v
                  go_wp2_with fail
                  by_cases hcap3 : cap5 = 3
                  · refine wp_region_later_mix2 (v0 := .pointer (some ⟨w.heap.size + 1, 0, none⟩)) (v1 := v) 9 (by kernel_rfl) (by kernel_rfl) rfl rfl rfl (by kernel_rfl) (by kernel_rfl) (fun X => ?_) (fun X => ?_) (fun WW hW => ?_)
                    · simp [go_sem]
                    · have c2 := (HBOX6.out.ext X.ext).cell 0
                      simp only [List.getElem?_toArray, List.getElem?_cons_zero] at c2
                      simp [go_sem, c2]
                    have z0 := Ext.later (w := WW) (by rw [hW]; exact p0)
                    have z1 := Ext.later (w := WW) (by rw [hW]; exact p1)
                    have z2 := Ext.later (w := WW) (by rw [hW]; exact q6)
                    simp only [List.take_succ_cons, List.take_zero, List.drop_succ_cons, List.drop_zero, Act.put, List.setIfInBounds_toArray, List.set_cons_succ, List.set_cons_zero]
                    repeat (go_big_quiet_step (fail))
                    refine wpQuiet_nil ?_
                    intro X
                    clear z0 z1 z2
                    subst hW
                    go_wp2
                    refine ⟨⟨⟨_, X.ext.alloc _⟩, rfl⟩, ?_⟩
                    obtain ⟨xs, hown, hne, hxs⟩ := HBO6.out.ext X.ext
                    have hown2 := hown.alloc (.cells #[.int .i64 n0, .int .i64 n1, .int .i64 n2, .slice (some ⟨g, 0, none⟩) (r.length - 3) 0] 80)
                    have hszX := X.ext.size
                    refine wpList_append_lies _ rfl _ _ _ rfl w1.heap.size 80 i0 _ 4 48 Tryz.underlying22 hi0 hz0' hz1 hz2 rfl (by omega) v s.bodies.length xs rfl hown2
                      ⟨X.world.heap.size, 0, none⟩ 1 1 [.int .i64 n0, .int .i64 n1, .int .i64 n2, .slice (some ⟨g, 0, none⟩) (r.length - 3) 0] rfl rfl (World.news_of_block (cs := #[.int .i64 n0, .int .i64 n1, .int .i64 n2, .slice (some ⟨g, 0, none⟩) (r.length - 3) 0]) (t := 80) (fr := (0, 0)) (heap_alloc_new _ _)) (by simp [Value.oneCell']) (by omega) (by simp only [maxLen]; omega) (by omega) (by simp; omega) _ rfl ?_
                    intro gg cap w7 hown7 hgrow hat hltg
                    have hbx := (HBOX6.out.ext X.ext).alloc (.cells #[.int .i64 n0, .int .i64 n1, .int .i64 n2, .slice (some ⟨g, 0, none⟩) (r.length - 3) 0] 80)
                    have hc3 := grown_cell hgrow hbx hne 0
                    have hf3 := grown_free hgrow hbx hne 0
                    simp only [List.getElem?_toArray, List.getElem?_cons_zero] at hc3
                    have d7 : w7.cell? ⟨b4, o4, none⟩ = some (.string (bs Hd)) := hgrow.cell (((X.ext.alloc _).cell d6)) HB4V.out
                    have hroad : Ints X.world (some ⟨g, 0, none⟩) (r.drop 3) := ints_nil (by simp; omega)
                    have hgne : v.ownBlock ≠ some g := fun e => by have := HVL.out g e; omega
                    have hpush := bodies_pushed (B := ⟨n0, n1, n2, r.drop 3⟩) (g := g) (o := 0) (c := 0) hown hne hxs ((Ext.refl X.world).alloc (.cells #[.int .i64 n0, .int .i64 n1, .int .i64 n2, .slice (some ⟨g, 0, none⟩) (r.length - 3) 0] 80)) hgrow hat (by omega) (by simpa using hown7) hroad (by omega) hgne (by omega) (by omega)
                    have hbox7 : Row w7 (w.heap.size + 1) 28 #[v, .int .i64 s.nnum, .int .i64 s.nden, .int .i64 s.nstart] := (hgrow.block _ (by simp; omega) (fun e => hne e.symm)).trans hbx
                    have hX7 : Sole (w.heap.size + 1) w1 w7 := ((HX6.out.ext X.ext).ext ((Ext.refl _).alloc (.cells #[.int .i64 n0, .int .i64 n1, .int .i64 n2, .slice (some ⟨g, 0, none⟩) (r.length - 3) 0] 80))).grown hgrow (fun q hq => (hown2.lt q hq).1)
                    have HPU := Lib.hid hpush
                    have HB7 := Lib.hid hbox7
                    have HX7 := Lib.hid hX7
                    clear hpush hbox7 hX7 hown hxs hown2 hown7 hgrow hbx hroad d6
                    go_wp2
                    refine NoPanic.normal ?_
                    go_wp2_with fail
                    go_roundw
                    case measure => have := HLT.out; simp [intOf]; omega
                    case rel =>
                      refine ⟨k + 1, ⟨s.bodies ++ [bodyOf r], s.nnum, s.nden, s.nstart⟩, _, HK9.out, by go_num, by rw [HNEW.out, HST2.out], fun b hb => ?_, by simpa using HB7.out.set_ 0 _, ?_, HX7.out.set_ 0 _⟩
                      · rcases List.mem_append.1 hb with hb | hb
                        · exact HROADS.out b hb
                        · obtain rfl : b = bodyOf r := by simpa using hb
                          simp only [bodyOf, List.length_drop]; omega
                      · rw [HBF.out]
                        have := HPU.out.far 0 (.slice (some ⟨gg, 0, none⟩) (s.bodies.length + 1) cap)
                        simpa using this
                  · refine wp_region_later_mix2 (v0 := .pointer (some ⟨w.heap.size + 1, 0, none⟩)) (v1 := v) 9 (by kernel_rfl) (by kernel_rfl) rfl rfl rfl (by kernel_rfl) (by kernel_rfl) (fun X => ?_) (fun X => ?_) (fun WW hW => ?_)
                    · simp [go_sem]
                    · have c2 := (HBOX6.out.ext X.ext).cell 0
                      simp only [List.getElem?_toArray, List.getElem?_cons_zero] at c2
                      simp [go_sem, c2]
                    have z0 := Ext.later (w := WW) (by rw [hW]; exact p0)
                    have z1 := Ext.later (w := WW) (by rw [hW]; exact p1)
                    have z2 := Ext.later (w := WW) (by rw [hW]; exact q6)
                    simp only [List.take_succ_cons, List.take_zero, List.drop_succ_cons, List.drop_zero, Act.put, List.setIfInBounds_toArray, List.set_cons_succ, List.set_cons_zero]
                    repeat (go_big_quiet_step (fail))
                    refine wpQuiet_nil ?_
                    intro X
                    clear z0 z1 z2
                    subst hW
                    go_wp2
                    refine ⟨⟨⟨_, X.ext.alloc _⟩, rfl⟩, ?_⟩
                    obtain ⟨xs, hown, hne, hxs⟩ := HBO6.out.ext X.ext
                    have hown2 := hown.alloc (.cells #[.int .i64 n0, .int .i64 n1, .int .i64 n2, .slice (some ⟨g, 3, none⟩) (r.length - 3) (cap5 - 3)] 80)
                    have hszX := X.ext.size
                    refine wpList_append_lies _ rfl _ _ _ rfl w1.heap.size 80 i0 _ 4 48 Tryz.underlying22 hi0 hz0' hz1 hz2 rfl (by omega) v s.bodies.length xs rfl hown2
                      ⟨X.world.heap.size, 0, none⟩ 1 1 [.int .i64 n0, .int .i64 n1, .int .i64 n2, .slice (some ⟨g, 3, none⟩) (r.length - 3) (cap5 - 3)] rfl rfl (World.news_of_block (cs := #[.int .i64 n0, .int .i64 n1, .int .i64 n2, .slice (some ⟨g, 3, none⟩) (r.length - 3) (cap5 - 3)]) (t := 80) (fr := (0, 0)) (heap_alloc_new _ _)) (by simp [Value.oneCell']) (by omega) (by simp only [maxLen]; omega) (by omega) (by simp; omega) _ rfl ?_
                    intro gg cap w7 hown7 hgrow hat hltg
                    have hbx := (HBOX6.out.ext X.ext).alloc (.cells #[.int .i64 n0, .int .i64 n1, .int .i64 n2, .slice (some ⟨g, 3, none⟩) (r.length - 3) (cap5 - 3)] 80)
                    have hc3 := grown_cell hgrow hbx hne 0
                    have hf3 := grown_free hgrow hbx hne 0
                    simp only [List.getElem?_toArray, List.getElem?_cons_zero] at hc3
                    have d7 : w7.cell? ⟨b4, o4, none⟩ = some (.string (bs Hd)) := hgrow.cell (((X.ext.alloc _).cell d6)) HB4V.out
                    have hroad : Ints X.world (some ⟨g, 3, none⟩) (r.drop 3) := ints_drop HI6.out X.ext r4
                    have hgne : v.ownBlock ≠ some g := fun e => by have := HVL.out g e; omega
                    have hpush := bodies_pushed (B := ⟨n0, n1, n2, r.drop 3⟩) (g := g) (o := 3) (c := cap5 - 3) hown hne hxs ((Ext.refl X.world).alloc (.cells #[.int .i64 n0, .int .i64 n1, .int .i64 n2, .slice (some ⟨g, 3, none⟩) (r.length - 3) (cap5 - 3)] 80)) hgrow hat (by omega) (by simpa using hown7) hroad (by omega) hgne (by omega) (by omega)
                    have hbox7 : Row w7 (w.heap.size + 1) 28 #[v, .int .i64 s.nnum, .int .i64 s.nden, .int .i64 s.nstart] := (hgrow.block _ (by simp; omega) (fun e => hne e.symm)).trans hbx
                    have hX7 : Sole (w.heap.size + 1) w1 w7 := ((HX6.out.ext X.ext).ext ((Ext.refl _).alloc (.cells #[.int .i64 n0, .int .i64 n1, .int .i64 n2, .slice (some ⟨g, 3, none⟩) (r.length - 3) (cap5 - 3)] 80))).grown hgrow (fun q hq => (hown2.lt q hq).1)
                    have HPU := Lib.hid hpush
                    have HB7 := Lib.hid hbox7
                    have HX7 := Lib.hid hX7
                    clear hpush hbox7 hX7 hown hxs hown2 hown7 hgrow hbx hroad d6
                    go_wp2
                    refine NoPanic.normal ?_
                    go_wp2_with fail
                    go_roundw
                    case measure => have := HLT.out; simp [intOf]; omega
                    case rel =>
                      refine ⟨k + 1, ⟨s.bodies ++ [bodyOf r], s.nnum, s.nden, s.nstart⟩, _, HK9.out, by go_num, by rw [HNEW.out, HST2.out], fun b hb => ?_, by simpa using HB7.out.set_ 0 _, ?_, HX7.out.set_ 0 _⟩
                      · rcases List.mem_append.1 hb with hb | hb
                        · exact HROADS.out b hb
                        · obtain rfl : b = bodyOf r := by simpa using hb
                          simp only [bodyOf, List.length_drop]; omega
                      · rw [HBF.out]
                        have := HPU.out.far 0 (.slice (some ⟨gg, 0, none⟩) (s.bodies.length + 1) cap)
                        simpa using this
                · by_cases hN : Hd = wNode
                  · have e1 : ((bs Hd).toList == [98, 111, 100, 121]) = false := by rw [toList_bs, hN]; rfl
                    have e2 : ((bs Hd).toList == [110, 111, 100, 101]) = true := by rw [toList_bs, hN]; rfl
                    have HST2 : Hid (stepR s Hd r = ⟨s.bodies, n0, n1, n2⟩) := Lib.hid (by rw [hN, ← HN0.out, ← HN1.out, ← HN2.out]; rfl)
                    clear hN hH
                    go_wp2_with fail
                    refine wp_region_later_tail 6 (by kernel_rfl) (by kernel_rfl) (fun WW hW => ?_)
                    subst hW
                    have z0 := Ext.later (w := WW) p0
                    have z1 := Ext.later (w := WW) p1
                    have z2 := Ext.later (w := WW) q6
                    simp only [List.take_succ_cons, List.take_zero, List.drop_succ_cons, List.drop_zero]
                    repeat (go_big_quiet_step (fail))
                    refine wpQuiet_nil ?_
                    rintro ⟨W1, hE1⟩
                    have rW := HBOX6.out.ext hE1
                    have x1 := rW.cell 1
                    have x2 := rW.cell 2
                    have x3 := rW.cell 3
                    have y1 := rW.free 1
                    have y2 := rW.free 2
                    have y3 := rW.free 3
                    simp only [List.getElem?_toArray, List.getElem?_cons_succ, List.getElem?_cons_zero] at x1 x2 x3
                    have HRW := Lib.hid rW
                    have HBO7 := Lib.hid (HBO6.out.ext hE1)
                    have HX7 := Lib.hid (HX6.out.ext hE1)
                    clear z0 z1 z2 rW
                    dsimp only
                    clear hE1
                    go_wp2_with fail
                    go_roundw
                    case measure => have := HLT.out; simp [intOf]; omega
                    case rel => exact ⟨k + 1, ⟨s.bodies, n0, n1, n2⟩, v, HK9.out, by go_num, by rw [HNEW.out, HST2.out], HROADS.out, by simpa using ((HRW.out.set_ 1 (.int .i64 n0)).set_ 2 (.int .i64 n1)).set_ 3 (.int .i64 n2), ((HBO7.out.far 1 _).far 2 _).far 3 _, ((HX7.out.set_ 1 _).set_ 2 _).set_ 3 _⟩
                  · have e1 : ((bs Hd).toList == [98, 111, 100, 121]) = false := by rw [toList_bs]; exact beq_eq_false_iff_ne.2 hH
                    have e2 : ((bs Hd).toList == [110, 111, 100, 101]) = false := by rw [toList_bs]; exact beq_eq_false_iff_ne.2 hN
                    have HST2 : Hid (stepR s Hd r = s) := Lib.hid (by unfold stepR; rw [if_neg hH]; simp only []; rw [if_neg hN])
                    clear hN hH
                    go_wp2_with fail
                    go_roundw
                    case measure => have := HLT.out; simp [intOf]; omega
                    case rel => exact ⟨k + 1, s, v, HK9.out, by go_num, by rw [HNEW.out, HST2.out], HROADS.out, HBOX6.out, HBO6.out, HX6.out⟩
          · have HT5 := Lib.hid (HT4.out.ext hE5)
            have HE5 := Lib.hid (HEW4.out.trans hE5)
            clear hE5
            have t0 := HT5.out.cell 0
            have t1 := HT5.out.cell 1
            have t2 := HT5.out.cell 2
            have t3 := HT5.out.cell 3
            have f0 := HT5.out.free 0
            have f1 := HT5.out.free 1
            have f2 := HT5.out.free 2
            have f3 := HT5.out.free 3
            simp only [zeroSky, List.getElem?_toArray, List.getElem?_cons_succ, List.getElem?_cons_zero] at t0 t1 t2 t3
            have HNO : Hid (readR x = none) := Lib.hid (hNONE.out (by rw [HROW.out, hno]; rfl))
            go_wp2_with fail
            refine bodyPost_ret (rread_results _ _ w.heap.size _ _ _ _ false rfl rfl ((((HT5.out.set_ 0 (.slice none 0 0)).set_ 1 (.int .i64 0)).set_ 2 (.int .i64 0)).set_ 3 (.int .i64 0))) rfl ?_
            exact ⟨(((HE5.out.setCell (Nat.le_refl _) _).setCell (Nat.le_refl _) _).setCell (Nat.le_refl _) _).setCell (Nat.le_refl _) _, .inl ⟨HNO.out, rfl⟩⟩
    · obtain rfl : k = L.length - 3 := by omega
      have HX := Lib.hid hX
      have HBOX := Lib.hid hbox
      have HBO := Lib.hid hbo
      have HSK : Hid (SkyText s) := Lib.hid (skyText_rows hrows (by omega) hroads)
      have hrd := HRD.out
      rw [hrows] at hrd
      simp only [Option.bind_some] at hrd
      have HRD2 := Lib.hid hrd
      clear hX hroads hrd hrows
      by_cases h4 : L.length < 4
      · have h4' : (L.length : Int) < 4 := by omega
        have h5' : ¬ (((L.length - 3 + 1 : Nat) : Int) < (L.length : Int) - 2) := by omega
        clear hbox hbo
        have t0 := HT2.out.cell 0
        have t1 := HT2.out.cell 1
        have t2 := HT2.out.cell 2
        have t3 := HT2.out.cell 3
        have f0 := HT2.out.free 0
        have f1 := HT2.out.free 1
        have f2 := HT2.out.free 2
        have f3 := HT2.out.free 3
        simp only [zeroSky, List.getElem?_toArray, List.getElem?_cons_succ, List.getElem?_cons_zero] at t0 t1 t2 t3
        have HNO : Hid (readR x = none) := Lib.hid (by rw [HRD2.out, if_pos (.inl h4)])
        go_wp2_with fail
        refine bodyPost_ret (rread_results _ _ w.heap.size _ _ _ _ false rfl rfl ((((HT2.out.set_ 0 (.slice none 0 0)).set_ 1 (.int .i64 0)).set_ 2 (.int .i64 0)).set_ 3 (.int .i64 0))) rfl ?_
        exact ⟨(((HEW.out.setCell (Nat.le_refl _) _).setCell (Nat.le_refl _) _).setCell (Nat.le_refl _) _).setCell (Nat.le_refl _) _, .inl ⟨HNO.out, rfl⟩⟩
      · have h4' : ¬ ((L.length : Int) < 4) := by omega
        have h5' : ¬ (((L.length - 3 + 1 : Nat) : Int) < (L.length : Int) - 2) := by omega
        obtain ⟨A1, c1, rfl, hB, hR⟩ := hbo.bodies
        have HB := Lib.hid hB
        have HRI := Lib.hid hR
        have HBO9 := Lib.hid hbo
        have hbl : w.heap.size < w1.heap.size := by omega
        have s0 := hbox.cell 0
        have s1 := hbox.cell 1
        have s2 := hbox.cell 2
        have s3 := hbox.cell 3
        simp only [List.getElem?_toArray, List.getElem?_cons_succ, List.getElem?_cons_zero] at s0 s1 s2 s3
        clear hbox hbo hB hR
        go_wp2_with fail
        refine (r_Print_any s A1 c1 _ HB.out HRI.out HSK.out).mono ?_
        rintro e w4 ⟨rfl, hE4⟩
        have HT4 := Lib.hid (HT2.out.ext hE4)
        have HEW4 := Lib.hid (HEW.out.trans hE4)
        have HBO4 := Lib.hid (HBO9.out.ext hE4)
        have u0 := hE4.cell s0
        have u1 := hE4.cell s1
        have u2 := hE4.cell s2
        have u3 := hE4.cell s3
        clear hE4 s0 s1 s2 s3
        by_cases hx' : textL s = x
        · have e1 : ((bs (textL s)).toList == (bs x).toList) = true := by rw [hx']; simp
          have e2 : ((bs (textL s)).toList != (bs x).toList) = false := by rw [hx']; simp
          have HYES : Hid (readR x = some s) := Lib.hid (by rw [HRD2.out, if_neg (by intro h; rcases h with h | h; exact h4 h; exact h hx')])
          have t0 := HT4.out.cell 0
          have t1 := HT4.out.cell 1
          have t2 := HT4.out.cell 2
          have t3 := HT4.out.cell 3
          have f0 := HT4.out.free 0
          have f1 := HT4.out.free 1
          have f2 := HT4.out.free 2
          have f3 := HT4.out.free 3
          simp only [zeroSky, List.getElem?_toArray, List.getElem?_cons_succ, List.getElem?_cons_zero] at t0 t1 t2 t3
          clear hx'
          go_wp2_with fail
          refine bodyPost_ret (rread_results _ _ w.heap.size _ _ _ _ true rfl rfl ((((HT4.out.set_ 0 (.slice A1 s.bodies.length c1)).set_ 1 (.int .i64 s.nnum)).set_ 2 (.int .i64 s.nden)).set_ 3 (.int .i64 s.nstart))) rfl ?_
          obtain ⟨A2, c2, hA2, hB6, _⟩ := ((((HBO4.out.below (p := ⟨w.heap.size, 0, none⟩) hbl (.slice A1 s.bodies.length c1)).below (p := ⟨w.heap.size, 1, none⟩) hbl (.int .i64 s.nnum)).below (p := ⟨w.heap.size, 2, none⟩) hbl (.int .i64 s.nden)).below (p := ⟨w.heap.size, 3, none⟩) hbl (.int .i64 s.nstart)).bodies
          obtain ⟨rfl, rfl⟩ : A1 = A2 ∧ c1 = c2 := by simpa using hA2
          exact ⟨(((HEW4.out.setCell (Nat.le_refl _) _).setCell (Nat.le_refl _) _).setCell (Nat.le_refl _) _).setCell (Nat.le_refl _) _, .inr ⟨s, A1, c1, HYES.out, HSK.out, rfl, hB6⟩⟩
        · have e1 : ((bs (textL s)).toList == (bs x).toList) = false := by rw [toList_bs, toList_bs]; simpa using hx'
          have e2 : ((bs (textL s)).toList != (bs x).toList) = true := by rw [toList_bs, toList_bs]; simpa using hx'
          have t0 := HT4.out.cell 0
          have t1 := HT4.out.cell 1
          have t2 := HT4.out.cell 2
          have t3 := HT4.out.cell 3
          have f0 := HT4.out.free 0
          have f1 := HT4.out.free 1
          have f2 := HT4.out.free 2
          have f3 := HT4.out.free 3
          simp only [zeroSky, List.getElem?_toArray, List.getElem?_cons_succ, List.getElem?_cons_zero] at t0 t1 t2 t3
          have HNO : Hid (readR x = none) := Lib.hid (by rw [HRD2.out, if_pos (.inr hx')])
          go_wp2_with fail
          refine bodyPost_ret (rread_results _ _ w.heap.size _ _ _ _ false rfl rfl ((((HT4.out.set_ 0 (.slice none 0 0)).set_ 1 (.int .i64 0)).set_ 2 (.int .i64 0)).set_ 3 (.int .i64 0))) rfl ?_
          exact ⟨(((HEW4.out.setCell (Nat.le_refl _) _).setCell (Nat.le_refl _) _).setCell (Nat.le_refl _) _).setCell (Nat.le_refl _) _, .inl ⟨HNO.out, rfl⟩⟩
end Go.Proofs.YtlcddcnmoajpjaaGreatDoor
