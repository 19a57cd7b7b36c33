/- Ecl: The walks of layer 5: Eclipses. (Printed by wip/mkecl.py.)
Next: The walks of layer 5: Next. -/
import Derived.Test.YtlcddcnmoajpjaaGreatDoorV05
import Derived.Test.YtlcddcnmoajpjaaGreatDoorV06
namespace Go.Proofs.YtlcddcnmoajpjaaGreatDoor
open Go.RowKit
open Sp (rd)

def eclCells (l : List Sp.Ecl) : List Value := l.flatMap fun m => [.int .i64 m.day, .bool m.full, .int .i64 m.far]
theorem eclCells_append (l m : List Sp.Ecl) : eclCells (l ++ m) = eclCells l ++ eclCells m := by simp [eclCells]
theorem eclsOf_append (s : Sp.Sky) (nw fl : Int) (l : List (Int × Bool)) (m : Int × Bool) : Sp.eclsOf s nw fl (l ++ [m]) = Sp.eclsOf s nw fl l ++ Sp.eclOf s nw fl m := by
  induction l with
  | nil => simp [Sp.eclsOf]
  | cons x l ih => simp [Sp.eclsOf, ih]
theorem eclOf_le (s : Sp.Sky) (nw fl : Int) (m : Int × Bool) : (Sp.eclOf s nw fl m).length ≤ 1 := by
  unfold Sp.eclOf
  by_cases h : Sp.far s m.1 ≤ (if m.2 = true then fl else nw)
  · rw [if_pos h]; exact Nat.le_refl _
  · rw [if_neg h]; exact Nat.zero_le _
theorem ecls_le (s : Sp.Sky) (nw fl : Int) (l : List (Int × Bool)) : (Sp.eclsOf s nw fl l).length ≤ l.length := by
  induction l with
  | nil => simp [Sp.eclsOf]
  | cons x l ih =>
    have := eclOf_le s nw fl x
    simp only [Sp.eclsOf, List.length_append, List.length_cons]
    omega
theorem moonsN_le (s : Sp.Sky) (lo : Int) (k : Nat) : (Sp.moonsN s lo k).length ≤ 2 * k := by
  induction k with
  | zero => simp [Sp.moonsN]
  | succ k ih =>
    have : (Sp.dayMoons s (lo + (k : Nat))).length ≤ 2 := by
      unfold Sp.dayMoons
      split <;> split <;> simp
    simp only [Sp.moonsN, List.length_append]
    omega
theorem moonsN_days (s : Sp.Sky) (lo : Int) (k : Nat) : ∀ m ∈ Sp.moonsN s lo k, lo ≤ m.1 ∧ m.1 < lo + k := by
  induction k with
  | zero => intro m hm; simp [Sp.moonsN] at hm
  | succ k ih =>
    intro m hm
    simp only [Sp.moonsN, List.mem_append] at hm
    rcases hm with hm | hm
    · have := ih m hm
      omega
    · have hd : m.1 = lo + (k : Nat) := by
        unfold Sp.dayMoons at hm
        simp only [List.mem_append] at hm
        rcases hm with hm | hm <;> split at hm <;> simp at hm <;> rw [hm]
      omega
theorem info_ecl : (Tryz.prog.info? 56).map (fun i => (i.zero, i.size, i.bytes)) = some (some (.agg #[.int .i64 0, .bool false, .int .i64 0]), 3, 24) := by kernel_rfl
/-- A list of eclipses in memory. -/
def EclVal (w : World) (v : Value) (l : List Sp.Ecl) : Prop := ∃ A c, v = .slice A l.length c ∧
  (0 < l.length → ∃ b o, A = some ⟨b, o, none⟩ ∧ ∀ k, (hk : k < l.length) → w.cell? ⟨b, o + k * 3, none⟩ = some (.int .i64 l[k].day) ∧ w.cell? ⟨b, o + k * 3 + 1, none⟩ = some (.bool l[k].full) ∧ w.cell? ⟨b, o + k * 3 + 2, none⟩ = some (.int .i64 l[k].far))
theorem EclVal.ext {w w' : World} {v : Value} {l : List Sp.Ecl} (h : EclVal w v l) (he : Ext w w') : EclVal w' v l :=
  let ⟨A, c, e, hc⟩ := h
  ⟨A, c, e, fun h0 => let ⟨b, o, e2, hk⟩ := hc h0; ⟨b, o, e2, fun k hk' => ⟨he.cell (hk k hk').1, he.cell (hk k hk').2.1, he.cell (hk k hk').2.2⟩⟩⟩
theorem eclCells_get (l : List Sp.Ecl) : ∀ k (hk : k < l.length), (eclCells l)[k * 3]? = some (.int .i64 l[k].day) ∧ (eclCells l)[k * 3 + 1]? = some (.bool l[k].full) ∧ (eclCells l)[k * 3 + 2]? = some (.int .i64 l[k].far) := by
  induction l with
  | nil => intro k hk; simp at hk
  | cons m l ih =>
    intro k hk
    cases k with
    | zero => simp [eclCells]
    | succ k =>
      have := ih k (by simpa using hk)
      simp only [eclCells, List.flatMap_cons] at this ⊢
      rw [show (k + 1) * 3 = k * 3 + 3 by omega]
      simpa using this
theorem EclVal.of_own {w : World} {base : Nat} {v : Value} {l : List Sp.Ecl} (h : w.ownsRow base 56 3 v l.length (eclCells l)) : EclVal w v l := by
  rcases h.2 with ⟨rfl, h0⟩ | ⟨g, cap, cur, hv, _⟩
  · exact ⟨none, 0, by rw [h0], fun hh => by omega⟩
  · refine ⟨some ⟨g, 0, none⟩, cap, hv, fun _ => ⟨g, 0, rfl, fun k hk => ?_⟩⟩
    have hc := h.cells (g := g) (by rw [hv]; rfl)
    have h1 := hc _ _ (eclCells_get l k hk).1
    have h2 := hc _ _ (eclCells_get l k hk).2.1
    have h3 := hc _ _ (eclCells_get l k hk).2.2
    rw [add0] at h1 h2 h3
    exact ⟨by simpa using h1, by simpa using h2, by simpa using h3⟩
theorem limit_of {n : Int} (h : Sp.isLimit n = true) : 0 ≤ n ∧ n ≤ 5400 := inR_iff.1 h
/-- Between two rounds. -/
def EclRel (w : World) (s : Sp.Sky) (nw fl : Int) (l : List (Int × Bool)) (v d : Value) (wr : World) : Prop :=
  ∃ k : Nat, k ≤ l.length ∧ d = .int .i64 k ∧ wr.ownsRow w.heap.size 56 3 v (Sp.eclsOf s nw fl (l.take k)).length (eclCells (Sp.eclsOf s nw fl (l.take k))) ∧ Ext w wr

set_option maxHeartbeats 1000000
set_option maxRecDepth 100000
theorem Ecl_err (s : Sp.Sky) (A : Option Addr) (c : Nat) (nw fl lo hi : Int) (w : World) (hm : Bodies w A s.bodies) (hl : Short s.bodies) (h : (Sp.skyOk s && (Sp.isLimit nw && (Sp.isLimit fl && (Sp.isSpan lo hi)))) = false) :
    Calls Tryz.prog 33 #[.agg #[.slice A s.bodies.length c, .int .i64 s.nnum, .int .i64 s.nden, .int .i64 s.nstart], .int .i64 nw, .int .i64 fl, .int .i64 lo, .int .i64 hi] w fun e w' => e = .returned (.tuple #[.slice none 0 0, .int .i64 2]) ∧ Ext w w' := by
  have hl1 := hl.1
  have HL := Lib.hid hl
  have HM := Lib.hid hm
  clear hm hl
  cases c0 : Sp.skyOk s
  · clear h
    go_enter Tryz.func33, Tryz.ntmps33
    go_wp2_with fail
    refine (isSky_any s A c _ (HM.out.ext ((Ext.refl w).alloc _)) HL.out).mono ?_
    rintro e w1 ⟨rfl, hE1⟩
    have hE := ((Ext.refl w).alloc _).trans hE1
    have hr : Row w1 w.heap.size 28 _ := (Row.new w _ _).ext hE1
    have b0 := hr.cell
    clear hE1
    go_wp2_with fail
    go_ret2
    exact ⟨rfl, hE⟩
  cases c1 : Sp.isLimit nw
  · clear h
    go_enter Tryz.func33, Tryz.ntmps33
    go_wp2_with fail
    refine (isSky_any s A c _ (HM.out.ext ((Ext.refl w).alloc _)) HL.out).mono ?_
    rintro e w1 ⟨rfl, hE1⟩
    have hE := ((Ext.refl w).alloc _).trans hE1
    have hr : Row w1 w.heap.size 28 _ := (Row.new w _ _).ext hE1
    have b0 := hr.cell
    clear hE1
    go_wp2_with fail
    refine (isLimit_any nw _).mono ?_
    rintro e w0 ⟨rfl, rfl⟩
    go_wp2_with fail
    go_ret2
    exact ⟨rfl, hE⟩
  cases c2 : Sp.isLimit fl
  · clear h
    go_enter Tryz.func33, Tryz.ntmps33
    go_wp2_with fail
    refine (isSky_any s A c _ (HM.out.ext ((Ext.refl w).alloc _)) HL.out).mono ?_
    rintro e w1 ⟨rfl, hE1⟩
    have hE := ((Ext.refl w).alloc _).trans hE1
    have hr : Row w1 w.heap.size 28 _ := (Row.new w _ _).ext hE1
    have b0 := hr.cell
    clear hE1
    go_wp2_with fail
    refine (isLimit_any nw _).mono ?_
    rintro e w0 ⟨rfl, rfl⟩
    go_wp2_with fail
    refine (isLimit_any fl _).mono ?_
    rintro e w0 ⟨rfl, rfl⟩
    go_wp2_with fail
    go_ret2
    exact ⟨rfl, hE⟩
  cases c3 : Sp.isSpan lo hi
  · clear h
    go_enter Tryz.func33, Tryz.ntmps33
    go_wp2_with fail
    refine (isSky_any s A c _ (HM.out.ext ((Ext.refl w).alloc _)) HL.out).mono ?_
    rintro e w1 ⟨rfl, hE1⟩
    have hE := ((Ext.refl w).alloc _).trans hE1
    have hr : Row w1 w.heap.size 28 _ := (Row.new w _ _).ext hE1
    have b0 := hr.cell
    clear hE1
    go_wp2_with fail
    refine (isLimit_any nw _).mono ?_
    rintro e w0 ⟨rfl, rfl⟩
    go_wp2_with fail
    refine (isLimit_any fl _).mono ?_
    rintro e w0 ⟨rfl, rfl⟩
    go_wp2_with fail
    refine (isSpan_any lo hi _).mono ?_
    rintro e w0 ⟨rfl, rfl⟩
    go_wp2_with fail
    go_ret2
    exact ⟨rfl, hE⟩
  · simp [c0, c1, c2, c3] at h

theorem Ecl_ok (s : Sp.Sky) (A : Option Addr) (c : Nat) (nw fl lo hi : Int) (w : World) (hm : Bodies w A s.bodies) (hl : Short s.bodies)  (c0 : Sp.skyOk s = true) (c1 : Sp.isLimit nw = true) (c2 : Sp.isLimit fl = true) (c3 : Sp.isSpan lo hi = true) :
    Calls Tryz.prog 33 #[.agg #[.slice A s.bodies.length c, .int .i64 s.nnum, .int .i64 s.nden, .int .i64 s.nstart], .int .i64 nw, .int .i64 fl, .int .i64 lo, .int .i64 hi] w fun e w' => ∃ v, e = .returned (.tuple #[v, .int .i64 0]) ∧ EclVal w' v (Sp.ecls s nw fl lo hi) ∧ Ext w w' := by
  have hl1 := hl.1
  have HL := Lib.hid hl
  have HM := Lib.hid hm
  clear hm hl
  go_enter Tryz.func33, Tryz.ntmps33
  go_wp2_with fail
  refine (isSky_any s A c _ (HM.out.ext ((Ext.refl w).alloc _)) HL.out).mono ?_
  rintro e w1 ⟨rfl, hE1⟩
  have hE := ((Ext.refl w).alloc _).trans hE1
  have hr : Row w1 w.heap.size 28 _ := (Row.new w _ _).ext hE1
  have b0 := hr.cell
  clear hE1
  go_wp2_with fail
  refine (isLimit_any nw _).mono ?_
  rintro e w0 ⟨rfl, rfl⟩
  go_wp2_with fail
  refine (isLimit_any fl _).mono ?_
  rintro e w0 ⟨rfl, rfl⟩
  go_wp2_with fail
  refine (isSpan_any lo hi _).mono ?_
  rintro e w0 ⟨rfl, rfl⟩
  have HK := Lib.hid (skyOk_iff.1 c0)
  obtain ⟨d1, d2, d3, d4⟩ := span_of c3
  obtain ⟨e1, e2⟩ := limit_of c1
  obtain ⟨e3, e4⟩ := limit_of c2
  obtain ⟨i0, hi0, hi1, hi2, hi3⟩ := info_parts info_ecl
  go_wp2_with fail
  refine (moons_any s A c lo hi _ HK.out (HM.out.ext hE) d1 d3 d4).mono ?_
  rintro e w2 ⟨v, base, rfl, _, hown, hE1⟩
  have hv := MoonsVal.of_own hown
  have hll := moonsN_le s lo (hi + 1 - lo).toNat
  have HD := Lib.hid (moonsN_days s lo (hi + 1 - lo).toNat)
  obtain ⟨l, hL⟩ : ∃ l, Sp.moonsL s lo hi = l := ⟨_, rfl⟩
  rw [show Sp.moonsN s lo (hi + 1 - lo).toNat = l from hL] at hll HD
  have hEq : Sp.ecls s nw fl lo hi = Sp.eclsOf s nw fl l := by rw [← hL]; rfl
  rw [hL] at hv
  obtain ⟨AM, cM, rfl, hc⟩ := hv
  replace hE := hE.trans hE1
  replace hr := hr.ext hE1
  clear hE1 hown b0
  have HC := Lib.hid hc
  have HQ := Lib.hid hEq
  have HE := Lib.hid hE
  have hz := hE.size
  clear hc hEq hL hE
  go_wp2_with fail
  go_loopw [12, 41] (fun v d wr => EclRel w2 s nw fl l v d wr) (fun _ d _ => l.length - (intOf d).toNat)
  case atStart => exact ⟨0, Nat.zero_le _, rfl, by simp [Sp.eclsOf, eclCells, World.ownsRow], Ext.refl _⟩
  case round =>
    obtain ⟨k, hk, rfl, hown, hE⟩ := hrel
    have HE2 := Lib.hid hE
    have hz2 := hE.size
    have b0 := (hr.ext hE).cell
    by_cases hlt : k < l.length
    · have hle := ecls_le s nw fl (l.take k)
      rw [List.length_take] at hle
      have htake : l.take (k + 1) = l.take k ++ [l[k]] := by rw [List.take_succ_eq_append_getElem hlt]
      have hday := HD.out l[k] (List.getElem_mem hlt)
      have hcc := HC.out (by omega)
      obtain ⟨b, o, rfl, hcell⟩ := hcc
      obtain ⟨q1, q2⟩ := hcell k hlt
      replace q1 := hE.cell q1
      replace q2 := hE.cell q2
      have hnext : Sp.eclsOf s nw fl (l.take (k + 1)) = Sp.eclsOf s nw fl (l.take k) ++ Sp.eclOf s nw fl l[k] := by rw [htake, eclsOf_append]
      obtain ⟨L, hL⟩ : ∃ L, Sp.eclsOf s nw fl (l.take k) = L := ⟨_, rfl⟩
      rw [hL] at hown hle hnext
      have HN := Lib.hid hnext
      obtain ⟨m, hm⟩ : ∃ m, l[k] = m := ⟨_, rfl⟩
      rw [hm] at q1 q2 hday HN
      clear hE hcell htake hnext hL hm
      obtain ⟨md, mf⟩ := m
      simp only at q1 q2 hday
      have j1 := lts (lt_of_cell q1)
      have j0 := lts (show w.heap.size < wr.heap.size by have := hr.lt; omega)
      have HO := Lib.hid hown
      cases mf
      · go_wp2_with fail
        refine (far_any s A c md _ HK.out (HM.out.ext ((HE.out.trans HE2.out).alloc _)) (by omega) (by omega)).mono ?_
        rintro e w3 ⟨rfl, hE3⟩
        have n3 := ((Row.new wr 40 #[.int .i64 md, .bool false]).ext hE3).cell
        have HE3 := Lib.hid hE3
        have hz3 := hE3.size
        rw [World.size_alloc] at hz3
        clear b0 q1 q2
        have hown3 := ownsRow_of_block (hown.alloc (.cells #[.int .i64 md, .bool false] 40)) (fun g hg => hE3.block g ((hown.alloc _).lt g hg).2)
        clear hown hE3
        by_cases hf : Sp.far s md ≤ nw <;> have HF := Lib.hid hf
        · have hown4 := hown3.alloc (.cells #[.int .i64 md, .bool false, .int .i64 (Sp.far s md)] 56)
          have HO4 := Lib.hid hown4
          go_wp2_with (at_builtin; refine wpList_append_lies _ rfl _ _ 44 rfl w2.heap.size 56 i0 _ 3 24 Tryz.underlying44 hi0 hi1 hi2 hi3 rfl (by decide) _ L.length (eclCells L) rfl hown4 ⟨w3.heap.size, 0, none⟩ 1 1 [.int .i64 md, .bool false, .int .i64 (Sp.far s md)] rfl rfl (World.news_of_block (cs := #[.int .i64 md, .bool false, .int .i64 (Sp.far s md)]) (t := 56) (fr := (0, 0)) (heap_alloc_new _ _)) (by simp [Value.oneCell']) (by omega) (by simp only [maxLen]; omega) (by omega) (by simp; omega) _ rfl ?_; intro gg cap w4 hown5 hgrow hat hlt4; have HO5 := Lib.hid hown5; have HG := Lib.hid hgrow; clear hown5 hgrow)
          refine ⟨⟨k + 1, by omega, by go_num, ?_, (((HE2.out.alloc _).trans HE3.out).alloc _).grown HG.out (fun g hg => (HO4.out.lt g hg).1)⟩, by simp [intOf]; omega⟩
          rw [HN.out]
          simpa [Sp.eclOf, HF.out, eclCells_append, eclCells] using HO5.out
        · go_wp2_with fail
          refine ⟨⟨k + 1, by omega, by go_num, ?_, (HE2.out.alloc _).trans HE3.out⟩, by simp [intOf]; omega⟩
          rw [HN.out, show Sp.eclOf s nw fl (md, false) = [] from if_neg (Int.not_le.2 HF.out)]
          simpa using hown3
      · go_wp2_with fail
        refine (far_any s A c md _ HK.out (HM.out.ext ((HE.out.trans HE2.out).alloc _)) (by omega) (by omega)).mono ?_
        rintro e w3 ⟨rfl, hE3⟩
        have n3 := ((Row.new wr 40 #[.int .i64 md, .bool true]).ext hE3).cell
        have HE3 := Lib.hid hE3
        have hz3 := hE3.size
        rw [World.size_alloc] at hz3
        clear b0 q1 q2
        have hown3 := ownsRow_of_block (hown.alloc (.cells #[.int .i64 md, .bool true] 40)) (fun g hg => hE3.block g ((hown.alloc _).lt g hg).2)
        clear hown hE3
        by_cases hf : Sp.far s md ≤ fl <;> have HF := Lib.hid hf
        · have hown4 := hown3.alloc (.cells #[.int .i64 md, .bool true, .int .i64 (Sp.far s md)] 56)
          have HO4 := Lib.hid hown4
          go_wp2_with (at_builtin; refine wpList_append_lies _ rfl _ _ 44 rfl w2.heap.size 56 i0 _ 3 24 Tryz.underlying44 hi0 hi1 hi2 hi3 rfl (by decide) _ L.length (eclCells L) rfl hown4 ⟨w3.heap.size, 0, none⟩ 1 1 [.int .i64 md, .bool true, .int .i64 (Sp.far s md)] rfl rfl (World.news_of_block (cs := #[.int .i64 md, .bool true, .int .i64 (Sp.far s md)]) (t := 56) (fr := (0, 0)) (heap_alloc_new _ _)) (by simp [Value.oneCell']) (by omega) (by simp only [maxLen]; omega) (by omega) (by simp; omega) _ rfl ?_; intro gg cap w4 hown5 hgrow hat hlt4; have HO5 := Lib.hid hown5; have HG := Lib.hid hgrow; clear hown5 hgrow)
          refine ⟨⟨k + 1, by omega, by go_num, ?_, (((HE2.out.alloc _).trans HE3.out).alloc _).grown HG.out (fun g hg => (HO4.out.lt g hg).1)⟩, by simp [intOf]; omega⟩
          rw [HN.out]
          simpa [Sp.eclOf, HF.out, eclCells_append, eclCells] using HO5.out
        · go_wp2_with fail
          refine ⟨⟨k + 1, by omega, by go_num, ?_, (HE2.out.alloc _).trans HE3.out⟩, by simp [intOf]; omega⟩
          rw [HN.out, show Sp.eclOf s nw fl (md, true) = [] from if_neg (Int.not_le.2 HF.out)]
          simpa using hown3
    · obtain rfl : k = l.length := by omega
      clear b0
      have HO := Lib.hid hown
      clear hown
      go_wp2_with fail
      go_ret2
      refine ⟨_, rfl, ?_, HE.out.trans HE2.out⟩
      have := EclVal.of_own (l := Sp.eclsOf s nw fl (l.take l.length)) HO.out
      rwa [List.take_length, ← HQ.out] at this

end Go.Proofs.YtlcddcnmoajpjaaGreatDoor

namespace Go.Proofs.YtlcddcnmoajpjaaGreatDoor
open Go.RowKit Go.Shelf
open Sp (rd)

def moonV : Bool → Value
  | true => .iface 161 (.agg #[])
  | false => .iface 160 (.agg #[])
theorem moonOf_any (full : Bool) (w : World) : Calls Tryz.prog 141 #[.bool full] w fun e w' => e = .returned (moonV full) ∧ Ext w w' := by
  cases full
  · go_enter Tryz.func141, Tryz.ntmps141
    go_wp2_with fail
    go_ret
    exact ⟨rfl, Ext.refl _⟩
  · go_enter Tryz.func141, Tryz.ntmps141
    go_wp2_with fail
    go_ret
    exact ⟨rfl, Ext.refl _⟩
theorem has_any (s : Sp.Sky) (A : Option Addr) (c : Nat) (day : Int) (full : Bool) (w : World) (hs : SkyOk s) (hm : Bodies w A s.bodies) (h2 : 1 ≤ day) (h3 : day ≤ 20000) :
    Calls Tryz.prog 115 #[.agg #[.slice A s.bodies.length c, .int .i64 s.nnum, .int .i64 s.nden, .int .i64 s.nstart, .int .i64 day], moonV full] w fun e w' => e = .returned (.bool (Sp.moonB s day full)) ∧ Ext w w' := by
  cases full
  · exact hasNew s A c day w hs hm h2 h3
  · exact hasFull s A c day w hs hm h2 h3
theorem blocks4 (w : World) (o1 o2 o3 o4 : Obj) : ((((w.alloc o1).alloc o2).alloc o3).alloc o4).heap[w.heap.size]? = some o1 ∧ ((((w.alloc o1).alloc o2).alloc o3).alloc o4).heap[w.heap.size + 1]? = some o2 ∧ ((((w.alloc o1).alloc o2).alloc o3).alloc o4).heap[w.heap.size + 2]? = some o3 ∧ ((((w.alloc o1).alloc o2).alloc o3).alloc o4).heap[w.heap.size + 3]? = some o4 :=
  ⟨(Below.heap_alloc _ _ _ (by simp; omega)).trans (blocks3 w o1 o2 o3).1, (Below.heap_alloc _ _ _ (by simp)).trans (blocks3 w o1 o2 o3).2.1, (Below.heap_alloc _ _ _ (by simp)).trans (blocks3 w o1 o2 o3).2.2, by have := heap_alloc_new (((w.alloc o1).alloc o2).alloc o3) o4; simpa using this⟩

theorem next_results (tmps : Array Value) (W : World) (b2 b3 : Nat) (x e : Int) (h6 : tmps[6]?.getD undef = .pointer (some ⟨b2, 0, none⟩)) (h7 : tmps[7]?.getD undef = .pointer (some ⟨b3, 0, none⟩))
    (c2 : W.cell? ⟨b2, 0, none⟩ = some (.int .i64 x)) (c3 : W.cell? ⟨b3, 0, none⟩ = some (.int .i64 e)) : (results Tryz.f80 tmps).run Tryz.prog W = .ok (.tuple #[.int .i64 x, .int .i64 e]) W := by
  simp [results, Tryz.results80, go_sem, h6, h7, c2, c3]
/-- Both results stored. -/
theorem two_stored {w : World} {b2 b3 : Nat} {t2 t3 : TypeId} {u2 u3 : Value} (h2 : Row w b2 t2 #[u2]) (h3 : Row w b3 t3 #[u3]) (hne : b2 ≠ b3) (v2 v3 : Value) :
    ((w.setCell ⟨b2, 0, none⟩ v2).setCell ⟨b3, 0, none⟩ v3).cell? ⟨b2, 0, none⟩ = some v2 ∧ ((w.setCell ⟨b2, 0, none⟩ v2).setCell ⟨b3, 0, none⟩ v3).cell? ⟨b3, 0, none⟩ = some v3 := by
  have r2 : Row ((w.setCell ⟨b2, 0, none⟩ v2).setCell ⟨b3, 0, none⟩ v3) b2 t2 #[v2] := by simpa using (h2.set_ 0 v2).far (p := ⟨b3, 0, none⟩) hne v3
  have r3 : Row ((w.setCell ⟨b2, 0, none⟩ v2).setCell ⟨b3, 0, none⟩ v3) b3 t3 #[v3] := by simpa using (h3.far (p := ⟨b2, 0, none⟩) (Ne.symm hne) v2).set_ 0 v3
  exact ⟨by simpa using r2.cell 0, by simpa using r3.cell 0⟩

def nextV (s : Sp.Sky) (day : Int) (full : Bool) : Value := match Sp.nextO s day full with
  | some d => .tuple #[.int .i64 d, .int .i64 0]
  | none => .tuple #[.int .i64 0, .int .i64 5]
theorem Next_err1 (s : Sp.Sky) (A : Option Addr) (c : Nat) (day : Int) (full : Bool) (w : World) (hm : Bodies w A s.bodies) (hl : Short s.bodies) (c0 : Sp.skyOk s = false) :
    Calls Tryz.prog 80 #[.agg #[.slice A s.bodies.length c, .int .i64 s.nnum, .int .i64 s.nden, .int .i64 s.nstart], .int .i64 day, .bool full] w fun e w' => e = .returned (.tuple #[.int .i64 0, .int .i64 2]) ∧ Ext w w' := by
  have hl1 := hl.1
  have HL := Lib.hid hl
  have HM := Lib.hid hm
  clear hm hl
  go_enter Tryz.func80, Tryz.ntmps80
  go_wp2_with fail
  refine (isSky_any s A c _ (HM.out.ext (((((Ext.refl w).alloc _).alloc _).alloc _).alloc _)) HL.out).mono ?_
  rintro e w1 ⟨rfl, hE1⟩
  have hE := (((((Ext.refl w).alloc _).alloc _).alloc _).alloc _).trans hE1
  have hr2 : Row w1 (w.heap.size + 2) 3 _ := Row.ext (blocks4 w _ _ _ _).2.2.1 hE1
  have hr3 : Row w1 (w.heap.size + 3) 32 _ := Row.ext (blocks4 w _ _ _ _).2.2.2 hE1
  have b2 := hr2.cell
  have b3 := hr3.cell
  have f2 := hr2.free
  have f3 := hr3.free
  clear hE1
  rw [c0]
  go_wp2_with fail
  have hc := two_stored hr2 hr3 (by omega) (.int .i64 0) (.int .i64 2)
  refine bodyPost_ret (next_results _ _ (w.heap.size + 2) (w.heap.size + 3) 0 2 rfl rfl hc.1 hc.2) rfl ?_
  exact ⟨rfl, (hE.setCell (by simp; omega) _).setCell (by simp; omega) _⟩
theorem Next_err2 (s : Sp.Sky) (A : Option Addr) (c : Nat) (day : Int) (full : Bool) (w : World) (hm : Bodies w A s.bodies) (hl : Short s.bodies) (c0 : Sp.skyOk s = true) (c1 : Sp.isDay day = false) :
    Calls Tryz.prog 80 #[.agg #[.slice A s.bodies.length c, .int .i64 s.nnum, .int .i64 s.nden, .int .i64 s.nstart], .int .i64 day, .bool full] w fun e w' => e = .returned (.tuple #[.int .i64 0, .int .i64 2]) ∧ Ext w w' := by
  have hl1 := hl.1
  have HL := Lib.hid hl
  have HM := Lib.hid hm
  clear hm hl
  go_enter Tryz.func80, Tryz.ntmps80
  go_wp2_with fail
  refine (isSky_any s A c _ (HM.out.ext (((((Ext.refl w).alloc _).alloc _).alloc _).alloc _)) HL.out).mono ?_
  rintro e w1 ⟨rfl, hE1⟩
  have hE := (((((Ext.refl w).alloc _).alloc _).alloc _).alloc _).trans hE1
  have hr2 : Row w1 (w.heap.size + 2) 3 _ := Row.ext (blocks4 w _ _ _ _).2.2.1 hE1
  have hr3 : Row w1 (w.heap.size + 3) 32 _ := Row.ext (blocks4 w _ _ _ _).2.2.2 hE1
  have b2 := hr2.cell
  have b3 := hr3.cell
  have f2 := hr2.free
  have f3 := hr3.free
  clear hE1
  rw [c0]
  go_wp2_with fail
  refine (isDay_any day _).mono ?_
  rintro e w0 ⟨rfl, rfl⟩
  rw [c1]
  go_wp2_with fail
  have hc := two_stored hr2 hr3 (by omega) (.int .i64 0) (.int .i64 2)
  refine bodyPost_ret (next_results _ _ (w.heap.size + 2) (w.heap.size + 3) 0 2 rfl rfl hc.1 hc.2) rfl ?_
  exact ⟨rfl, (hE.setCell (by simp; omega) _).setCell (by simp; omega) _⟩

attribute [local go_sem] Oper.semAt_some

theorem nextN_none (s : Sp.Sky) (full : Bool) : ∀ (n : Nat) (lo : Int), (∀ k : Nat, k < n → Sp.moonB s (lo + k) full = false) → Sp.nextN s full lo n = none
  | 0, _, _ => rfl
  | n + 1, lo, h => by
    have h0 := h 0 (by omega)
    simp only [Int.natCast_zero, Int.add_zero] at h0
    simp only [Sp.nextN, h0, Bool.false_eq_true, if_false]
    refine nextN_none s full n (lo + 1) fun k hk => ?_
    have := h (k + 1) (by omega)
    rwa [show lo + 1 + (k : Int) = lo + ((k + 1 : Nat) : Int) by omega]
theorem nextN_some (s : Sp.Sky) (full : Bool) : ∀ (n : Nat) (lo : Int) (j : Nat), j < n → (∀ k : Nat, k < j → Sp.moonB s (lo + k) full = false) → Sp.moonB s (lo + j) full = true → Sp.nextN s full lo n = some (lo + j)
  | 0, _, _, h, _, _ => by omega
  | n + 1, lo, 0, _, _, h1 => by
    simp only [Int.natCast_zero, Int.add_zero] at h1 ⊢
    simp [Sp.nextN, h1]
  | n + 1, lo, j + 1, hj, h, h1 => by
    have h0 := h 0 (by omega)
    simp only [Int.natCast_zero, Int.add_zero] at h0
    simp only [Sp.nextN, h0, Bool.false_eq_true, if_false]
    have := nextN_some s full n (lo + 1) j (by omega) (fun k hk => by
      have := h (k + 1) (by omega)
      rwa [show lo + 1 + (k : Int) = lo + ((k + 1 : Nat) : Int) by omega]) (by rwa [show lo + 1 + (j : Int) = lo + ((j + 1 : Nat) : Int) by omega])
    rw [this]
    congr 1
    omega
theorem days_get {pre : List Day1} {lo : Int} {n : Nat} (h : pre.map Subtype.val = daysL lo n) : pre.length = n ∧ ∀ k (hk : k < pre.length), (pre[k]).1 = lo + (k : Nat) := by
  have hl : pre.length = n := by have := congrArg List.length h; simpa [daysL] using this
  refine ⟨hl, fun k hk => ?_⟩
  have h1 : (pre.map Subtype.val)[k]? = (daysL lo n)[k]? := by rw [h]
  simp only [List.getElem?_map, daysL] at h1
  rw [List.getElem?_eq_getElem hk, List.getElem?_range (by omega)] at h1
  simpa using h1
theorem next_none (s : Sp.Sky) (day lo : Int) (full : Bool) (hlo : max 1 day = lo) (xs : List Day1) (h : DaysAll lo 20000 xs) (hn : ∀ x ∈ xs, Sp.moonB s x.1 full = false) : nextV s day full = .tuple #[.int .i64 0, .int .i64 5] := by
  obtain ⟨hl, hg⟩ := days_get (n := (20000 + 1 - lo).toNat) h
  have : Sp.nextO s day full = none := by
    unfold Sp.nextO
    rw [hlo]
    refine nextN_none s full _ lo fun k hk => ?_
    have hk' : k < xs.length := by omega
    rw [← hg k hk']
    exact hn _ (List.getElem_mem hk')
  simp [nextV, this]
theorem next_some (s : Sp.Sky) (day lo : Int) (full : Bool) (hlo : max 1 day = lo) (init : List Day1) (x : Day1) (h : DaysSome lo 20000 (init ++ [x])) (hn : ∀ y ∈ init, Sp.moonB s y.1 full = false) (h1 : Sp.moonB s x.1 full = true) : nextV s day full = .tuple #[.int .i64 x.1, .int .i64 0] := by
  obtain ⟨k, hk, h⟩ := h
  obtain ⟨hl, hg⟩ := days_get h
  simp only [List.length_append, List.length_cons, List.length_nil] at hl
  have hx : x.1 = lo + (init.length : Nat) := by
    have := hg init.length (by simp)
    simpa using this
  have : Sp.nextO s day full = some (lo + (init.length : Nat)) := by
    unfold Sp.nextO
    rw [hlo]
    refine nextN_some s full _ lo init.length (by omega) (fun k hk => ?_) (by rw [← hx]; exact h1)
    have hg' := hg k (by simp; omega)
    rw [List.getElem_append_left hk] at hg'
    rw [← hg']
    exact hn _ (List.getElem_mem hk)
  simp [nextV, this, hx]
def NextI (w : World) (s : Sp.Sky) (full : Bool) (pre : List Day1) (W : World) : Prop := (∀ x ∈ pre, Sp.moonB s x.1 full = false) ∧ (Below w.heap.size w W ∧ w.heap.size + 3 ≤ W.heap.size)
def NextX (w0 : World) (s : Sp.Sky) (full : Bool) (c : Code) (pre : List Day1) (W : World) : Prop := c = .ret ∧ ∃ init x, pre = init ++ [x] ∧ (∀ y ∈ init, Sp.moonB s y.1 full = false) ∧ Sp.moonB s x.1 full = true ∧
  Row W (w0.heap.size + 2) 3 #[.int .i64 x.1] ∧ Row W (w0.heap.size + 3) 32 #[.int .i64 0] ∧ Below w0.heap.size w0 W
theorem nextI_own (w : World) (s : Sp.Sky) (full : Bool) (B : Nat) (hB : w.heap.size ≤ B) : OwnFrom B (NextI w s full) := fun _ _ _ _ ⟨h, hb, hz⟩ hg hr =>
  ⟨h, hb.grown hg hb.size (fun k e => Nat.le_trans hB (hr k e).1), Nat.le_trans hz hg.size⟩
theorem nextX_own (w : World) (s : Sp.Sky) (full : Bool) (B : Nat) (hB : w.heap.size ≤ B) (c : Code) : OwnFrom B (NextX w s full c) := fun _ _ _ _ ⟨e, i, x, h1, h2, h3, h4, h5, hb⟩ hg hr =>
  ⟨e, i, x, h1, h2, h3, h4.kept hg fun r e => (hr r e).2, h5.kept hg fun r e => (hr r e).2, hb.grown hg hb.size (fun k e => Nat.le_trans hB (hr k e).1)⟩
theorem keepsFrom_ext {W W' : World} (h : Ext W W') (B : Nat) : KeepsFrom B W W' := ⟨h.size, fun k _ _ hk _ => (h.block k (Array.getElem?_eq_some_iff.1 hk).1).trans hk⟩
set_option maxRecDepth 100000 in
set_option maxHeartbeats 1000000 in
theorem Next_ok0 (s : Sp.Sky) (A : Option Addr) (c : Nat) (day : Int) (full : Bool) (w : World) (hm : Bodies w A s.bodies) (hl : Short s.bodies) (c0 : Sp.skyOk s = true) (c1 : Sp.isDay day = true) (hday : day ≤ 1) :
    Calls Tryz.prog 80 #[.agg #[.slice A s.bodies.length c, .int .i64 s.nnum, .int .i64 s.nden, .int .i64 s.nstart], .int .i64 day, .bool full] w fun e w' => e = .returned (nextV s day full) ∧ Ext w w' := by
  have hl1 := hl.1
  have HL := Lib.hid hl
  have HM := Lib.hid hm
  clear hm hl
  obtain ⟨d1, d2⟩ := isDay_of c1
  refine (callsIn_wide (n := 8)).1 ?_
  refine callsIn_of_wp_marks Tryz.func80 rfl trivial ?_ rfl
  simp only [Tryz.ntmps80, List.size_toArray, List.length_cons, List.length_nil, Nat.reduceAdd, Nat.reduceSub, Array.replicate_succ, Array.replicate_zero, List.push_toArray, List.append_toArray, List.nil_append, List.cons_append]
  gi_wp2
  refine ⟨trivial, (callsIn_wide.2 (isSky_any s A c _ (HM.out.ext (((((Ext.refl w).alloc _).alloc _).alloc _).alloc _)) HL.out)).mono ?_⟩
  rintro e w1 ⟨rfl, hE1⟩
  have hE := (((((Ext.refl w).alloc _).alloc _).alloc _).alloc _).trans hE1
  have hr : Row w1 w.heap.size 28 _ := Row.ext (blocks4 w _ _ _ _).1 hE1
  have hr1 : Row w1 (w.heap.size + 1) 4 _ := Row.ext (blocks4 w _ _ _ _).2.1 hE1
  have hr2 : Row w1 (w.heap.size + 2) 3 _ := Row.ext (blocks4 w _ _ _ _).2.2.1 hE1
  have hr3 : Row w1 (w.heap.size + 3) 32 _ := Row.ext (blocks4 w _ _ _ _).2.2.2 hE1
  have hz1 : w.heap.size + 4 ≤ w1.heap.size := by have := hE1.size; simpa using this
  have b0 := hr.cell
  clear hE1
  rw [c0]
  have HK := Lib.hid (skyOk_iff.1 c0)
  gi_wp2
  refine ⟨trivial, (callsIn_wide.2 (isDay_any day _)).mono ?_⟩
  rintro e w0 ⟨rfl, rfl⟩
  rw [c1]
  gi_wp2
  refine ⟨trivial, (callsIn_wide.2 (days_any A _ c s 1 20000 _)).mono ?_⟩
  rintro e w' ⟨rfl, rfl⟩
  gi_wp2
  have hlo : max 1 day = 1 := by omega
  have rS := daysW_S A s.bodies.length c s 1 20000 w1
  have rF := daysW_F A s.bodies.length c s 1 20000 w1
  have rT := daysW_T A s.bodies.length c s 1 20000 w1
  have hsz := daysW_size A s.bodies.length c s 1 20000 w1
  have hE2 := daysW_ext A s.bodies.length c s 1 20000 w1
  obtain ⟨W0, hW0⟩ : ∃ W0, daysW A s.bodies.length c s 1 20000 w1 = W0 := ⟨_, rfl⟩
  rw [hW0] at hE2 rS rF rT hsz ⊢
  clear hW0 b0
  have HE := Lib.hid hE
  have h0 : NextI w1 s full [] W0 := ⟨by simp, hE2, by omega⟩
  clear hE hE2
  refine wpIn_rangeFunc_ownH rfl (by omega) (gf := 157) (lb := #[.pointer (some ⟨w1.heap.size + 1, 0, none⟩), .pointer (some ⟨w1.heap.size + 2, 0, none⟩), .pointer (some ⟨w1.heap.size, 0, none⟩)]) rfl trivial (enters_of Tryz.func157 (by kernel_rfl) rfl)
    (days_stops (8 - 1) (by omega) A s.bodies.length c s 1 20000 (by omega) (by omega) w1.heap.size W0 rS rF rT) (fun h k => keepsTwo_t _ _ h k) (keepsTwo_b (by omega) (by omega)) (Below.refl _ _) (fun _ => rfl)
    (NextI w1 s full)
    (NextX w s full)
    (nextI_own w1 s full _ (by omega))
    (nextX_own w s full _ (by omega))
    h0
    (fun x a' W => ∃ Bx, w1.heap.size + 3 ≤ Bx ∧ Row W Bx 120 #[.slice A s.bodies.length c, .int .i64 s.nnum, .int .i64 s.nden, .int .i64 s.nstart, .int .i64 x.1] ∧ a' = (⟨#[.agg #[.slice A s.bodies.length c, .int .i64 s.nnum, .int .i64 s.nden, .int .i64 s.nstart], .int .i64 day, .bool full, .pointer (some ⟨w.heap.size, 0, none⟩), undef, .pointer (some ⟨w.heap.size + 1, 0, none⟩), .pointer (some ⟨w.heap.size + 1 + 1, 0, none⟩), .pointer (some ⟨w.heap.size + 1 + 1 + 1, 0, none⟩), .pointer (some ⟨Bx, 0, none⟩), .agg #[.slice A s.bodies.length c, .int .i64 s.nnum, .int .i64 s.nden, .int .i64 s.nstart], .bool true, .bool false, .bool false, .int .i64 day, .bool true, .bool false, .bool false, .agg #[.slice A s.bodies.length c, .int .i64 s.nnum, .int .i64 s.nden, .int .i64 s.nstart], .int .i64 day, .int .i64 1, daysV w1.heap.size, .agg #[.slice A s.bodies.length c, .int .i64 s.nnum, .int .i64 s.nden, .int .i64 s.nstart, .int .i64 x.1], undef, undef, undef, undef, undef, undef], []⟩ : Act))
    (fun x a' _ X Y row hs hg hr => by obtain ⟨Bx, h0, h1, h2⟩ := hs; exact ⟨Bx, h0, h1.kept hg fun r e => (hr r e).2, h2⟩)
    ?assign ?body ?done ?stop
  case assign =>
    rintro l pre x W K hi hK
    simp only [skyV]
    gi_wp2
    obtain ⟨hI, hB, hz⟩ := hi
    exact hK _ _ ((KeepsOthers.alloc _ _).from _) ⟨Below.heap_alloc _ _ _ (by omega), Below.heap_alloc _ _ _ (by omega)⟩ ⟨hI, hB.alloc hB.size _, by simp; omega⟩ ⟨_, by omega, Row.new _ _ _, rfl⟩
  case body =>
    rintro l pre x a' W hl ⟨r, hr'⟩ ⟨hI, hB, hz⟩ ⟨Bx, hBx, rX, rfl⟩ hlt
    have hx := x.2
    have hE1 : Ext w1 W := hB
    have HE1 := Lib.hid hE1
    have HI := Lib.hid hI
    have HE3 := Lib.hid (HE.out.trans hE1)
    clear hB hI
    gi_wp2
    refine wpIn_region_later (by kernel_rfl) (by kernel_rfl) (by kernel_rfl) (fun WW hW => ?_)
    have q1 := Later.block (w := WW) (by rw [hW]; exact rX)
    have q2 := Later.block (w := WW) (by rw [hW]; exact hr1.ext hE1)
    have HB := Lib.hid (fun X : Later WW => HM.out.ext ((by rw [hW]; exact HE3.out : Ext w WW).trans X.ext))
    clear hE1
    repeat (go_big_quiet_step ((first | (go_at_call 141; exact Later.call (moonOf_any _ _)) | (go_at_call 115; exact Later.call (has_any s A c _ full _ HK.out (by exact HB.out _) (by omega) (by omega))))))
    refine wpQuiet_nil ?_
    rintro ⟨W2, hE4⟩
    subst hW
    have hz4 := Nat.le_trans hz hE4.size
    cases hb : Sp.moonB s x.1 full
    · have HE4 := Lib.hid hE4
      clear q1 q2
      gi_wp2
      refine ⟨keepsFrom_ext HE4.out _, ⟨HE4.out.block _ (by omega), HE4.out.block _ (by omega)⟩, ?_, HE1.out.trans HE4.out, hz4⟩
      intro y hy
      rcases List.mem_append.1 hy with hy | hy
      · exact HI.out y hy
      · rw [List.mem_singleton.1 hy]; exact hb
    · have HE4 := Lib.hid hE4
      have c4 := (rX.ext hE4).cell
      have s2 := (hr2.ext HE1.out).ext hE4
      have s3 := (hr3.ext HE1.out).ext hE4
      have cc2 := s2.cell
      have cc3 := s3.cell
      have ff2 := s2.free
      have ff3 := s3.free
      have ne1 : w.heap.size + 2 ≠ Bx := by omega
      have ne2 : w.heap.size + 3 ≠ Bx := by omega
      clear q1 q2
      gi_wp2
      refine ⟨(keepsFrom_ext HE4.out _).trans (((KeepsOthers.setCell _ _ _).trans (KeepsOthers.setCell _ _ _)).from _), rfl, pre, x, rfl, HI.out, hb, ?_, ?_, ?_⟩
      · simpa using (s2.set_ 0 (.int .i64 x.1)).far (p := ⟨w.heap.size + 3, 0, none⟩) (by simp) (.int .i64 0)
      · simpa using (s3.far (p := ⟨w.heap.size + 2, 0, none⟩) (by simp) (.int .i64 x.1)).set_ 0 (.int .i64 0)
      · exact ((HE3.out.trans HE4.out).setCell (by simp; omega) _).setCell (by simp; omega) _
  case done =>
    rintro D xs W hD hS ⟨hI, hB, hz⟩ hK
    have hB' : Ext w1 W := hB
    have s2 := hr2.ext hB'
    have s3 := hr3.ext hB'
    have HB := Lib.hid hB'
    have cc2 := s2.cell
    have cc3 := s3.cell
    have ff2 := s2.free
    have ff3 := s3.free
    have HI := Lib.hid hI
    clear hB hB' hI
    gi_wp2
    have hK' := ((KeepsOthers.setCell W ⟨w.heap.size + 2, 0, none⟩ (.int .i64 0)).trans (KeepsOthers.setCell _ ⟨w.heap.size + 3, 0, none⟩ (.int .i64 5))).same D _ hK rfl
    refine ⟨by simp, .inl ⟨_, _, rfl, run_takeDeferred hK', ?_⟩⟩
    have s2' : Row ((W.setCell ⟨w.heap.size + 2, 0, none⟩ (.int .i64 0)).setCell ⟨w.heap.size + 3, 0, none⟩ (.int .i64 5)) (w.heap.size + 2) 3 #[.int .i64 0] := by simpa using (s2.set_ 0 (.int .i64 0)).far (p := ⟨w.heap.size + 3, 0, none⟩) (by simp) (.int .i64 5)
    have s3' : Row ((W.setCell ⟨w.heap.size + 2, 0, none⟩ (.int .i64 0)).setCell ⟨w.heap.size + 3, 0, none⟩ (.int .i64 5)) (w.heap.size + 3) 32 #[.int .i64 5] := by simpa using (s3.far (p := ⟨w.heap.size + 2, 0, none⟩) (by simp) (.int .i64 0)).set_ 0 (.int .i64 5)
    have k2 := s2'.kept (grownBy_putObj' _ D (.deferred none)) (fun r e => by cases e; exact ⟨_, hK', rfl⟩)
    have k3 := s3'.kept (grownBy_putObj' _ D (.deferred none)) (fun r e => by cases e; exact ⟨_, hK', rfl⟩)
    refine ⟨_, next_results _ _ (w.heap.size + 2) (w.heap.size + 3) 0 5 rfl rfl (by simpa using k2.cell 0) (by simpa using k3.cell 0), by rw [next_none s day 1 full hlo xs hS HI.out], ?_⟩
    have hF := ((HE.out.trans HB.out).setCell (p := ⟨w.heap.size + 2, 0, none⟩) (by simp) (.int .i64 0)).setCell (p := ⟨w.heap.size + 3, 0, none⟩) (by simp) (.int .i64 5)
    exact Below.grown hF (grownBy_putObj' _ D (.deferred none)) hF.size (fun k e => by cases e; omega)
  case stop =>
    rintro D c' pre W hD hS ⟨rfl, init, x, rfl, hn, h1, s2, s3, hB⟩ hK
    gi_wp2
    refine ⟨by simp, .inl ⟨_, _, rfl, run_takeDeferred hK, ?_⟩⟩
    have k2 := s2.kept (grownBy_putObj' _ D (.deferred none)) (fun r e => by cases e; exact ⟨_, hK, rfl⟩)
    have k3 := s3.kept (grownBy_putObj' _ D (.deferred none)) (fun r e => by cases e; exact ⟨_, hK, rfl⟩)
    refine ⟨_, next_results _ _ (w.heap.size + 2) (w.heap.size + 3) x.1 0 rfl rfl (by simpa using k2.cell 0) (by simpa using k3.cell 0), by rw [next_some s day 1 full hlo init x hS hn h1], ?_⟩
    exact Below.grown hB (grownBy_putObj' _ D (.deferred none)) hB.size (fun k e => by cases e; omega)
set_option maxRecDepth 100000 in
set_option maxHeartbeats 1000000 in
theorem Next_ok1 (s : Sp.Sky) (A : Option Addr) (c : Nat) (day : Int) (full : Bool) (w : World) (hm : Bodies w A s.bodies) (hl : Short s.bodies) (c0 : Sp.skyOk s = true) (c1 : Sp.isDay day = true) (hday : 1 < day) :
    Calls Tryz.prog 80 #[.agg #[.slice A s.bodies.length c, .int .i64 s.nnum, .int .i64 s.nden, .int .i64 s.nstart], .int .i64 day, .bool full] w fun e w' => e = .returned (nextV s day full) ∧ Ext w w' := by
  have hl1 := hl.1
  have HL := Lib.hid hl
  have HM := Lib.hid hm
  clear hm hl
  obtain ⟨d1, d2⟩ := isDay_of c1
  refine (callsIn_wide (n := 8)).1 ?_
  refine callsIn_of_wp_marks Tryz.func80 rfl trivial ?_ rfl
  simp only [Tryz.ntmps80, List.size_toArray, List.length_cons, List.length_nil, Nat.reduceAdd, Nat.reduceSub, Array.replicate_succ, Array.replicate_zero, List.push_toArray, List.append_toArray, List.nil_append, List.cons_append]
  gi_wp2
  refine ⟨trivial, (callsIn_wide.2 (isSky_any s A c _ (HM.out.ext (((((Ext.refl w).alloc _).alloc _).alloc _).alloc _)) HL.out)).mono ?_⟩
  rintro e w1 ⟨rfl, hE1⟩
  have hE := (((((Ext.refl w).alloc _).alloc _).alloc _).alloc _).trans hE1
  have hr : Row w1 w.heap.size 28 _ := Row.ext (blocks4 w _ _ _ _).1 hE1
  have hr1 : Row w1 (w.heap.size + 1) 4 _ := Row.ext (blocks4 w _ _ _ _).2.1 hE1
  have hr2 : Row w1 (w.heap.size + 2) 3 _ := Row.ext (blocks4 w _ _ _ _).2.2.1 hE1
  have hr3 : Row w1 (w.heap.size + 3) 32 _ := Row.ext (blocks4 w _ _ _ _).2.2.2 hE1
  have hz1 : w.heap.size + 4 ≤ w1.heap.size := by have := hE1.size; simpa using this
  have b0 := hr.cell
  clear hE1
  rw [c0]
  have HK := Lib.hid (skyOk_iff.1 c0)
  gi_wp2
  refine ⟨trivial, (callsIn_wide.2 (isDay_any day _)).mono ?_⟩
  rintro e w0 ⟨rfl, rfl⟩
  rw [c1]
  gi_wp2
  refine ⟨trivial, (callsIn_wide.2 (days_any A _ c s day 20000 _)).mono ?_⟩
  rintro e w' ⟨rfl, rfl⟩
  gi_wp2
  have hlo : max 1 day = day := by omega
  have rS := daysW_S A s.bodies.length c s day 20000 w1
  have rF := daysW_F A s.bodies.length c s day 20000 w1
  have rT := daysW_T A s.bodies.length c s day 20000 w1
  have hsz := daysW_size A s.bodies.length c s day 20000 w1
  have hE2 := daysW_ext A s.bodies.length c s day 20000 w1
  obtain ⟨W0, hW0⟩ : ∃ W0, daysW A s.bodies.length c s day 20000 w1 = W0 := ⟨_, rfl⟩
  rw [hW0] at hE2 rS rF rT hsz ⊢
  clear hW0 b0
  have HE := Lib.hid hE
  have h0 : NextI w1 s full [] W0 := ⟨by simp, hE2, by omega⟩
  clear hE hE2
  refine wpIn_rangeFunc_ownH rfl (by omega) (gf := 157) (lb := #[.pointer (some ⟨w1.heap.size + 1, 0, none⟩), .pointer (some ⟨w1.heap.size + 2, 0, none⟩), .pointer (some ⟨w1.heap.size, 0, none⟩)]) rfl trivial (enters_of Tryz.func157 (by kernel_rfl) rfl)
    (days_stops (8 - 1) (by omega) A s.bodies.length c s day 20000 (by omega) (by omega) w1.heap.size W0 rS rF rT) (fun h k => keepsTwo_t _ _ h k) (keepsTwo_b (by omega) (by omega)) (Below.refl _ _) (fun _ => rfl)
    (NextI w1 s full)
    (NextX w s full)
    (nextI_own w1 s full _ (by omega))
    (nextX_own w s full _ (by omega))
    h0
    (fun x a' W => ∃ Bx, w1.heap.size + 3 ≤ Bx ∧ Row W Bx 120 #[.slice A s.bodies.length c, .int .i64 s.nnum, .int .i64 s.nden, .int .i64 s.nstart, .int .i64 x.1] ∧ a' = (⟨#[.agg #[.slice A s.bodies.length c, .int .i64 s.nnum, .int .i64 s.nden, .int .i64 s.nstart], .int .i64 day, .bool full, .pointer (some ⟨w.heap.size, 0, none⟩), undef, .pointer (some ⟨w.heap.size + 1, 0, none⟩), .pointer (some ⟨w.heap.size + 1 + 1, 0, none⟩), .pointer (some ⟨w.heap.size + 1 + 1 + 1, 0, none⟩), .pointer (some ⟨Bx, 0, none⟩), .agg #[.slice A s.bodies.length c, .int .i64 s.nnum, .int .i64 s.nden, .int .i64 s.nstart], .bool true, .bool false, .bool false, .int .i64 day, .bool true, .bool false, .bool false, .agg #[.slice A s.bodies.length c, .int .i64 s.nnum, .int .i64 s.nden, .int .i64 s.nstart], .int .i64 day, .int .i64 day, daysV w1.heap.size, .agg #[.slice A s.bodies.length c, .int .i64 s.nnum, .int .i64 s.nden, .int .i64 s.nstart, .int .i64 x.1], undef, undef, undef, undef, undef, undef], []⟩ : Act))
    (fun x a' _ X Y row hs hg hr => by obtain ⟨Bx, h0, h1, h2⟩ := hs; exact ⟨Bx, h0, h1.kept hg fun r e => (hr r e).2, h2⟩)
    ?assign ?body ?done ?stop
  case assign =>
    rintro l pre x W K hi hK
    simp only [skyV]
    gi_wp2
    obtain ⟨hI, hB, hz⟩ := hi
    exact hK _ _ ((KeepsOthers.alloc _ _).from _) ⟨Below.heap_alloc _ _ _ (by omega), Below.heap_alloc _ _ _ (by omega)⟩ ⟨hI, hB.alloc hB.size _, by simp; omega⟩ ⟨_, by omega, Row.new _ _ _, rfl⟩
  case body =>
    rintro l pre x a' W hl ⟨r, hr'⟩ ⟨hI, hB, hz⟩ ⟨Bx, hBx, rX, rfl⟩ hlt
    have hx := x.2
    have hE1 : Ext w1 W := hB
    have HE1 := Lib.hid hE1
    have HI := Lib.hid hI
    have HE3 := Lib.hid (HE.out.trans hE1)
    clear hB hI
    gi_wp2
    refine wpIn_region_later (by kernel_rfl) (by kernel_rfl) (by kernel_rfl) (fun WW hW => ?_)
    have q1 := Later.block (w := WW) (by rw [hW]; exact rX)
    have q2 := Later.block (w := WW) (by rw [hW]; exact hr1.ext hE1)
    have HB := Lib.hid (fun X : Later WW => HM.out.ext ((by rw [hW]; exact HE3.out : Ext w WW).trans X.ext))
    clear hE1
    repeat (go_big_quiet_step ((first | (go_at_call 141; exact Later.call (moonOf_any _ _)) | (go_at_call 115; exact Later.call (has_any s A c _ full _ HK.out (by exact HB.out _) (by omega) (by omega))))))
    refine wpQuiet_nil ?_
    rintro ⟨W2, hE4⟩
    subst hW
    have hz4 := Nat.le_trans hz hE4.size
    cases hb : Sp.moonB s x.1 full
    · have HE4 := Lib.hid hE4
      clear q1 q2
      gi_wp2
      refine ⟨keepsFrom_ext HE4.out _, ⟨HE4.out.block _ (by omega), HE4.out.block _ (by omega)⟩, ?_, HE1.out.trans HE4.out, hz4⟩
      intro y hy
      rcases List.mem_append.1 hy with hy | hy
      · exact HI.out y hy
      · rw [List.mem_singleton.1 hy]; exact hb
    · have HE4 := Lib.hid hE4
      have c4 := (rX.ext hE4).cell
      have s2 := (hr2.ext HE1.out).ext hE4
      have s3 := (hr3.ext HE1.out).ext hE4
      have cc2 := s2.cell
      have cc3 := s3.cell
      have ff2 := s2.free
      have ff3 := s3.free
      have ne1 : w.heap.size + 2 ≠ Bx := by omega
      have ne2 : w.heap.size + 3 ≠ Bx := by omega
      clear q1 q2
      gi_wp2
      refine ⟨(keepsFrom_ext HE4.out _).trans (((KeepsOthers.setCell _ _ _).trans (KeepsOthers.setCell _ _ _)).from _), rfl, pre, x, rfl, HI.out, hb, ?_, ?_, ?_⟩
      · simpa using (s2.set_ 0 (.int .i64 x.1)).far (p := ⟨w.heap.size + 3, 0, none⟩) (by simp) (.int .i64 0)
      · simpa using (s3.far (p := ⟨w.heap.size + 2, 0, none⟩) (by simp) (.int .i64 x.1)).set_ 0 (.int .i64 0)
      · exact ((HE3.out.trans HE4.out).setCell (by simp; omega) _).setCell (by simp; omega) _
  case done =>
    rintro D xs W hD hS ⟨hI, hB, hz⟩ hK
    have hB' : Ext w1 W := hB
    have s2 := hr2.ext hB'
    have s3 := hr3.ext hB'
    have HB := Lib.hid hB'
    have cc2 := s2.cell
    have cc3 := s3.cell
    have ff2 := s2.free
    have ff3 := s3.free
    have HI := Lib.hid hI
    clear hB hB' hI
    gi_wp2
    have hK' := ((KeepsOthers.setCell W ⟨w.heap.size + 2, 0, none⟩ (.int .i64 0)).trans (KeepsOthers.setCell _ ⟨w.heap.size + 3, 0, none⟩ (.int .i64 5))).same D _ hK rfl
    refine ⟨by simp, .inl ⟨_, _, rfl, run_takeDeferred hK', ?_⟩⟩
    have s2' : Row ((W.setCell ⟨w.heap.size + 2, 0, none⟩ (.int .i64 0)).setCell ⟨w.heap.size + 3, 0, none⟩ (.int .i64 5)) (w.heap.size + 2) 3 #[.int .i64 0] := by simpa using (s2.set_ 0 (.int .i64 0)).far (p := ⟨w.heap.size + 3, 0, none⟩) (by simp) (.int .i64 5)
    have s3' : Row ((W.setCell ⟨w.heap.size + 2, 0, none⟩ (.int .i64 0)).setCell ⟨w.heap.size + 3, 0, none⟩ (.int .i64 5)) (w.heap.size + 3) 32 #[.int .i64 5] := by simpa using (s3.far (p := ⟨w.heap.size + 2, 0, none⟩) (by simp) (.int .i64 0)).set_ 0 (.int .i64 5)
    have k2 := s2'.kept (grownBy_putObj' _ D (.deferred none)) (fun r e => by cases e; exact ⟨_, hK', rfl⟩)
    have k3 := s3'.kept (grownBy_putObj' _ D (.deferred none)) (fun r e => by cases e; exact ⟨_, hK', rfl⟩)
    refine ⟨_, next_results _ _ (w.heap.size + 2) (w.heap.size + 3) 0 5 rfl rfl (by simpa using k2.cell 0) (by simpa using k3.cell 0), by rw [next_none s day day full hlo xs hS HI.out], ?_⟩
    have hF := ((HE.out.trans HB.out).setCell (p := ⟨w.heap.size + 2, 0, none⟩) (by simp) (.int .i64 0)).setCell (p := ⟨w.heap.size + 3, 0, none⟩) (by simp) (.int .i64 5)
    exact Below.grown hF (grownBy_putObj' _ D (.deferred none)) hF.size (fun k e => by cases e; omega)
  case stop =>
    rintro D c' pre W hD hS ⟨rfl, init, x, rfl, hn, h1, s2, s3, hB⟩ hK
    gi_wp2
    refine ⟨by simp, .inl ⟨_, _, rfl, run_takeDeferred hK, ?_⟩⟩
    have k2 := s2.kept (grownBy_putObj' _ D (.deferred none)) (fun r e => by cases e; exact ⟨_, hK, rfl⟩)
    have k3 := s3.kept (grownBy_putObj' _ D (.deferred none)) (fun r e => by cases e; exact ⟨_, hK, rfl⟩)
    refine ⟨_, next_results _ _ (w.heap.size + 2) (w.heap.size + 3) x.1 0 rfl rfl (by simpa using k2.cell 0) (by simpa using k3.cell 0), by rw [next_some s day day full hlo init x hS hn h1], ?_⟩
    exact Below.grown hB (grownBy_putObj' _ D (.deferred none)) hB.size (fun k e => by cases e; omega)
end Go.Proofs.YtlcddcnmoajpjaaGreatDoor
