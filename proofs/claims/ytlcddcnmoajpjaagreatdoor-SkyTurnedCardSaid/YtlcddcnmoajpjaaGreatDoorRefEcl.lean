/- The walk of the reference's Eclipses. (Printed by wip/mkrecl.py.) -/
import Derived.Test.YtlcddcnmoajpjaaGreatDoorV18
namespace Go.Proofs.YtlcddcnmoajpjaaGreatDoor
open Go.RowKit
open Sp (rd)

set_option maxRecDepth 100000 in
set_option maxHeartbeats 2000000 in
theorem r_Eclipses_any (s : Sp.Sky) (A : Option Addr) (c : Nat) (nw fl lo hi : Int) (w : World) (hs : SkyOk s) (hm : Bodies w A s.bodies) (c1 : Sp.isLimit nw = true) (c2 : Sp.isLimit fl = true) (c3 : Sp.isSpan lo hi = true) :
    Calls Tryz.prog 36 #[.agg #[.slice A s.bodies.length c, .int .i64 s.nnum, .int .i64 s.nden, .int .i64 s.nstart], .int .i64 nw, .int .i64 fl, .int .i64 lo, .int .i64 hi] w fun e w' => ∃ v, e = .returned v ∧ EclVal w' v (Sp.ecls s nw fl lo hi) ∧ Ext w w' := by
  have HM := Lib.hid hm
  have HK := Lib.hid hs
  clear hm hs
  obtain ⟨d1, d2, d3, d4⟩ := span_of c3
  obtain ⟨e1, e2⟩ := limit_of c1
  obtain ⟨e3, e4⟩ := limit_of c2
  obtain ⟨i0, hi0, hi1, hi2, hi3⟩ := info_parts info_ecl
  go_enter Tryz.func36, Tryz.ntmps36
  go_wp2_with fail
  have hr := Row.new w 28 #[.slice A s.bodies.length c, .int .i64 s.nnum, .int .i64 s.nden, .int .i64 s.nstart]
  have hE : Ext w (w.alloc (.cells #[.slice A s.bodies.length c, .int .i64 s.nnum, .int .i64 s.nden, .int .i64 s.nstart] 28)) := (Ext.refl w).alloc _
  generalize w.alloc (.cells #[.slice A s.bodies.length c, .int .i64 s.nnum, .int .i64 s.nden, .int .i64 s.nstart] 28) = w1 at *
  refine (r_Moons_any s A c _ _ _ lo hi w1 HK.out (HM.out.ext hE) d1 d2 d3).mono ?_
  rintro e w2 ⟨v, rfl, hv, hE1⟩
  have hll := moonsN_le s lo (hi + 1 - lo).toNat
  have HD := Lib.hid (moonsN_days s lo (hi + 1 - lo).toNat)
  obtain ⟨l, hL⟩ : ∃ l, Sp.moonsL s lo hi = l := ⟨_, rfl⟩
  rw [show Sp.moonsN s lo (hi + 1 - lo).toNat = l from hL] at hll HD
  have hEq : Sp.ecls s nw fl lo hi = Sp.eclsOf s nw fl l := by rw [← hL]; rfl
  rw [hL] at hv
  obtain ⟨AM, cM, rfl, hc⟩ := hv
  replace hE := hE.trans hE1
  replace hr := hr.ext hE1
  clear hE1
  have HC := Lib.hid hc
  have HQ := Lib.hid hEq
  have HE := Lib.hid hE
  have hz := hE.size
  clear hc hEq hL hE
  go_wp2_with fail
  go_loopw [11, 13] (fun v d wr => EclRel w2 s nw fl l v d wr) (fun _ d _ => l.length - (intOf d).toNat)
  case atStart => exact ⟨0, Nat.zero_le _, rfl, by simp [Sp.eclsOf, eclCells, World.ownsRow], Ext.refl _⟩
  case round =>
    obtain ⟨k, hk, rfl, hown, hE⟩ := hrel
    have HE2 := Lib.hid hE
    have hz2 := hE.size
    have HRW := Lib.hid (hr.ext hE)
    have b0 := HRW.out.cell
    by_cases hlt : k < l.length
    · have hle := ecls_le s nw fl (l.take k)
      rw [List.length_take] at hle
      have htake : l.take (k + 1) = l.take k ++ [l[k]] := by rw [List.take_succ_eq_append_getElem hlt]
      have hday := HD.out l[k] (List.getElem_mem hlt)
      have hcc := HC.out (by omega)
      obtain ⟨b, o, rfl, hcell⟩ := hcc
      obtain ⟨q1c, q2c⟩ := hcell k hlt
      replace q1c := hE.cell q1c
      replace q2c := hE.cell q2c
      have hnext : Sp.eclsOf s nw fl (l.take (k + 1)) = Sp.eclsOf s nw fl (l.take k) ++ Sp.eclOf s nw fl l[k] := by rw [htake, eclsOf_append]
      obtain ⟨L, hL⟩ : ∃ L, Sp.eclsOf s nw fl (l.take k) = L := ⟨_, rfl⟩
      rw [hL] at hown hle hnext
      have HN := Lib.hid hnext
      obtain ⟨m, hm⟩ : ∃ m, l[k] = m := ⟨_, rfl⟩
      rw [hm] at q1c q2c hday HN
      clear hE hcell htake hnext hL hm
      obtain ⟨md, mf⟩ := m
      simp only at q1c q2c hday
      cases mf
      · go_wp2_with fail
        refine wp_region_later (by kernel_rfl) (by kernel_rfl) (fun W hW => ?_)
        subst hW
        have q1 := Later.block (w := W) HRW.out
        have y1 := fun X : Later W => X.ext.cell q1c
        have y2 := fun X : Later W => X.ext.cell q2c
        have HB := Lib.hid (fun X : Later W => HM.out.ext ((HE.out.trans HE2.out).trans X.ext))
        clear b0
        repeat (go_big_quiet_step (fail))
        go_big_quiet_step ((go_at_call 93; exact Later.call (r_Far_any s A c _ _ HK.out (by exact HB.out _) (by omega) (by omega))))
        repeat (go_big_quiet_step (fail))
        refine wpQuiet_nil ?_
        rintro ⟨w3, hE3⟩
        dsimp only
        have HE3 := Lib.hid (HE2.out.trans hE3)
        have z1 := hE3.cell q1c
        have z2 := hE3.cell q2c
        have hz3 := hE3.size
        have hown3 := ownsRow_of_block hown (fun g hg => hE3.block g (hown.lt g hg).2)
        have HO3 := Lib.hid hown3
        clear hown hE3 q1 y1 y2 q1c q2c hown3
        by_cases hf : Sp.far s md ≤ nw <;> have HF := Lib.hid hf
        · go_wp2_with fail
          refine wp_region_later_mix (v0 := u11) 13 (by kernel_rfl) (by kernel_rfl) rfl rfl (by kernel_rfl) ?_ (fun W hW => ?_)
          · intro x
            rfl
          subst hW
          have y1 := fun X : Later W => X.ext.cell z1
          have y2 := fun X : Later W => X.ext.cell z2
          clear z1 z2
          simp only [List.take_succ_cons, List.take_zero, List.drop_succ_cons, List.drop_zero, Act.put, List.setIfInBounds_toArray, List.set_cons_succ, List.set_cons_zero]
          repeat (go_big_quiet_step (fail))
          refine wpQuiet_nil ?_
          rintro ⟨w4, hE4⟩
          dsimp only
          go_wp2
          have hz4 := hE4.size
          refine ⟨⟨⟨_, hE4.alloc _⟩, rfl⟩, ?_⟩
          have hown4 := (ownsRow_of_block HO3.out (fun g hg => hE4.block g (HO3.out.lt g hg).2)).alloc (.cells #[.int .i64 md, .bool false, .int .i64 (Sp.far s md)] 56)
          have HO4 := Lib.hid hown4
          clear hown4
          refine wpList_append_lies _ rfl _ _ 44 rfl w2.heap.size 56 i0 _ 3 24 Tryz.underlying44 hi0 hi1 hi2 hi3 rfl (by decide) u11 L.length (eclCells L) rfl HO4.out ⟨w4.heap.size, 0, none⟩ 1 1 [.int .i64 md, .bool false, .int .i64 (Sp.far s md)] rfl rfl (World.news_of_block (cs := #[.int .i64 md, .bool false, .int .i64 (Sp.far s md)]) (t := 56) (fr := (0, 0)) (heap_alloc_new _ _)) (by simp [Value.oneCell']) (by omega) (by simp only [maxLen]; omega) (by omega) (by simp; omega) _ rfl ?_
          intro gg cap w5 hown5 hgrow hat hlt4
          have HO5 := Lib.hid hown5
          have HX5 := Lib.hid (((HE3.out.trans hE4).alloc _).grown hgrow (fun g hg => (HO4.out.lt g hg).1))
          clear hown5 hgrow hat hE4 y1 y2
          go_wp2
          refine NoPanic.normal ?_
          go_wp2_with fail
          refine ⟨⟨k + 1, by omega, by go_num, ?_, HX5.out⟩, by simp [intOf]; omega⟩
          rw [HN.out]
          simpa [Sp.eclOf, HF.out, eclCells_append, eclCells] using HO5.out
        · go_wp2_with fail
          refine ⟨⟨k + 1, by omega, by go_num, ?_, HE3.out⟩, by simp [intOf]; omega⟩
          rw [HN.out, show Sp.eclOf s nw fl (md, false) = [] from if_neg HF.out]
          simpa using HO3.out
      · go_wp2_with fail
        refine wp_region_later (by kernel_rfl) (by kernel_rfl) (fun W hW => ?_)
        subst hW
        have q1 := Later.block (w := W) HRW.out
        have y1 := fun X : Later W => X.ext.cell q1c
        have y2 := fun X : Later W => X.ext.cell q2c
        have HB := Lib.hid (fun X : Later W => HM.out.ext ((HE.out.trans HE2.out).trans X.ext))
        clear b0
        repeat (go_big_quiet_step (fail))
        go_big_quiet_step ((go_at_call 93; exact Later.call (r_Far_any s A c _ _ HK.out (by exact HB.out _) (by omega) (by omega))))
        repeat (go_big_quiet_step (fail))
        refine wpQuiet_nil ?_
        rintro ⟨w3, hE3⟩
        dsimp only
        have HE3 := Lib.hid (HE2.out.trans hE3)
        have z1 := hE3.cell q1c
        have z2 := hE3.cell q2c
        have hz3 := hE3.size
        have hown3 := ownsRow_of_block hown (fun g hg => hE3.block g (hown.lt g hg).2)
        have HO3 := Lib.hid hown3
        clear hown hE3 q1 y1 y2 q1c q2c hown3
        by_cases hf : Sp.far s md ≤ fl <;> have HF := Lib.hid hf
        · go_wp2_with fail
          refine wp_region_later_mix (v0 := u11) 13 (by kernel_rfl) (by kernel_rfl) rfl rfl (by kernel_rfl) ?_ (fun W hW => ?_)
          · intro x
            rfl
          subst hW
          have y1 := fun X : Later W => X.ext.cell z1
          have y2 := fun X : Later W => X.ext.cell z2
          clear z1 z2
          simp only [List.take_succ_cons, List.take_zero, List.drop_succ_cons, List.drop_zero, Act.put, List.setIfInBounds_toArray, List.set_cons_succ, List.set_cons_zero]
          repeat (go_big_quiet_step (fail))
          refine wpQuiet_nil ?_
          rintro ⟨w4, hE4⟩
          dsimp only
          go_wp2
          have hz4 := hE4.size
          refine ⟨⟨⟨_, hE4.alloc _⟩, rfl⟩, ?_⟩
          have hown4 := (ownsRow_of_block HO3.out (fun g hg => hE4.block g (HO3.out.lt g hg).2)).alloc (.cells #[.int .i64 md, .bool true, .int .i64 (Sp.far s md)] 56)
          have HO4 := Lib.hid hown4
          clear hown4
          refine wpList_append_lies _ rfl _ _ 44 rfl w2.heap.size 56 i0 _ 3 24 Tryz.underlying44 hi0 hi1 hi2 hi3 rfl (by decide) u11 L.length (eclCells L) rfl HO4.out ⟨w4.heap.size, 0, none⟩ 1 1 [.int .i64 md, .bool true, .int .i64 (Sp.far s md)] rfl rfl (World.news_of_block (cs := #[.int .i64 md, .bool true, .int .i64 (Sp.far s md)]) (t := 56) (fr := (0, 0)) (heap_alloc_new _ _)) (by simp [Value.oneCell']) (by omega) (by simp only [maxLen]; omega) (by omega) (by simp; omega) _ rfl ?_
          intro gg cap w5 hown5 hgrow hat hlt4
          have HO5 := Lib.hid hown5
          have HX5 := Lib.hid (((HE3.out.trans hE4).alloc _).grown hgrow (fun g hg => (HO4.out.lt g hg).1))
          clear hown5 hgrow hat hE4 y1 y2
          go_wp2
          refine NoPanic.normal ?_
          go_wp2_with fail
          refine ⟨⟨k + 1, by omega, by go_num, ?_, HX5.out⟩, by simp [intOf]; omega⟩
          rw [HN.out]
          simpa [Sp.eclOf, HF.out, eclCells_append, eclCells] using HO5.out
        · go_wp2_with fail
          refine ⟨⟨k + 1, by omega, by go_num, ?_, HE3.out⟩, by simp [intOf]; omega⟩
          rw [HN.out, show Sp.eclOf s nw fl (md, true) = [] from if_neg HF.out]
          simpa using HO3.out
    · obtain rfl : k = l.length := by omega
      clear b0
      have HO := Lib.hid hown
      clear hown
      go_wp2_with fail
      go_ret
      refine ⟨_, rfl, ?_, HE.out.trans HE2.out⟩
      have := EclVal.of_own (l := Sp.eclsOf s nw fl (l.take l.length)) HO.out
      rwa [List.take_length, ← HQ.out] at this
end Go.Proofs.YtlcddcnmoajpjaaGreatDoor
