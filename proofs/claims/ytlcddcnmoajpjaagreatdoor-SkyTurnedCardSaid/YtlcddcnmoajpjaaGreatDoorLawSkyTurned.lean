/- The walk of the law SkyTurned. (Printed by wip/mklaws1.py.) -/
import Derived.Test.YtlcddcnmoajpjaaGreatDoorLawHelp
import Derived.Test.YtlcddcnmoajpjaaGreatDoorAppNotes
import Derived.Test.YtlcddcnmoajpjaaGreatDoorTurnOwn
import Derived.Test.YtlcddcnmoajpjaaGreatDoorRefEcl
namespace Go.Proofs.YtlcddcnmoajpjaaGreatDoor
open Go.RowKit
open Sp (rd)
set_option linter.unusedSimpArgs false
set_option linter.unusedVariables false

/-- Behind 'a, b := api.SkySky{Node: s.Node}, api.SkySky{Node: s.Node}'. -/
def TurnPost (w0 : World) (cs : Array Value) (a0 : Act) : Exit → Act → World → Prop
  | .normal, a', w' => ∃ (y1 y2 y3 y4 y5 y6 : Value) (bA bB : Nat), w0.heap.size ≤ bA ∧ w0.heap.size ≤ bB ∧ bA ≠ bB ∧ Ext w0 w' ∧ Row w' bA 28 cs ∧ Row w' bB 28 cs ∧
      a' = ((((((((a0.put (some 59) y1).put (some 60) y2).put (some 61) y3).put (some 62) y4).put (some 63) y5).put (some 64) y6).put (some 13) (.pointer (some ⟨bA, 0, none⟩))).put (some 14) (.pointer (some ⟨bB, 0, none⟩)))
  | _, _, _ => False
theorem TurnPost.get {w0 : World} {cs : Array Value} {a0 : Act} {e : Exit} {a' : Act} {w' : World} (h : TurnPost w0 cs a0 e a' w') :
    e = .normal ∧ ∃ (y1 y2 y3 y4 y5 y6 : Value) (bA bB : Nat), w0.heap.size ≤ bA ∧ w0.heap.size ≤ bB ∧ bA ≠ bB ∧ Ext w0 w' ∧ Row w' bA 28 cs ∧ Row w' bB 28 cs ∧
      a' = ((((((((a0.put (some 59) y1).put (some 60) y2).put (some 61) y3).put (some 62) y4).put (some 63) y5).put (some 64) y6).put (some 13) (.pointer (some ⟨bA, 0, none⟩))).put (some 14) (.pointer (some ⟨bB, 0, none⟩))) := by
  cases e <;> first | exact ⟨rfl, h⟩ | exact h.elim
theorem TurnPost.mk {w0 : World} {cs : Array Value} {a0 : Act} {a' : Act} {w' : World} (y1 y2 y3 y4 y5 y6 : Value) (bA bB : Nat) (h1 : w0.heap.size ≤ bA) (h2 : w0.heap.size ≤ bB) (h3 : bA ≠ bB) (h4 : Ext w0 w') (h5 : Row w' bA 28 cs) (h6 : Row w' bB 28 cs)
    (h7 : a' = ((((((((a0.put (some 59) y1).put (some 60) y2).put (some 61) y3).put (some 62) y4).put (some 63) y5).put (some 64) y6).put (some 13) (.pointer (some ⟨bA, 0, none⟩))).put (some 14) (.pointer (some ⟨bB, 0, none⟩)))) : TurnPost w0 cs a0 .normal a' w' := ⟨y1, y2, y3, y4, y5, y6, bA, bB, h1, h2, h3, h4, h5, h6, h7⟩
/-- Between two rounds. -/
def TurnRel (W : World) (bA bB : Nat) (d ns : Int) (s : Sp.Sky) (i : Value) (wr : World) : Prop :=
  ∃ (k : Nat) (v1 v2 : Value), k ≤ s.bodies.length ∧ i = .int .i64 k ∧ Row wr bA 28 #[v1, .int .i64 s.nnum, .int .i64 s.nden, .int .i64 s.nstart] ∧ Row wr bB 28 #[v2, .int .i64 s.nnum, .int .i64 s.nden, .int .i64 ns] ∧
    OwnB wr W.heap.size v1 ((s.bodies.take k).map plainB) ∧ OwnB wr W.heap.size v2 ((s.bodies.take k).map (turnB d)) ∧ (∀ q, v1.ownBlock = some q → v2.ownBlock ≠ some q) ∧ (∀ w0, Ext w0 W → w0.heap.size ≤ bA → w0.heap.size ≤ bB → Ext w0 wr) ∧ W.heap.size ≤ wr.heap.size
theorem short_map {s : Sp.Sky} {f : Sp.Body → Sp.Body} (h4 : s.bodies.length ≤ 4) (hf : ∀ b, (f b).road = [0]) {l : List Sp.Body} (hl : l = s.bodies.map f) : Short l := by
  subst hl
  refine ⟨by rw [List.length_map]; omega, fun k hk => ?_⟩
  rw [List.length_map] at hk
  have : bd (s.bodies.map f) k = f (bd s.bodies k) := by
    unfold bd
    rw [List.getD_eq_getElem?_getD, List.getD_eq_getElem?_getD, List.getElem?_map, List.getElem?_eq_getElem hk]
    rfl
  rw [this, hf]
  decide

set_option maxRecDepth 100000 in
set_option maxHeartbeats 8000000 in
theorem law_SkyTurned (s : Sp.Sky) (A : Option Addr) (c : Nat) (d nw fl lo hi : Int) (w : World) (hV : Env w) (hm : Bodies w A s.bodies) (hl : Long s.bodies) :
    Calls Tryz.prog 12 #[.agg #[.slice A s.bodies.length c, .int .i64 s.nnum, .int .i64 s.nden, .int .i64 s.nstart], .int .i64 d, .int .i64 nw, .int .i64 fl, .int .i64 lo, .int .i64 hi] w fun e w' => e = .returned (.bool true) ∧ Ext w w' := by
  have HL := Lib.hid hl
  have HM := Lib.hid hm
  have HV := Lib.hid hV
  clear hm hl hV
  go_enter Tryz.func12, Tryz.ntmps12
  go_wp2_with fail
  have HR0 := Lib.hid (Row.new w 28 #[.slice A s.bodies.length c, .int .i64 s.nnum, .int .i64 s.nden, .int .i64 s.nstart])
  have HE0 : Hid (Ext w (w.alloc (.cells #[.slice A s.bodies.length c, .int .i64 s.nnum, .int .i64 s.nden, .int .i64 s.nstart] 28))) := Lib.hid ((Ext.refl w).alloc _)
  generalize w.alloc (.cells #[.slice A s.bodies.length c, .int .i64 s.nnum, .int .i64 s.nden, .int .i64 s.nstart] 28) = w0 at *
  have b0 := HR0.out.cell
  refine (short_any s A c w0 (HM.out.ext HE0.out) HL.out).mono ?_
  rintro e w1 ⟨rfl, hE1⟩
  have HE1 := Lib.hid (HE0.out.trans hE1)
  have HR1 := Lib.hid (HR0.out.ext hE1)
  clear b0
  have b1 := HR1.out.cell
  clear hE1
  cases hsh : shortB s.bodies with
  | false =>
    go_wp2_with fail
    refine (known_any w1 (HV.out.ext HE1.out)).mono ?_
    rintro e w2 ⟨rfl, hE2⟩
    go_wp2_with fail
    go_ret
    exact ⟨rfl, HE1.out.trans hE2⟩
  | true =>
    have hS := Lib.hid (short_of hsh)
    have hfew := few_of hsh
    clear hsh
    cases h1 : Sp.skyOk s with
    | false =>
      go_wp2_with fail
      refine (r_Sky_any s A c w1 (HM.out.ext HE1.out) hS.out).mono ?_
      rintro e w2 ⟨rfl, hE2⟩
      have HE2 := Lib.hid (HE1.out.trans hE2)
      have HR2 := Lib.hid (HR1.out.ext hE2)
      clear b1
      have b2 := HR2.out.cell
      clear hE2
      rw [h1]
      go_wp2_with fail
      refine (known_any w2 (HV.out.ext HE2.out)).mono ?_
      rintro e w3 ⟨rfl, hE3⟩
      go_wp2_with fail
      go_ret
      exact ⟨rfl, HE2.out.trans hE3⟩
    | true =>
      cases h2 : Sp.spot d with
      | false =>
        go_wp2_with fail
        refine (r_Sky_any s A c w1 (HM.out.ext HE1.out) hS.out).mono ?_
        rintro e w2 ⟨rfl, hE2⟩
        have HE2 := Lib.hid (HE1.out.trans hE2)
        have HR2 := Lib.hid (HR1.out.ext hE2)
        clear b1
        have b2 := HR2.out.cell
        clear hE2
        rw [h1]
        go_wp2_with fail
        refine (r_Spot_any _ _).mono ?_
        rintro e w' ⟨rfl, rfl⟩
        rw [h2]
        go_wp2_with fail
        refine (known_any w2 (HV.out.ext HE2.out)).mono ?_
        rintro e w3 ⟨rfl, hE3⟩
        go_wp2_with fail
        go_ret
        exact ⟨rfl, HE2.out.trans hE3⟩
      | true =>
        cases h3 : Sp.isLimit nw with
        | false =>
          go_wp2_with fail
          refine (r_Sky_any s A c w1 (HM.out.ext HE1.out) hS.out).mono ?_
          rintro e w2 ⟨rfl, hE2⟩
          have HE2 := Lib.hid (HE1.out.trans hE2)
          have HR2 := Lib.hid (HR1.out.ext hE2)
          clear b1
          have b2 := HR2.out.cell
          clear hE2
          rw [h1]
          go_wp2_with fail
          refine (r_Spot_any _ _).mono ?_
          rintro e w' ⟨rfl, rfl⟩
          rw [h2]
          go_wp2_with fail
          refine (r_Limit_any _ _).mono ?_
          rintro e w' ⟨rfl, rfl⟩
          rw [h3]
          go_wp2_with fail
          refine (known_any w2 (HV.out.ext HE2.out)).mono ?_
          rintro e w3 ⟨rfl, hE3⟩
          go_wp2_with fail
          go_ret
          exact ⟨rfl, HE2.out.trans hE3⟩
        | true =>
          cases h4 : Sp.isLimit fl with
          | false =>
            go_wp2_with fail
            refine (r_Sky_any s A c w1 (HM.out.ext HE1.out) hS.out).mono ?_
            rintro e w2 ⟨rfl, hE2⟩
            have HE2 := Lib.hid (HE1.out.trans hE2)
            have HR2 := Lib.hid (HR1.out.ext hE2)
            clear b1
            have b2 := HR2.out.cell
            clear hE2
            rw [h1]
            go_wp2_with fail
            refine (r_Spot_any _ _).mono ?_
            rintro e w' ⟨rfl, rfl⟩
            rw [h2]
            go_wp2_with fail
            refine (r_Limit_any _ _).mono ?_
            rintro e w' ⟨rfl, rfl⟩
            rw [h3]
            go_wp2_with fail
            refine (r_Limit_any _ _).mono ?_
            rintro e w' ⟨rfl, rfl⟩
            rw [h4]
            go_wp2_with fail
            refine (known_any w2 (HV.out.ext HE2.out)).mono ?_
            rintro e w3 ⟨rfl, hE3⟩
            go_wp2_with fail
            go_ret
            exact ⟨rfl, HE2.out.trans hE3⟩
          | true =>
            cases h5 : Sp.isSpan lo hi with
            | false =>
              go_wp2_with fail
              refine (r_Sky_any s A c w1 (HM.out.ext HE1.out) hS.out).mono ?_
              rintro e w2 ⟨rfl, hE2⟩
              have HE2 := Lib.hid (HE1.out.trans hE2)
              have HR2 := Lib.hid (HR1.out.ext hE2)
              clear b1
              have b2 := HR2.out.cell
              clear hE2
              rw [h1]
              go_wp2_with fail
              refine (r_Spot_any _ _).mono ?_
              rintro e w' ⟨rfl, rfl⟩
              rw [h2]
              go_wp2_with fail
              refine (r_Limit_any _ _).mono ?_
              rintro e w' ⟨rfl, rfl⟩
              rw [h3]
              go_wp2_with fail
              refine (r_Limit_any _ _).mono ?_
              rintro e w' ⟨rfl, rfl⟩
              rw [h4]
              go_wp2_with fail
              refine (r_Span_any _ _ _).mono ?_
              rintro e w' ⟨rfl, rfl⟩
              rw [h5]
              go_wp2_with fail
              refine (known_any w2 (HV.out.ext HE2.out)).mono ?_
              rintro e w3 ⟨rfl, hE3⟩
              go_wp2_with fail
              go_ret
              exact ⟨rfl, HE2.out.trans hE3⟩
            | true =>
              have HK := Lib.hid (skyOk_iff.1 h1)
              have hd1 := inR_iff.1 (show Sp.inR d 0 21599 = true from h2)
              have hs1 := HK.out.start1
              have hs2 := HK.out.start2
              go_wp2_with fail
              refine (r_Sky_any s A c w1 (HM.out.ext HE1.out) hS.out).mono ?_
              rintro e w2 ⟨rfl, hE2⟩
              have HE2 := Lib.hid (HE1.out.trans hE2)
              have HR2 := Lib.hid (HR1.out.ext hE2)
              clear b1
              have b2 := HR2.out.cell
              clear hE2
              rw [h1]
              go_wp2_with fail
              refine (r_Spot_any _ _).mono ?_
              rintro e w' ⟨rfl, rfl⟩
              rw [h2]
              go_wp2_with fail
              refine (r_Limit_any _ _).mono ?_
              rintro e w' ⟨rfl, rfl⟩
              rw [h3]
              go_wp2_with fail
              refine (r_Limit_any _ _).mono ?_
              rintro e w' ⟨rfl, rfl⟩
              rw [h4]
              go_wp2_with fail
              refine (r_Span_any _ _ _).mono ?_
              rintro e w' ⟨rfl, rfl⟩
              rw [h5]
              go_wp2_with fail
              have c1 := b2 1
              have c2 := b2 2
              have c3 := b2 3
              simp only [List.getElem?_toArray, List.getElem?_cons_succ, List.getElem?_cons_zero] at c1 c2 c3
              refine cut_at (TurnPost w2 #[.slice none 0 0, .int .i64 s.nnum, .int .i64 s.nden, .int .i64 s.nstart]) ?hr ?hq
              case hr =>
                clear b2 h1 h2 h3 h4 h5 hd1 hs1 hs2 hfew
                go_region_held3 (fun w' => w'.cell? ⟨w.heap.size, 1, none⟩ = some (.int .i64 s.nnum) ∧ w'.cell? ⟨w.heap.size, 2, none⟩ = some (.int .i64 s.nden) ∧ w'.cell? ⟨w.heap.size, 3, none⟩ = some (.int .i64 s.nstart)) (go_keep) (fail)
                · exact TurnPost.mk (.pointer (some ⟨w.heap.size, 1, none⟩)) (.agg #[.int .i64 s.nnum, .int .i64 s.nden, .int .i64 s.nstart]) (.agg #[.slice none 0 0, .int .i64 s.nnum, .int .i64 s.nden, .int .i64 s.nstart]) (.pointer (some ⟨w.heap.size, 1, none⟩)) (.agg #[.int .i64 s.nnum, .int .i64 s.nden, .int .i64 s.nstart]) (.agg #[.slice none 0 0, .int .i64 s.nnum, .int .i64 s.nden, .int .i64 s.nstart]) w2.heap.size (w2.heap.size + 1) (by omega) (by omega) (by omega) (((Ext.refl w2).alloc _).alloc _).drew (blocks2 w2 _ _).1 (blocks2 w2 _ _).2 (by simp only [Act.put, List.setIfInBounds_toArray, List.set_cons_succ, List.set_cons_zero])
                · exact TurnPost.mk (.pointer (some ⟨w.heap.size, 1, none⟩)) (.agg #[.int .i64 s.nnum, .int .i64 s.nden, .int .i64 s.nstart]) (.agg #[.slice none 0 0, .int .i64 s.nnum, .int .i64 s.nden, .int .i64 s.nstart]) (.pointer (some ⟨w.heap.size, 1, none⟩)) (.agg #[.int .i64 s.nnum, .int .i64 s.nden, .int .i64 s.nstart]) (.agg #[.slice none 0 0, .int .i64 s.nnum, .int .i64 s.nden, .int .i64 s.nstart]) (w2.heap.size + 1) w2.heap.size (by omega) (by omega) (by omega) (((Ext.refl w2).alloc _).alloc _).drew (blocks2 w2 _ _).2 (blocks2 w2 _ _).1 (by simp only [Act.put, List.setIfInBounds_toArray, List.set_cons_succ, List.set_cons_zero])
              case hq =>
                intro e a' w3 hap
                obtain ⟨rfl, y1, y2, y3, y4, y5, y6, bA, bB, nA, nB, hAB, hE3, rA, rB, rfl⟩ := hap.get
                clear hap c1 c2 c3
                simp only [Act.put, List.setIfInBounds_toArray, List.set_cons_succ, List.set_cons_zero]
                have HA := Lib.hid rA
                have HB := Lib.hid rB
                have hsA := rA.lt
                have hsB := rB.lt
                have hsw := hE3.size
                have hs0 := HR2.out.lt
                have HX0 := Lib.hid hE3
                clear rA rB
                have HE3 := Lib.hid (HE2.out.trans hE3)
                have HR3 := Lib.hid (HR2.out.ext hE3)
                clear b2
                have b3 := HR3.out.cell
                clear hE3
                have c3 := b3 3
                simp only [List.getElem?_toArray, List.getElem?_cons_succ, List.getElem?_cons_zero] at c3
                have cB := HB.out.cell 3
                have fB := HB.out.free 3
                simp only [List.getElem?_toArray, List.getElem?_cons_succ, List.getElem?_cons_zero] at cB
                have hq1 : (s.nstart + d).tmod 21600 = (s.nstart + d) % 21600 := Int.tmod_eq_emod_of_nonneg (by omega)
                go_wp2_with fail
                have HB' := Lib.hid (HB.out.set_ 3 (.int .i64 ((s.nstart + d) % 21600)))
                have HA' := Lib.hid (HA.out.far (p := ⟨bB, 3, none⟩) hAB (.int .i64 ((s.nstart + d) % 21600)))
                have hWX : ∀ w0, Ext w0 w3 → w0.heap.size ≤ bA → w0.heap.size ≤ bB → Ext w0 (w3.setCell ⟨bB, 3, none⟩ (.int .i64 ((s.nstart + d) % 21600))) := fun w0 h _ hb => h.setCell hb _
                have HWX := Lib.hid hWX
                have hszW : (w3.setCell ⟨bB, 3, none⟩ (.int .i64 ((s.nstart + d) % 21600))).heap.size = w3.heap.size := by simp
                clear hWX c3 cB fB hq1 HA HB b3
                obtain ⟨ns, hns⟩ : ∃ q, (s.nstart + d) % 21600 = q := ⟨_, rfl⟩
                rw [hns] at HB' HA' HWX hszW ⊢
                have HNS := Lib.hid hns
                clear hns
                generalize w3.setCell ⟨bB, 3, none⟩ (.int .i64 ns) = W at *
                simp only [List.setIfInBounds_toArray, List.set_cons_succ, List.set_cons_zero] at HB'
                have hbA : bA < W.heap.size := HA'.out.lt
                have hbB : bB < W.heap.size := HB'.out.lt
                have HUP : Hid (∀ wx, (∀ w0, Ext w0 W → w0.heap.size ≤ bA → w0.heap.size ≤ bB → Ext w0 wx) → Ext w2 wx) := Lib.hid (fun wx h => h _ (HWX.out _ HX0.out nA nB) nA nB)
                obtain ⟨i0, hi0, hz0, hz1, hz2⟩ := info_parts info_body
                go_loopw [15] (fun i wr => TurnRel W bA bB d ns s i wr) (fun i _ => s.bodies.length - (intOf i).toNat)
                case atStart => exact ⟨0, .slice none 0 0, .slice none 0 0, Nat.zero_le _, rfl, HA'.out, HB'.out, OwnB.nil _ _, OwnB.nil _ _, by simp [Value.ownBlock], fun w0 h _ _ => h, Nat.le_refl _⟩
                case round =>
                  obtain ⟨k, v1, v2, hk, rfl, rA, rB, o1, o2, hdis, hE, hzr⟩ := hrel
                  have hEw : Ext w2 wr := HUP.out _ hE
                  have bs := (HR2.out.ext hEw).cell
                  have HEW := Lib.hid (HE2.out.trans hEw)
                  have cs0 := bs 0
                  have cA0 := rA.cell 0
                  have cB0 := rB.cell 0
                  simp only [List.getElem?_toArray, List.getElem?_cons_zero] at cs0 cA0 cB0
                  have m0 := World.new_ne wr _ cs0
                  have m1 := World.new_ne wr _ cA0
                  have m2 := World.new_ne wr _ cB0
                  have k0 := lts (lt_of_cell cs0)
                  have k1 := lts (lt_of_cell cA0)
                  have k2 := lts (lt_of_cell cB0)
                  by_cases hlt : k < s.bodies.length
                  · obtain ⟨bb, oo, rfl, hBs⟩ := HM.out (by omega)
                    have HBd := (hBs k hlt).ext HEW.out
                    have hbo : (0 : Int) ≤ (k : Int) ∧ (k : Int) < (s.bodies.length : Int) := by omega
                    have hst := HK.out.all k hlt
                    have HM1 := Lib.hid (take_map_succ plainB s.bodies k hlt)
                    have HM2 := Lib.hid (take_map_succ (turnB d) s.bodies k hlt)
                    obtain ⟨l1, hl1⟩ : ∃ l, (s.bodies.take k).map plainB = l := ⟨_, rfl⟩
                    obtain ⟨l2, hl2⟩ : ∃ l, (s.bodies.take k).map (turnB d) = l := ⟨_, rfl⟩
                    have hn1 : l1.length = k := by rw [← hl1, List.length_map, List.length_take]; omega
                    have hn2 : l2.length = k := by rw [← hl2, List.length_map, List.length_take]; omega
                    rw [hl1] at o1 HM1
                    rw [hl2] at o2 HM2
                    clear hl1 hl2 hBs
                    generalize bd s.bodies k = B at *
                    obtain ⟨R1, r1, hr1, _⟩ := HBd.road
                    have q0 := HBd.num
                    have q1 := HBd.den
                    have q2 := HBd.start
                    have m3 := World.new_ne wr _ q0
                    have k3 := lts (lt_of_cell q0)
                    simp only at m0 m1 m2 m3 k0 k1 k2 k3
                    have s1 := hst.start1
                    have s2 := hst.start2
                    have hq2 : (B.start + d).tmod 21600 = (B.start + d) % 21600 := Int.tmod_eq_emod_of_nonneg (by omega)
                    obtain ⟨xs1, hown1, hxs1⟩ := o1
                    obtain ⟨xs2, hown2, hxs2⟩ := o2
                    have OW1 := Lib.hid hown1
                    have OX1 := Lib.hid hxs1
                    have OW2 := Lib.hid hown2
                    have OX2 := Lib.hid hxs2
                    clear hown1 hxs1 hown2 hxs2
                    have RA := Lib.hid rA
                    have RB := Lib.hid rB
                    have HDIS := Lib.hid hdis
                    have HEE := Lib.hid hE
                    have HN1 := Lib.hid hn1
                    have HN2 := Lib.hid hn2
                    have HLT := Lib.hid hlt
                    have hk9 : k ≤ 4 := by have := HK.out.n4; omega
                    have hl14 : l1.length ≤ 4 := by omega
                    have hl24 : l2.length ≤ 4 := by omega
                    clear HBd hst bs rA rB hdis hE hn1 hn2 hlt hEw hk
                    have hxA : wr.heap.size ≠ bA := by omega
                    have hxB : wr.heap.size ≠ bB := by omega
                    have hxA' : ¬ bA = wr.heap.size := by omega
                    have hxB' : ¬ bB = wr.heap.size := by omega
                    have hBA : ¬ bB = bA := fun e => hAB e.symm
                    go_wp2_with (at_builtin; first | (refine wpList_append_lies _ rfl (Operand.tmp 88) (Operand.tmp 90) 22 rfl W.heap.size 80 i0 _ 4 48 Tryz.underlying22 hi0 hz0 hz1 hz2 rfl (by omega) v1 l1.length xs1 rfl (((OW1.out.alloc _).alloc _).alloc _) ⟨wr.heap.size + 1 + 1, 0, none⟩ 1 1 [.int .i64 B.num, .int .i64 B.den, .int .i64 B.start, .slice (some ⟨wr.heap.size + 1, 0, none⟩) 1 1] rfl rfl (World.news_of_block (B := wr.heap.size + 1 + 1) (cs := #[.int .i64 B.num, .int .i64 B.den, .int .i64 B.start, .slice (some ⟨wr.heap.size + 1, 0, none⟩) 1 1]) (t := 80) (fr := (0, 0)) (blocks3 wr _ _ _).2.2) (by simp [Value.oneCell']) (by omega) (by simp only [maxLen]; omega) (by omega) (by simp; omega) _ rfl ?_; intro g1 cap1 w5 hown5 hgrow5 hat5 hlt5; obtain ⟨rA5, rB5, rX5, rR5, o15, h25, hx25, hsz5, hne5, hd5, hd6, hE5⟩ := turn_one (B := B) hzr OW1.out OX1.out OW2.out OX2.out HDIS.out RA.out RB.out hgrow5 hat5 hown5; have T1 := Lib.hid rA5; have T2 := Lib.hid rB5; have T3 := Lib.hid rX5; have T4 := Lib.hid rR5; have T5 := Lib.hid o15; have T6 := Lib.hid h25; have T7 := Lib.hid hx25; have T8 := Lib.hid hd5; have T9 := Lib.hid hd6; have T10 := Lib.hid hE5; have T11 := Lib.hid hne5; have a0 := rA5.cell 0; have aF := rA5.free 0; have x0 := rX5.cell 0; have x1 := rX5.cell 1; have x2 := rX5.cell 2; have x3 := rX5.cell 3; have xF := rX5.free 2; have z0 := rB5.cell 0; simp only [List.getElem?_toArray, List.getElem?_cons_succ, List.getElem?_cons_zero] at a0 x0 x1 x2 x3 z0; clear rA5 rB5 rX5 rR5 o15 h25 hx25 hd5 hd6 hE5 hne5 hown5 hgrow5 hat5 cs0 cA0 cB0 m0 m1 m2 m3 k0 k1 k2 k3 q0 q1 q2 hr1) | (refine wpList_append_lies _ rfl (Operand.tmp 100) (Operand.tmp 102) 22 rfl W.heap.size 80 i0 _ 4 48 Tryz.underlying22 hi0 hz0 hz1 hz2 rfl (by omega) v2 l2.length xs2 rfl ((turn_mid T1.out T6.out T9.out _ _).alloc _) ⟨w5.heap.size, 0, none⟩ 1 1 [.int .i64 B.num, .int .i64 B.den, .int .i64 ((B.start + d) % 21600), .slice (some ⟨wr.heap.size + 1, 0, none⟩) 1 1] rfl rfl (World.news_of_block (B := w5.heap.size) (cs := #[.int .i64 B.num, .int .i64 B.den, .int .i64 ((B.start + d) % 21600), .slice (some ⟨wr.heap.size + 1, 0, none⟩) 1 1]) (t := 80) (fr := (0, 0)) (by simpa using heap_alloc_new ((w5.setCell ⟨bA, 0, none⟩ (.slice (some ⟨g1, 0, none⟩) (l1.length + 1) cap1)).setCell ⟨wr.heap.size, 2, none⟩ (.int .i64 ((B.start + d) % 21600))) (.cells #[.int .i64 B.num, .int .i64 B.den, .int .i64 ((B.start + d) % 21600), .slice (some ⟨wr.heap.size + 1, 0, none⟩) 1 1] 80))) (by simp [Value.oneCell']) (by omega) (by simp only [maxLen]; omega) (by omega) (by simp; omega) _ rfl ?_; intro g2 cap2 w8 hown8 hgrow8 hat8 hlt8; obtain ⟨rA9, rB9, o19, o29, hg12, hE9, hs9, rB8⟩ := turn_two (B := B) (d := d) (base := W.heap.size) (x := wr.heap.size) hzr hAB hxA hxB (by omega) T1.out T2.out T3.out T4.out T5.out T6.out T7.out T11.out T8.out T9.out rfl hgrow8 (hat8.imp id (fun e => by rw [e]; simp)) hown8; have U1 := Lib.hid rA9; have U2 := Lib.hid rB9; have U3 := Lib.hid o19; have U4 := Lib.hid o29; have U5 := Lib.hid hE9; have y0 := rB8.cell 0; have yF := rB8.free 0; simp only [List.getElem?_toArray, List.getElem?_cons_succ, List.getElem?_cons_zero] at y0; clear rA9 rB9 o19 o29 hE9 rB8 hown8 hgrow8 hat8 a0 aF x0 x1 x2 x3 xF z0))
                    go_roundw
                    case measure => have := HLT.out; simp [intOf]; omega
                    case rel =>
                      refine ⟨k + 1, _, _, HLT.out, by go_num, U1.out, U2.out, by rw [HM1.out]; exact U3.out, by rw [HM2.out]; exact U4.out, ?_, fun w0 h ha hb => U5.out w0 (T10.out w0 (HEE.out w0 h ha hb) h.size) h.size ha hb, by simp; omega⟩
                      intro q e e2
                      simp only [Value.ownBlock, Option.some.injEq] at e e2
                      exact hg12 (e.trans e2.symm)
                  · obtain rfl : k = s.bodies.length := by omega
                    rw [List.take_length] at o1 o2
                    obtain ⟨A1, c1, rfl, hB1⟩ := o1.bodies
                    obtain ⟨A2, c2, rfl, hB2⟩ := o2.bodies
                    obtain ⟨P, hP⟩ : ∃ P, plainS s = P := ⟨_, rfl⟩
                    obtain ⟨T, hT⟩ : ∃ T, turnS d s = T := ⟨_, rfl⟩
                    have rA' : Row wr bA 28 #[.slice A1 P.bodies.length c1, .int .i64 P.nnum, .int .i64 P.nden, .int .i64 P.nstart] := by rw [← hP]; exact rA
                    have rB' : Row wr bB 28 #[.slice A2 T.bodies.length c2, .int .i64 T.nnum, .int .i64 T.nden, .int .i64 T.nstart] := by rw [← hT]; rw [← HNS.out] at rB; exact rB
                    have hB1' : Bodies wr A1 P.bodies := by rw [← hP]; exact hB1
                    have hB2' : Bodies wr A2 T.bodies := by rw [← hT]; exact hB2
                    have g1 : Sp.skyOk P = true := by rw [← hP]; exact skyOk_plain h1
                    have g2 : Sp.skyOk T = true := by rw [← hT]; exact skyOk_turn d h1
                    have HS1 : Hid (Short P.bodies) := Lib.hid (short_map (f := plainB) HK.out.n4 (fun _ => rfl) (by rw [← hP]; rfl))
                    have HS2 : Hid (Short T.bodies) := Lib.hid (short_map (f := turnB d) HK.out.n4 (fun _ => rfl) (by rw [← hT]; rfl))
                    have n2 := HK.out.n2
                    have n4 := HK.out.n4
                    have hl1 : P.bodies.length = s.bodies.length := by rw [← hP]; simp [plainS]
                    have hl2 : T.bodies.length = s.bodies.length := by rw [← hT]; simp [turnS]
                    have HC1 : Hid ((Sp.isBody P 0 && (Sp.isBody P ((s.bodies.length : Int) - 1) && ((0 : Int) != (s.bodies.length : Int) - 1))) = true) := Lib.hid (by simp only [Sp.isBody, Sp.inR, hl1, Bool.and_eq_true, decide_eq_true_eq, bne_iff_ne]; omega)
                    have HC2 : Hid ((Sp.isBody T 0 && (Sp.isBody T ((s.bodies.length : Int) - 1) && ((0 : Int) != (s.bodies.length : Int) - 1))) = true) := Lib.hid (by simp only [Sp.isBody, Sp.inR, hl2, Bool.and_eq_true, decide_eq_true_eq, bne_iff_ne]; omega)
                    have HQ1 : Hid (Sp.moonsL T lo hi = Sp.moonsL P lo hi) := Lib.hid (by rw [← hP, ← hT]; exact moonsL_turn d s n2 lo hi)
                    have HQ2 : Hid (Sp.ecls T nw fl lo hi = Sp.ecls P nw fl lo hi) := Lib.hid (by rw [← hP, ← hT]; exact ecls_turn d s n2 nw fl lo hi)
                    have HQ3 : Hid (Sp.meetsL T 0 ((s.bodies.length : Int) - 1) lo hi = Sp.meetsL P 0 ((s.bodies.length : Int) - 1) lo hi) := Lib.hid (by rw [← hP, ← hT]; exact meetsL_turn d s 0 _ (by omega) (by omega) (by omega) (by omega) lo hi)
                    obtain ⟨sp1', sp2, sp3, sp4⟩ := span_of h5
                    have HN1 : Hid ((Sp.moonsL P lo hi).length ≤ 100000) := Lib.hid (by have := moonsL_length P lo hi; omega)
                    have HN2 : Hid ((Sp.ecls P nw fl lo hi).length ≤ 100000) := Lib.hid (by have := moonsL_length P lo hi; have := eclsOf_le P nw fl (Sp.moonsL P lo hi); unfold Sp.ecls; omega)
                    have HN3 : Hid ((Sp.meetsL P 0 ((s.bodies.length : Int) - 1) lo hi).length ≤ 100000) := Lib.hid (by have := meetsN_length P 0 ((s.bodies.length : Int) - 1) lo (hi + 1 - lo).toNat; unfold Sp.meetsL; omega)
                    have HB1 := Lib.hid hB1'
                    have HB2 := Lib.hid hB2'
                    have HA9 := Lib.hid rA'
                    have HB9 := Lib.hid rB'
                    have HR50 := Lib.hid (HR2.out.ext hEw)
                    have HE50 := HEW
                    obtain ⟨w50, hw50⟩ : ∃ W9 : World, W9 = wr := ⟨_, rfl⟩
                    clear hP hT rA rB rA' rB' hB1 hB2 hB1' hB2' o1 o2 hdis hE hl1 hl2 hEw hlt bs cs0 cA0 cB0 m0 m1 m2 k0 k1 k2 hk
                    subst hw50
                    have b50 := HR50.out.cell
                    have bA9 := HA9.out.cell
                    have bB9 := HB9.out.cell
                    skip
                    go_wp2_with fail
                    refine (Moons_ok P A1 c1 lo hi w50 HB1.out HS1.out g1 h5).mono ?_
                    rintro e w51 ⟨va, rfl, hHVa, hE51⟩
                    have HE51 := Lib.hid (HE50.out.trans hE51)
                    have HR51 := Lib.hid (HR50.out.ext hE51)
                    clear b50
                    have b51 := HR51.out.cell
                    replace HB1 := Lib.hid (HB1.out.ext hE51)
                    replace HB2 := Lib.hid (HB2.out.ext hE51)
                    replace HA9 := Lib.hid (HA9.out.ext hE51)
                    clear bA9
                    have bA9 := HA9.out.cell
                    replace HB9 := Lib.hid (HB9.out.ext hE51)
                    clear bB9
                    have bB9 := HB9.out.cell
                    clear hE51
                    have HVa := Lib.hid hHVa
                    clear hHVa
                    go_wp2_with fail
                    refine (Moons_ok T A2 c2 lo hi w51 HB2.out HS2.out g2 h5).mono ?_
                    rintro e w52 ⟨vb, rfl, hHVb, hE52⟩
                    have HE52 := Lib.hid (HE51.out.trans hE52)
                    have HR52 := Lib.hid (HR51.out.ext hE52)
                    clear b51
                    have b52 := HR52.out.cell
                    replace HB1 := Lib.hid (HB1.out.ext hE52)
                    replace HB2 := Lib.hid (HB2.out.ext hE52)
                    replace HVa := Lib.hid (HVa.out.ext hE52)
                    replace HA9 := Lib.hid (HA9.out.ext hE52)
                    clear bA9
                    have bA9 := HA9.out.cell
                    replace HB9 := Lib.hid (HB9.out.ext hE52)
                    clear bB9
                    have bB9 := HB9.out.cell
                    clear hE52
                    have HVb := Lib.hid hHVb
                    clear hHVb
                    go_wp2_with fail
                    refine (Ecl_ok P A1 c1 nw fl lo hi w52 HB1.out HS1.out g1 h3 h4 h5).mono ?_
                    rintro e w53 ⟨vc, rfl, hHVc, hE53⟩
                    have HE53 := Lib.hid (HE52.out.trans hE53)
                    have HR53 := Lib.hid (HR52.out.ext hE53)
                    clear b52
                    have b53 := HR53.out.cell
                    replace HB1 := Lib.hid (HB1.out.ext hE53)
                    replace HB2 := Lib.hid (HB2.out.ext hE53)
                    replace HVa := Lib.hid (HVa.out.ext hE53)
                    replace HVb := Lib.hid (HVb.out.ext hE53)
                    replace HA9 := Lib.hid (HA9.out.ext hE53)
                    clear bA9
                    have bA9 := HA9.out.cell
                    replace HB9 := Lib.hid (HB9.out.ext hE53)
                    clear bB9
                    have bB9 := HB9.out.cell
                    clear hE53
                    have HVc := Lib.hid hHVc
                    clear hHVc
                    go_wp2_with fail
                    refine (Ecl_ok T A2 c2 nw fl lo hi w53 HB2.out HS2.out g2 h3 h4 h5).mono ?_
                    rintro e w54 ⟨vd, rfl, hHVd, hE54⟩
                    have HE54 := Lib.hid (HE53.out.trans hE54)
                    have HR54 := Lib.hid (HR53.out.ext hE54)
                    clear b53
                    have b54 := HR54.out.cell
                    replace HB1 := Lib.hid (HB1.out.ext hE54)
                    replace HB2 := Lib.hid (HB2.out.ext hE54)
                    replace HVa := Lib.hid (HVa.out.ext hE54)
                    replace HVb := Lib.hid (HVb.out.ext hE54)
                    replace HVc := Lib.hid (HVc.out.ext hE54)
                    replace HA9 := Lib.hid (HA9.out.ext hE54)
                    clear bA9
                    have bA9 := HA9.out.cell
                    replace HB9 := Lib.hid (HB9.out.ext hE54)
                    clear bB9
                    have bB9 := HB9.out.cell
                    clear hE54
                    have HVd := Lib.hid hHVd
                    clear hHVd
                    go_wp2_with fail
                    refine (Meets_ok P A1 c1 0 ((s.bodies.length : Int) - 1) lo hi w54 HB1.out HS1.out g1 HC1.out h5).mono ?_
                    rintro e w55 ⟨ve, rfl, hHVe, hE55⟩
                    have HE55 := Lib.hid (HE54.out.trans hE55)
                    have HR55 := Lib.hid (HR54.out.ext hE55)
                    clear b54
                    have b55 := HR55.out.cell
                    replace HB1 := Lib.hid (HB1.out.ext hE55)
                    replace HB2 := Lib.hid (HB2.out.ext hE55)
                    replace HVa := Lib.hid (HVa.out.ext hE55)
                    replace HVb := Lib.hid (HVb.out.ext hE55)
                    replace HVc := Lib.hid (HVc.out.ext hE55)
                    replace HVd := Lib.hid (HVd.out.ext hE55)
                    replace HA9 := Lib.hid (HA9.out.ext hE55)
                    clear bA9
                    have bA9 := HA9.out.cell
                    replace HB9 := Lib.hid (HB9.out.ext hE55)
                    clear bB9
                    have bB9 := HB9.out.cell
                    clear hE55
                    have HVe := Lib.hid hHVe
                    clear hHVe
                    go_wp2_with fail
                    refine (Meets_ok T A2 c2 0 ((s.bodies.length : Int) - 1) lo hi w55 HB2.out HS2.out g2 HC2.out h5).mono ?_
                    rintro e w56 ⟨vf, rfl, hHVf, hE56⟩
                    have HE56 := Lib.hid (HE55.out.trans hE56)
                    have HR56 := Lib.hid (HR55.out.ext hE56)
                    clear b55
                    have b56 := HR56.out.cell
                    replace HB1 := Lib.hid (HB1.out.ext hE56)
                    replace HB2 := Lib.hid (HB2.out.ext hE56)
                    replace HVa := Lib.hid (HVa.out.ext hE56)
                    replace HVb := Lib.hid (HVb.out.ext hE56)
                    replace HVc := Lib.hid (HVc.out.ext hE56)
                    replace HVd := Lib.hid (HVd.out.ext hE56)
                    replace HVe := Lib.hid (HVe.out.ext hE56)
                    replace HA9 := Lib.hid (HA9.out.ext hE56)
                    clear bA9
                    have bA9 := HA9.out.cell
                    replace HB9 := Lib.hid (HB9.out.ext hE56)
                    clear bB9
                    have bB9 := HB9.out.cell
                    clear hE56
                    have HVf := Lib.hid hHVf
                    clear hHVf
                    rw [HQ1.out] at HVb
                    rw [HQ2.out] at HVd
                    rw [HQ3.out] at HVf
                    go_wp2_with fail
                    refine (r_SameMoons_any va vb _ _ w56 HVa.out HVb.out HN1.out HN1.out).mono ?_
                    rintro e w57 ⟨rfl, hE57⟩
                    have HE57 := Lib.hid (HE56.out.trans hE57)
                    have HR57 := Lib.hid (HR56.out.ext hE57)
                    clear b56
                    have b57 := HR57.out.cell
                    replace HB1 := Lib.hid (HB1.out.ext hE57)
                    replace HB2 := Lib.hid (HB2.out.ext hE57)
                    replace HVa := Lib.hid (HVa.out.ext hE57)
                    replace HVb := Lib.hid (HVb.out.ext hE57)
                    replace HVc := Lib.hid (HVc.out.ext hE57)
                    replace HVd := Lib.hid (HVd.out.ext hE57)
                    replace HVe := Lib.hid (HVe.out.ext hE57)
                    replace HVf := Lib.hid (HVf.out.ext hE57)
                    replace HA9 := Lib.hid (HA9.out.ext hE57)
                    clear bA9
                    have bA9 := HA9.out.cell
                    replace HB9 := Lib.hid (HB9.out.ext hE57)
                    clear bB9
                    have bB9 := HB9.out.cell
                    clear hE57
                    simp only [decide_true]
                    go_wp2_with fail
                    refine (r_SameEclipses_any vc vd _ _ w57 HVc.out HVd.out HN2.out HN2.out).mono ?_
                    rintro e w58 ⟨rfl, hE58⟩
                    have HE58 := Lib.hid (HE57.out.trans hE58)
                    have HR58 := Lib.hid (HR57.out.ext hE58)
                    clear b57
                    have b58 := HR58.out.cell
                    replace HB1 := Lib.hid (HB1.out.ext hE58)
                    replace HB2 := Lib.hid (HB2.out.ext hE58)
                    replace HVa := Lib.hid (HVa.out.ext hE58)
                    replace HVb := Lib.hid (HVb.out.ext hE58)
                    replace HVc := Lib.hid (HVc.out.ext hE58)
                    replace HVd := Lib.hid (HVd.out.ext hE58)
                    replace HVe := Lib.hid (HVe.out.ext hE58)
                    replace HVf := Lib.hid (HVf.out.ext hE58)
                    replace HA9 := Lib.hid (HA9.out.ext hE58)
                    clear bA9
                    have bA9 := HA9.out.cell
                    replace HB9 := Lib.hid (HB9.out.ext hE58)
                    clear bB9
                    have bB9 := HB9.out.cell
                    clear hE58
                    simp only [decide_true]
                    go_wp2_with fail
                    refine (r_Same_any ve vf _ _ w58 HVe.out HVf.out HN3.out HN3.out).mono ?_
                    rintro e w59 ⟨rfl, hE59⟩
                    have HE59 := Lib.hid (HE58.out.trans hE59)
                    have HR59 := Lib.hid (HR58.out.ext hE59)
                    clear b58
                    have b59 := HR59.out.cell
                    replace HB1 := Lib.hid (HB1.out.ext hE59)
                    replace HB2 := Lib.hid (HB2.out.ext hE59)
                    replace HVa := Lib.hid (HVa.out.ext hE59)
                    replace HVb := Lib.hid (HVb.out.ext hE59)
                    replace HVc := Lib.hid (HVc.out.ext hE59)
                    replace HVd := Lib.hid (HVd.out.ext hE59)
                    replace HVe := Lib.hid (HVe.out.ext hE59)
                    replace HVf := Lib.hid (HVf.out.ext hE59)
                    replace HA9 := Lib.hid (HA9.out.ext hE59)
                    clear bA9
                    have bA9 := HA9.out.cell
                    replace HB9 := Lib.hid (HB9.out.ext hE59)
                    clear bB9
                    have bB9 := HB9.out.cell
                    clear hE59
                    simp only [decide_true]
                    go_wp2_with fail
                    refine (known_any w59 (HV.out.ext HE59.out)).mono ?_
                    rintro e w60 ⟨rfl, hE60⟩
                    go_wp2_with fail
                    go_ret
                    exact ⟨rfl, HE59.out.trans hE60⟩
end Go.Proofs.YtlcddcnmoajpjaaGreatDoor
