/- KnownS: The walks of the laws' own skies and notes.
KnownV: The chapter's examples, reckoned.
Known: The walk of known: the chapter's examples. (Printed by wip/mkknown.py.) -/
import Derived.Test.YtlcddcnmoajpjaaGreatDoorV19
import Derived.Test.YtlcddcnmoajpjaaGreatDoorV11
import Derived.Test.YtlcddcnmoajpjaaGreatDoorV17
namespace Go.Proofs.YtlcddcnmoajpjaaGreatDoor
open Go.RowKit
open Sp (rd)

def skyS : Sp.Sky := ⟨[⟨360, 1, 0, [0]⟩, ⟨27, 1, 0, [0, 300, 0, -300]⟩], 6000, 1, 1000⟩
theorem l_A_any (w : World) : Calls Tryz.prog 83 #[] w fun e w' => e = .returned (.agg #[.int .i64 100, .int .i64 10800, .int .i64 0]) ∧ Ext w w' := by
  go_enter Tryz.func83, Tryz.ntmps83
  go_wp2_with fail
  refine bodyPost_ret (results_cell_row rfl _ _ w.heap.size 76 _ (0, 0) _ rfl (Row.new w _ _) Tryz.underlying76 rfl (by kernel_rfl)) rfl ?_
  exact ⟨rfl, (Ext.refl w).alloc _⟩
theorem l_B_any (w : World) : Calls Tryz.prog 84 #[] w fun e w' => e = .returned (.agg #[.int .i64 1000, .int .i64 5, .int .i64 2]) ∧ Ext w w' := by
  go_enter Tryz.func84, Tryz.ntmps84
  go_wp2_with fail
  refine bodyPost_ret (results_cell_row rfl _ _ w.heap.size 76 _ (0, 0) _ rfl (Row.new w _ _) Tryz.underlying76 rfl (by kernel_rfl)) rfl ?_
  exact ⟨rfl, (Ext.refl w).alloc _⟩
theorem bodyAt_row {w : World} {g o h c : Nat} {t u : TypeId} {cs rs : Array Value} {B : Sp.Body} (h1 : Row w g t cs) (h2 : Row w h u rs) (c0 : cs[o]? = some (.int .i64 B.num)) (c1 : cs[o + 1]? = some (.int .i64 B.den)) (c2 : cs[o + 2]? = some (.int .i64 B.start))
    (c3 : cs[o + 3]? = some (.slice (some ⟨h, 0, none⟩) B.road.length c)) (hr : ∀ k, k < B.road.length → rs[k]? = some (.int .i64 (rd B.road k))) : BodyAt w g o B :=
  ⟨(h1.cell _).trans c0, (h1.cell _).trans c1, (h1.cell _).trans c2, _, _, (h1.cell _).trans c3, fun _ => ⟨h, 0, rfl, fun k hk => by rw [Nat.zero_add]; exact (h2.cell _).trans (hr k hk)⟩⟩
theorem l_S_any (w : World) : Calls Tryz.prog 82 #[] w fun e w' => ∃ A c, e = .returned (.agg #[.slice A 2 c, .int .i64 6000, .int .i64 1, .int .i64 1000]) ∧ Bodies w' A skyS.bodies ∧ Ext w w' := by
  go_enter Tryz.func82, Tryz.ntmps82
  go_wp2_with fail
  obtain ⟨b1, b2, b3, b4⟩ := blocks4 w (.cells #[.slice (some ⟨w.heap.size + 1 + 1 + 1, 0, none⟩) 2 2, .int .i64 6000, .int .i64 1, .int .i64 1000] 28) (.cells #[.int .i64 0] 3) (.cells #[.int .i64 0, .int .i64 300, .int .i64 0, .int .i64 (-300)] 3)
    (.cells #[.int .i64 360, .int .i64 1, .int .i64 0, .slice (some ⟨w.heap.size + 1, 0, none⟩) 1 1, .int .i64 27, .int .i64 1, .int .i64 0, .slice (some ⟨w.heap.size + 1 + 1, 0, none⟩) 4 4] 80)
  refine bodyPost_ret (results_cell_row rfl _ _ w.heap.size 28 _ (0, 0) _ rfl b1 Tryz.underlying28 rfl (by kernel_rfl)) rfl ?_
  refine ⟨_, _, rfl, fun _ => ⟨w.heap.size + 1 + 1 + 1, 0, rfl, fun k hk => ?_⟩, ((((Ext.refl w).alloc _).alloc _).alloc _).alloc _⟩
  match k, hk with
  | 0, _ => exact bodyAt_row (c := 1) b4 b2 rfl rfl rfl rfl (fun k hk => by match k, hk with | 0, _ => rfl)
  | 1, _ => exact bodyAt_row (c := 4) b4 b3 rfl rfl rfl rfl (fun k hk => by match k, hk with | 0, _ => rfl | 1, _ => rfl | 2, _ => rfl | 3, _ => rfl)
  | n + 2, h => exact absurd h (by simp [skyS])
end Go.Proofs.YtlcddcnmoajpjaaGreatDoor

namespace Go.Proofs.YtlcddcnmoajpjaaGreatDoor
open Go.RowKit
open Sp (rd)

def noteA : Sp.Note := ⟨100, 10800, 0⟩
def noteB : Sp.Note := ⟨1000, 5, 2⟩
def skyT : Sp.Sky := ⟨[⟨4, 1, 0, [0]⟩, ⟨4, 1, 0, [0]⟩], 4, 1, 0⟩
def textK : Bs := [115, 107, 121, 32, 50, 10, 98, 111, 100, 121, 32, 52, 32, 49, 32, 48, 32, 48, 10, 98, 111, 100, 121, 32, 52, 32, 49, 32, 48, 32, 48, 10, 110, 111, 100, 101, 32, 52, 32, 49, 32, 48, 10, 101, 110, 100, 32, 48, 50, 48, 10]
set_option maxRecDepth 100000
theorem kOk : Sp.skyOk skyS = true := by decide +kernel
theorem kPlace : Sp.place (Sp.body skyS 1) 15 = 11933 := by decide +kernel
theorem kNode : Sp.node skyS 15 = 946 := by decide +kernel
theorem kBetween : Sp.between skyS 1 0 15 = 11033 := by decide +kernel
theorem kMoons : Sp.moonsL skyS 1 44 = [(15, true), (30, false), (44, true)] := by decide +kernel
theorem kEcls : Sp.ecls skyS 900 600 1 44 = [⟨15, true, 187⟩] := by decide +kernel
theorem kMeets : Sp.meetsL skyS 0 1 1 60 = [30, 59] := by decide +kernel
theorem kIsMonth : Sp.isMonth skyS = true := by decide +kernel
theorem kMonth1 : Sp.monthNum skyS / monthG skyS = 1080 := by decide +kernel
theorem kMonth2 : Sp.monthDen skyS / monthG skyS = 37 := by decide +kernel
theorem kCycle : Sp.cycleO skyS 400 = some 6 := by decide +kernel
theorem kSpeeds : Sp.speedsL 0 [noteA, noteB] 107900 108200 = [108003, 108004, 108005, 108006, 108007] := by decide +kernel
theorem kSpeedsA : Sp.speedsL 0 [noteA] 107900 108200 = [108000, 108001, 108002, 108003, 108004, 108005, 108006, 108007, 108008, 108009] := by decide +kernel
theorem kText : textL skyT = textK := by decide +kernel
theorem hits_one {start day p : Int} (h0 : 0 ≤ p) (h1 : p < 21600) (L : List Int) (h : (L.map fun v => Sp.at_ start v day).Nodup) : Sp.hits start L day 1 p ≤ 1 := by
  unfold Sp.hits
  induction L with
  | nil => simp
  | cons v L ih =>
    rw [List.map_cons, List.nodup_cons] at h
    have hv := at_bounds start v day
    rw [List.filter_cons]
    split
    · rename_i hc
      have e : Sp.at_ start v day = p := by
        have := of_decide_eq_true hc
        omega
      have hn : L.filter (fun v => decide ((Sp.at_ start v day - p) % 21600 < 1)) = [] := by
        rw [List.filter_eq_nil_iff]
        intro u hu hc2
        have hu2 := at_bounds start u day
        have := of_decide_eq_true hc2
        exact h.1 (List.mem_map.2 ⟨u, hu, by omega⟩)
      rw [hn]
      simp
    · exact ih h.2
def speedsA : List Int := [108000, 108001, 108002, 108003, 108004, 108005, 108006, 108007, 108008, 108009]
theorem kLeft1000 : Sp.left 0 speedsA 1000 0 = 1 := by
  apply Nat.le_antisymm
  · refine maxN_le _ _ _ fun k hk => hits_one (by omega) (by omega) _ (by decide +kernel)
  · have h := max_hits_le (fun p => Sp.hits 0 speedsA 1000 (2 * 0 + 1) (p : Nat)) 21600 0 (by omega)
    have e : Sp.hits 0 speedsA 1000 (2 * 0 + 1) (0 : Nat) = 1 := by decide +kernel
    rw [e] at h
    exact h
theorem kLeft100 : 10 ≤ Sp.left 0 speedsA 100 0 := by
  have h := max_hits_le (fun p => Sp.hits 0 speedsA 100 (2 * 0 + 1) (p : Nat)) 21600 10800 (by omega)
  have e : Sp.hits 0 speedsA 100 (2 * 0 + 1) (10800 : Nat) = 10 := by decide +kernel
  rw [e] at h
  exact h
theorem watch_two (start : Int) (l : List Int) (d0 d1 off : Int) : Sp.watchI start l [d0, d1] off = if Sp.left start l d1 off < Sp.left start l d0 off then 1 else 0 := rfl
theorem kWatch : Sp.watchI 0 speedsA [100, 1000] 0 = 1 := by
  rw [watch_two, kLeft1000]
  exact if_pos (Nat.lt_of_lt_of_le (by omega) kLeft100)
theorem kOkT : Sp.skyOk skyT = true := by decide +kernel
theorem kParse : parseP textK = some skyT := (parse_iff _ _).2 ⟨kText, (skyText_of_ok (skyOk_iff.1 kOkT)).toSkyNum⟩
theorem kParse_only {s : Sp.Sky} (h : parseP textK = some s) : s = skyT := by rw [kParse] at h; exact (Option.some.inj h).symm
end Go.Proofs.YtlcddcnmoajpjaaGreatDoor

namespace Go.Proofs.YtlcddcnmoajpjaaGreatDoor
open Go.RowKit
open Sp (rd)

theorem shortS : Short skyS.bodies := ⟨by decide, fun k hk => by
  match k, hk with
  | 0, _ => decide
  | 1, _ => decide
  | n + 2, h => exact absurd h (by simp [skyS])⟩
theorem notes_row {w : World} {g : Nat} {t : TypeId} {cs : Array Value} {l : List Sp.Note} (h : Row w g t cs) (hc : ∀ k, k < l.length → cs[k * 3]? = some (.int .i64 (nt l k).day) ∧ cs[k * 3 + 1]? = some (.int .i64 (nt l k).seen) ∧ cs[k * 3 + 2]? = some (.int .i64 (nt l k).off)) : Notes w (some ⟨g, 0, none⟩) l :=
  fun _ => ⟨g, 0, rfl, fun k hk => by rw [Nat.zero_add]; exact ⟨(h.cell _).trans (hc k hk).1, (h.cell _).trans (hc k hk).2.1, (h.cell _).trans (hc k hk).2.2⟩⟩
theorem kTextV : bs (textL skyT) = ⟨#[115, 107, 121, 32, 50, 10, 98, 111, 100, 121, 32, 52, 32, 49, 32, 48, 32, 48, 10, 98, 111, 100, 121, 32, 52, 32, 49, 32, 48, 32, 48, 10, 110, 111, 100, 101, 32, 52, 32, 49, 32, 48, 10, 101, 110, 100, 32, 48, 50, 48, 10]⟩ := by rw [kText]; rfl
theorem moons_row {w : World} {g c n : Nat} {t : TypeId} {cs : Array Value} {l : List (Int × Bool)} (h : Row w g t cs) (hn : n = l.length ∧ cs.toList = moonCells l) : MoonsVal w (.slice (some ⟨g, 0, none⟩) n c) l := by
  obtain ⟨rfl, hc⟩ := hn
  refine ⟨_, _, rfl, fun _ => ⟨g, 0, rfl, fun k hk => ?_⟩⟩
  obtain ⟨a, b⟩ := moonCells_get l k hk
  rw [← hc] at a b
  rw [Nat.zero_add]
  exact ⟨(h.cell _).trans (by simpa using a), (h.cell _).trans (by simpa using b)⟩
theorem ecls_row {w : World} {g c n : Nat} {t : TypeId} {cs : Array Value} {l : List Sp.Ecl} (h : Row w g t cs) (hn : n = l.length ∧ cs.toList = eclCells l) : EclVal w (.slice (some ⟨g, 0, none⟩) n c) l := by
  obtain ⟨rfl, hc⟩ := hn
  refine ⟨_, _, rfl, fun _ => ⟨g, 0, rfl, fun k hk => ?_⟩⟩
  obtain ⟨a, b, d⟩ := eclCells_get l k hk
  rw [← hc] at a b d
  rw [Nat.zero_add]
  exact ⟨(h.cell _).trans (by simpa using a), (h.cell _).trans (by simpa using b), (h.cell _).trans (by simpa using d)⟩
theorem kSpeedsA' : Sp.speedsL 0 [noteA] 107900 108200 = speedsA := kSpeedsA
theorem read_known (w : World) (hV : Env w) : Calls Tryz.prog 60 #[.string (bs textK)] w fun e w' => ∃ A c, e = .returned (.tuple #[.agg #[.slice A 2 c, .int .i64 4, .int .i64 1, .int .i64 0], .int .i64 0]) ∧ Bodies w' A skyT.bodies ∧ Ext w w' := by
  refine (Read_any textK w hV (by decide)).mono ?_
  rintro e w' ⟨hE, ⟨code, hc, h0, _⟩ | ⟨s, A, c, _, hp, _, rfl, hB⟩⟩
  · rw [if_neg (by decide), kParse] at hc
    simp only [kOkT, if_true] at hc
    exact absurd hc h0
  · obtain rfl := kParse_only hp
    exact ⟨A, c, rfl, hB, hE⟩
set_option maxRecDepth 100000 in
set_option maxHeartbeats 4000000 in
theorem known_any (w : World) (hV : Env w) : Calls Tryz.prog 25 #[] w fun e w' => e = .returned (.bool true) ∧ Ext w w' := by
  have HV := Lib.hid hV
  have hs := shortS
  clear hV
  go_enter Tryz.func25, Tryz.ntmps25
  go_wp2_with fail
  have E0 : Ext w w := Ext.refl w
  refine (l_S_any _).mono ?_
  rintro e w1 ⟨A1, c1, rfl, B1, F⟩
  have E1 := E0.trans F
  clear F E0
  go_wp2_with fail
  refine (Place_ok skyS A1 c1 1 15 w1 B1 hs kOk (by decide) (by decide)).mono ?_
  rintro e w2 ⟨rfl, F⟩
  have E2 := E1.trans F
  clear F E1
  rw [kPlace]
  clear B1
  go_wp2_with fail
  refine (l_S_any _).mono ?_
  rintro e w3 ⟨A1, c1, rfl, B1, F⟩
  have E3 := E2.trans F
  clear F E2
  go_wp2_with fail
  refine (Node_ok skyS A1 c1 15 w3 B1 hs kOk (by decide)).mono ?_
  rintro e w4 ⟨rfl, F⟩
  have E4 := E3.trans F
  clear F E3
  rw [kNode]
  clear B1
  go_wp2_with fail
  refine (l_S_any _).mono ?_
  rintro e w5 ⟨A1, c1, rfl, B1, F⟩
  have E5 := E4.trans F
  clear F E4
  go_wp2_with fail
  refine (Between_ok skyS A1 c1 1 0 15 w5 B1 hs kOk (by decide) (by decide)).mono ?_
  rintro e w6 ⟨rfl, F⟩
  have E6 := E5.trans F
  clear F E5
  rw [kBetween]
  clear B1
  go_wp2_with fail
  refine (l_S_any _).mono ?_
  rintro e w7 ⟨A1, c1, rfl, B1, F⟩
  have E7 := E6.trans F
  clear F E6
  go_wp2_with fail
  refine (Moons_ok skyS A1 c1 1 44 w7 B1 hs kOk (by decide)).mono ?_
  rintro e w8 ⟨vm, rfl, HVM, F⟩
  have E8 := E7.trans F
  clear F E7
  rw [kMoons] at HVM
  clear B1
  go_wp2_with fail
  refine (l_S_any _).mono ?_
  rintro e w9 ⟨A1, c1, rfl, B1, F⟩
  replace HVM := HVM.ext F
  have E9 := E8.trans F
  clear F E8
  go_wp2_with fail
  refine (Ecl_ok skyS A1 c1 900 600 1 44 w9 B1 hs kOk (by decide) (by decide) (by decide)).mono ?_
  rintro e w10 ⟨ve, rfl, HVE, F⟩
  replace HVM := HVM.ext F
  have E10 := E9.trans F
  clear F E9
  rw [kEcls] at HVE
  clear B1
  go_wp2_with fail
  refine (l_S_any _).mono ?_
  rintro e w11 ⟨A1, c1, rfl, B1, F⟩
  replace HVM := HVM.ext F
  replace HVE := HVE.ext F
  have E11 := E10.trans F
  clear F E10
  go_wp2_with fail
  refine (Meets_ok skyS A1 c1 0 1 1 60 w11 B1 hs kOk (by decide) (by decide)).mono ?_
  rintro e w12 ⟨vt, rfl, HVT, F⟩
  replace HVM := HVM.ext F
  replace HVE := HVE.ext F
  have E12 := E11.trans F
  clear F E11
  rw [kMeets] at HVT
  clear B1
  go_wp2_with fail
  refine (l_S_any _).mono ?_
  rintro e w13 ⟨A1, c1, rfl, B1, F⟩
  replace HVM := HVM.ext F
  replace HVE := HVE.ext F
  replace HVT := HVT.ext F
  have E13 := E12.trans F
  clear F E12
  go_wp2_with fail
  refine (Month_ok skyS A1 c1 w13 B1 hs kIsMonth kOk).mono ?_
  rintro e w14 ⟨rfl, F⟩
  replace HVM := HVM.ext F
  replace HVE := HVE.ext F
  replace HVT := HVT.ext F
  have E14 := E13.trans F
  clear F E13
  rw [kMonth1, kMonth2]
  clear B1
  go_wp2_with fail
  refine (l_S_any _).mono ?_
  rintro e w15 ⟨A1, c1, rfl, B1, F⟩
  replace HVM := HVM.ext F
  replace HVE := HVE.ext F
  replace HVT := HVT.ext F
  have E15 := E14.trans F
  clear F E14
  go_wp2_with fail
  refine (Cycle_ok skyS A1 c1 400 w15 B1 hs kIsMonth kOk (by decide)).mono ?_
  rintro e w16 ⟨rfl, F⟩
  replace HVM := HVM.ext F
  replace HVE := HVE.ext F
  replace HVT := HVT.ext F
  have E16 := E15.trans F
  clear F E15
  rw [show cycleV skyS 400 = .tuple #[.int .i64 6, .int .i64 0] by unfold cycleV; rw [kCycle]]
  clear B1
  go_wp2_with fail
  refine (l_A_any _).mono ?_
  rintro e w17 ⟨rfl, F⟩
  replace HVM := HVM.ext F
  replace HVE := HVE.ext F
  replace HVT := HVT.ext F
  have E17 := E16.trans F
  clear F E16
  go_wp2_with fail
  refine (l_B_any _).mono ?_
  rintro e w18 ⟨rfl, F⟩
  replace HVM := HVM.ext F
  replace HVE := HVE.ext F
  replace HVT := HVT.ext F
  have E18 := E17.trans F
  clear F E17
  go_wp2_with fail
  have F := (Ext.refl w18).alloc (.cells #[.int .i64 100, .int .i64 10800, .int .i64 0, .int .i64 1000, .int .i64 5, .int .i64 2] 76)
  have R19 := Row.new w18 76 #[.int .i64 100, .int .i64 10800, .int .i64 0, .int .i64 1000, .int .i64 5, .int .i64 2]
  replace HVM := HVM.ext F
  replace HVE := HVE.ext F
  replace HVT := HVT.ext F
  have E19 := E18.trans F
  have hz19 : (w18.alloc (.cells #[.int .i64 100, .int .i64 10800, .int .i64 0, .int .i64 1000, .int .i64 5, .int .i64 2] 76)).heap.size = w18.heap.size + 1 := World.size_alloc _ _
  generalize hw19 : w18.alloc (.cells #[.int .i64 100, .int .i64 10800, .int .i64 0, .int .i64 1000, .int .i64 5, .int .i64 2] 76) = w19 at *
  clear F E18 hw19
  refine (Speeds_ok 0 107900 108200 (some ⟨w18.heap.size, 0, none⟩) 2 [noteA, noteB] w19 (notes_row R19 (fun k hk => by match k, hk with | 0, _ => exact ⟨rfl, rfl, rfl⟩ | 1, _ => exact ⟨rfl, rfl, rfl⟩)) (by decide) (by decide) (by rw [kSpeeds]; simp)).mono ?_
  rintro e w20 ⟨rfl, F⟩
  replace HVM := HVM.ext F
  replace HVE := HVE.ext F
  replace HVT := HVT.ext F
  have E20 := E19.trans F
  clear F E19
  rw [kSpeeds]
  clear R19
  simp only [List.headD_cons, List.length_cons, List.length_nil]
  go_wp2_with fail
  have F := (Ext.refl w20).alloc (.cells #[.int .i64 108003, .int .i64 108007] 61)
  have R21 := Row.new w20 61 #[.int .i64 108003, .int .i64 108007]
  replace HVM := HVM.ext F
  replace HVE := HVE.ext F
  replace HVT := HVT.ext F
  have E21 := E20.trans F
  have hz21 : (w20.alloc (.cells #[.int .i64 108003, .int .i64 108007] 61)).heap.size = w20.heap.size + 1 := World.size_alloc _ _
  generalize hw21 : w20.alloc (.cells #[.int .i64 108003, .int .i64 108007] 61) = w21 at *
  clear F E20 hw21
  refine (l_A_any _).mono ?_
  rintro e w22 ⟨rfl, F⟩
  replace HVM := HVM.ext F
  replace HVE := HVE.ext F
  replace HVT := HVT.ext F
  replace R21 := R21.ext F
  have E22 := E21.trans F
  clear F E21
  go_wp2_with fail
  have F := (Ext.refl w22).alloc (.cells #[.int .i64 100, .int .i64 10800, .int .i64 0] 76)
  have R23 := Row.new w22 76 #[.int .i64 100, .int .i64 10800, .int .i64 0]
  replace HVM := HVM.ext F
  replace HVE := HVE.ext F
  replace HVT := HVT.ext F
  replace R21 := R21.ext F
  have E23 := E22.trans F
  have hz23 : (w22.alloc (.cells #[.int .i64 100, .int .i64 10800, .int .i64 0] 76)).heap.size = w22.heap.size + 1 := World.size_alloc _ _
  generalize hw23 : w22.alloc (.cells #[.int .i64 100, .int .i64 10800, .int .i64 0] 76) = w23 at *
  clear F E22 hw23
  have F := (Ext.refl w23).alloc (.cells #[.int .i64 100, .int .i64 1000] 3)
  have R24 := Row.new w23 3 #[.int .i64 100, .int .i64 1000]
  replace HVM := HVM.ext F
  replace HVE := HVE.ext F
  replace HVT := HVT.ext F
  replace R21 := R21.ext F
  replace R23 := R23.ext F
  have E24 := E23.trans F
  have hz24 : (w23.alloc (.cells #[.int .i64 100, .int .i64 1000] 3)).heap.size = w23.heap.size + 1 := World.size_alloc _ _
  generalize hw24 : w23.alloc (.cells #[.int .i64 100, .int .i64 1000] 3) = w24 at *
  clear F E23 hw24
  rw [hz23] at R24
  refine (Watch_ok 0 107900 108200 0 (some ⟨w22.heap.size, 0, none⟩) (some ⟨w22.heap.size + 1, 0, none⟩) 1 2 [noteA] [100, 1000] w24 (notes_row R23 (fun k hk => by match k, hk with | 0, _ => exact ⟨rfl, rfl, rfl⟩)) (ints_row R24 (fun k hk => by match k, hk with | 0, _ => rfl | 1, _ => rfl)) (by decide) (by decide) (by decide) (by rw [kSpeedsA]; simp)).mono ?_
  rintro e w25 ⟨rfl, F⟩
  replace HVM := HVM.ext F
  replace HVE := HVE.ext F
  replace HVT := HVT.ext F
  replace R21 := R21.ext F
  have E25 := E24.trans F
  clear F E24
  rw [kSpeedsA', kWatch, show rd [100, 1000] 1 = 1000 from rfl, kLeft1000]
  clear R23 R24
  go_wp2_with fail
  refine (read_known _ (HV.out.ext E25)).mono ?_
  rintro e w26 ⟨A1, c1, rfl, B1, F⟩
  replace HVM := HVM.ext F
  replace HVE := HVE.ext F
  replace HVT := HVT.ext F
  replace R21 := R21.ext F
  have E26 := E25.trans F
  clear F E25
  go_wp2_with fail
  have F := (Ext.refl w26).alloc (.cells #[.slice A1 2 c1, .int .i64 4, .int .i64 1, .int .i64 0] 28)
  have R27 := Row.new w26 28 #[.slice A1 2 c1, .int .i64 4, .int .i64 1, .int .i64 0]
  replace HVM := HVM.ext F
  replace HVE := HVE.ext F
  replace HVT := HVT.ext F
  replace R21 := R21.ext F
  replace B1 := B1.ext F
  have E27 := E26.trans F
  have hz27 : (w26.alloc (.cells #[.slice A1 2 c1, .int .i64 4, .int .i64 1, .int .i64 0] 28)).heap.size = w26.heap.size + 1 := World.size_alloc _ _
  generalize hw27 : w26.alloc (.cells #[.slice A1 2 c1, .int .i64 4, .int .i64 1, .int .i64 0] 28) = w27 at *
  clear F E26 hw27
  have F := (Ext.refl w27).alloc (.cells #[.int .i64 15, .bool true, .int .i64 30, .bool false, .int .i64 44, .bool true] 40)
  have R28 := Row.new w27 40 #[.int .i64 15, .bool true, .int .i64 30, .bool false, .int .i64 44, .bool true]
  replace HVM := HVM.ext F
  replace HVE := HVE.ext F
  replace HVT := HVT.ext F
  replace R21 := R21.ext F
  replace B1 := B1.ext F
  replace R27 := R27.ext F
  have E28 := E27.trans F
  have hz28 : (w27.alloc (.cells #[.int .i64 15, .bool true, .int .i64 30, .bool false, .int .i64 44, .bool true] 40)).heap.size = w27.heap.size + 1 := World.size_alloc _ _
  generalize hw28 : w27.alloc (.cells #[.int .i64 15, .bool true, .int .i64 30, .bool false, .int .i64 44, .bool true] 40) = w28 at *
  clear F E27 hw28
  rw [hz27] at R28
  refine (r_SameMoons_any vm _ [(15, true), (30, false), (44, true)] [(15, true), (30, false), (44, true)] w28 HVM (moons_row R28 ⟨rfl, rfl⟩) (by decide) (by decide)).mono ?_
  rintro e w29 ⟨rfl, F⟩
  replace HVM := HVM.ext F
  replace HVE := HVE.ext F
  replace HVT := HVT.ext F
  replace R21 := R21.ext F
  replace B1 := B1.ext F
  replace R27 := R27.ext F
  have E29 := E28.trans F
  clear F E28
  simp only [decide_true]
  clear R28 HVM
  go_wp2_with fail
  have F := (Ext.refl w29).alloc (.cells #[.int .i64 15, .bool true, .int .i64 187] 56)
  have R30 := Row.new w29 56 #[.int .i64 15, .bool true, .int .i64 187]
  replace HVE := HVE.ext F
  replace HVT := HVT.ext F
  replace R21 := R21.ext F
  replace B1 := B1.ext F
  replace R27 := R27.ext F
  have E30 := E29.trans F
  have hz30 : (w29.alloc (.cells #[.int .i64 15, .bool true, .int .i64 187] 56)).heap.size = w29.heap.size + 1 := World.size_alloc _ _
  generalize hw30 : w29.alloc (.cells #[.int .i64 15, .bool true, .int .i64 187] 56) = w30 at *
  clear F E29 hw30
  refine (r_SameEclipses_any ve _ [⟨15, true, 187⟩] [⟨15, true, 187⟩] w30 HVE (ecls_row R30 ⟨rfl, rfl⟩) (by decide) (by decide)).mono ?_
  rintro e w31 ⟨rfl, F⟩
  replace HVE := HVE.ext F
  replace HVT := HVT.ext F
  replace R21 := R21.ext F
  replace B1 := B1.ext F
  replace R27 := R27.ext F
  have E31 := E30.trans F
  clear F E30
  simp only [decide_true]
  clear R30 HVE
  go_wp2_with fail
  have F := (Ext.refl w31).alloc (.cells #[.int .i64 30, .int .i64 59] 3)
  have R32 := Row.new w31 3 #[.int .i64 30, .int .i64 59]
  replace HVT := HVT.ext F
  replace R21 := R21.ext F
  replace B1 := B1.ext F
  replace R27 := R27.ext F
  have E32 := E31.trans F
  have hz32 : (w31.alloc (.cells #[.int .i64 30, .int .i64 59] 3)).heap.size = w31.heap.size + 1 := World.size_alloc _ _
  generalize hw32 : w31.alloc (.cells #[.int .i64 30, .int .i64 59] 3) = w32 at *
  clear F E31 hw32
  refine (r_Same_any vt _ [30, 59] [30, 59] w32 HVT ⟨_, _, rfl, ints_row R32 (fun k hk => by match k, hk with | 0, _ => rfl | 1, _ => rfl)⟩ (by decide) (by decide)).mono ?_
  rintro e w33 ⟨rfl, F⟩
  replace HVT := HVT.ext F
  replace R21 := R21.ext F
  replace B1 := B1.ext F
  replace R27 := R27.ext F
  have E33 := E32.trans F
  clear F E32
  simp only [decide_true]
  clear R32 HVT
  have s21 := R21.cell
  have s27 := R27.cell
  have hsp := eql_span 108003 108007 108003 108007
  go_wp2_with fail
  refine (r_Print_any skyT A1 c1 w33 B1 (roadsIn_of_ok (skyOk_iff.1 kOkT) _ _) (skyText_of_ok (skyOk_iff.1 kOkT))).mono ?_
  rintro e w34 ⟨rfl, F⟩
  replace R21 := R21.ext F
  replace B1 := B1.ext F
  replace R27 := R27.ext F
  have E34 := E33.trans F
  clear F E33
  rw [kTextV]
  go_wp2_with fail
  go_ret
  exact ⟨rfl, E34⟩
end Go.Proofs.YtlcddcnmoajpjaaGreatDoor
