/- Volume 13 of the texts that the laws of this seat use: EcKnown EcOpen EcLaws4 EcTurnedW EcShadesW EcR7Spots EcMovesW: walks of the program's functions, and plain laws. -/
import Derived.Carry
import Derived.ProofKit
import Derived.Deep.Slices
import Derived.Stop.LaidErr
import Derived.Lib.LaidTab
import Derived.Deep.DeepHandedRow
import Derived.WalkKit
import Derived.Shelf.Vars
import Derived.BigQuiet
import Derived.Test.YtfkcbgehcbhjnaaGreatDoorH11
import Derived.Test.YtfkcbgehcbhjnaaGreatDoorH12
import Derived.Test.YtfkcbgehcbhjnaaGreatDoorH03
import Derived.Test.YtfkcbgehcbhjnaaGreatDoorH04
import Derived.Test.YtfkcbgehcbhjnaaGreatDoorH07
import Derived.Test.YtfkcbgehcbhjnaaGreatDoorH08
import Derived.Test.YtfkcbgehcbhjnaaGreatDoorH09
import Derived.Test.YtfkcbgehcbhjnaaGreatDoorCards
import Derived.Test.YtfkcbgehcbhjnaaGreatDoorTie
namespace Go.Proofs.YtfkcbgehcbhjnaaGreatDoor
open Go.RowKit
open Sp (rd)
set_option maxRecDepth 100000
set_option maxHeartbeats 2000000
theorem short_of {l : List Sp.Body} (h : l = skyG.bodies) : Short l := by
 subst h
 exact ⟨by decide, fun k hk => by
  match k, hk with
  | 0, _ => decide
  | 1, _ => decide
  | n + 2, h => exact absurd h (by simp [skyG])⟩
theorem shortG : EngShort engG := ⟨short_of rfl, by decide, by decide, by decide, by decide⟩
theorem shortH : EngShort engH := ⟨short_of rfl, by decide, by decide, by decide, by decide⟩
theorem engSet0 {w : World} {p : EP} {e : Ec.Engine} (h : EngAt w p e) : EngSet w p e [] := ⟨h, fun h => absurd h (by simp)⟩
theorem ints_row {w : World} {g : Nat} {t : TypeId} {cs : Array Value} {l : List Int} (h : Row w g t cs) (hc : ∀ k, k < l.length → cs[k]? = some (.int .i64 (rd l k))) : Ints w (some ⟨g, 0, none⟩) l :=
 fun _ => ⟨g, 0, rfl, fun k hk => by rw [Nat.zero_add]; exact (h.cell _).trans (hc k hk)⟩
theorem ecls_row {w : World} {g c n : Nat} {t : TypeId} {cs : Array Value} {l : List Sp.Ecl} (h : Row w g t cs) (hn : n = l.length ∧ cs.toList = eclCells l) : EclVal w (.slice (some ⟨g, 0, none⟩) n c) l := by
 obtain ⟨rfl, hc⟩ := hn
 refine ⟨_, _, rfl, fun _ => ⟨g, 0, rfl, fun k hk => ?_⟩⟩
 obtain ⟨a, b, d⟩ := eclCells_get l k hk
 rw [← hc] at a b d
 rw [Nat.zero_add]
 exact ⟨(h.cell _).trans (by simpa using a), (h.cell _).trans (by simpa using b), (h.cell _).trans (by simpa using d)⟩
theorem neq_hands (a b c x y z : Int) (w : World) : (binOp .neq 63 (.agg #[.int .i64 a, .int .i64 b, .int .i64 c]) (.agg #[.int .i64 x, .int .i64 y, .int .i64 z])).run Tryz.prog w = .ok (.bool (!((a == x) && (b == y) && (c == z)))) w := by
 have hf : (Tryz.prog.fieldsOf 63).toList.map (fun f => (f.name, f.type, f.offset)) = [("Sun", 3, 0), ("Moon", 3, 1), ("Node", 3, 2)] := by kernel_rfl
 obtain ⟨f1, f2, f3, hfs, p1, p2, p3⟩ := map_three hf
 obtain ⟨n1, t1, o1⟩ := field_parts p1
 obtain ⟨n2, t2, o2⟩ := field_parts p2
 obtain ⟨n3, t3, o3⟩ := field_parts p3
 rw [run_neq_struct, run_equalIn_agg w 9999 _ _ _ (by kernel_rfl) (by kernel_rfl), hfs]
 simp [Op.eqFields, n1, t1, o1, n2, t2, o2, n3, t3, o3, part, go_sem]
 by_cases h : a = x <;> by_cases h2 : b = y <;> by_cases h3 : c = z <;> simp [h, h2, h3]
theorem kTextV : bs (Ec.textE [⟨15, true, 463⟩]) = ⟨#[101, 99, 108, 105, 112, 115, 101, 115, 32, 49, 10, 102, 117, 108, 108, 32, 49, 53, 32, 52, 54, 51, 10, 101, 110, 100, 32, 48, 56, 57, 10]⟩ := by rw [kTextE]; rfl
theorem k_G (w : World) : Calls Tryz.prog 33 #[] w fun e w' => ∃ Ab cb As cs Am cm An cn Af cf, e = .returned (.agg #[.slice Ab 2 cb, .int .i64 1800, .int .i64 1, .int .i64 1000, .slice As 3 cs, .slice Am 2 cm, .slice An 3 cn, .slice Af 3 cf, .int .i64 1900, .int .i64 600, .int .i64 0]) ∧ EngAt w' ⟨Ab, cb, As, cs, Am, cm, An, cn, Af, cf, none, 0⟩ engG ∧ Ext w w' := by
 refine (l7_G_any w).mono ?_
 rintro e w' ⟨v, rfl, ⟨⟨Ab, cb, As, cs, Am, cm, An, cn, Af, cf, At, ct⟩, rfl, h1, h2, hE⟩, hX⟩
 dsimp only at h1 h2
 subst h1 h2
 exact ⟨Ab, cb, As, cs, Am, cm, An, cn, Af, cf, rfl, hE w' (fun _ _ _ hc => hc), hX⟩
theorem k_H (w : World) : Calls Tryz.prog 40 #[] w fun e w' => ∃ Ab cb As cs Am cm An cn Af cf, e = .returned (.agg #[.slice Ab 2 cb, .int .i64 1800, .int .i64 1, .int .i64 1000, .slice As 3 cs, .slice Am 2 cm, .slice An 3 cn, .slice Af 3 cf, .int .i64 0, .int .i64 313, .int .i64 0]) ∧ EngAt w' ⟨Ab, cb, As, cs, Am, cm, An, cn, Af, cf, none, 0⟩ engH ∧ Ext w w' := by
 refine (l7_H_any w).mono ?_
 rintro e w' ⟨v, rfl, ⟨⟨Ab, cb, As, cs, Am, cm, An, cn, Af, cf, At, ct⟩, rfl, h1, h2, hE⟩, hX⟩
 dsimp only at h1 h2
 subst h1 h2
 exact ⟨Ab, cb, As, cs, Am, cm, An, cn, Af, cf, rfl, hE, hX⟩
theorem k_Hands {Ab : Option Addr} {cb : Nat} {As : Option Addr} {cs : Nat} {Am : Option Addr} {cm : Nat} {An : Option Addr} {cn : Nat} {Af : Option Addr} {cf : Nat} (w : World) (h : EngAt w ⟨Ab, cb, As, cs, Am, cm, An, cn, Af, cf, none, 0⟩ engG) : Calls Tryz.prog 32 #[.agg #[.slice Ab 2 cb, .int .i64 1800, .int .i64 1, .int .i64 1000, .slice As 3 cs, .slice Am 2 cm, .slice An 3 cn, .slice Af 3 cf, .int .i64 1900, .int .i64 600, .int .i64 0], .slice none 0 0, .int .i64 15] w fun r w' => r = .returned (.tuple #[.agg #[.int .i64 900, .int .i64 12083, .int .i64 820], .int .i64 0]) ∧ Ext w w' := by
 refine (e_Hands_ok ⟨Ab, cb, As, cs, Am, cm, An, cn, Af, cf, none, 0⟩ engG [] 15 w (engSet0 h) shortG (by decide) kG (by decide) (by decide)).mono ?_
 rintro r w' ⟨rfl, hX⟩
 exact ⟨by unfold handsF; rw [kHands.1, kHands.2.1, kHands.2.2], hX⟩
theorem k_Off {Ab : Option Addr} {cb : Nat} {As : Option Addr} {cs : Nat} {Am : Option Addr} {cm : Nat} {An : Option Addr} {cn : Nat} {Af : Option Addr} {cf : Nat} (w : World) (h : EngAt w ⟨Ab, cb, As, cs, Am, cm, An, cn, Af, cf, none, 0⟩ engG) : Calls Tryz.prog 34 #[.agg #[.slice Ab 2 cb, .int .i64 1800, .int .i64 1, .int .i64 1000, .slice As 3 cs, .slice Am 2 cm, .slice An 3 cn, .slice Af 3 cf, .int .i64 1900, .int .i64 600, .int .i64 0], .slice none 0 0, .int .i64 15] w fun r w' => r = .returned (.tuple #[.agg #[.int .i64 0, .int .i64 83, .int .i64 0], .int .i64 0]) ∧ Ext w w' := by
 refine (e_Off_ok ⟨Ab, cb, As, cs, Am, cm, An, cn, Af, cf, none, 0⟩ engG [] 15 w (engSet0 h) shortG (by decide) kG (by decide) (by decide)).mono ?_
 rintro r w' ⟨rfl, hX⟩
 exact ⟨by rw [kOffs.1, kOffs.2.1, kOffs.2.2], hX⟩
theorem k_Foretells {Ab : Option Addr} {cb : Nat} {As : Option Addr} {cs : Nat} {Am : Option Addr} {cm : Nat} {An : Option Addr} {cn : Nat} {Af : Option Addr} {cf : Nat} (w : World) (h : EngAt w ⟨Ab, cb, As, cs, Am, cm, An, cn, Af, cf, none, 0⟩ engG) : Calls Tryz.prog 35 #[.agg #[.slice Ab 2 cb, .int .i64 1800, .int .i64 1, .int .i64 1000, .slice As 3 cs, .slice Am 2 cm, .slice An 3 cn, .slice Af 3 cf, .int .i64 1900, .int .i64 600, .int .i64 0], .slice none 0 0, .int .i64 1, .int .i64 44] w fun r w' => ∃ v, r = .returned (.tuple #[v, .int .i64 0]) ∧ EclVal w' v [⟨15, true, 463⟩, ⟨29, false, 1110⟩] ∧ Ext w w' := by
 refine (e_Foretells_ok ⟨Ab, cb, As, cs, Am, cm, An, cn, Af, cf, none, 0⟩ engG [] 1 44 w (engSet0 h) shortG (by decide) kG (by decide) (by decide)).mono ?_
 rintro r w' ⟨v, rfl, hv, hX⟩
 rw [kFore] at hv
 exact ⟨v, rfl, hv, hX⟩
theorem k_Missed {Ab : Option Addr} {cb : Nat} {As : Option Addr} {cs : Nat} {Am : Option Addr} {cm : Nat} {An : Option Addr} {cn : Nat} {Af : Option Addr} {cf : Nat} (w : World) (h : EngAt w ⟨Ab, cb, As, cs, Am, cm, An, cn, Af, cf, none, 0⟩ engG) : Calls Tryz.prog 36 #[.agg #[.slice Ab 2 cb, .int .i64 1800, .int .i64 1, .int .i64 1000, .slice As 3 cs, .slice Am 2 cm, .slice An 3 cn, .slice Af 3 cf, .int .i64 1900, .int .i64 600, .int .i64 0], .slice none 0 0, .int .i64 1, .int .i64 44, .int .i64 0] w fun r w' => ∃ v, r = .returned (.tuple #[v, .int .i64 0]) ∧ EclVal w' v [⟨30, false, 1893⟩] ∧ Ext w w' := by
 refine (e_Missed_ok ⟨Ab, cb, As, cs, Am, cm, An, cn, Af, cf, none, 0⟩ engG [] 1 44 0 w (engSet0 h) shortG (by decide) kG (by decide) (by decide) (by decide)).mono ?_
 rintro r w' ⟨v, rfl, hv, hX⟩
 rw [kMiss] at hv
 exact ⟨v, rfl, hv, hX⟩
theorem k_Within {Ab : Option Addr} {cb : Nat} {As : Option Addr} {cs : Nat} {Am : Option Addr} {cm : Nat} {An : Option Addr} {cn : Nat} {Af : Option Addr} {cf : Nat} (w : World) (h : EngAt w ⟨Ab, cb, As, cs, Am, cm, An, cn, Af, cf, none, 0⟩ engG) : Calls Tryz.prog 37 #[.agg #[.slice Ab 2 cb, .int .i64 1800, .int .i64 1, .int .i64 1000, .slice As 3 cs, .slice Am 2 cm, .slice An 3 cn, .slice Af 3 cf, .int .i64 1900, .int .i64 600, .int .i64 0], .slice none 0 0, .int .i64 1, .int .i64 44] w fun r w' => r = .returned (.tuple #[.int .i64 1, .int .i64 0]) ∧ Ext w w' := by
 refine (e_Within_ok ⟨Ab, cb, As, cs, Am, cm, An, cn, Af, cf, none, 0⟩ engG [] 1 44 w (engSet0 h) shortG (by decide) kG (by decide) (by decide)).mono ?_
 rintro r w' ⟨rfl, hX⟩
 exact ⟨by rw [kWithin]; rfl, hX⟩
theorem k_Until {Ab : Option Addr} {cb : Nat} {As : Option Addr} {cs : Nat} {Am : Option Addr} {cm : Nat} {An : Option Addr} {cn : Nat} {Af : Option Addr} {cf : Nat} (w : World) (h : EngAt w ⟨Ab, cb, As, cs, Am, cm, An, cn, Af, cf, none, 0⟩ engG) : Calls Tryz.prog 38 #[.agg #[.slice Ab 2 cb, .int .i64 1800, .int .i64 1, .int .i64 1000, .slice As 3 cs, .slice Am 2 cm, .slice An 3 cn, .slice Af 3 cf, .int .i64 1900, .int .i64 600, .int .i64 0], .slice none 0 0, .int .i64 1, .int .i64 44, .int .i64 0] w fun r w' => r = .returned (.tuple #[.int .i64 29, .int .i64 0]) ∧ Ext w w' := by
 refine (e_Until_ok ⟨Ab, cb, As, cs, Am, cm, An, cn, Af, cf, none, 0⟩ engG [] 1 44 0 w (engSet0 h) shortG (by decide) kG (by decide) (by decide) (by decide)).mono ?_
 rintro r w' ⟨rfl, hX⟩
 exact ⟨by rw [kUntil]; rfl, hX⟩
theorem k_Widens {Ab : Option Addr} {cb : Nat} {As : Option Addr} {cs : Nat} {Am : Option Addr} {cm : Nat} {An : Option Addr} {cn : Nat} {Af : Option Addr} {cf : Nat} (w : World) (h : EngAt w ⟨Ab, cb, As, cs, Am, cm, An, cn, Af, cf, none, 0⟩ engH) : Calls Tryz.prog 39 #[.agg #[.slice Ab 2 cb, .int .i64 1800, .int .i64 1, .int .i64 1000, .slice As 3 cs, .slice Am 2 cm, .slice An 3 cn, .slice Af 3 cf, .int .i64 0, .int .i64 313, .int .i64 0], .slice none 0 0, .int .i64 1, .int .i64 44, .int .i64 0] w fun r w' => r = .returned (.tuple #[.int .i64 150, .int .i64 0]) ∧ Ext w w' := by
 refine (e_Widens_ok ⟨Ab, cb, As, cs, Am, cm, An, cn, Af, cf, none, 0⟩ engH [] 1 44 0 w (engSet0 h) shortH (by decide) kH (by decide) (by decide) (by decide)).mono ?_
 rintro r w' ⟨rfl, hX⟩
 exact ⟨by rw [kWidens]; rfl, hX⟩
theorem k_Settings {Ab : Option Addr} {cb : Nat} {As : Option Addr} {cs : Nat} {Am : Option Addr} {cm : Nat} {An : Option Addr} {cn : Nat} {Af : Option Addr} {cf : Nat} (w : World) (h : EngAt w ⟨Ab, cb, As, cs, Am, cm, An, cn, Af, cf, none, 0⟩ engG) : Calls Tryz.prog 41 #[.agg #[.slice Ab 2 cb, .int .i64 1800, .int .i64 1, .int .i64 1000, .slice As 3 cs, .slice Am 2 cm, .slice An 3 cn, .slice Af 3 cf, .int .i64 1900, .int .i64 600, .int .i64 0], .int .i64 1, .int .i64 44, .int .i64 0] w fun r w' => ∃ A c, r = .returned (.tuple #[.slice A 1 c, .int .i64 0]) ∧ Ints w' A [0] ∧ Ext w w' := by
 refine (e_Settings_ok ⟨Ab, cb, As, cs, Am, cm, An, cn, Af, cf, none, 0⟩ engG 1 44 0 w h shortG kG (by decide) (by decide)).mono ?_
 rintro r w' ⟨hS, hX⟩
 rw [show engG.feasts.length = 3 from rfl, kSetP] at hS
 obtain ⟨A, c, rfl, hI⟩ := hS
 exact ⟨A, c, rfl, hI, hX⟩
theorem k_Dark {A : Option Addr} (w : World) (h : BallsAt w A ballsB) : Calls Tryz.prog 19 #[.slice A 3 3] w fun r w' => ∃ B d, r = .returned (.tuple #[.slice B 3 d, .int .i64 0]) ∧ Ints w' B [1, 3, 2] ∧ Ext w w' := by
 refine (e_Dark_ok ballsB A 3 w h (by decide) kBalls).mono ?_
 rintro r w' ⟨B, d, rfl, hI, hX⟩
 rw [kDark] at hI ⊢
 exact ⟨B, d, rfl, hI, hX⟩
theorem k_Read (w : World) (hV : Env w) : Calls Tryz.prog 13 #[.string ⟨#[101, 99, 108, 105, 112, 115, 101, 115, 32, 49, 10, 102, 117, 108, 108, 32, 49, 53, 32, 52, 54, 51, 10, 101, 110, 100, 32, 48, 56, 57, 10]⟩] w fun r w' => ∃ A c, r = .returned (.tuple #[.slice A 1 c, .int .i64 0]) ∧ EclAt w' A [⟨15, true, 463⟩] ∧ Ext w w' := by
 refine (e_Read_ok textKE [⟨15, true, 463⟩] w hV (by decide) kParseE (fun A c W hm => e_isList_one A c 15 463 true W hm (by decide) (by decide))).mono ?_
 rintro r w' ⟨v, rfl, ⟨A, c, rfl, hv⟩, hX⟩
 exact ⟨A, c, rfl, hv, hX⟩
theorem l7_known_any (w : World) (hV : Env w) : Calls Tryz.prog 10 #[] w fun e w' => e = .returned (.bool true) ∧ Ext w w' := by
 have HV := Lib.hid hV
 clear hV
 go_enter Tryz.func10, Tryz.ntmps10
 go_wp2_with fail
 have E0 : Ext w w := Ext.refl w
 refine (k_G _).mono ?_
 rintro e w1 ⟨Ab, cb, As, cs, Am, cm, An, cn, Af, cf, rfl, B, F⟩
 have E1 := E0.trans F
 clear F E0
 go_wp2_with fail
 refine (k_Hands _ B).mono ?_
 rintro e w2 ⟨rfl, F⟩
 have E2 := E1.trans F
 clear F E1
 clear B
 go_wp2_with fail
 have F := (Ext.refl w2).alloc (.cells #[.int .i64 900, .int .i64 12083, .int .i64 820] 63)
 have RH := Row.new w2 63 #[.int .i64 900, .int .i64 12083, .int .i64 820]
 have E3 := E2.trans F
 have hz3 : (w2.alloc (.cells #[.int .i64 900, .int .i64 12083, .int .i64 820] 63)).heap.size = w2.heap.size + 1 := World.size_alloc _ _
 generalize hw3 : w2.alloc (.cells #[.int .i64 900, .int .i64 12083, .int .i64 820] 63) = w3 at *
 clear F E2 hw3
 obtain ⟨gh, hgh⟩ : ∃ gh, w2.heap.size = gh := ⟨_, rfl⟩
 rw [hgh] at RH ⊢
 clear hgh hz3
 refine (k_G _).mono ?_
 rintro e w4 ⟨Ab, cb, As, cs, Am, cm, An, cn, Af, cf, rfl, B, F⟩
 replace RH := RH.ext F
 have E4 := E3.trans F
 clear F E3
 go_wp2_with fail
 refine (k_Off _ B).mono ?_
 rintro e w5 ⟨rfl, F⟩
 replace RH := RH.ext F
 have E5 := E4.trans F
 clear F E4
 clear B
 go_wp2_with fail
 have F := (Ext.refl w5).alloc (.cells #[.int .i64 0, .int .i64 83, .int .i64 0] 63)
 have RO := Row.new w5 63 #[.int .i64 0, .int .i64 83, .int .i64 0]
 replace RH := RH.ext F
 have E6 := E5.trans F
 have hz6 : (w5.alloc (.cells #[.int .i64 0, .int .i64 83, .int .i64 0] 63)).heap.size = w5.heap.size + 1 := World.size_alloc _ _
 generalize hw6 : w5.alloc (.cells #[.int .i64 0, .int .i64 83, .int .i64 0] 63) = w6 at *
 clear F E5 hw6
 obtain ⟨go, hgo⟩ : ∃ go, w5.heap.size = go := ⟨_, rfl⟩
 rw [hgo] at RO ⊢
 clear hgo hz6
 refine (k_G _).mono ?_
 rintro e w7 ⟨Ab, cb, As, cs, Am, cm, An, cn, Af, cf, rfl, B, F⟩
 replace RH := RH.ext F
 replace RO := RO.ext F
 have E7 := E6.trans F
 clear F E6
 go_wp2_with fail
 refine (k_Foretells _ B).mono ?_
 rintro e w8 ⟨vf, rfl, HF, F⟩
 replace RH := RH.ext F
 replace RO := RO.ext F
 have E8 := E7.trans F
 clear F E7
 clear B
 go_wp2_with fail
 refine (k_G _).mono ?_
 rintro e w9 ⟨Ab, cb, As, cs, Am, cm, An, cn, Af, cf, rfl, B, F⟩
 replace RH := RH.ext F
 replace RO := RO.ext F
 replace HF := HF.ext F
 have E9 := E8.trans F
 clear F E8
 go_wp2_with fail
 refine (k_Missed _ B).mono ?_
 rintro e w10 ⟨vm, rfl, HM, F⟩
 replace RH := RH.ext F
 replace RO := RO.ext F
 replace HF := HF.ext F
 have E10 := E9.trans F
 clear F E9
 clear B
 go_wp2_with fail
 refine (k_G _).mono ?_
 rintro e w11 ⟨Ab, cb, As, cs, Am, cm, An, cn, Af, cf, rfl, B, F⟩
 replace RH := RH.ext F
 replace RO := RO.ext F
 replace HF := HF.ext F
 replace HM := HM.ext F
 have E11 := E10.trans F
 clear F E10
 go_wp2_with fail
 refine (k_Within _ B).mono ?_
 rintro e w12 ⟨rfl, F⟩
 replace RH := RH.ext F
 replace RO := RO.ext F
 replace HF := HF.ext F
 replace HM := HM.ext F
 have E12 := E11.trans F
 clear F E11
 clear B
 go_wp2_with fail
 refine (k_G _).mono ?_
 rintro e w13 ⟨Ab, cb, As, cs, Am, cm, An, cn, Af, cf, rfl, B, F⟩
 replace RH := RH.ext F
 replace RO := RO.ext F
 replace HF := HF.ext F
 replace HM := HM.ext F
 have E13 := E12.trans F
 clear F E12
 go_wp2_with fail
 refine (k_Until _ B).mono ?_
 rintro e w14 ⟨rfl, F⟩
 replace RH := RH.ext F
 replace RO := RO.ext F
 replace HF := HF.ext F
 replace HM := HM.ext F
 have E14 := E13.trans F
 clear F E13
 clear B
 go_wp2_with fail
 refine (k_H _).mono ?_
 rintro e w15 ⟨Ab, cb, As, cs, Am, cm, An, cn, Af, cf, rfl, B, F⟩
 replace RH := RH.ext F
 replace RO := RO.ext F
 replace HF := HF.ext F
 replace HM := HM.ext F
 have E15 := E14.trans F
 clear F E14
 go_wp2_with fail
 refine (k_Widens _ B).mono ?_
 rintro e w16 ⟨rfl, F⟩
 replace RH := RH.ext F
 replace RO := RO.ext F
 replace HF := HF.ext F
 replace HM := HM.ext F
 have E16 := E15.trans F
 clear F E15
 clear B
 go_wp2_with fail
 refine (k_G _).mono ?_
 rintro e w17 ⟨Ab, cb, As, cs, Am, cm, An, cn, Af, cf, rfl, B, F⟩
 replace RH := RH.ext F
 replace RO := RO.ext F
 replace HF := HF.ext F
 replace HM := HM.ext F
 have E17 := E16.trans F
 clear F E16
 go_wp2_with fail
 refine (k_Settings _ B).mono ?_
 rintro e w18 ⟨A1, c1, rfl, HS, F⟩
 replace RH := RH.ext F
 replace RO := RO.ext F
 replace HF := HF.ext F
 replace HM := HM.ext F
 have E18 := E17.trans F
 clear F E17
 clear B
 go_wp2_with fail
 refine (l7_B_any _).mono ?_
 rintro e w19 ⟨A2, rfl, B, F⟩
 replace RH := RH.ext F
 replace RO := RO.ext F
 replace HF := HF.ext F
 replace HM := HM.ext F
 replace HS := HS.ext F
 have E19 := E18.trans F
 clear F E18
 go_wp2_with fail
 refine (k_Dark _ B).mono ?_
 rintro e w20 ⟨A3, c3, rfl, HD, F⟩
 replace RH := RH.ext F
 replace RO := RO.ext F
 replace HF := HF.ext F
 replace HM := HM.ext F
 replace HS := HS.ext F
 have E20 := E19.trans F
 clear F E19
 clear B
 go_wp2_with fail
 refine (k_Read _ (HV.out.ext E20)).mono ?_
 rintro e w21 ⟨A4, c4, rfl, HR, F⟩
 replace RH := RH.ext F
 replace RO := RO.ext F
 replace HF := HF.ext F
 replace HM := HM.ext F
 replace HS := HS.ext F
 replace HD := HD.ext F
 have E21 := E20.trans F
 clear F E20
 have sh := RH.cell
 have so := RO.cell
 have eh := neq_hands 900 12083 820 900 12083 820
 have eo := neq_hands 0 83 0 0 83 0
 go_wp2_with fail
 clear sh so eh eo RH RO
 have F := (Ext.refl w21).alloc (.cells #[.int .i64 15, .bool true, .int .i64 463, .int .i64 29, .bool false, .int .i64 1110] 87)
 have R1 := Row.new w21 87 #[.int .i64 15, .bool true, .int .i64 463, .int .i64 29, .bool false, .int .i64 1110]
 replace HF := HF.ext F
 replace HM := HM.ext F
 replace HS := HS.ext F
 replace HD := HD.ext F
 replace HR := HR.ext F
 have E22 := E21.trans F
 have hz22 : (w21.alloc (.cells #[.int .i64 15, .bool true, .int .i64 463, .int .i64 29, .bool false, .int .i64 1110] 87)).heap.size = w21.heap.size + 1 := World.size_alloc _ _
 generalize hw22 : w21.alloc (.cells #[.int .i64 15, .bool true, .int .i64 463, .int .i64 29, .bool false, .int .i64 1110] 87) = w22 at *
 clear F E21 hw22
 refine (r_SameEclipses_any vf _ [⟨15, true, 463⟩, ⟨29, false, 1110⟩] [⟨15, true, 463⟩, ⟨29, false, 1110⟩] w22 HF (ecls_row R1 ⟨rfl, rfl⟩) (by decide) (by decide)).mono ?_
 rintro e w23 ⟨rfl, F⟩
 replace HF := HF.ext F
 replace HM := HM.ext F
 replace HS := HS.ext F
 replace HD := HD.ext F
 replace HR := HR.ext F
 have E23 := E22.trans F
 clear F E22
 simp only [decide_true]
 clear R1 HF
 go_wp2_with fail
 have F := (Ext.refl w23).alloc (.cells #[.int .i64 30, .bool false, .int .i64 1893] 87)
 have R1 := Row.new w23 87 #[.int .i64 30, .bool false, .int .i64 1893]
 replace HM := HM.ext F
 replace HS := HS.ext F
 replace HD := HD.ext F
 replace HR := HR.ext F
 have E24 := E23.trans F
 have hz24 : (w23.alloc (.cells #[.int .i64 30, .bool false, .int .i64 1893] 87)).heap.size = w23.heap.size + 1 := World.size_alloc _ _
 generalize hw24 : w23.alloc (.cells #[.int .i64 30, .bool false, .int .i64 1893] 87) = w24 at *
 clear F E23 hw24
 refine (r_SameEclipses_any vm _ [⟨30, false, 1893⟩] [⟨30, false, 1893⟩] w24 HM (ecls_row R1 ⟨rfl, rfl⟩) (by decide) (by decide)).mono ?_
 rintro e w25 ⟨rfl, F⟩
 replace HM := HM.ext F
 replace HS := HS.ext F
 replace HD := HD.ext F
 replace HR := HR.ext F
 have E25 := E24.trans F
 clear F E24
 simp only [decide_true]
 clear R1 HM
 go_wp2_with fail
 have F := (Ext.refl w25).alloc (.cells #[.int .i64 0] 3)
 have R1 := Row.new w25 3 #[.int .i64 0]
 replace HS := HS.ext F
 replace HD := HD.ext F
 replace HR := HR.ext F
 have E26 := E25.trans F
 have hz26 : (w25.alloc (.cells #[.int .i64 0] 3)).heap.size = w25.heap.size + 1 := World.size_alloc _ _
 generalize hw26 : w25.alloc (.cells #[.int .i64 0] 3) = w26 at *
 clear F E25 hw26
 refine (r_Same_any _ _ [0] [0] w26 ⟨A1, c1, rfl, HS⟩ ⟨_, _, rfl, ints_row R1 (fun k hk => by match k, hk with | 0, _ => rfl)⟩ (by decide) (by decide)).mono ?_
 rintro e w27 ⟨rfl, F⟩
 replace HS := HS.ext F
 replace HD := HD.ext F
 replace HR := HR.ext F
 have E27 := E26.trans F
 clear F E26
 simp only [decide_true]
 clear R1 HS
 go_wp2_with fail
 have F := (Ext.refl w27).alloc (.cells #[.int .i64 1, .int .i64 3, .int .i64 2] 39)
 have R1 := Row.new w27 39 #[.int .i64 1, .int .i64 3, .int .i64 2]
 replace HD := HD.ext F
 replace HR := HR.ext F
 have E28 := E27.trans F
 have hz28 : (w27.alloc (.cells #[.int .i64 1, .int .i64 3, .int .i64 2] 39)).heap.size = w27.heap.size + 1 := World.size_alloc _ _
 generalize hw28 : w27.alloc (.cells #[.int .i64 1, .int .i64 3, .int .i64 2] 39) = w28 at *
 clear F E27 hw28
 refine (r7_SameWords_any A3 _ c3 _ [1, 3, 2] [1, 3, 2] w28 HD (ints_row R1 (fun k hk => by match k, hk with | 0, _ => rfl | 1, _ => rfl | 2, _ => rfl)) (by decide) (by decide)).mono ?_
 rintro e w29 ⟨rfl, F⟩
 replace HD := HD.ext F
 replace HR := HR.ext F
 have E29 := E28.trans F
 clear F E28
 simp only [decide_true]
 clear R1 HD
 go_wp2_with fail
 refine (r7_Print_any [⟨15, true, 463⟩] A4 c4 w29 HR kNumE (by decide)).mono ?_
 rintro e w30 ⟨rfl, F⟩
 replace HR := HR.ext F
 have E30 := E29.trans F
 clear F E29
 rw [kTextV]
 go_wp2_with fail
 go_ret
 exact ⟨rfl, E30⟩
end Go.Proofs.YtfkcbgehcbhjnaaGreatDoor
namespace Go.Proofs.YtfkcbgehcbhjnaaGreatDoor
end Go.Proofs.YtfkcbgehcbhjnaaGreatDoor
namespace Go.Proofs.YtfkcbgehcbhjnaaGreatDoor
open Go.ChangeShapes Go.WideShapes Go.ChangeAt Go.RowKit
open Sp (rd)
set_option maxRecDepth 100000
set_option linter.constructorNameAsVariable false
section
variable {H : Type} {enc : TypeId × Value → H} {W : World} {spare : Nat → Bool} {held : Bool} {fuel : Nat} {cs : List Value} {x : DataW H × List MemPlace}
theorem get_some {α : Type} {l : List α} {i : Nat} {y : Option α} (h : y = l[i]?) (hi : i < l.length) : ∃ z, y = some z := ⟨l[i], by rw [h, List.getElem?_eq_getElem hi]⟩
theorem c3 : Tryz.prog.cellsOf 3 = 1 := by kernel_rfl
theorem list_more {α : Type} {l : List α} {n : Nat} (h : l.length = n + 1) : ∃ a t, l = a :: t ∧ t.length = n := by
 cases l with
 | nil => simp at h
 | cons a t => exact ⟨a, t, rfl, by simpa using h⟩
end
end Go.Proofs.YtfkcbgehcbhjnaaGreatDoor
namespace Go.Proofs.YtfkcbgehcbhjnaaGreatDoor
open Go.ChangeShapes Go.WideShapes Go.ChangeAt Go.RowKit
abbrev laidL : List (String × DataW Unit) := [("math/bits.deBruijn32tab", Rows.laid_math_bits_deBruijn32tab), ("math/bits.deBruijn64tab", Rows.laid_math_bits_deBruijn64tab), ("internal/strconv.uint64pow10", Rows.laid_internal_strconv_uint64pow10), ("unicode/utf8.acceptRanges", Rows.laid_unicode_utf8_acceptRanges), ("unicode/utf8.first", Rows.laid_unicode_utf8_first)]
theorem own : ownKnob Tryz.prog.godebug = none := by kernel_rfl
theorem laidOut : laidOutB Tryz.prog = true := by kernel_rfl
theorem gTab : Tryz.prog.globalNamed "internal/strconv.uint64pow10" = some 0 := by kernel_rfl
theorem gTabType : (Tryz.prog.globals[0]?).map (·.type) = some 228 := by kernel_rfl
theorem tabEq : (Rows.laid_internal_strconv_uint64pow10 : DataW Unit) = Lib.tabData .u64 Lib.pow10Tab := by kernel_rfl
theorem env_of {W : World} (h : laidMetH Tryz.prog laidL W) (hs : W.ShapedOpen Tryz.prog) : Env W := by
 have h' : laidMet Tryz.prog laidL W := h
 have h2 := h'.tail.tail
 rw [tabEq] at h2
 exact ⟨Lib.tabIs_of_head gTab gTabType Tryz.underlying228 Tryz.underlying206 (by kernel_rfl) (by kernel_rfl) h2, cell_of_shapedOpen_int (zero := #[.int .i64 0]) (t := 3) hs (of_decide_eq_true (by kernel_rfl)) (by kernel_rfl) rfl (by kernel_rfl) (by kernel_rfl) Tryz.underlying3⟩
def flatN : Nat → DataW Unit → List Value
 | 0, _ => []
 | n + 1, .agg l => l.flatMap (flatN n)
 | _ + 1, .lit (.int k z) => [.int k z]
 | _, _ => []
def layTab (d : DataW Unit) : Obj → Obj
 | .cells _ t fr => .cells (flatN 4 d).toArray t fr
 | o => o
noncomputable def laidWorld (os : Os) : World :=
 { World.holding Tryz.prog os ⟨#[], #[], []⟩ with heap := (((((World.holding Tryz.prog os ⟨#[], #[], []⟩).heap.modify 4 (layTab Rows.laid_math_bits_deBruijn32tab)).modify 5 (layTab Rows.laid_math_bits_deBruijn64tab)).modify 0 (layTab Rows.laid_internal_strconv_uint64pow10)).modify 3 (layTab Rows.laid_unicode_utf8_acceptRanges)).modify 2 (layTab Rows.laid_unicode_utf8_first) }
theorem trodAll_below {H : Type} {enc : TypeId × Value → H} {W W' : World} (hb : Below W.heap.size W W') : ∀ {ts : List TypeId} {vs : List Value} {ds : List (DataW H)} {ps : List MemPlace},
  (∀ t ∈ ts, Tryz.prog.readableRec t = true ∧ t < Tryz.prog.types.size) → DataW.TrodAll enc Tryz.prog W 0 (fun _ => true) true ts vs ds ps → (∀ x ∈ ps, x.block < W.heap.size) →
  DataW.TrodAll enc Tryz.prog W' 0 (fun b => decide (b < W.heap.size)) true ts vs ds ps
 | [], vs, ds, ps, _, h, _ => by
  obtain ⟨rfl, rfl, rfl⟩ := trodAll_nil h
  exact trodAll_mk0
 | t :: ts, vs, ds, ps, hk, h, hlt => by
  obtain ⟨v, vs1, d, ds1, a, b, rfl, rfl, rfl, h1, h2⟩ := trodAll_cons h
  have k := hk t (by simp)
  exact trodAll_cons_mk (Below.trod laidOut k.1 k.2 h1 hb (fun x hx => hlt x (by simp [hx]))) (trodAll_below hb (fun t ht => hk t (by simp [ht])) h2 (fun x hx => hlt x (by simp [hx])))
theorem post_true {H : Type} {enc : TypeId × Value → H} {f : Func} {s : ChangeSpec} {W W' : World} {args : Array Value} {ds gs : List (DataW H)} {before : List MemPlace}
  (hW : DataW.Whole enc Tryz.prog f.params.toList s.vars false W args.toList ds gs before) (hv : s.vars = []) (hr : f.resultTypes = #[4]) (hE : Ext W W')
  (hk : ∀ t ∈ f.params.toList, Tryz.prog.readableRec t = true ∧ t < Tryz.prog.types.size) (h1 : (s.fn H (ds ++ gs)).results = [.lit (.bool true)]) (h2 : (s.fn H (ds ++ gs)).args = ds) (h3 : (s.fn H (ds ++ gs)).vars = []) :
  s.post enc Tryz.prog f false true false false W args (.bool true) W' := by
 have hW0 := hW
 obtain ⟨p, q, hA, hV, rfl, hfz, hnd⟩ := hW
 rw [hv] at hV
 obtain ⟨rfl, rfl⟩ := trodVars_none hV
 have hlt : ∀ x ∈ p, x.block < W.heap.size := fun x hx => by simpa using hW0.lt x (by simpa using hx)
 refine ⟨ds, [], p ++ [], [], p, [], hW0, ?_, ?_, ?_, ?_, fun h => by cases h⟩
 ·rw [h1, hr]
  exact trodAll_cons_mk (shut_bool Tryz.underlying4 _) trodAll_mk0
 ·rw [h2]
  exact trodAll_below hE hk hA hlt
 ·rw [h3, hv]
  rfl
 ·exact World.keptBut_mono (fun _ f => f.elim) (Below.frame hE (fun _ => False))
end Go.Proofs.YtfkcbgehcbhjnaaGreatDoor
namespace Go.Proofs.YtfkcbgehcbhjnaaGreatDoor
open Go
set_option maxRecDepth 100000
theorem io_eq : Tryz.prog.initOrder = "harness 3935588a274329483ec0b5feff908a72916f84273b0dd370d56e5180bf3ed620 cut " ++ "at tellurion/tellurionlaw07.EclipsePrints tellurion/tellurionlaw07.EclipseReads tellurion/tellurionlaw07.EclipseSpoilt tellurion/tellurionlaw07.EclipseShades tellurion/tellurionlaw07.EclipseLines tellurion/tellurionlaw07.EclipseBigger tellurion/tellurionlaw07.EclipseMoves" := by kernel_rfl
theorem words_app (w r : List Char) (h : ∀ c ∈ w, c ≠ (Char.ofNat 32)) : wordsSigns (w ++ (Char.ofNat 32) :: r) = w :: wordsSigns r := by
 induction w with
 | nil => simp [wordsSigns]
 | cons c w ih =>
  have hc : c ≠ (Char.ofNat 32) := h c (by simp)
  have i := ih (fun d hd => h d (by simp [hd]))
  rw [List.cons_append, wordsSigns, i]
  exact hc
theorem sumSigns : isSumSigns "3935588a274329483ec0b5feff908a72916f84273b0dd370d56e5180bf3ed620".toList = true := by decide +kernel
theorem noSp : ∀ c ∈ "3935588a274329483ec0b5feff908a72916f84273b0dd370d56e5180bf3ed620".toList, c ≠ (Char.ofNat 32) := by decide +kernel
theorem noSp1 : ∀ c ∈ "harness".toList, c ≠ (Char.ofNat 32) := by decide +kernel
theorem noSp2 : ∀ c ∈ "cut".toList, c ≠ (Char.ofNat 32) := by decide +kernel
theorem headEq : "harness 3935588a274329483ec0b5feff908a72916f84273b0dd370d56e5180bf3ed620 cut ".toList = "harness".toList ++ (Char.ofNat 32) :: ("3935588a274329483ec0b5feff908a72916f84273b0dd370d56e5180bf3ed620".toList ++ (Char.ofNat 32) :: ("cut".toList ++ [(Char.ofNat 32)])) := by decide +kernel
theorem io_words : ∃ r, wordsSigns Tryz.prog.initOrder.toList = "harness".toList :: "3935588a274329483ec0b5feff908a72916f84273b0dd370d56e5180bf3ed620".toList :: "cut".toList :: r := by
 rw [io_eq, String.toList_append, headEq]
 generalize "at tellurion/tellurionlaw07.EclipsePrints tellurion/tellurionlaw07.EclipseReads tellurion/tellurionlaw07.EclipseSpoilt tellurion/tellurionlaw07.EclipseShades tellurion/tellurionlaw07.EclipseLines tellurion/tellurionlaw07.EclipseBigger tellurion/tellurionlaw07.EclipseMoves".toList = r
 refine ⟨wordsSigns r, ?_⟩
 rw [show ("harness".toList ++ (Char.ofNat 32) :: ("3935588a274329483ec0b5feff908a72916f84273b0dd370d56e5180bf3ed620".toList ++ (Char.ofNat 32) :: ("cut".toList ++ [(Char.ofNat 32)]))) ++ r = "harness".toList ++ (Char.ofNat 32) :: ("3935588a274329483ec0b5feff908a72916f84273b0dd370d56e5180bf3ed620".toList ++ (Char.ofNat 32) :: ("cut".toList ++ (Char.ofNat 32) :: r)) by simp only [List.append_assoc, List.cons_append, List.nil_append]]
 rw [words_app _ _ noSp1, words_app _ _ noSp, words_app _ _ noSp2]
theorem behind_at (s : List Char) (r : List (List Char)) (hs : isSumSigns s = true) : behindMainWord ("harness".toList :: s :: r) = r := by
 show (if (("harness".toList == "harness".toList || "harness".toList == "ownmain".toList) && isSumSigns s) = true then r else _) = r
 rw [hs, if_pos (by rw [beq_self_eq_true]; rfl)]
theorem io_behind : ∃ r, behindMainWord (wordsSigns Tryz.prog.initOrder.toList) = "cut".toList :: r := by
 obtain ⟨r, h⟩ := io_words
 exact ⟨r, by rw [h, behind_at _ _ sumSigns]⟩
theorem strip_no (w : List Char) (ws : List (List Char)) : ∀ os : List String, (∀ o ∈ os, (w == o.toList) = false) → stripLifts os (w :: ws) = ([], w :: ws)
 | [], _ => rfl
 | o :: os, h => by
  rw [stripLifts, h o (by simp)]
  exact strip_no w ws os (fun x hx => h x (by simp [hx]))
theorem cutNo : ∀ o ∈ liftWords, ("cut".toList == o.toList) = false := by decide +kernel
theorem lays_no : Tryz.prog.laysLater = false := by kernel_rfl
theorem refl_no : Tryz.prog.bearsReflect = false := by kernel_rfl
theorem door_ok : Tryz.prog.doorFits [] = true := by kernel_rfl
theorem lifts_of {P : Program} {c : List Char} {r : List (List Char)} (h : behindMainWord (wordsSigns P.initOrder.toList) = c :: r) (hs : stripLifts liftWords (c :: r) = ([], c :: r)) (e : (some c == some "carried".toList) = false) : P.liftsFinal = false := by
 unfold Program.liftsFinal Program.headLifts
 rw [h, hs]
 show ((some c == some "carried".toList && _) || _) = false
 rw [e, Bool.false_and, Bool.false_or]
 dsimp only
 split <;> rfl
theorem lifts_no : Tryz.prog.liftsFinal = false := by
 obtain ⟨r, h⟩ := io_behind
 exact lifts_of h (strip_no _ r _ cutNo) (by decide +kernel)
theorem make_of {P : Program} {c : List Char} {r : List (List Char)} (h : behindMainWord (wordsSigns P.initOrder.toList) = c :: r) (e1 : (c == "gc".toList || c == "spec".toList) = false) (e2 : (c == "cut".toList) = true) : P.make = some .cut := by
 unfold Program.make
 rw [h]
 show (if (c == "gc".toList || c == "spec".toList) = true then _ else if (c == "cut".toList || _) = true then _ else _) = _
 rw [e1, e2, if_neg (by decide), if_pos (by rw [Bool.true_or])]
theorem make_cut : Tryz.prog.make = some .cut := by
 obtain ⟨r, h⟩ := io_behind
 exact make_of h (by decide +kernel) (by decide +kernel)
theorem may_of {P : Program} {c : List Char} {r : List (List Char)} (h : behindMainWord (wordsSigns P.initOrder.toList) = c :: r) (hs : stripLifts liftWords (c :: r) = ([], c :: r)) (e : (some c == some "cut".toList) = true) (h1 : P.laysLater = false) (h2 : P.bearsReflect = false) (h3 : P.doorFits [] = true) : P.mayEnter = true := by
 unfold Program.mayEnter
 rw [h]
 dsimp only
 rw [hs, h1, h2, h3]
 show (_ || _ || (some c == some "cut".toList && _ && _ && _ && true)) = true
 rw [e]
 simp only [Bool.not_false, Bool.or_true, Bool.and_true, Bool.true_and, Bool.or_eq_true]
 right
 right
 rfl
theorem may_yes : Tryz.prog.mayEnter = true := by
 obtain ⟨r, h⟩ := io_behind
 exact may_of h (strip_no _ r _ cutNo) (by decide +kernel) lays_no refl_no door_ok
end Go.Proofs.YtfkcbgehcbhjnaaGreatDoor
namespace Go.Proofs.YtfkcbgehcbhjnaaGreatDoor
open Go
set_option maxRecDepth 100000
theorem main_of {P : Program} {s : List Char} {r : List (List Char)} (h : wordsSigns P.initOrder.toList = "harness".toList :: s :: r) (hs : isSumSigns s = true) : P.mainIs = some (true, s) := by
 unfold Program.mainIs
 rw [h]
 show (if (!isSumSigns s) = true then none else if ("harness".toList == "harness".toList) = true then some (true, s) else _) = some (true, s)
 rw [hs, if_neg (by decide), if_pos (beq_self_eq_true _)]
theorem main_is : Tryz.prog.mainIs = some (true, "3935588a274329483ec0b5feff908a72916f84273b0dd370d56e5180bf3ed620".toList) := by
 obtain ⟨r, h⟩ := io_words
 exact main_of h sumSigns
end Go.Proofs.YtfkcbgehcbhjnaaGreatDoor
namespace Go.Proofs.YtfkcbgehcbhjnaaGreatDoor
open Go.RowKit
open Sp (rd)
theorem wp_stop {P : Program} {c : Code} {Q : Exit → Act → World → Prop} {a : Act} {w : World} (h : ∀ K : Exit → Act → World → Prop, (∀ e a' w', Q e a' w' → K e a' w') → c.wp P K a w) : c.wp P Q a w := h Q (fun _ _ _ h => h)
end Go.Proofs.YtfkcbgehcbhjnaaGreatDoor
namespace Go.Proofs.YtfkcbgehcbhjnaaGreatDoor
open Go.RowKit
open Sp (rd)
set_option maxRecDepth 100000
set_option maxHeartbeats 4000000
set_option linter.unusedVariables false
theorem meets_eq (bx by_ br x y C D N M : Int) (ins : Bool) (hC : bx * y - by_ * x = C) (hD : bx * x + by_ * y = D) (hN : C * C = N) (hM : br * br * (x * x + y * y) = M) :
  Ec.meets ⟨bx, by_, br⟩ x y ins = (decide (0 < D) && (decide (N < M) || (N == M && !ins))) := by
 unfold Ec.meets
 simp only [hC, hD, hN, hM]
 rw [Bool.eq_iff_iff]
 simp
theorem l7_meets_any (bx by_ br x y : Int) (ins : Bool) (w : World) (h1 : -200 ≤ bx ∧ bx ≤ 200) (h2 : -200 ≤ by_ ∧ by_ ≤ 200) (h3 : -200 ≤ br ∧ br ≤ 200) (h4 : -1000 ≤ x ∧ x ≤ 1000) (h5 : -1000 ≤ y ∧ y ≤ 1000) :
  Calls Tryz.prog 27 #[.agg #[.int .i64 bx, .int .i64 by_, .int .i64 br], .int .i64 x, .int .i64 y, .bool ins] w fun e w' => e = .returned (.bool (Ec.meets ⟨bx, by_, br⟩ x y ins)) ∧ Ext w w' := by
 have p1 := prod_lim h1.1 h1.2 h5.1 h5.2
 have p2 := prod_lim h2.1 h2.2 h4.1 h4.2
 have p3 := prod_lim h1.1 h1.2 h4.1 h4.2
 have p4 := prod_lim h2.1 h2.2 h5.1 h5.2
 have q1 := sq_bounds h3.1 h3.2
 have q2 := sq_bounds h4.1 h4.2
 have q3 := sq_bounds h5.1 h5.2
 have HV := Lib.hid (meets_eq bx by_ br x y _ _ _ _ ins rfl rfl rfl rfl)
 have q4 := sq_bounds (x := bx * y - by_ * x) (B := 400000) (by omega) (by omega)
 have q5 := prod_lim (x := br * br) (y := x * x + y * y) (A := 40000) (B := 2000000) (by omega) (by omega) (by omega) (by omega)
 have HR0 := Lib.hid (Row.new w 51 #[.int .i64 bx, .int .i64 by_, .int .i64 br])
 have HE0 := Lib.hid ((Ext.refl w).alloc (.cells #[.int .i64 bx, .int .i64 by_, .int .i64 br] 51))
 have a0 := HR0.out.cell
 go_enter Tryz.func27, Tryz.ntmps27
 go_wp2_with fail
 go_quiet (fail)
 go_wp2_with fail
 go_quiet (fail)
 obtain ⟨N, hN⟩ : ∃ N, (bx * y - by_ * x) * (bx * y - by_ * x) = N := ⟨_, rfl⟩
 obtain ⟨M, hM⟩ : ∃ M, br * br * (x * x + y * y) = M := ⟨_, rfl⟩
 obtain ⟨D, hD⟩ : ∃ D, bx * x + by_ * y = D := ⟨_, rfl⟩
 rw [hN, hM, hD] at HV
 try rw [hN]
 try rw [hM]
 try rw [hD]
 clear hN hM hD p1 p2 p3 p4 q1 q2 q3 q4 q5 a0
 by_cases c1 : 0 < D
 ·by_cases c2 : N < M
  ·rw [decide_eq_true c1, decide_eq_true c2] at HV
   go_wp2_with fail
   go_ret
   exact ⟨by rw [HV.out] <;> rfl, HE0.out.drewN _⟩
  ·rw [decide_eq_true c1, decide_eq_false c2] at HV
   by_cases c3 : N = M
   ·subst c3
    have c4 : (N == N) = true := by simp
    rw [c4] at HV
    cases ins
    ·go_wp2_with fail
     go_ret
     exact ⟨by rw [HV.out] <;> rfl, HE0.out.drewN _⟩
    ·go_wp2_with fail
     go_ret
     exact ⟨by rw [HV.out] <;> rfl, HE0.out.drewN _⟩
   ·have c4 : (N == M) = false := by simpa using c3
    rw [c4] at HV
    go_wp2_with fail
    go_ret
    exact ⟨by rw [HV.out] <;> rfl, HE0.out.drewN _⟩
 ·rw [decide_eq_false c1] at HV
  go_wp2_with fail
  go_ret
  exact ⟨by rw [HV.out] <;> rfl, HE0.out.drewN _⟩
theorem turned_succ {l : List Ec.Ball} {k : Nat} {f : Ec.Ball → Ec.Ball} (hk : k < l.length) : ballCells ((l.take (k + 1)).map f) = ballCells ((l.take k).map f) ++ [.int .i64 (f (Ec.ballAt l k)).x, .int .i64 (f (Ec.ballAt l k)).y, .int .i64 (f (Ec.ballAt l k)).r] := by
 have e : Ec.ballAt l k = l[k] := by
  unfold Ec.ballAt
  rw [List.getD_eq_getElem?_getD, List.getElem?_eq_getElem hk]
  rfl
 rw [List.take_succ_eq_append_getElem hk, List.map_append, ballCells_append, e]
 rfl
theorem BallsAt.of_own2 {w : World} {base : Nat} {v : Value} {l : List Ec.Ball} (h : w.ownsRow base 51 3 v l.length (ballCells l)) : ∃ B d, v = .slice B l.length d ∧ l.length ≤ d ∧ BallsAt w B l := by
 rcases h.2 with ⟨rfl, h0⟩ | ⟨g, cap, cur, hv, _, _, hc, _⟩
 ·exact ⟨none, 0, by rw [h0], by omega, fun hh => by omega⟩
 ·subst hv
  exact ⟨some ⟨g, 0, none⟩, cap, rfl, hc, BallsAt.of_own h rfl⟩
def turΦ (l : List Ec.Ball) (c k bb o : Nat) (x y r : Int) (w0 : World) (i : Nat) (v : Value) (w : World) : Prop :=
 match i with
 | 0 => v = .slice (some ⟨bb, o, none⟩) l.length c
 | 1 => v = .int .i64 (k : Int)
 | 2 => v = .pointer (some ⟨bb, o + k * 3, none⟩)
 | 3 => v = .pointer (some ⟨bb, o + k * 3 + 1, none⟩)
 | 4 => v = .int .i64 y
 | 5 => v = .int .i64 (-y)
 | 6 => v = .slice (some ⟨bb, o, none⟩) l.length c
 | 7 => v = .int .i64 (k : Int)
 | 8 => v = .pointer (some ⟨bb, o + k * 3, none⟩)
 | 9 => v = .pointer (some ⟨bb, o + k * 3, none⟩)
 | 10 => v = .int .i64 x
 | 11 => v = .slice (some ⟨bb, o, none⟩) l.length c
 | 12 => v = .int .i64 (k : Int)
 | 13 => v = .pointer (some ⟨bb, o + k * 3, none⟩)
 | 14 => v = .pointer (some ⟨bb, o + k * 3 + 2, none⟩)
 | 15 => v = .int .i64 r
 | 16 => v = .agg #[.int .i64 (-y), .int .i64 x, .int .i64 r]
 | _ => NewAt w0 v w 51 #[.int .i64 0, .int .i64 0, .int .i64 0]
theorem turΦ_mono {l : List Ec.Ball} {c k bb o : Nat} {x y r : Int} {w0 : World} (i : Nat) (v : Value) (w w' : World) (h : turΦ l c k bb o x y r w0 i v w) (he : Ext w w') : turΦ l c k bb o x y r w0 i v w' := by
 unfold turΦ at h ⊢
 split at h <;> first
  | exact h
  | exact NewAt.ext h he
  | exact MkAt.ext h he
  | exact fun hg => MkAt.ext (h hg) he
def turΨ (l : List Ec.Ball) (c k bb o : Nat) (x y r : Int) (w0 : World) (i : Nat) (v : Value) (w : World) : Prop :=
 match i with
 | 0 => v = .slice (some ⟨bb, o, none⟩) l.length c
 | 1 => v = .int .i64 (k : Int)
 | 2 => v = .pointer (some ⟨bb, o + k * 3, none⟩)
 | 3 => v = .pointer (some ⟨bb, o + k * 3, none⟩)
 | 4 => v = .int .i64 x
 | 5 => v = .slice (some ⟨bb, o, none⟩) l.length c
 | 6 => v = .int .i64 (k : Int)
 | 7 => v = .pointer (some ⟨bb, o + k * 3, none⟩)
 | 8 => v = .pointer (some ⟨bb, o + k * 3 + 1, none⟩)
 | 9 => v = .int .i64 y
 | 10 => v = .int .i64 (-y)
 | 11 => v = .slice (some ⟨bb, o, none⟩) l.length c
 | 12 => v = .int .i64 (k : Int)
 | 13 => v = .pointer (some ⟨bb, o + k * 3, none⟩)
 | 14 => v = .pointer (some ⟨bb, o + k * 3 + 2, none⟩)
 | 15 => v = .int .i64 r
 | _ => v = .agg #[.int .i64 x, .int .i64 (-y), .int .i64 r]
theorem turΨ_mono {l : List Ec.Ball} {c k bb o : Nat} {x y r : Int} {w0 : World} (i : Nat) (v : Value) (w w' : World) (h : turΨ l c k bb o x y r w0 i v w) (he : Ext w w') : turΨ l c k bb o x y r w0 i v w' := by
 unfold turΨ at h ⊢
 split at h <;> first
  | exact h
  | exact MkAt.ext h he
  | exact fun hg => MkAt.ext (h hg) he
theorem l7_turned_any (l : List Ec.Ball) (A : Option Addr) (c : Nat) (w : World) (hm : BallsAt w A l) (hb : ∀ i, i < l.length → BallS (Ec.ballAt l i)) (hl : l.length ≤ 1000) :
  Calls Tryz.prog 25 #[.slice A l.length c, .bool false] w fun e w' => ∃ B d, e = .returned (.slice B l.length d) ∧ l.length ≤ d ∧ BallsAt w' B (l.map Ec.turnBall) ∧ Ext w w' := by
 have HM := Lib.hid hm
 have HBD := Lib.hid hb
 obtain ⟨i0, hi0, hi1, hi2, hi3⟩ := info_parts info_ball
 clear hm hb
 go_enter Tryz.func25, Tryz.ntmps25
 go_wp2_with fail
 go_loopw [5, 6] (fun v i wr => ∃ k : Nat, k ≤ l.length ∧ i = .int .i64 k ∧ wr.ownsRow w.heap.size 51 3 v k (ballCells ((l.take k).map Ec.turnBall)) ∧ Ext w wr) (fun _ i _ => l.length - (intOf i).toNat)
 case atStart => exact ⟨0, Nat.zero_le _, rfl, by simp [World.ownsRow, ballCells], Ext.refl _⟩
 case round =>
  obtain ⟨k, hk, rfl, hown, hX⟩ := hrel
  have hX9 := hX.size
  have HX := Lib.hid hX
  have HOW := Lib.hid hown
  by_cases hlt : k < l.length
  ·obtain ⟨bb, o, rfl, hcell⟩ := HM.out (by omega)
   have hb9 := HBD.out k hlt
   have hcn := hcell k hlt
   have HSUCC := Lib.hid (turned_succ (f := Ec.turnBall) hlt)
   obtain ⟨b, hb⟩ : ∃ b, Ec.ballAt l k = b := ⟨_, rfl⟩
   rw [hb] at hb9 hcn HSUCC
   obtain ⟨x, y, r⟩ := b
   simp only at hcn
   have HC : Hid (wr.cell? ⟨bb, o + k * 3, none⟩ = some (.int .i64 x) ∧ wr.cell? ⟨bb, o + k * 3 + 1, none⟩ = some (.int .i64 y) ∧ wr.cell? ⟨bb, o + k * 3 + 2, none⟩ = some (.int .i64 r)) := Lib.hid ⟨hX.cell hcn.1, hX.cell hcn.2.1, hX.cell hcn.2.2⟩
   have HY9 : Hid (-200 ≤ y ∧ y ≤ 200) := Lib.hid hb9.y
   have HK1 : Hid ((k : Int) < (l.length : Int)) := Lib.hid (by omega)
   have hl0 : 0 < l.length := by omega
   clear hcell hX hb hown hcn hb9
   go_wp2_with fail
   refine wp_stop (fun K5 hK5 => ?_)
   have HK5 := Lib.hid hK5
   clear hK5
   refine wp_region_free_tail 18 18 (turΦ l c k bb o x y r wr) (by kernel_rfl) (by simp) (by kernel_rfl) (by kernel_rfl) (by kernel_rfl) (by kernel_rfl) turΦ_mono ?hob ?hQ (fun h => absurd h (by omega))
   case hob =>
    intro i o hin ho a wa hE hF
    match i, hin with
    | 0, _ =>
     cases ho
     have h0 : a.tmps[0]?.getD undef = .slice (some ⟨bb, o, none⟩) l.length c := evalD (hF.old 0 (by decide))
     refine Ran.value rfl (v := .slice (some ⟨bb, o, none⟩) l.length c) (w1 := wa) ?_ ⟨rfl, Ext.refl _⟩
     go_simp
    | 1, _ =>
     cases ho
     have h0 : a.tmps[6]?.getD undef = .int .i64 (k : Int) := evalD (hF.old 6 (by decide))
     refine Ran.value rfl (v := .int .i64 (k : Int)) (w1 := wa) ?_ ⟨rfl, Ext.refl _⟩
     go_simp
    | 2, _ =>
     cases ho
     have h0 : a.tmps[14]?.getD undef = .slice (some ⟨bb, o, none⟩) l.length c := evalD ((hF.from_ 0 14 rfl (by decide)))
     have h1 : a.tmps[15]?.getD undef = .int .i64 (k : Int) := evalD ((hF.from_ 1 15 rfl (by decide)))
     refine Ran.value rfl (v := .pointer (some ⟨bb, o + k * 3, none⟩)) (w1 := wa) ?_ ⟨rfl, Ext.refl _⟩
     have hk1 := HK1.out
     go_simp
    | 3, _ =>
     cases ho
     have h0 : a.tmps[16]?.getD undef = .pointer (some ⟨bb, o + k * 3, none⟩) := evalD ((hF.from_ 2 16 rfl (by decide)))
     refine Ran.value rfl (v := .pointer (some ⟨bb, o + k * 3 + 1, none⟩)) (w1 := wa) ?_ ⟨rfl, Ext.refl _⟩
     go_simp
    | 4, _ =>
     cases ho
     have h0 : a.tmps[17]?.getD undef = .pointer (some ⟨bb, o + k * 3 + 1, none⟩) := evalD (hF.from_ 3 17 rfl (by decide))
     obtain ⟨g0, g1, g2⟩ := HC.out
     replace g0 := hE.cell g0
     replace g1 := hE.cell g1
     replace g2 := hE.cell g2
     refine Ran.value rfl (v := .int .i64 y) (w1 := wa) ?_ ⟨rfl, Ext.refl _⟩
     go_simp
    | 5, _ =>
     cases ho
     have h0 : a.tmps[18]?.getD undef = .int .i64 y := evalD ((hF.from_ 4 18 rfl (by decide)))
     refine Ran.value rfl (v := .int .i64 (-y)) (w1 := wa) ?_ ⟨rfl, Ext.refl _⟩
     have hy9 := HY9.out
     go_simp
     exact IntWalk.i64_in _ ⟨by omega, by omega⟩
    | 6, _ =>
     cases ho
     have h0 : a.tmps[0]?.getD undef = .slice (some ⟨bb, o, none⟩) l.length c := evalD (hF.old 0 (by decide))
     refine Ran.value rfl (v := .slice (some ⟨bb, o, none⟩) l.length c) (w1 := wa) ?_ ⟨rfl, Ext.refl _⟩
     go_simp
    | 7, _ =>
     cases ho
     have h0 : a.tmps[6]?.getD undef = .int .i64 (k : Int) := evalD (hF.old 6 (by decide))
     refine Ran.value rfl (v := .int .i64 (k : Int)) (w1 := wa) ?_ ⟨rfl, Ext.refl _⟩
     go_simp
    | 8, _ =>
     cases ho
     have h0 : a.tmps[20]?.getD undef = .slice (some ⟨bb, o, none⟩) l.length c := evalD ((hF.from_ 6 20 rfl (by decide)))
     have h1 : a.tmps[21]?.getD undef = .int .i64 (k : Int) := evalD ((hF.from_ 7 21 rfl (by decide)))
     refine Ran.value rfl (v := .pointer (some ⟨bb, o + k * 3, none⟩)) (w1 := wa) ?_ ⟨rfl, Ext.refl _⟩
     have hk1 := HK1.out
     go_simp
    | 9, _ =>
     cases ho
     have h0 : a.tmps[22]?.getD undef = .pointer (some ⟨bb, o + k * 3, none⟩) := evalD ((hF.from_ 8 22 rfl (by decide)))
     refine Ran.value rfl (v := .pointer (some ⟨bb, o + k * 3, none⟩)) (w1 := wa) ?_ ⟨rfl, Ext.refl _⟩
     go_simp
    | 10, _ =>
     cases ho
     have h0 : a.tmps[23]?.getD undef = .pointer (some ⟨bb, o + k * 3, none⟩) := evalD (hF.from_ 9 23 rfl (by decide))
     obtain ⟨g0, g1, g2⟩ := HC.out
     replace g0 := hE.cell g0
     replace g1 := hE.cell g1
     replace g2 := hE.cell g2
     refine Ran.value rfl (v := .int .i64 x) (w1 := wa) ?_ ⟨rfl, Ext.refl _⟩
     go_simp
    | 11, _ =>
     cases ho
     have h0 : a.tmps[0]?.getD undef = .slice (some ⟨bb, o, none⟩) l.length c := evalD (hF.old 0 (by decide))
     refine Ran.value rfl (v := .slice (some ⟨bb, o, none⟩) l.length c) (w1 := wa) ?_ ⟨rfl, Ext.refl _⟩
     go_simp
    | 12, _ =>
     cases ho
     have h0 : a.tmps[6]?.getD undef = .int .i64 (k : Int) := evalD (hF.old 6 (by decide))
     refine Ran.value rfl (v := .int .i64 (k : Int)) (w1 := wa) ?_ ⟨rfl, Ext.refl _⟩
     go_simp
    | 13, _ =>
     cases ho
     have h0 : a.tmps[25]?.getD undef = .slice (some ⟨bb, o, none⟩) l.length c := evalD ((hF.from_ 11 25 rfl (by decide)))
     have h1 : a.tmps[26]?.getD undef = .int .i64 (k : Int) := evalD ((hF.from_ 12 26 rfl (by decide)))
     refine Ran.value rfl (v := .pointer (some ⟨bb, o + k * 3, none⟩)) (w1 := wa) ?_ ⟨rfl, Ext.refl _⟩
     have hk1 := HK1.out
     go_simp
    | 14, _ =>
     cases ho
     have h0 : a.tmps[27]?.getD undef = .pointer (some ⟨bb, o + k * 3, none⟩) := evalD ((hF.from_ 13 27 rfl (by decide)))
     refine Ran.value rfl (v := .pointer (some ⟨bb, o + k * 3 + 2, none⟩)) (w1 := wa) ?_ ⟨rfl, Ext.refl _⟩
     go_simp
    | 15, _ =>
     cases ho
     have h0 : a.tmps[28]?.getD undef = .pointer (some ⟨bb, o + k * 3 + 2, none⟩) := evalD (hF.from_ 14 28 rfl (by decide))
     obtain ⟨g0, g1, g2⟩ := HC.out
     replace g0 := hE.cell g0
     replace g1 := hE.cell g1
     replace g2 := hE.cell g2
     refine Ran.value rfl (v := .int .i64 r) (w1 := wa) ?_ ⟨rfl, Ext.refl _⟩
     go_simp
    | 16, _ =>
     cases ho
     have h0 : a.tmps[19]?.getD undef = .int .i64 (-y) := evalD ((hF.from_ 5 19 rfl (by decide)))
     have h1 : a.tmps[24]?.getD undef = .int .i64 x := evalD ((hF.from_ 10 24 rfl (by decide)))
     have h2 : a.tmps[29]?.getD undef = .int .i64 r := evalD ((hF.from_ 15 29 rfl (by decide)))
     refine Ran.value rfl (v := .agg #[.int .i64 (-y), .int .i64 x, .int .i64 r]) (w1 := wa) ?_ ⟨rfl, Ext.refl _⟩
     go_simp
    | 17, _ =>
     cases ho
     refine Ran.value rfl (v := .pointer (some ⟨wa.heap.size, 0, none⟩)) (w1 := wa.alloc (.cells #[.int .i64 0, .int .i64 0, .int .i64 0] 51)) ?_ ⟨⟨wa.heap.size, rfl, hE.size, Row.new _ _ _⟩, (Ext.refl _).alloc _⟩
     go_simp
    | k + 18, hin => omega
   case hQ =>
    intro vs w2 hE hΦ
    have f0 : vs 0 = .slice (some ⟨bb, o, none⟩) l.length c := hΦ 0 (by omega)
    have f1 : vs 1 = .int .i64 (k : Int) := hΦ 1 (by omega)
    have f2 : vs 2 = .pointer (some ⟨bb, o + k * 3, none⟩) := hΦ 2 (by omega)
    have f3 : vs 3 = .pointer (some ⟨bb, o + k * 3 + 1, none⟩) := hΦ 3 (by omega)
    have f4 : vs 4 = .int .i64 y := hΦ 4 (by omega)
    have f5 : vs 5 = .int .i64 (-y) := hΦ 5 (by omega)
    have f6 : vs 6 = .slice (some ⟨bb, o, none⟩) l.length c := hΦ 6 (by omega)
    have f7 : vs 7 = .int .i64 (k : Int) := hΦ 7 (by omega)
    have f8 : vs 8 = .pointer (some ⟨bb, o + k * 3, none⟩) := hΦ 8 (by omega)
    have f9 : vs 9 = .pointer (some ⟨bb, o + k * 3, none⟩) := hΦ 9 (by omega)
    have f10 : vs 10 = .int .i64 x := hΦ 10 (by omega)
    have f11 : vs 11 = .slice (some ⟨bb, o, none⟩) l.length c := hΦ 11 (by omega)
    have f12 : vs 12 = .int .i64 (k : Int) := hΦ 12 (by omega)
    have f13 : vs 13 = .pointer (some ⟨bb, o + k * 3, none⟩) := hΦ 13 (by omega)
    have f14 : vs 14 = .pointer (some ⟨bb, o + k * 3 + 2, none⟩) := hΦ 14 (by omega)
    have f15 : vs 15 = .int .i64 r := hΦ 15 (by omega)
    have f16 : vs 16 = .agg #[.int .i64 (-y), .int .i64 x, .int .i64 r] := hΦ 16 (by omega)
    obtain ⟨n17, f17, hb17, hr17⟩ : NewAt wr (vs 17) w2 51 #[.int .i64 0, .int .i64 0, .int .i64 0] := hΦ 17 (by omega)
    have hrg : List.range 18 = [0, 1, 2, 3, 4, 5, 6, 7, 8, 9, 10, 11, 12, 13, 14, 15, 16, 17] := rfl
    unfold putAll putS
    simp only [List.length_cons, List.length_nil, List.take_succ_cons, List.take_zero, List.drop_succ_cons, List.drop_zero, Nat.reduceAdd, hrg, List.foldl_cons, List.foldl_nil, dstOf, List.getElem?_cons_succ, List.getElem?_cons_zero, Option.bind_some]
    clear hrg
    rw [f0, f1, f2, f3, f4, f5, f6, f7, f8, f9, f10, f11, f12, f13, f14, f15, f16, f17]
    simp only [Act.put, List.setIfInBounds_toArray, List.set_cons_succ, List.set_cons_zero]
    clear hΦ f0 f1 f2 f3 f4 f5 f6 f7 f8 f9 f10 f11 f12 f13 f14 f15 f16 f17
    have c17 := hr17.cell
    have z17 := hr17.free
    have j17 := lts hr17.lt
    have hRW := ((hr17.set_ 0 (.int .i64 (-y))).set_ 1 (.int .i64 x)).set_ 2 (.int .i64 r)
    have hXW := ((hE.setCell (p := ⟨n17, 0, none⟩) hb17 (.int .i64 (-y))).setCell (p := ⟨n17, 1, none⟩) hb17 (.int .i64 x)).setCell (p := ⟨n17, 2, none⟩) hb17 (.int .i64 r)
    have HB5 := Lib.hid hb17
    clear hE
    go_wp2_with fail
    refine HK5.out _ _ _ ?_
    dsimp only [Exit.then]
    apply_assumption
    obtain ⟨g, hg⟩ : ∃ g, n17 = g := ⟨_, rfl⟩
    rw [hg] at hRW hXW HB5 ⊢
    obtain ⟨w5, hw5⟩ : ∃ W, (((w2.setCell ⟨g, 0, none⟩ (.int .i64 (-y))).setCell ⟨g, 1, none⟩ (.int .i64 x)).setCell ⟨g, 2, none⟩ (.int .i64 r)) = W := ⟨_, rfl⟩
    rw [hw5] at hRW hXW ⊢
    have HRW := Lib.hid hRW
    have HX5 := Lib.hid (HX.out.trans hXW)
    have HOW5 := Lib.hid (own_ext HOW.out hXW)
    have HC5 : Hid (w5.cell? ⟨bb, o + k * 3, none⟩ = some (.int .i64 x) ∧ w5.cell? ⟨bb, o + k * 3 + 1, none⟩ = some (.int .i64 y) ∧ w5.cell? ⟨bb, o + k * 3 + 2, none⟩ = some (.int .i64 r)) := Lib.hid ⟨hXW.cell HC.out.1, hXW.cell HC.out.2.1, hXW.cell HC.out.2.2⟩
    clear c17 z17 j17 hRW hXW hw5 hg HK5
    have b5 := HRW.out.cell
    have j5 := lts HRW.out.lt
    have hown6 := HOW5.out.alloc (.cells #[.int .i64 (-y), .int .i64 x, .int .i64 r] 51)
    have HO6 := Lib.hid hown6
    have hz6 := HX5.out.size
    go_wp2_with (at_builtin; refine wpList_append_lies _ rfl _ _ 37 rfl w.heap.size 51 i0 _ 3 24 Tryz.underlying37 hi0 hi1 hi2 hi3 rfl (by decide) _ k (ballCells ((l.take k).map Ec.turnBall)) rfl hown6 ⟨w5.heap.size, 0, none⟩ 1 1 [.int .i64 (-y), .int .i64 x, .int .i64 r] rfl rfl (World.news_of_block (cs := #[.int .i64 (-y), .int .i64 x, .int .i64 r]) (t := 51) (fr := (0, 0)) (heap_alloc_new _ _)) (by simp [Value.oneCell']) (by omega) (by simp only [maxLen]; omega) (by omega) (by simp; omega) _ rfl ?_; intro gg cap w8 hown8 hgrow hat hlt4; have HO8 := Lib.hid hown8; have HG8 := Lib.hid hgrow; clear hown8 hgrow)
    go_roundw
    case rel =>
     refine ⟨k + 1, by omega, by go_num, ?_, (HX5.out.alloc _).grown HG8.out (fun g hg => (HO6.out.lt g hg).1)⟩
     rw [HSUCC.out]
     simpa [Ec.turnBall, Ec.mirrorBall] using HO8.out
    case measure => simp [intOf]; omega
  ·obtain rfl : k = l.length := by omega
   rw [List.take_length] at hown
   obtain ⟨B, d, rfl, hd, hB⟩ := BallsAt.of_own2 (l := l.map Ec.turnBall) (by rw [List.length_map]; exact hown)
   rw [List.length_map] at hd
   have HB := Lib.hid hB
   clear hX hown hB
   go_wp2_with fail
   go_ret
   exact ⟨B, d, by rw [List.length_map] <;> rfl, hd, HB.out, HX.out⟩
theorem l7_mirrored_any (l : List Ec.Ball) (A : Option Addr) (c : Nat) (w : World) (hm : BallsAt w A l) (hb : ∀ i, i < l.length → BallS (Ec.ballAt l i)) (hl : l.length ≤ 1000) :
  Calls Tryz.prog 25 #[.slice A l.length c, .bool true] w fun e w' => ∃ B d, e = .returned (.slice B l.length d) ∧ l.length ≤ d ∧ BallsAt w' B (l.map Ec.mirrorBall) ∧ Ext w w' := by
 have HM := Lib.hid hm
 have HBD := Lib.hid hb
 obtain ⟨i0, hi0, hi1, hi2, hi3⟩ := info_parts info_ball
 clear hm hb
 go_enter Tryz.func25, Tryz.ntmps25
 go_wp2_with fail
 go_loopw [5, 6] (fun v i wr => ∃ k : Nat, k ≤ l.length ∧ i = .int .i64 k ∧ wr.ownsRow w.heap.size 51 3 v k (ballCells ((l.take k).map Ec.mirrorBall)) ∧ Ext w wr) (fun _ i _ => l.length - (intOf i).toNat)
 case atStart => exact ⟨0, Nat.zero_le _, rfl, by simp [World.ownsRow, ballCells], Ext.refl _⟩
 case round =>
  obtain ⟨k, hk, rfl, hown, hX⟩ := hrel
  have hX9 := hX.size
  have HX := Lib.hid hX
  have HOW := Lib.hid hown
  by_cases hlt : k < l.length
  ·obtain ⟨bb, o, rfl, hcell⟩ := HM.out (by omega)
   have hb9 := HBD.out k hlt
   have hcn := hcell k hlt
   have HSUCC := Lib.hid (turned_succ (f := Ec.mirrorBall) hlt)
   obtain ⟨b, hb⟩ : ∃ b, Ec.ballAt l k = b := ⟨_, rfl⟩
   rw [hb] at hb9 hcn HSUCC
   obtain ⟨x, y, r⟩ := b
   simp only at hcn
   have HC : Hid (wr.cell? ⟨bb, o + k * 3, none⟩ = some (.int .i64 x) ∧ wr.cell? ⟨bb, o + k * 3 + 1, none⟩ = some (.int .i64 y) ∧ wr.cell? ⟨bb, o + k * 3 + 2, none⟩ = some (.int .i64 r)) := Lib.hid ⟨hX.cell hcn.1, hX.cell hcn.2.1, hX.cell hcn.2.2⟩
   have HY9 : Hid (-200 ≤ y ∧ y ≤ 200) := Lib.hid hb9.y
   have HK1 : Hid ((k : Int) < (l.length : Int)) := Lib.hid (by omega)
   have hl0 : 0 < l.length := by omega
   clear hcell hX hb hown hcn hb9
   go_wp2_with fail
   refine wp_stop (fun K5 hK5 => ?_)
   have HK5 := Lib.hid hK5
   clear hK5
   refine wp_region_free_tail 18 18 (turΦ l c k bb o x y r wr) (by kernel_rfl) (by simp) (by kernel_rfl) (by kernel_rfl) (by kernel_rfl) (by kernel_rfl) turΦ_mono ?hob ?hQ (fun h => absurd h (by omega))
   case hob =>
    intro i o hin ho a wa hE hF
    match i, hin with
    | 0, _ =>
     cases ho
     have h0 : a.tmps[0]?.getD undef = .slice (some ⟨bb, o, none⟩) l.length c := evalD (hF.old 0 (by decide))
     refine Ran.value rfl (v := .slice (some ⟨bb, o, none⟩) l.length c) (w1 := wa) ?_ ⟨rfl, Ext.refl _⟩
     go_simp
    | 1, _ =>
     cases ho
     have h0 : a.tmps[6]?.getD undef = .int .i64 (k : Int) := evalD (hF.old 6 (by decide))
     refine Ran.value rfl (v := .int .i64 (k : Int)) (w1 := wa) ?_ ⟨rfl, Ext.refl _⟩
     go_simp
    | 2, _ =>
     cases ho
     have h0 : a.tmps[14]?.getD undef = .slice (some ⟨bb, o, none⟩) l.length c := evalD ((hF.from_ 0 14 rfl (by decide)))
     have h1 : a.tmps[15]?.getD undef = .int .i64 (k : Int) := evalD ((hF.from_ 1 15 rfl (by decide)))
     refine Ran.value rfl (v := .pointer (some ⟨bb, o + k * 3, none⟩)) (w1 := wa) ?_ ⟨rfl, Ext.refl _⟩
     have hk1 := HK1.out
     go_simp
    | 3, _ =>
     cases ho
     have h0 : a.tmps[16]?.getD undef = .pointer (some ⟨bb, o + k * 3, none⟩) := evalD ((hF.from_ 2 16 rfl (by decide)))
     refine Ran.value rfl (v := .pointer (some ⟨bb, o + k * 3 + 1, none⟩)) (w1 := wa) ?_ ⟨rfl, Ext.refl _⟩
     go_simp
    | 4, _ =>
     cases ho
     have h0 : a.tmps[17]?.getD undef = .pointer (some ⟨bb, o + k * 3 + 1, none⟩) := evalD (hF.from_ 3 17 rfl (by decide))
     obtain ⟨g0, g1, g2⟩ := HC.out
     replace g0 := hE.cell g0
     replace g1 := hE.cell g1
     replace g2 := hE.cell g2
     refine Ran.value rfl (v := .int .i64 y) (w1 := wa) ?_ ⟨rfl, Ext.refl _⟩
     go_simp
    | 5, _ =>
     cases ho
     have h0 : a.tmps[18]?.getD undef = .int .i64 y := evalD ((hF.from_ 4 18 rfl (by decide)))
     refine Ran.value rfl (v := .int .i64 (-y)) (w1 := wa) ?_ ⟨rfl, Ext.refl _⟩
     have hy9 := HY9.out
     go_simp
     exact IntWalk.i64_in _ ⟨by omega, by omega⟩
    | 6, _ =>
     cases ho
     have h0 : a.tmps[0]?.getD undef = .slice (some ⟨bb, o, none⟩) l.length c := evalD (hF.old 0 (by decide))
     refine Ran.value rfl (v := .slice (some ⟨bb, o, none⟩) l.length c) (w1 := wa) ?_ ⟨rfl, Ext.refl _⟩
     go_simp
    | 7, _ =>
     cases ho
     have h0 : a.tmps[6]?.getD undef = .int .i64 (k : Int) := evalD (hF.old 6 (by decide))
     refine Ran.value rfl (v := .int .i64 (k : Int)) (w1 := wa) ?_ ⟨rfl, Ext.refl _⟩
     go_simp
    | 8, _ =>
     cases ho
     have h0 : a.tmps[20]?.getD undef = .slice (some ⟨bb, o, none⟩) l.length c := evalD ((hF.from_ 6 20 rfl (by decide)))
     have h1 : a.tmps[21]?.getD undef = .int .i64 (k : Int) := evalD ((hF.from_ 7 21 rfl (by decide)))
     refine Ran.value rfl (v := .pointer (some ⟨bb, o + k * 3, none⟩)) (w1 := wa) ?_ ⟨rfl, Ext.refl _⟩
     have hk1 := HK1.out
     go_simp
    | 9, _ =>
     cases ho
     have h0 : a.tmps[22]?.getD undef = .pointer (some ⟨bb, o + k * 3, none⟩) := evalD ((hF.from_ 8 22 rfl (by decide)))
     refine Ran.value rfl (v := .pointer (some ⟨bb, o + k * 3, none⟩)) (w1 := wa) ?_ ⟨rfl, Ext.refl _⟩
     go_simp
    | 10, _ =>
     cases ho
     have h0 : a.tmps[23]?.getD undef = .pointer (some ⟨bb, o + k * 3, none⟩) := evalD (hF.from_ 9 23 rfl (by decide))
     obtain ⟨g0, g1, g2⟩ := HC.out
     replace g0 := hE.cell g0
     replace g1 := hE.cell g1
     replace g2 := hE.cell g2
     refine Ran.value rfl (v := .int .i64 x) (w1 := wa) ?_ ⟨rfl, Ext.refl _⟩
     go_simp
    | 11, _ =>
     cases ho
     have h0 : a.tmps[0]?.getD undef = .slice (some ⟨bb, o, none⟩) l.length c := evalD (hF.old 0 (by decide))
     refine Ran.value rfl (v := .slice (some ⟨bb, o, none⟩) l.length c) (w1 := wa) ?_ ⟨rfl, Ext.refl _⟩
     go_simp
    | 12, _ =>
     cases ho
     have h0 : a.tmps[6]?.getD undef = .int .i64 (k : Int) := evalD (hF.old 6 (by decide))
     refine Ran.value rfl (v := .int .i64 (k : Int)) (w1 := wa) ?_ ⟨rfl, Ext.refl _⟩
     go_simp
    | 13, _ =>
     cases ho
     have h0 : a.tmps[25]?.getD undef = .slice (some ⟨bb, o, none⟩) l.length c := evalD ((hF.from_ 11 25 rfl (by decide)))
     have h1 : a.tmps[26]?.getD undef = .int .i64 (k : Int) := evalD ((hF.from_ 12 26 rfl (by decide)))
     refine Ran.value rfl (v := .pointer (some ⟨bb, o + k * 3, none⟩)) (w1 := wa) ?_ ⟨rfl, Ext.refl _⟩
     have hk1 := HK1.out
     go_simp
    | 14, _ =>
     cases ho
     have h0 : a.tmps[27]?.getD undef = .pointer (some ⟨bb, o + k * 3, none⟩) := evalD ((hF.from_ 13 27 rfl (by decide)))
     refine Ran.value rfl (v := .pointer (some ⟨bb, o + k * 3 + 2, none⟩)) (w1 := wa) ?_ ⟨rfl, Ext.refl _⟩
     go_simp
    | 15, _ =>
     cases ho
     have h0 : a.tmps[28]?.getD undef = .pointer (some ⟨bb, o + k * 3 + 2, none⟩) := evalD (hF.from_ 14 28 rfl (by decide))
     obtain ⟨g0, g1, g2⟩ := HC.out
     replace g0 := hE.cell g0
     replace g1 := hE.cell g1
     replace g2 := hE.cell g2
     refine Ran.value rfl (v := .int .i64 r) (w1 := wa) ?_ ⟨rfl, Ext.refl _⟩
     go_simp
    | 16, _ =>
     cases ho
     have h0 : a.tmps[19]?.getD undef = .int .i64 (-y) := evalD ((hF.from_ 5 19 rfl (by decide)))
     have h1 : a.tmps[24]?.getD undef = .int .i64 x := evalD ((hF.from_ 10 24 rfl (by decide)))
     have h2 : a.tmps[29]?.getD undef = .int .i64 r := evalD ((hF.from_ 15 29 rfl (by decide)))
     refine Ran.value rfl (v := .agg #[.int .i64 (-y), .int .i64 x, .int .i64 r]) (w1 := wa) ?_ ⟨rfl, Ext.refl _⟩
     go_simp
    | 17, _ =>
     cases ho
     refine Ran.value rfl (v := .pointer (some ⟨wa.heap.size, 0, none⟩)) (w1 := wa.alloc (.cells #[.int .i64 0, .int .i64 0, .int .i64 0] 51)) ?_ ⟨⟨wa.heap.size, rfl, hE.size, Row.new _ _ _⟩, (Ext.refl _).alloc _⟩
     go_simp
    | k + 18, hin => omega
   case hQ =>
    intro vs w2 hE hΦ
    have f0 : vs 0 = .slice (some ⟨bb, o, none⟩) l.length c := hΦ 0 (by omega)
    have f1 : vs 1 = .int .i64 (k : Int) := hΦ 1 (by omega)
    have f2 : vs 2 = .pointer (some ⟨bb, o + k * 3, none⟩) := hΦ 2 (by omega)
    have f3 : vs 3 = .pointer (some ⟨bb, o + k * 3 + 1, none⟩) := hΦ 3 (by omega)
    have f4 : vs 4 = .int .i64 y := hΦ 4 (by omega)
    have f5 : vs 5 = .int .i64 (-y) := hΦ 5 (by omega)
    have f6 : vs 6 = .slice (some ⟨bb, o, none⟩) l.length c := hΦ 6 (by omega)
    have f7 : vs 7 = .int .i64 (k : Int) := hΦ 7 (by omega)
    have f8 : vs 8 = .pointer (some ⟨bb, o + k * 3, none⟩) := hΦ 8 (by omega)
    have f9 : vs 9 = .pointer (some ⟨bb, o + k * 3, none⟩) := hΦ 9 (by omega)
    have f10 : vs 10 = .int .i64 x := hΦ 10 (by omega)
    have f11 : vs 11 = .slice (some ⟨bb, o, none⟩) l.length c := hΦ 11 (by omega)
    have f12 : vs 12 = .int .i64 (k : Int) := hΦ 12 (by omega)
    have f13 : vs 13 = .pointer (some ⟨bb, o + k * 3, none⟩) := hΦ 13 (by omega)
    have f14 : vs 14 = .pointer (some ⟨bb, o + k * 3 + 2, none⟩) := hΦ 14 (by omega)
    have f15 : vs 15 = .int .i64 r := hΦ 15 (by omega)
    have f16 : vs 16 = .agg #[.int .i64 (-y), .int .i64 x, .int .i64 r] := hΦ 16 (by omega)
    obtain ⟨n17, f17, hb17, hr17⟩ : NewAt wr (vs 17) w2 51 #[.int .i64 0, .int .i64 0, .int .i64 0] := hΦ 17 (by omega)
    have hrg : List.range 18 = [0, 1, 2, 3, 4, 5, 6, 7, 8, 9, 10, 11, 12, 13, 14, 15, 16, 17] := rfl
    unfold putAll putS
    simp only [List.length_cons, List.length_nil, List.take_succ_cons, List.take_zero, List.drop_succ_cons, List.drop_zero, Nat.reduceAdd, hrg, List.foldl_cons, List.foldl_nil, dstOf, List.getElem?_cons_succ, List.getElem?_cons_zero, Option.bind_some]
    clear hrg
    rw [f0, f1, f2, f3, f4, f5, f6, f7, f8, f9, f10, f11, f12, f13, f14, f15, f16, f17]
    simp only [Act.put, List.setIfInBounds_toArray, List.set_cons_succ, List.set_cons_zero]
    clear hΦ f0 f1 f2 f3 f4 f5 f6 f7 f8 f9 f10 f11 f12 f13 f14 f15 f16 f17
    have c17 := hr17.cell
    have z17 := hr17.free
    have j17 := lts hr17.lt
    have hRW := ((hr17.set_ 0 (.int .i64 (-y))).set_ 1 (.int .i64 x)).set_ 2 (.int .i64 r)
    have hXW := ((hE.setCell (p := ⟨n17, 0, none⟩) hb17 (.int .i64 (-y))).setCell (p := ⟨n17, 1, none⟩) hb17 (.int .i64 x)).setCell (p := ⟨n17, 2, none⟩) hb17 (.int .i64 r)
    have HB5 := Lib.hid hb17
    clear hE
    go_wp2_with fail
    refine HK5.out _ _ _ ?_
    dsimp only [Exit.then]
    apply_assumption
    obtain ⟨g, hg⟩ : ∃ g, n17 = g := ⟨_, rfl⟩
    rw [hg] at hRW hXW HB5 ⊢
    obtain ⟨w5, hw5⟩ : ∃ W, (((w2.setCell ⟨g, 0, none⟩ (.int .i64 (-y))).setCell ⟨g, 1, none⟩ (.int .i64 x)).setCell ⟨g, 2, none⟩ (.int .i64 r)) = W := ⟨_, rfl⟩
    rw [hw5] at hRW hXW ⊢
    have HRW := Lib.hid hRW
    have HX5 := Lib.hid (HX.out.trans hXW)
    have HOW5 := Lib.hid (own_ext HOW.out hXW)
    have HC5 : Hid (w5.cell? ⟨bb, o + k * 3, none⟩ = some (.int .i64 x) ∧ w5.cell? ⟨bb, o + k * 3 + 1, none⟩ = some (.int .i64 y) ∧ w5.cell? ⟨bb, o + k * 3 + 2, none⟩ = some (.int .i64 r)) := Lib.hid ⟨hXW.cell HC.out.1, hXW.cell HC.out.2.1, hXW.cell HC.out.2.2⟩
    have hXr5 := hXW
    clear c17 z17 j17 hRW hXW hw5 hg HK5
    go_wp2_with fail
    have HXr5 := Lib.hid hXr5
    have HC := HC5
    clear hXr5
    refine wp_stop (fun K7 hK7 => ?_)
    have HK7 := Lib.hid hK7
    clear hK7
    refine wp_region_free_tail 17 17 (turΨ l c k bb o x y r w5) (by kernel_rfl) (by simp) (by kernel_rfl) (by kernel_rfl) (by kernel_rfl) (by kernel_rfl) turΨ_mono ?hob ?hQ (fun h => absurd h (by omega))
    case hob =>
     intro i o hin ho a wa hE hF
     match i, hin with
     | 0, _ =>
      cases ho
      have h0 : a.tmps[0]?.getD undef = .slice (some ⟨bb, o, none⟩) l.length c := evalD (hF.old 0 (by decide))
      refine Ran.value rfl (v := .slice (some ⟨bb, o, none⟩) l.length c) (w1 := wa) ?_ ⟨rfl, Ext.refl _⟩
      go_simp
     | 1, _ =>
      cases ho
      have h0 : a.tmps[6]?.getD undef = .int .i64 (k : Int) := evalD (hF.old 6 (by decide))
      refine Ran.value rfl (v := .int .i64 (k : Int)) (w1 := wa) ?_ ⟨rfl, Ext.refl _⟩
      go_simp
     | 2, _ =>
      cases ho
      have h0 : a.tmps[32]?.getD undef = .slice (some ⟨bb, o, none⟩) l.length c := evalD ((hF.from_ 0 32 rfl (by decide)))
      have h1 : a.tmps[33]?.getD undef = .int .i64 (k : Int) := evalD ((hF.from_ 1 33 rfl (by decide)))
      refine Ran.value rfl (v := .pointer (some ⟨bb, o + k * 3, none⟩)) (w1 := wa) ?_ ⟨rfl, Ext.refl _⟩
      have hk1 := HK1.out
      go_simp
     | 3, _ =>
      cases ho
      have h0 : a.tmps[34]?.getD undef = .pointer (some ⟨bb, o + k * 3, none⟩) := evalD ((hF.from_ 2 34 rfl (by decide)))
      refine Ran.value rfl (v := .pointer (some ⟨bb, o + k * 3, none⟩)) (w1 := wa) ?_ ⟨rfl, Ext.refl _⟩
      go_simp
     | 4, _ =>
      cases ho
      have h0 : a.tmps[35]?.getD undef = .pointer (some ⟨bb, o + k * 3, none⟩) := evalD (hF.from_ 3 35 rfl (by decide))
      obtain ⟨g0, g1, g2⟩ := HC.out
      replace g0 := hE.cell g0
      replace g1 := hE.cell g1
      replace g2 := hE.cell g2
      refine Ran.value rfl (v := .int .i64 x) (w1 := wa) ?_ ⟨rfl, Ext.refl _⟩
      go_simp
     | 5, _ =>
      cases ho
      have h0 : a.tmps[0]?.getD undef = .slice (some ⟨bb, o, none⟩) l.length c := evalD (hF.old 0 (by decide))
      refine Ran.value rfl (v := .slice (some ⟨bb, o, none⟩) l.length c) (w1 := wa) ?_ ⟨rfl, Ext.refl _⟩
      go_simp
     | 6, _ =>
      cases ho
      have h0 : a.tmps[6]?.getD undef = .int .i64 (k : Int) := evalD (hF.old 6 (by decide))
      refine Ran.value rfl (v := .int .i64 (k : Int)) (w1 := wa) ?_ ⟨rfl, Ext.refl _⟩
      go_simp
     | 7, _ =>
      cases ho
      have h0 : a.tmps[37]?.getD undef = .slice (some ⟨bb, o, none⟩) l.length c := evalD ((hF.from_ 5 37 rfl (by decide)))
      have h1 : a.tmps[38]?.getD undef = .int .i64 (k : Int) := evalD ((hF.from_ 6 38 rfl (by decide)))
      refine Ran.value rfl (v := .pointer (some ⟨bb, o + k * 3, none⟩)) (w1 := wa) ?_ ⟨rfl, Ext.refl _⟩
      have hk1 := HK1.out
      go_simp
     | 8, _ =>
      cases ho
      have h0 : a.tmps[39]?.getD undef = .pointer (some ⟨bb, o + k * 3, none⟩) := evalD ((hF.from_ 7 39 rfl (by decide)))
      refine Ran.value rfl (v := .pointer (some ⟨bb, o + k * 3 + 1, none⟩)) (w1 := wa) ?_ ⟨rfl, Ext.refl _⟩
      go_simp
     | 9, _ =>
      cases ho
      have h0 : a.tmps[40]?.getD undef = .pointer (some ⟨bb, o + k * 3 + 1, none⟩) := evalD (hF.from_ 8 40 rfl (by decide))
      obtain ⟨g0, g1, g2⟩ := HC.out
      replace g0 := hE.cell g0
      replace g1 := hE.cell g1
      replace g2 := hE.cell g2
      refine Ran.value rfl (v := .int .i64 y) (w1 := wa) ?_ ⟨rfl, Ext.refl _⟩
      go_simp
     | 10, _ =>
      cases ho
      have h0 : a.tmps[41]?.getD undef = .int .i64 y := evalD ((hF.from_ 9 41 rfl (by decide)))
      refine Ran.value rfl (v := .int .i64 (-y)) (w1 := wa) ?_ ⟨rfl, Ext.refl _⟩
      have hy9 := HY9.out
      go_simp
      exact IntWalk.i64_in _ ⟨by omega, by omega⟩
     | 11, _ =>
      cases ho
      have h0 : a.tmps[0]?.getD undef = .slice (some ⟨bb, o, none⟩) l.length c := evalD (hF.old 0 (by decide))
      refine Ran.value rfl (v := .slice (some ⟨bb, o, none⟩) l.length c) (w1 := wa) ?_ ⟨rfl, Ext.refl _⟩
      go_simp
     | 12, _ =>
      cases ho
      have h0 : a.tmps[6]?.getD undef = .int .i64 (k : Int) := evalD (hF.old 6 (by decide))
      refine Ran.value rfl (v := .int .i64 (k : Int)) (w1 := wa) ?_ ⟨rfl, Ext.refl _⟩
      go_simp
     | 13, _ =>
      cases ho
      have h0 : a.tmps[43]?.getD undef = .slice (some ⟨bb, o, none⟩) l.length c := evalD ((hF.from_ 11 43 rfl (by decide)))
      have h1 : a.tmps[44]?.getD undef = .int .i64 (k : Int) := evalD ((hF.from_ 12 44 rfl (by decide)))
      refine Ran.value rfl (v := .pointer (some ⟨bb, o + k * 3, none⟩)) (w1 := wa) ?_ ⟨rfl, Ext.refl _⟩
      have hk1 := HK1.out
      go_simp
     | 14, _ =>
      cases ho
      have h0 : a.tmps[45]?.getD undef = .pointer (some ⟨bb, o + k * 3, none⟩) := evalD ((hF.from_ 13 45 rfl (by decide)))
      refine Ran.value rfl (v := .pointer (some ⟨bb, o + k * 3 + 2, none⟩)) (w1 := wa) ?_ ⟨rfl, Ext.refl _⟩
      go_simp
     | 15, _ =>
      cases ho
      have h0 : a.tmps[46]?.getD undef = .pointer (some ⟨bb, o + k * 3 + 2, none⟩) := evalD (hF.from_ 14 46 rfl (by decide))
      obtain ⟨g0, g1, g2⟩ := HC.out
      replace g0 := hE.cell g0
      replace g1 := hE.cell g1
      replace g2 := hE.cell g2
      refine Ran.value rfl (v := .int .i64 r) (w1 := wa) ?_ ⟨rfl, Ext.refl _⟩
      go_simp
     | 16, _ =>
      cases ho
      have h0 : a.tmps[36]?.getD undef = .int .i64 x := evalD ((hF.from_ 4 36 rfl (by decide)))
      have h1 : a.tmps[42]?.getD undef = .int .i64 (-y) := evalD ((hF.from_ 10 42 rfl (by decide)))
      have h2 : a.tmps[47]?.getD undef = .int .i64 r := evalD ((hF.from_ 15 47 rfl (by decide)))
      refine Ran.value rfl (v := .agg #[.int .i64 x, .int .i64 (-y), .int .i64 r]) (w1 := wa) ?_ ⟨rfl, Ext.refl _⟩
      go_simp
     | k + 17, hin => omega
    case hQ =>
     intro vs w2 hE hΦ
     have f0 : vs 0 = .slice (some ⟨bb, o, none⟩) l.length c := hΦ 0 (by omega)
     have f1 : vs 1 = .int .i64 (k : Int) := hΦ 1 (by omega)
     have f2 : vs 2 = .pointer (some ⟨bb, o + k * 3, none⟩) := hΦ 2 (by omega)
     have f3 : vs 3 = .pointer (some ⟨bb, o + k * 3, none⟩) := hΦ 3 (by omega)
     have f4 : vs 4 = .int .i64 x := hΦ 4 (by omega)
     have f5 : vs 5 = .slice (some ⟨bb, o, none⟩) l.length c := hΦ 5 (by omega)
     have f6 : vs 6 = .int .i64 (k : Int) := hΦ 6 (by omega)
     have f7 : vs 7 = .pointer (some ⟨bb, o + k * 3, none⟩) := hΦ 7 (by omega)
     have f8 : vs 8 = .pointer (some ⟨bb, o + k * 3 + 1, none⟩) := hΦ 8 (by omega)
     have f9 : vs 9 = .int .i64 y := hΦ 9 (by omega)
     have f10 : vs 10 = .int .i64 (-y) := hΦ 10 (by omega)
     have f11 : vs 11 = .slice (some ⟨bb, o, none⟩) l.length c := hΦ 11 (by omega)
     have f12 : vs 12 = .int .i64 (k : Int) := hΦ 12 (by omega)
     have f13 : vs 13 = .pointer (some ⟨bb, o + k * 3, none⟩) := hΦ 13 (by omega)
     have f14 : vs 14 = .pointer (some ⟨bb, o + k * 3 + 2, none⟩) := hΦ 14 (by omega)
     have f15 : vs 15 = .int .i64 r := hΦ 15 (by omega)
     have f16 : vs 16 = .agg #[.int .i64 x, .int .i64 (-y), .int .i64 r] := hΦ 16 (by omega)
     have hrg : List.range 17 = [0, 1, 2, 3, 4, 5, 6, 7, 8, 9, 10, 11, 12, 13, 14, 15, 16] := rfl
     unfold putAll putS
     simp only [List.length_cons, List.length_nil, List.take_succ_cons, List.take_zero, List.drop_succ_cons, List.drop_zero, Nat.reduceAdd, hrg, List.foldl_cons, List.foldl_nil, dstOf, List.getElem?_cons_succ, List.getElem?_cons_zero, Option.bind_some]
     clear hrg
     rw [f0, f1, f2, f3, f4, f5, f6, f7, f8, f9, f10, f11, f12, f13, f14, f15, f16]
     simp only [Act.put, List.setIfInBounds_toArray, List.set_cons_succ, List.set_cons_zero]
     have c17 := HRW.out.ext hE |>.cell
     have z17 := (HRW.out.ext hE).free
     have j17 := lts (HRW.out.ext hE).lt
     have hRW := (((HRW.out.ext hE).set_ 0 (.int .i64 x)).set_ 1 (.int .i64 (-y))).set_ 2 (.int .i64 r)
     have hXW := ((((Ext.refl wr).trans HXr5.out |>.trans hE).setCell (p := ⟨g, 0, none⟩) HB5.out (.int .i64 x)).setCell (p := ⟨g, 1, none⟩) HB5.out (.int .i64 (-y))).setCell (p := ⟨g, 2, none⟩) HB5.out (.int .i64 r)
     clear hE hΦ f0 f1 f2 f3 f4 f5 f6 f7 f8 f9 f10 f11 f12 f13 f14 f15 f16
     go_wp2_with fail
     refine HK7.out _ _ _ ?_
     dsimp only [Exit.then]
     apply_assumption
     obtain ⟨w6, hw6⟩ : ∃ W, (((w2.setCell ⟨g, 0, none⟩ (.int .i64 x)).setCell ⟨g, 1, none⟩ (.int .i64 (-y))).setCell ⟨g, 2, none⟩ (.int .i64 r)) = W := ⟨_, rfl⟩
     rw [hw6] at hRW hXW ⊢
     have HRW6 := Lib.hid hRW
     have HX6 := Lib.hid (HX.out.trans hXW)
     have HOW6 := Lib.hid (own_ext HOW.out hXW)
     clear c17 z17 j17 hRW hXW hw6 HK7
     have b5 := HRW6.out.cell
     have j5 := lts HRW6.out.lt
     have hown6 := HOW6.out.alloc (.cells #[.int .i64 x, .int .i64 (-y), .int .i64 r] 51)
     have HO6 := Lib.hid hown6
     have hz6 := HX6.out.size
     go_wp2_with (at_builtin; refine wpList_append_lies _ rfl _ _ 37 rfl w.heap.size 51 i0 _ 3 24 Tryz.underlying37 hi0 hi1 hi2 hi3 rfl (by decide) _ k (ballCells ((l.take k).map Ec.mirrorBall)) rfl hown6 ⟨w6.heap.size, 0, none⟩ 1 1 [.int .i64 x, .int .i64 (-y), .int .i64 r] rfl rfl (World.news_of_block (cs := #[.int .i64 x, .int .i64 (-y), .int .i64 r]) (t := 51) (fr := (0, 0)) (heap_alloc_new _ _)) (by simp [Value.oneCell']) (by omega) (by simp only [maxLen]; omega) (by omega) (by simp; omega) _ rfl ?_; intro gg cap w8 hown8 hgrow hat hlt4; have HO8 := Lib.hid hown8; have HG8 := Lib.hid hgrow; clear hown8 hgrow)
     go_roundw
     case rel =>
      refine ⟨k + 1, by omega, by go_num, ?_, (HX6.out.alloc _).grown HG8.out (fun g hg => (HO6.out.lt g hg).1)⟩
      rw [HSUCC.out]
      simpa [Ec.turnBall, Ec.mirrorBall] using HO8.out
     case measure => simp [intOf]; omega
  ·obtain rfl : k = l.length := by omega
   rw [List.take_length] at hown
   obtain ⟨B, d, rfl, hd, hB⟩ := BallsAt.of_own2 (l := l.map Ec.mirrorBall) (by rw [List.length_map]; exact hown)
   rw [List.length_map] at hd
   have HB := Lib.hid hB
   clear hX hown hB
   go_wp2_with fail
   go_ret
   exact ⟨B, d, by rw [List.length_map] <;> rfl, hd, HB.out, HX.out⟩
theorem e_isBall_any (l : List Ec.Ball) (A : Option Addr) (c : Nat) (n : Int) (w : World) (hl : l.length ≤ 100000) : Calls Tryz.prog 55 #[.slice A l.length c, .int .i64 n] w fun e w' => e = .returned (.bool (Ec.isBall l n)) ∧ w = w' := by
 have HV : Hid (Ec.isBall l n = Sp.inR n 0 ((l.length : Int) - 1)) := Lib.hid rfl
 go_enter Tryz.func55, Tryz.ntmps55
 go_wp2_with fail
 refine (e_in_any _ _ _ _).mono ?_
 rintro e wa ⟨rfl, rfl⟩
 rw [← HV.out]
 go_wp2_with fail
 go_ret
 exact ⟨rfl, rfl⟩
def shadesOk (l : List Ec.Ball) (one other : Int) : Bool := Ec.ballsOk l && (Ec.isBall l one && (Ec.isBall l other && !(one == other)))
def shadesV (l : List Ec.Ball) (one other : Int) : Value := if shadesOk l one other = true then .tuple #[.int .i64 (Ec.shades (Ec.ballAt l one.toNat) (Ec.ballAt l other.toNat)), .int .i64 0] else .tuple #[.int .i64 0, .int .i64 2]
theorem isBall_nat {l : List Ec.Ball} {n : Int} (h : Ec.isBall l n = true) : ∃ k : Nat, n = (k : Int) ∧ k < l.length := by
 have := inR_iff.1 (show Sp.inR n 0 ((l.length : Int) - 1) = true from h)
 exact ⟨n.toNat, by omega, by omega⟩
theorem e_Shades_any (l : List Ec.Ball) (A : Option Addr) (c : Nat) (one other : Int) (w : World) (hm : BallsAt w A l) (hc : l.length ≤ c) (hl : l.length ≤ 1000) :
  Calls Tryz.prog 18 #[.slice A l.length c, .int .i64 one, .int .i64 other] w fun e w' => e = .returned (shadesV l one other) ∧ Ext w w' := by
 have HM := Lib.hid hm
 have HB := Lib.hid (e_Balls_any l A c w hm hc hl)
 clear hm
 cases h0 : Ec.ballsOk l with
 | false =>
  have HV : Hid (shadesV l one other = .tuple #[.int .i64 0, .int .i64 2]) := Lib.hid (if_neg (by unfold shadesOk; rw [h0]; simp))
  rw [h0, if_neg (by decide)] at HB
  clear h0
  go_enter Tryz.func18, Tryz.ntmps18
  go_wp2_with fail
  refine HB.out.mono ?_
  rintro e w1 ⟨rfl, hE⟩
  go_wp2_with fail
  go_ret2
  exact ⟨by rw [HV.out]; rfl, hE⟩
 | true =>
  have H0 := Lib.hid h0
  rw [h0, if_pos rfl] at HB
  clear h0
  have HI1 := Lib.hid (fun W => e_isBall_any l A c one W (by omega))
  have HI2 := Lib.hid (fun W => e_isBall_any l A c other W (by omega))
  cases h1 : Ec.isBall l one with
  | false =>
   have HV : Hid (shadesV l one other = .tuple #[.int .i64 0, .int .i64 2]) := Lib.hid (if_neg (by unfold shadesOk; rw [H0.out, h1]; simp))
   rw [h1] at HI1
   clear h1
   go_enter Tryz.func18, Tryz.ntmps18
   go_wp2_with fail
   refine HB.out.mono ?_
   rintro e w1 ⟨rfl, hE⟩
   go_wp2_with fail
   refine (HI1.out _).mono ?_
   rintro e wa ⟨rfl, rfl⟩
   go_wp2_with fail
   go_ret2
   exact ⟨by rw [HV.out]; rfl, hE⟩
  | true =>
   have H1 := Lib.hid h1
   rw [h1] at HI1
   clear h1
   cases h2 : Ec.isBall l other with
   | false =>
    have HV : Hid (shadesV l one other = .tuple #[.int .i64 0, .int .i64 2]) := Lib.hid (if_neg (by unfold shadesOk; rw [H0.out, H1.out, h2]; simp))
    rw [h2] at HI2
    clear h2
    go_enter Tryz.func18, Tryz.ntmps18
    go_wp2_with fail
    refine HB.out.mono ?_
    rintro e w1 ⟨rfl, hE⟩
    go_wp2_with fail
    refine (HI1.out _).mono ?_
    rintro e wa ⟨rfl, rfl⟩
    go_wp2_with fail
    refine (HI2.out _).mono ?_
    rintro e wa ⟨rfl, rfl⟩
    go_wp2_with fail
    go_ret2
    exact ⟨by rw [HV.out]; rfl, hE⟩
   | true =>
    have H2 := Lib.hid h2
    rw [h2] at HI2
    clear h2
    by_cases h3 : one = other
    ·have HV : Hid (shadesV l one other = .tuple #[.int .i64 0, .int .i64 2]) := Lib.hid (if_neg (by unfold shadesOk; rw [H0.out, H1.out, H2.out]; simp [h3]))
     subst h3
     go_enter Tryz.func18, Tryz.ntmps18
     go_wp2_with fail
     refine HB.out.mono ?_
     rintro e w1 ⟨rfl, hE⟩
     go_wp2_with fail
     refine (HI1.out _).mono ?_
     rintro e wa ⟨rfl, rfl⟩
     go_wp2_with fail
     refine (HI2.out _).mono ?_
     rintro e wa ⟨rfl, rfl⟩
     go_wp2_with fail
     go_ret2
     exact ⟨by rw [HV.out]; rfl, hE⟩
    ·have HV : Hid (shadesV l one other = .tuple #[.int .i64 (Ec.shades (Ec.ballAt l one.toNat) (Ec.ballAt l other.toNat)), .int .i64 0]) := Lib.hid (if_pos (by unfold shadesOk; rw [H0.out, H1.out, H2.out]; simp [h3]))
     obtain ⟨k, rfl, hk⟩ := isBall_nat H1.out
     obtain ⟨j, rfl, hj⟩ := isBall_nat H2.out
     have hkj : ((k : Int) == (j : Int)) = false := beq_eq_false_iff_ne.2 h3
     have HIN := Lib.hid (ballsIn_of H0.out).2.1
     have b1 := HIN.out k hk
     have b2 := HIN.out j hj
     obtain ⟨bb, o, rfl, hcell⟩ := HM.out (by omega)
     have c1 := hcell k hk
     have c2 := hcell j hj
     have x1 := b1.x
     have y1 := b1.y
     have r1 := b1.r
     have x2 := b2.x
     have y2 := b2.y
     have r2 := b2.r
     have hv : (k : Int).toNat = k := rfl
     have hv2 : (j : Int).toNat = j := rfl
     rw [hv, hv2] at HV
     clear b1 b2 hcell hv hv2 h3 HIN
     generalize Ec.ballAt l k = B1 at *
     generalize Ec.ballAt l j = B2 at *
     obtain ⟨ax, ay, ar⟩ := B1
     obtain ⟨bx, by_, br⟩ := B2
     simp only at c1 c2 x1 y1 r1 x2 y2 r2
     have HSH := Lib.hid (fun W => e_shades_any ax ay ar bx by_ br W (by omega) (by omega) (by omega) (by omega) (by omega) (by omega))
     have HC1 := Lib.hid c1
     have HC2 := Lib.hid c2
     have hk1 : (k : Int) < (l.length : Int) := by omega
     have hj1 : (j : Int) < (l.length : Int) := by omega
     have hk0 : (0 : Int) ≤ (k : Int) := by omega
     have hj0 : (0 : Int) ≤ (j : Int) := by omega
     clear c1 c2 x1 y1 r1 x2 y2 r2
     go_enter Tryz.func18, Tryz.ntmps18
     go_wp2_with fail
     refine HB.out.mono ?_
     rintro e w1 ⟨rfl, hE⟩
     have HE := Lib.hid hE
     clear hE
     go_wp2_with fail
     refine (HI1.out _).mono ?_
     rintro e wa ⟨rfl, rfl⟩
     go_wp2_with fail
     refine (HI2.out _).mono ?_
     rintro e wb ⟨rfl, rfl⟩
     go_wp2_with fail
     refine wp_region_later (by kernel_rfl) (by kernel_rfl) (fun W hW => ?_)
     subst hW
     have u1 := fun X : Later W => X.ext.cell (HE.out.cell HC1.out.1)
     have u2 := fun X : Later W => X.ext.cell (HE.out.cell HC1.out.2.1)
     have u3 := fun X : Later W => X.ext.cell (HE.out.cell HC1.out.2.2)
     have v1 := fun X : Later W => X.ext.cell (HE.out.cell HC2.out.1)
     have v2 := fun X : Later W => X.ext.cell (HE.out.cell HC2.out.2.1)
     have v3 := fun X : Later W => X.ext.cell (HE.out.cell HC2.out.2.2)
     repeat (go_big_quiet_step (fail))
     go_big_quiet_step ((go_at_call 56; exact Later.call (HSH.out _)))
     repeat (go_big_quiet_step (fail))
     refine wpQuiet_nil ?_
     rintro ⟨wz, hEz⟩
     dsimp only
     go_wp2_with fail
     go_ret2
     exact ⟨by rw [HV.out]; rfl, HE.out.trans hEz⟩
theorem e_Print_any (l : List Sp.Ecl) (A : Option Addr) (c : Nat) (w : World) (hV : Env w) (hm : EclAt w A l) (hl : l.length ≤ 1000) :
  Calls Tryz.prog 11 #[.slice A l.length c] w fun e w' => e = .returned (if Ec.listOk l = true then .tuple #[.string (bs (Ec.textE l)), .int .i64 0] else .tuple #[.string (bs []), .int .i64 2]) ∧ Ext w w' := by
 have HV := Lib.hid hV
 have HM := Lib.hid hm
 have HI := Lib.hid (e_isList_any l A c w hm (by omega))
 clear hV hm
 cases h : Ec.listOk l with
 | false =>
  rw [h] at HI
  clear h
  go_enter Tryz.func11, Tryz.ntmps11
  go_wp2_with fail
  refine HI.out.mono ?_
  rintro e w1 ⟨rfl, hE⟩
  go_wp2_with fail
  go_ret2
  exact ⟨rfl, hE⟩
 | true =>
  rw [h] at HI
  have HN := Lib.hid (Ec.num_of_list h)
  clear h
  go_enter Tryz.func11, Tryz.ntmps11
  go_wp2_with fail
  refine HI.out.mono ?_
  rintro e w1 ⟨rfl, hE⟩
  go_wp2_with fail
  refine (e_text_any l A c w1 (HV.out.ext hE) (HM.out.ext hE) HN.out hl).mono ?_
  rintro e w2 ⟨rfl, hE2⟩
  go_wp2_with fail
  go_ret2
  exact ⟨rfl, hE.trans hE2⟩
theorem putB_length (l : List Ec.Ball) (k : Nat) (b : Ec.Ball) : (Ec.putB l k b).length = l.length := by simp [Ec.putB]
theorem ballAt_get {l : List Ec.Ball} {n : Nat} (hn : n < l.length) : Ec.ballAt l n = l[n] := by
 unfold Ec.ballAt
 rw [List.getD_eq_getElem?_getD, List.getElem?_eq_getElem hn]
 rfl
theorem spots_all (l S : List Ec.Ball) (k : Nat) : (S.all fun b => Ec.ballsOk (l.set k b)) = true ↔ ∀ n, n < S.length → Ec.ballsOk (Ec.putB l k (Ec.ballAt S n)) = true := by
 rw [List.all_eq_true]
 constructor
 ·intro h n hn
  rw [ballAt_get hn]
  exact h _ (List.getElem_mem hn)
 ·intro h b hb
  obtain ⟨n, hn, rfl⟩ := List.mem_iff_getElem.1 hb
  have := h n hn
  rw [ballAt_get hn] at this
  exact this
theorem spots_no {l S : List Ec.Ball} {k n : Nat} (hn : n < S.length) (h : Ec.ballsOk (Ec.putB l k (Ec.ballAt S n)) = false) : Ec.spotsOk l k S = false := by
 unfold Ec.spotsOk
 cases ha : (S.all fun b => Ec.ballsOk (l.set k b)) with
 | false => rfl
 | true => rw [(spots_all l S k).1 ha n hn] at h; cases h
theorem spots_yes {l S : List Ec.Ball} {k : Nat} (h : ∀ n, n < S.length → Ec.ballsOk (Ec.putB l k (Ec.ballAt S n)) = true) : Ec.spotsOk l k S = Sp.inR (S.length : Int) 1 12 := by
 unfold Ec.spotsOk
 rw [(spots_all l S k).2 h, Bool.true_and]
theorem spots_of {l S : List Ec.Ball} {k : Nat} (h : Ec.spotsOk l k S = true) : (∀ n, n < S.length → Ec.ballsOk (Ec.putB l k (Ec.ballAt S n)) = true) ∧ 1 ≤ S.length ∧ S.length ≤ 12 := by
 unfold Ec.spotsOk at h
 rw [Bool.and_eq_true] at h
 have := inR_iff.1 h.2
 exact ⟨(spots_all l S k).1 h.1, by omega, by omega⟩
theorem balls_put (l : List Ec.Ball) (k : Nat) (b : Ec.Ball) (g cap : Nat) (w : World) (hm : BallsAt w (some ⟨g, 0, none⟩) (Ec.putB l k b)) (hl : l.length ≤ 1000) :
  Calls Tryz.prog 20 #[.slice (some ⟨g, 0, none⟩) l.length cap] w fun e w' => e = .returned (.bool (Ec.ballsOk (Ec.putB l k b))) ∧ Ext w w' := by
 have h := r7_Balls_any (Ec.putB l k b) (some ⟨g, 0, none⟩) cap w hm (by rw [putB_length]; exact hl)
 rw [putB_length] at h
 exact h
theorem darkest_put (l : List Ec.Ball) (k : Nat) (b : Ec.Ball) (g cap : Nat) (w : World) (hm : BallsAt w (some ⟨g, 0, none⟩) (Ec.putB l k b)) (hl : l.length ≤ 1000) (hk : k < l.length) (hb : Ec.ballsOk (Ec.putB l k b) = true) :
  Calls Tryz.prog 60 #[.slice (some ⟨g, 0, none⟩) l.length cap, .int .i64 k] w fun e w' => e = .returned (.int .i64 (Ec.darkest (Ec.putB l k b) k)) ∧ Ext w w' := by
 have h := r7_darkest_any (Ec.putB l k b) k (some ⟨g, 0, none⟩) cap w hm (by rw [putB_length]; exact hl) (by rw [putB_length]; exact hk) (ballsS_of hb)
 rw [putB_length] at h
 exact h
theorem r7_Spots_any (l S : List Ec.Ball) (A A2 : Option Addr) (c c2 k : Nat) (w : World) (hm : BallsAt w A l) (hs : BallsAt w A2 S) (hk : k < l.length) (hl : l.length ≤ 1000) (hn : S.length ≤ 1000) :
  Calls Tryz.prog 30 #[.slice A l.length c, .int .i64 k, .slice A2 S.length c2] w fun e w' => e = .returned (.bool (Ec.spotsOk l k S)) ∧ Ext w w' := by
 have HM := Lib.hid hm
 have HS := Lib.hid hs
 clear hm hs
 go_enter Tryz.func30, Tryz.ntmps30
 go_wp2_with fail
 go_loopw [7] (fun i wr => ∃ n : Nat, n ≤ S.length ∧ i = .int .i64 n ∧ (∀ j, j < n → Ec.ballsOk (Ec.putB l k (Ec.ballAt S j)) = true) ∧ Ext w wr) (fun i _ => S.length - (intOf i).toNat)
 case atStart => exact ⟨0, Nat.zero_le _, rfl, fun j hj => absurd hj (Nat.not_lt_zero _), Ext.refl _⟩
 case round =>
  obtain ⟨n, hnS, rfl, hok, hX⟩ := hrel
  have HX := Lib.hid hX
  have HOK := Lib.hid hok
  clear hok
  by_cases hlt : n < S.length
  ·obtain ⟨bb, o, rfl, hcell⟩ := HS.out (by omega)
   obtain ⟨q1, q2, q3⟩ := hcell n hlt
   replace q1 := hX.cell q1
   replace q2 := hX.cell q2
   replace q3 := hX.cell q3
   have HNO := Lib.hid (fun h => spots_no (l := l) (k := k) hlt h)
   have HNX : Hid (Ec.ballsOk (Ec.putB l k (Ec.ballAt S n)) = true → ∀ j, j < n + 1 → Ec.ballsOk (Ec.putB l k (Ec.ballAt S j)) = true) := Lib.hid (fun h j hj => by
    rcases Nat.lt_or_ge j n with h1 | h1
    ·exact HOK.out j h1
    ·obtain rfl : j = n := by omega
     exact h)
   obtain ⟨b, hb⟩ : ∃ b, Ec.ballAt S n = b := ⟨_, rfl⟩
   rw [hb] at q1 q2 q3 HNO HNX
   obtain ⟨x, y, r⟩ := b
   simp only at q1 q2 q3
   have z1 := lts (lt_of_cell q1)
   simp only at z1
   clear hcell hX hb
   go_wp2_with fail
   refine (r7_Put_any l A c k x y r _ (HM.out.ext HX.out) hk hl).mono ?_
   rintro e w1 ⟨g, cap, rfl, hcap, hg, hB, hE1⟩
   have HB := Lib.hid hB
   have HE1 := Lib.hid (HX.out.trans hE1)
   clear hB hE1 q1 q2 q3 z1
   go_wp2_with fail
   refine (balls_put l k _ g cap _ HB.out hl).mono ?_
   rintro e w2 ⟨rfl, hE2⟩
   have HE2 := Lib.hid (HE1.out.trans hE2)
   clear hE2
   cases hbk : Ec.ballsOk (Ec.putB l k ⟨x, y, r⟩)
   ·have HF := Lib.hid (HNO.out hbk)
    clear hbk
    go_wp2_with fail
    go_ret
    exact ⟨by rw [HF.out] <;> rfl, HE2.out⟩
   ·have HF := Lib.hid (HNX.out hbk)
    clear hbk
    go_wp2_with fail
    go_roundw
    case rel => exact ⟨n + 1, by omega, by go_num, HF.out, HE2.out⟩
    case measure => simp [intOf]; omega
  ·obtain rfl : n = S.length := by omega
   have HV := Lib.hid (spots_yes HOK.out)
   clear hX
   go_wp2_with fail
   refine (r7_in_any _ _ _ _).mono ?_
   rintro e w1 ⟨rfl, rfl⟩
   rw [← HV.out]
   go_wp2_with fail
   go_ret
   exact ⟨rfl, HX.out⟩
theorem moves_succ {l S : List Ec.Ball} {k n : Nat} (hn : n < S.length) : (Ec.movesL l k S).take (n + 1) = (Ec.movesL l k S).take n ++ [Ec.darkest (Ec.putB l k (Ec.ballAt S n)) k] := by
 rw [List.take_succ_eq_append_getElem (by rw [Ec.movesL_length]; exact hn), ballAt_get hn]
 simp [Ec.movesL]
theorem moves_take {l S : List Ec.Ball} {k n : Nat} (hn : n ≤ S.length) : ((Ec.movesL l k S).take n).length = n := by
 rw [List.length_take, Ec.movesL_length]
 omega
theorem r7_Moves_any (l S : List Ec.Ball) (A A2 : Option Addr) (c c2 k : Nat) (w : World) (hm : BallsAt w A l) (hs : BallsAt w A2 S) (hk : k < l.length) (hl : l.length ≤ 1000) (hn : S.length ≤ 1000) (hok : ∀ n, n < S.length → Ec.ballsOk (Ec.putB l k (Ec.ballAt S n)) = true) :
  Calls Tryz.prog 31 #[.slice A l.length c, .int .i64 k, .slice A2 S.length c2] w fun e w' => ∃ B d, e = .returned (.slice B (Ec.movesL l k S).length d) ∧ Ints w' B (Ec.movesL l k S) ∧ Ext w w' := by
 have HM := Lib.hid hm
 have HS := Lib.hid hs
 have HOK := Lib.hid hok
 have HMS := Lib.hid (fun n (hn : n < S.length) => moves_succ (l := l) (k := k) hn)
 have HMT := Lib.hid (fun n (hn : n ≤ S.length) => moves_take (l := l) (k := k) hn)
 obtain ⟨M, hM⟩ : ∃ M, Ec.movesL l k S = M := ⟨_, rfl⟩
 have hML : M.length = S.length := by rw [← hM]; exact Ec.movesL_length l k S
 rw [hM] at HMS HMT ⊢
 have HML := Lib.hid hML
 obtain ⟨i0, hi0, hi1, hi2, hi3⟩ := info_parts info_word
 clear hm hs hM hok hML
 go_enter Tryz.func31, Tryz.ntmps31
 go_wp2_with fail
 go_loopw [7, 8] (fun v i wr => ∃ n : Nat, n ≤ S.length ∧ i = .int .i64 n ∧ wr.ownsRow w.heap.size 39 1 v n ((M.take n).map fun x => .int .i64 x) ∧ Ext w wr) (fun _ i _ => S.length - (intOf i).toNat)
 case atStart => exact ⟨0, Nat.zero_le _, rfl, by simp [World.ownsRow], Ext.refl _⟩
 case round =>
  obtain ⟨n, hnS, rfl, hown, hX⟩ := hrel
  have hX9 := hX.size
  have HX := Lib.hid hX
  have HOW := Lib.hid hown
  by_cases hlt : n < S.length
  ·obtain ⟨bb, o, rfl, hcell⟩ := HS.out (by omega)
   obtain ⟨q1, q2, q3⟩ := hcell n hlt
   replace q1 := hX.cell q1
   replace q2 := hX.cell q2
   replace q3 := hX.cell q3
   have HON := Lib.hid (HOK.out n hlt)
   have HSN := Lib.hid (HMS.out n hlt)
   have HTN := Lib.hid (HMT.out n hnS)
   obtain ⟨b, hb⟩ : ∃ b, Ec.ballAt S n = b := ⟨_, rfl⟩
   rw [hb] at q1 q2 q3 HON HSN
   obtain ⟨x, y, r⟩ := b
   simp only at q1 q2 q3
   have z1 := lts (lt_of_cell q1)
   simp only at z1
   clear hcell hX hb hown
   go_wp2_with fail
   refine (r7_Put_any l A c k x y r _ (HM.out.ext HX.out) hk hl).mono ?_
   rintro e w1 ⟨g, cap, rfl, hcap, hg, hB, hE1⟩
   have HB := Lib.hid hB
   have HE1 := Lib.hid (HX.out.trans hE1)
   have HO1 := Lib.hid (own_ext HOW.out hE1)
   clear hB hE1 q1 q2 q3 z1
   go_wp2_with fail
   refine (darkest_put l k _ g cap _ HB.out hl hk HON.out).mono ?_
   rintro e w3 ⟨rfl, hE3⟩
   obtain ⟨D, hD⟩ : ∃ D, Ec.darkest (Ec.putB l k ⟨x, y, r⟩) k = D := ⟨_, rfl⟩
   rw [hD] at HSN ⊢
   have hz3 := (HE1.out.trans hE3).size
   have hown4 := (own_ext HO1.out hE3).alloc (.cells #[.int .i64 D] 39)
   have HO4 := Lib.hid hown4
   have HX3 := Lib.hid (HE1.out.trans hE3)
   clear hE3 hD
   go_wp2_with (at_builtin; refine wpList_append_lies _ rfl _ _ 42 rfl w.heap.size 39 i0 _ 1 8 Tryz.underlying42 hi0 hi1 hi2 hi3 rfl (by decide) _ n ((M.take n).map fun x => .int .i64 x) rfl hown4 ⟨w3.heap.size, 0, none⟩ 1 1 [.int .i64 D] rfl rfl (World.news_of_block (cs := #[.int .i64 D]) (t := 39) (fr := (0, 0)) (heap_alloc_new _ _)) (by simp [Value.oneCell']) (by omega) (by simp only [maxLen]; omega) (by omega) (by simp; omega) _ rfl ?_; intro gg cap w4 hown5 hgrow hat hlt4; have HO5 := Lib.hid hown5; have HG := Lib.hid hgrow; clear hown5 hgrow)
   go_roundw
   case rel =>
    refine ⟨n + 1, by omega, by go_num, ?_, (HX3.out.alloc _).grown HG.out (fun g hg => (HO4.out.lt g hg).1)⟩
    rw [HSN.out]
    simpa using HO5.out
   case measure => simp [intOf]; omega
  ·obtain rfl : n = S.length := by omega
   have hT : M.take S.length = M := by rw [← HML.out]; exact List.take_length
   obtain ⟨B, d, rfl, hI⟩ := Ints.of_ownT (l := M) (by rw [HML.out]; rw [hT] at hown; exact hown)
   have HI := Lib.hid hI
   clear hX hown hI hT
   have hML := HML.out
   go_wp2_with fail
   go_ret
   exact ⟨B, d, rfl, HI.out, HX.out⟩
theorem e_balls_put (l : List Ec.Ball) (k : Nat) (b : Ec.Ball) (g cap : Nat) (w : World) (hm : BallsAt w (some ⟨g, 0, none⟩) (Ec.putB l k b)) (hc : l.length ≤ cap) (hl : l.length ≤ 1000) :
  Calls Tryz.prog 17 #[.slice (some ⟨g, 0, none⟩) l.length cap] w fun e w' => e = .returned (.int .i64 (if Ec.ballsOk (Ec.putB l k b) = true then 0 else 2)) ∧ Ext w w' := by
 have h := e_Balls_any (Ec.putB l k b) (some ⟨g, 0, none⟩) cap w hm (by rw [putB_length]; exact hc) (by rw [putB_length]; exact hl)
 rw [putB_length] at h
 exact h
theorem e_darkest_put (l : List Ec.Ball) (k : Nat) (b : Ec.Ball) (g cap : Nat) (w : World) (hm : BallsAt w (some ⟨g, 0, none⟩) (Ec.putB l k b)) (hl : l.length ≤ 1000) (hk : k < l.length) (hb : Ec.ballsOk (Ec.putB l k b) = true) :
  Calls Tryz.prog 57 #[.slice (some ⟨g, 0, none⟩) l.length cap, .int .i64 k] w fun e w' => e = .returned (.int .i64 (Ec.darkest (Ec.putB l k b) k)) ∧ Ext w w' := by
 have h := e_darkest_any (Ec.putB l k b) k (some ⟨g, 0, none⟩) cap w hm (by rw [putB_length]; exact hl) (by rw [putB_length]; exact hk) (fun i hi => ⟨(ballsS_of hb i hi).x, (ballsS_of hb i hi).y, (ballsS_of hb i hi).r⟩)
 rw [putB_length] at h
 exact h
def movesOk (l S : List Ec.Ball) (n : Int) : Bool := Ec.ballsOk l && (Ec.isBall l n && Ec.spotsOk l n.toNat S)
theorem spots_long {l S : List Ec.Ball} {k : Nat} (h : Sp.inR (S.length : Int) 1 12 = false) : Ec.spotsOk l k S = false := by
 unfold Ec.spotsOk
 rw [h, Bool.and_false]
def MovPost (l S : List Ec.Ball) (n : Int) (e : Ending) (w' : World) : Prop :=
 (movesOk l S n = false ∧ e = .returned (.tuple #[.slice none 0 0, .int .i64 2])) ∨ (movesOk l S n = true ∧ ∃ B d, e = .returned (.tuple #[.slice B (Ec.movesL l n.toNat S).length d, .int .i64 0]) ∧ Ints w' B (Ec.movesL l n.toNat S))
theorem e_Moves_any (l S : List Ec.Ball) (A A2 : Option Addr) (c c2 : Nat) (n : Int) (w : World) (hm : BallsAt w A l) (hs : BallsAt w A2 S) (hc : l.length ≤ c) (hl : l.length ≤ 1000) (hn : S.length ≤ 1000) :
  Calls Tryz.prog 29 #[.slice A l.length c, .int .i64 n, .slice A2 S.length c2] w fun e w' => MovPost l S n e w' ∧ Ext w w' := by
 have HM := Lib.hid hm
 have HS := Lib.hid hs
 have HB := Lib.hid (e_Balls_any l A c w hm hc hl)
 have HI := Lib.hid (fun W => e_isBall_any l A c n W (by omega))
 clear hm hs
 cases h0 : Ec.ballsOk l with
 | false =>
  have HNO : Hid (movesOk l S n = false) := Lib.hid (by unfold movesOk; rw [h0]; rfl)
  rw [h0, if_neg (by decide)] at HB
  clear h0
  go_enter Tryz.func29, Tryz.ntmps29
  go_wp2_with fail
  refine HB.out.mono ?_
  rintro e w1 ⟨rfl, hE⟩
  go_wp2_with fail
  go_ret2
  exact ⟨.inl ⟨HNO.out, rfl⟩, hE⟩
 | true =>
  have H0 := Lib.hid h0
  rw [h0, if_pos rfl] at HB
  have hl1 := (ballsIn_of h0).1
  clear h0
  cases h1 : Ec.isBall l n with
  | false =>
   have HNO : Hid (movesOk l S n = false) := Lib.hid (by unfold movesOk; rw [h1, Bool.false_and, Bool.and_false])
   rw [h1] at HI
   clear h1
   go_enter Tryz.func29, Tryz.ntmps29
   go_wp2_with fail
   refine HB.out.mono ?_
   rintro e w1 ⟨rfl, hE⟩
   go_wp2_with fail
   refine (HI.out _).mono ?_
   rintro e w1 ⟨rfl, rfl⟩
   go_wp2_with fail
   go_ret2
   exact ⟨.inl ⟨HNO.out, rfl⟩, hE⟩
  | true =>
   have H1 := Lib.hid h1
   rw [h1] at HI
   obtain ⟨k, rfl, hk⟩ := isBall_nat h1
   have hv : (k : Int).toNat = k := rfl
   have HMO : Hid (movesOk l S (k : Int) = Ec.spotsOk l k S) := Lib.hid (by unfold movesOk; rw [H0.out, H1.out, hv]; rfl)
   clear h1 hv
   cases h2 : Sp.inR (S.length : Int) 1 12 with
   | false =>
    have HNO : Hid (movesOk l S (k : Int) = false) := Lib.hid (HMO.out.trans (spots_long h2))
    go_enter Tryz.func29, Tryz.ntmps29
    go_wp2_with fail
    refine HB.out.mono ?_
    rintro e w1 ⟨rfl, hE⟩
    go_wp2_with fail
    refine (HI.out _).mono ?_
    rintro e w1 ⟨rfl, rfl⟩
    go_wp2_with fail
    refine (e_in_any _ _ _ _).mono ?_
    rintro e w1 ⟨rfl, rfl⟩
    rw [h2]
    go_wp2_with fail
    go_ret2
    exact ⟨.inl ⟨HNO.out, rfl⟩, hE⟩
   | true =>
    have H2 := Lib.hid h2
    have HYES : Hid ((∀ n, n < S.length → Ec.ballsOk (Ec.putB l k (Ec.ballAt S n)) = true) → movesOk l S (k : Int) = true) := Lib.hid (fun h => by rw [HMO.out, spots_yes h]; exact H2.out)
    have HNO : Hid (∀ n, n < S.length → Ec.ballsOk (Ec.putB l k (Ec.ballAt S n)) = false → movesOk l S (k : Int) = false) := Lib.hid (fun n h1 h => HMO.out.trans (spots_no h1 h))
    have HPO : Hid (∀ e w', MovPost l S (k : Int) e w' = ((movesOk l S (k : Int) = false ∧ e = .returned (.tuple #[.slice none 0 0, .int .i64 2])) ∨ (movesOk l S (k : Int) = true ∧ ∃ B d, e = .returned (.tuple #[.slice B (Ec.movesL l k S).length d, .int .i64 0]) ∧ Ints w' B (Ec.movesL l k S)))) := Lib.hid fun _ _ => rfl
    simp only [HPO.out]
    have HMS := Lib.hid (fun n (hn : n < S.length) => moves_succ (l := l) (k := k) hn)
    obtain ⟨M, hM⟩ : ∃ M, Ec.movesL l k S = M := ⟨_, rfl⟩
    have hML : M.length = S.length := by rw [← hM]; exact Ec.movesL_length l k S
    rw [hM] at HMS ⊢
    obtain ⟨P, hP⟩ : ∃ P, movesOk l S (k : Int) = P := ⟨_, rfl⟩
    rw [hP] at HNO HYES ⊢
    have HML := Lib.hid hML
    obtain ⟨i0, hi0, hi1, hi2, hi3⟩ := info_parts info_word
    clear hM hP hML HMO HPO
    have hk1 : (k : Int) < (l.length : Int) := by omega
    go_enter Tryz.func29, Tryz.ntmps29
    go_wp2_with fail
    refine HB.out.mono ?_
    rintro e w1 ⟨rfl, hE⟩
    have HE0 := Lib.hid hE
    clear hE
    go_wp2_with fail
    refine (HI.out _).mono ?_
    rintro e w1 ⟨rfl, rfl⟩
    go_wp2_with fail
    refine (e_in_any _ _ _ _).mono ?_
    rintro e w1 ⟨rfl, rfl⟩
    rw [h2]
    clear h2
    go_wp2_with fail
    go_loopw [8, 29] (fun v i wr => ∃ n : Nat, n ≤ S.length ∧ i = .int .i64 n ∧ (∀ j, j < n → Ec.ballsOk (Ec.putB l k (Ec.ballAt S j)) = true) ∧ wr.ownsRow w.heap.size 39 1 v n ((M.take n).map fun x => .int .i64 x) ∧ Ext w wr) (fun _ i _ => S.length - (intOf i).toNat)
    case atStart => exact ⟨0, Nat.zero_le _, rfl, fun j hj => absurd hj (Nat.not_lt_zero _), by simp [World.ownsRow], HE0.out⟩
    case round =>
     obtain ⟨n, hnS, rfl, hok, hown, hX⟩ := hrel
     have hX9 := hX.size
     have HX := Lib.hid hX
     have HOW := Lib.hid hown
     have HOK := Lib.hid hok
     clear hok
     by_cases hlt : n < S.length
     ·obtain ⟨bb, o, rfl, hcell⟩ := HS.out (by omega)
      obtain ⟨q1, q2, q3⟩ := hcell n hlt
      replace q1 := hX.cell q1
      replace q2 := hX.cell q2
      replace q3 := hX.cell q3
      have HNB := Lib.hid (HNO.out n hlt)
      have HSN := Lib.hid (HMS.out n hlt)
      have HNX : Hid (Ec.ballsOk (Ec.putB l k (Ec.ballAt S n)) = true → ∀ j, j < n + 1 → Ec.ballsOk (Ec.putB l k (Ec.ballAt S j)) = true) := Lib.hid (fun h j hj => by
       rcases Nat.lt_or_ge j n with h1 | h1
       ·exact HOK.out j h1
       ·obtain rfl : j = n := by omega
        exact h)
      obtain ⟨b, hb⟩ : ∃ b, Ec.ballAt S n = b := ⟨_, rfl⟩
      rw [hb] at q1 q2 q3 HNB HSN HNX
      obtain ⟨x, y, r⟩ := b
      simp only at q1 q2 q3
      have z1 := lts (lt_of_cell q1)
      simp only at z1
      have HR0 := Lib.hid (Row.new wr 51 #[.int .i64 x, .int .i64 y, .int .i64 r])
      have HX0 := Lib.hid (HX.out.alloc (.cells #[.int .i64 x, .int .i64 y, .int .i64 r] 51))
      have HOW0 := Lib.hid (HOW.out.alloc (.cells #[.int .i64 x, .int .i64 y, .int .i64 r] 51))
      have HG := Lib.hid (ballCells_get l k hk)
      clear hcell hX hb hown
      go_wp2_with (at_builtin; refine wpList_append_balls rfl _ _ rfl l A c rfl rfl (HM.out.ext HX0.out) (by omega) hl (wr.heap.size + 1) (by simp) ?_; intro cap w1 ho hE1 hlt; have HO := Lib.hid ho; have HE1 := Lib.hid hE1; have q := (HR0.out.ext hE1).cell; have t0 := (ho.cellAt (k * 3) (by omega)).trans HG.out.1; have t1 := (ho.cellAt (k * 3 + 1) (by omega)).trans HG.out.2.1; have t2 := (ho.cellAt (k * 3 + 2) (by omega)).trans HG.out.2.2; have f0 := ho.frozenAt (k * 3); have f1 := ho.frozenAt (k * 3 + 1); have f2 := ho.frozenAt (k * 3 + 2); clear ho hE1)
      have HO1 := (((HO.out.stored (k * 3) (.int .i64 x)).1.stored (k * 3 + 1) (.int .i64 y)).1.stored (k * 3 + 2) (.int .i64 r)).1
      rw [ballCells_set l k hk] at HO1
      have hC := own_cap HO1
      have HB2 := Lib.hid (BallsAt.of_own (l := Ec.putB l k ⟨x, y, r⟩) HO1 (by simp [Ec.putB]))
      have hXw := ((((Ext.refl wr).alloc (.cells #[.int .i64 x, .int .i64 y, .int .i64 r] 51)).trans HE1.out).setCell (p := ⟨wr.heap.size + 1, k * 3, none⟩) (Nat.le_succ _) (.int .i64 x)).setCell (p := ⟨wr.heap.size + 1, k * 3 + 1, none⟩) (Nat.le_succ _) (.int .i64 y)
      have hXw := hXw.setCell (p := ⟨wr.heap.size + 1, k * 3 + 2, none⟩) (Nat.le_succ _) (.int .i64 r)
      obtain ⟨W2, hW2⟩ : ∃ W2, ((w1.setCell ⟨wr.heap.size + 1, k * 3, none⟩ (.int .i64 x)).setCell ⟨wr.heap.size + 1, k * 3 + 1, none⟩ (.int .i64 y)).setCell ⟨wr.heap.size + 1, k * 3 + 2, none⟩ (.int .i64 r) = W2 := ⟨_, rfl⟩
      rw [hW2] at HB2 hXw ⊢
      have HOW2 := Lib.hid (own_ext HOW.out hXw)
      have HX2 := Lib.hid (HX.out.trans hXw)
      clear q t0 t1 t2 f0 f1 f2 HO1 HO HE1 hXw hW2 q1 q2 q3 z1
      refine (e_balls_put l k _ _ cap _ HB2.out hC hl).mono ?_
      rintro e w3 ⟨rfl, hE3⟩
      have HB3 := Lib.hid (HB2.out.ext hE3)
      have HOW3 := Lib.hid (own_ext HOW2.out hE3)
      have HX3 := Lib.hid (HX2.out.trans hE3)
      clear hE3
      cases hbk : Ec.ballsOk (Ec.putB l k ⟨x, y, r⟩)
      ·have HF := Lib.hid (HNB.out hbk)
       clear hbk
       simp only [Bool.false_eq_true, if_false]
       go_wp2_with fail
       go_ret2
       exact ⟨.inl ⟨HF.out, rfl⟩, HX3.out⟩
      ·have HF := Lib.hid (HNX.out hbk)
       have HBK := Lib.hid hbk
       clear hbk
       simp only [if_true]
       go_wp2_with fail
       refine (e_darkest_put l k _ _ cap _ HB3.out hl hk HBK.out).mono ?_
       rintro e w4 ⟨rfl, hE4⟩
       obtain ⟨D, hD⟩ : ∃ D, Ec.darkest (Ec.putB l k ⟨x, y, r⟩) k = D := ⟨_, rfl⟩
       rw [hD] at HSN ⊢
       have hz4 := (HX3.out.trans hE4).size
       have hown4 := (own_ext HOW3.out hE4).alloc (.cells #[.int .i64 D] 39)
       have HO4 := Lib.hid hown4
       have HX4 := Lib.hid (HX3.out.trans hE4)
       clear hE4 hD
       go_wp2_with (at_builtin; refine wpList_append_lies _ rfl _ _ 42 rfl w.heap.size 39 i0 _ 1 8 Tryz.underlying42 hi0 hi1 hi2 hi3 rfl (by decide) _ n ((M.take n).map fun x => .int .i64 x) rfl hown4 ⟨w4.heap.size, 0, none⟩ 1 1 [.int .i64 D] rfl rfl (World.news_of_block (cs := #[.int .i64 D]) (t := 39) (fr := (0, 0)) (heap_alloc_new _ _)) (by simp [Value.oneCell']) (by omega) (by simp only [maxLen]; omega) (by omega) (by simp; omega) _ rfl ?_; intro gg cap w5 hown5 hgrow hat hlt4; have HO5 := Lib.hid hown5; have HG5 := Lib.hid hgrow; clear hown5 hgrow)
       go_roundw
       case rel =>
        refine ⟨n + 1, by omega, by go_num, HF.out, ?_, (HX4.out.alloc _).grown HG5.out (fun g hg => (HO4.out.lt g hg).1)⟩
        rw [HSN.out]
        simpa using HO5.out
       case measure => simp [intOf]; omega
     ·obtain rfl : n = S.length := by omega
      have hT : M.take S.length = M := by rw [← HML.out]; exact List.take_length
      obtain ⟨B, d, rfl, hI⟩ := Ints.of_ownT (l := M) (by rw [HML.out]; rw [hT] at hown; exact hown)
      have HI := Lib.hid hI
      have HY := Lib.hid (HYES.out HOK.out)
      clear hX hown hI hT
      have hML := HML.out
      go_wp2_with fail
      go_ret2
      exact ⟨.inr ⟨HY.out, B, d, rfl, HI.out⟩, HX.out⟩
end Go.Proofs.YtfkcbgehcbhjnaaGreatDoor
