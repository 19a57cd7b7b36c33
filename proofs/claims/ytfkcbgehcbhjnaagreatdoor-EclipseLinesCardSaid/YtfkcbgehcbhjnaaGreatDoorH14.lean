/- Volume 14 of the texts that the laws of this seat use: EcOpenB EcBLaws EcTLaws EcBytes: walks of the program's functions, and plain laws. -/
import Derived.Test.YtfkcbgehcbhjnaaGreatDoorH11
import Derived.Test.YtfkcbgehcbhjnaaGreatDoorH13
import Derived.Test.YtfkcbgehcbhjnaaGreatDoorH06
import Derived.Test.YtfkcbgehcbhjnaaGreatDoorH10
namespace Go.Proofs.YtfkcbgehcbhjnaaGreatDoor
open Go.ChangeShapes Go.WideShapes Go.ChangeAt Go.RowKit
set_option maxRecDepth 100000
section
variable {H : Type} {enc : TypeId × Value → H} {W : World} {spare : Nat → Bool} {held : Bool} {fuel : Nat} {cs : List Value} {x : DataW H × List MemPlace}
theorem list_three {α : Type} {l : List α} (h : l.length = 3) : ∃ a b c, l = [a, b, c] := by
 obtain ⟨a, t, rfl, h1⟩ := list_more h
 obtain ⟨b, t, rfl, h2⟩ := list_more h1
 obtain ⟨c, t, rfl, h3⟩ := list_more h2
 obtain rfl : t = [] := List.eq_nil_of_length_eq_zero h3
 exact ⟨a, b, c, rfl⟩
theorem cBall : Tryz.prog.cellsOf 51 = 3 := by kernel_rfl
theorem cEcl : Tryz.prog.cellsOf 87 = 3 := by kernel_rfl
theorem cBool : Tryz.prog.cellsOf 4 = 1 := by kernel_rfl
theorem open_ball_cells (h : DataW.trod enc Tryz.prog W 0 spare held fuel 51 cs = some x) : ∃ n : Ec.Ball, cs = [.int .i64 n.x, .int .i64 n.y, .int .i64 n.r] := by
 obtain ⟨xs, m, rfl, rfl, hcs, hxs, each⟩ := DataW.trod_struct Tryz.underlying51 h
 obtain ⟨a, b, c, rfl⟩ := list_three (hcs.trans cBall)
 have hx2 : xs.length = 3 := hxs
 obtain ⟨y, hy⟩ := get_some (each 0 _ rfl) (by omega)
 obtain ⟨z, hz⟩ := get_some (each 1 _ rfl) (by omega)
 obtain ⟨u, hu⟩ := get_some (each 2 _ rfl) (by omega)
 simp [c3] at hy hz hu
 obtain ⟨n, hn, _, _⟩ := DataW.trod_int Tryz.underlying3 hy
 obtain ⟨d, hd, _, _⟩ := DataW.trod_int Tryz.underlying3 hz
 obtain ⟨e, he, _, _⟩ := DataW.trod_int Tryz.underlying3 hu
 simp at hn hd he
 exact ⟨⟨n, d, e⟩, by rw [hn, hd, he]⟩
theorem open_ecl_cells (h : DataW.trod enc Tryz.prog W 0 spare held fuel 87 cs = some x) : ∃ n : Sp.Ecl, cs = [.int .i64 n.day, .bool n.full, .int .i64 n.far] := by
 obtain ⟨xs, m, rfl, rfl, hcs, hxs, each⟩ := DataW.trod_struct Tryz.underlying87 h
 obtain ⟨a, b, c, rfl⟩ := list_three (hcs.trans cEcl)
 have hx2 : xs.length = 3 := hxs
 obtain ⟨y, hy⟩ := get_some (each 0 _ rfl) (by omega)
 obtain ⟨z, hz⟩ := get_some (each 1 _ rfl) (by omega)
 obtain ⟨u, hu⟩ := get_some (each 2 _ rfl) (by omega)
 simp [c3, cBool] at hy hz hu
 obtain ⟨n, hn, _, _⟩ := DataW.trod_int Tryz.underlying3 hy
 obtain ⟨d, hd, _⟩ := DataW.trod_bool Tryz.underlying4 hz
 obtain ⟨e, he, _, _⟩ := DataW.trod_int Tryz.underlying3 hu
 simp at hn hd he
 exact ⟨⟨n, d, e⟩, by rw [hn, hd, he]⟩
theorem open_balls_cells (h : DataW.trod enc Tryz.prog W 0 spare held fuel 37 cs = some x) : ∃ A l c, cs = [.slice A l.length c] ∧ BallsAt W A l ∧ l.length ≤ maxLen ∧ l.length ≤ c := by
 rcases DataW.trod_slice Tryz.underlying37 h with ⟨rfl, _⟩ | ⟨a, len, cap, elems, rest, n, rfl, rfl, rfl, _, hlc, hcm, hel, each, _, _⟩
 ·exact ⟨none, [], 0, rfl, fun h0 => by simp at h0, Nat.zero_le _, Nat.le_refl _⟩
 ·have one : ∀ i, i < len → ∃ B : Ec.Ball, W.cells? 0 (a.add (i * 3)) 3 = some [.int .i64 B.x, .int .i64 B.y, .int .i64 B.r] := by
   intro i hi
   have e := each i hi
   rw [cBall] at e
   obtain ⟨y, hy⟩ := get_some e (by omega)
   rw [Option.bind_eq_some_iff] at hy
   obtain ⟨cs', h1, h2⟩ := hy
   obtain ⟨B, rfl⟩ := open_ball_cells h2
   exact ⟨B, h1⟩
  haveI : Inhabited Ec.Ball := ⟨Ec.noBall⟩
  obtain ⟨f, hf⟩ := Go.Deep.choose_lt one
  have hll : ((List.range len).map f).length = len := by simp
  have hbd : ∀ k, k < len → Ec.ballAt ((List.range len).map f) k = f k := fun k hk => by
   unfold Ec.ballAt
   rw [List.getD_eq_getElem?_getD, List.getElem?_map, List.getElem?_range hk]
   rfl
  refine ⟨some a, (List.range len).map f, cap, by rw [hll], fun h0 => ?_, by omega, by omega⟩
  rw [hll] at h0
  have hc0 := hf 0 h0
  have hsp := (World.cells?_some hc0).2.2 0 (by omega)
  obtain ⟨b, off, spot⟩ := a
  have hspot : spot = none := by
   have : W.cell? ⟨b, off, spot⟩ = some (.int .i64 (f 0).x) := by simpa [Addr.add] using hsp
   simpa using World.cell?_spot this
  subst hspot
  refine ⟨b, off, rfl, fun k hk => ?_⟩
  rw [hll] at hk
  rw [hbd k hk]
  have g := (World.cells?_some (hf k hk)).2.2
  have g0 := g 0 (by omega)
  have g1 := g 1 (by omega)
  have g2 := g 2 (by omega)
  simp only [add_plain, Nat.add_zero] at g0 g1 g2
  exact ⟨g0, g1, g2⟩
theorem open_ecls_cells (h : DataW.trod enc Tryz.prog W 0 spare held fuel 22 cs = some x) : ∃ A l c, cs = [.slice A l.length c] ∧ EclAt W A l ∧ l.length ≤ maxLen := by
 rcases DataW.trod_slice Tryz.underlying22 h with ⟨rfl, _⟩ | ⟨a, len, cap, elems, rest, n, rfl, rfl, rfl, _, hlc, hcm, hel, each, _, _⟩
 ·exact ⟨none, [], 0, rfl, fun h0 => by simp at h0, Nat.zero_le _⟩
 ·have one : ∀ i, i < len → ∃ B : Sp.Ecl, W.cells? 0 (a.add (i * 3)) 3 = some [.int .i64 B.day, .bool B.full, .int .i64 B.far] := by
   intro i hi
   have e := each i hi
   rw [cEcl] at e
   obtain ⟨y, hy⟩ := get_some e (by omega)
   rw [Option.bind_eq_some_iff] at hy
   obtain ⟨cs', h1, h2⟩ := hy
   obtain ⟨B, rfl⟩ := open_ecl_cells h2
   exact ⟨B, h1⟩
  haveI : Inhabited Sp.Ecl := ⟨⟨0, false, 0⟩⟩
  obtain ⟨f, hf⟩ := Go.Deep.choose_lt one
  have hll : ((List.range len).map f).length = len := by simp
  have hbd : ∀ k, (hk : k < ((List.range len).map f).length) → ((List.range len).map f)[k] = f k := fun k hk => by simp
  refine ⟨some a, (List.range len).map f, cap, by rw [hll], fun h0 => ?_, by omega⟩
  have h0' := h0
  rw [hll] at h0'
  have hc0 := hf 0 h0'
  have hsp := (World.cells?_some hc0).2.2 0 (by omega)
  obtain ⟨b, off, spot⟩ := a
  have hspot : spot = none := by
   have : W.cell? ⟨b, off, spot⟩ = some (.int .i64 (f 0).day) := by simpa [Addr.add] using hsp
   simpa using World.cell?_spot this
  subst hspot
  refine ⟨b, off, rfl, fun k hk => ?_⟩
  rw [hbd k hk]
  have g := (World.cells?_some (hf k (by rw [hll] at hk; exact hk))).2.2
  have g0 := g 0 (by omega)
  have g1 := g 1 (by omega)
  have g2 := g 2 (by omega)
  simp only [add_plain, Nat.add_zero] at g0 g1 g2
  exact ⟨g0, g1, g2⟩
theorem open_balls {v : Value} {d : DataW H} {ps : List MemPlace} {r : Reach} {base : Nat} (hval : Value.okWide Tryz.prog W r base 37 v) (h : DataW.Trod enc Tryz.prog W 0 spare held 37 v d ps) :
  ∃ (l : List Ec.Ball) (A : Option Addr) (c : Nat), v = .slice A l.length c ∧ BallsAt W A l ∧ l.length ≤ maxLen ∧ l.length ≤ c := by
 obtain ⟨a, len, cap, rfl⟩ := okWide_slice Tryz.underlying37 hval
 obtain ⟨fuel, hd⟩ := h
 obtain ⟨A, l, c, hc, hN, hl, hlc⟩ := open_balls_cells hd
 simp [Value.cells] at hc
 exact ⟨l, A, c, by rw [hc.1, hc.2.1, hc.2.2], hN, hl, hlc⟩
theorem open_ecls {v : Value} {d : DataW H} {ps : List MemPlace} {r : Reach} {base : Nat} (hval : Value.okWide Tryz.prog W r base 22 v) (h : DataW.Trod enc Tryz.prog W 0 spare held 22 v d ps) :
  ∃ (l : List Sp.Ecl) (A : Option Addr) (c : Nat), v = .slice A l.length c ∧ EclAt W A l ∧ l.length ≤ maxLen := by
 obtain ⟨a, len, cap, rfl⟩ := okWide_slice Tryz.underlying22 hval
 obtain ⟨fuel, hd⟩ := h
 obtain ⟨A, l, c, hc, hN, hl⟩ := open_ecls_cells hd
 simp [Value.cells] at hc
 exact ⟨l, A, c, by rw [hc.1, hc.2.1, hc.2.2], hN, hl⟩
end
end Go.Proofs.YtfkcbgehcbhjnaaGreatDoor
namespace Go.Proofs.YtfkcbgehcbhjnaaGreatDoor
open Go.RowKit
set_option linter.unusedVariables false
theorem shadesV_of {l : List Ec.Ball} {k j : Nat} (c0 : Ec.ballsOk l = true) (c1 : Ec.isBall l (k : Int) = true) (c2 : Ec.isBall l (j : Int) = true) (h : ((k : Int) == (j : Int)) = false) :
  shadesV l (k : Int) (j : Int) = .tuple #[.int .i64 (Ec.shades (Ec.ballAt l k) (Ec.ballAt l j)), .int .i64 0] :=
 if_pos (by unfold shadesOk; rw [c0, c1, c2, h]; rfl)
theorem ballAt_map {l : List Ec.Ball} {k : Nat} (hk : k < l.length) (f : Ec.Ball → Ec.Ball) : Ec.ballAt (l.map f) k = f (Ec.ballAt l k) := by
 rw [ballAt_get hk, ballAt_get (by rw [List.length_map]; exact hk)]
 simp
theorem isBall_map {l : List Ec.Ball} {n : Int} (f : Ec.Ball → Ec.Ball) : Ec.isBall (l.map f) n = Ec.isBall l n := by
 unfold Ec.isBall
 rw [List.length_map]
theorem shadesV_map {l : List Ec.Ball} {k j : Nat} {f : Ec.Ball → Ec.Ball} (c0 : Ec.ballsOk (l.map f) = true) (c1 : Ec.isBall l (k : Int) = true) (c2 : Ec.isBall l (j : Int) = true) (h : ((k : Int) == (j : Int)) = false)
  (hk : k < l.length) (hj : j < l.length) (hf : ∀ a b, Ec.shades (f a) (f b) = Ec.shades a b) :
  shadesV (l.map f) (k : Int) (j : Int) = .tuple #[.int .i64 (Ec.shades (Ec.ballAt l k) (Ec.ballAt l j)), .int .i64 0] := by
 rw [shadesV_of c0 (by rw [isBall_map]; exact c1) (by rw [isBall_map]; exact c2) h, ballAt_map hk, ballAt_map hj, hf]
theorem e_Shades_map (l : List Ec.Ball) (f : Ec.Ball → Ec.Ball) (A : Option Addr) (c : Nat) (one other : Int) (w : World) (hm : BallsAt w A (l.map f)) (hc : l.length ≤ c) (hl : l.length ≤ 1000) :
  Calls Tryz.prog 18 #[.slice A l.length c, .int .i64 one, .int .i64 other] w fun e w' => e = .returned (shadesV (l.map f) one other) ∧ Ext w w' := by
 have h := e_Shades_any (l.map f) A c one other w hm (by rw [List.length_map]; exact hc) (by rw [List.length_map]; exact hl)
 rw [List.length_map] at h
 exact h
theorem e_Shades_put (l : List Ec.Ball) (k : Nat) (b : Ec.Ball) (A : Option Addr) (c : Nat) (one other : Int) (w : World) (hm : BallsAt w A (Ec.putB l k b)) (hc : l.length ≤ c) (hl : l.length ≤ 1000) :
  Calls Tryz.prog 18 #[.slice A l.length c, .int .i64 one, .int .i64 other] w fun e w' => e = .returned (shadesV (Ec.putB l k b) one other) ∧ Ext w w' := by
 have h := e_Shades_any (Ec.putB l k b) A c one other w hm (by rw [putB_length]; exact hc) (by rw [putB_length]; exact hl)
 rw [putB_length] at h
 exact h
theorem e_Dark_put (l : List Ec.Ball) (k : Nat) (b : Ec.Ball) (A : Option Addr) (c : Nat) (w : World) (hm : BallsAt w A (Ec.putB l k b)) (hc : l.length ≤ c) (h : Ec.ballsOk (Ec.putB l k b) = true) :
  Calls Tryz.prog 19 #[.slice A l.length c] w fun e w' => ∃ B d, e = .returned (.tuple #[.slice B l.length d, .int .i64 0]) ∧ Ints w' B (Ec.darkL (Ec.putB l k b)) ∧ Ext w w' := by
 have h := e_Dark_ok (Ec.putB l k b) A c w hm (by rw [putB_length]; exact hc) h
 rw [Ec.darkL_length, putB_length] at h
 exact h
theorem r7_Ball_ext (l : List Ec.Ball) (A : Option Addr) (c : Nat) (n : Int) (v : Bool) (w : World) (hl : l.length ≤ 1000) (hv : Ec.isBall l n = v) : Calls Tryz.prog 23 #[.slice A l.length c, .int .i64 n] w fun e w' => e = .returned (.bool v) ∧ Ext w w' := by
 have h := r7_Ball_any l A c n w (by omega)
 rw [hv] at h
 exact h.mono fun _ _ ⟨a, b⟩ => ⟨a, b ▸ Ext.refl _⟩
theorem r7_Balls_ext (l : List Ec.Ball) (A : Option Addr) (c : Nat) (v : Bool) (w : World) (hm : BallsAt w A l) (hl : l.length ≤ 1000) (hv : Ec.ballsOk l = v) : Calls Tryz.prog 20 #[.slice A l.length c] w fun e w' => e = .returned (.bool v) ∧ Ext w w' := by
 have h := r7_Balls_any l A c w hm hl
 rw [hv] at h
 exact h
theorem r7_Before_ext (a b : Ec.Ball) (v : Bool) (w : World) (ha : BallS a) (hb : BallS b) (hv : decide (Ec.power a < Ec.power b) = v) : Calls Tryz.prog 26 #[.agg #[.int .i64 a.x, .int .i64 a.y, .int .i64 a.r], .agg #[.int .i64 b.x, .int .i64 b.y, .int .i64 b.r]] w fun e w' => e = .returned (.bool v) ∧ Ext w w' := by
 rw [← hv]
 exact r7_Before_any a.x a.y a.r b.x b.y b.r w ha.x ha.y ha.r hb.x hb.y hb.r
theorem r7_Shades_ext (a b : Ec.Ball) (v : Int) (w : World) (ha : BallS a) (hb : BallS b) (hv : Ec.shades a b = v) : Calls Tryz.prog 24 #[.agg #[.int .i64 a.x, .int .i64 a.y, .int .i64 a.r], .agg #[.int .i64 b.x, .int .i64 b.y, .int .i64 b.r]] w fun e w' => e = .returned (.int .i64 v) ∧ Ext w w' := by
 rw [← hv]
 exact r7_Shades_any a.x a.y a.r b.x b.y b.r w ha.x ha.y ha.r hb.x hb.y hb.r
theorem l7_meets_ext (b : Ec.Ball) (x y : Int) (ins v : Bool) (w : World) (hb : BallS b) (h4 : -1000 ≤ x ∧ x ≤ 1000) (h5 : -1000 ≤ y ∧ y ≤ 1000) (hv : Ec.meets b x y ins = v) : Calls Tryz.prog 27 #[.agg #[.int .i64 b.x, .int .i64 b.y, .int .i64 b.r], .int .i64 x, .int .i64 y, .bool ins] w fun e w' => e = .returned (.bool v) ∧ Ext w w' := by
 rw [← hv]
 exact l7_meets_any b.x b.y b.r x y ins w hb.x hb.y hb.r h4 h5
theorem isBall_put {l : List Ec.Ball} {k : Nat} {b : Ec.Ball} {n : Int} : Ec.isBall (Ec.putB l k b) n = Ec.isBall l n := by
 unfold Ec.isBall
 rw [putB_length]
theorem shadesV_put {l : List Ec.Ball} {k j : Nat} {b : Ec.Ball} (cm : Ec.ballsOk (Ec.putB l k b) = true) (c1 : Ec.isBall l (k : Int) = true) (c2 : Ec.isBall l (j : Int) = true) (h : ((k : Int) == (j : Int)) = false) (hk : k < l.length) :
  shadesV (Ec.putB l k b) (k : Int) (j : Int) = .tuple #[.int .i64 (Ec.shades b (Ec.ballAt l j)), .int .i64 0] := by
 have hjk : j ≠ k := by
  rintro rfl
  simp at h
 rw [shadesV_of cm (by rw [isBall_put]; exact c1) (by rw [isBall_put]; exact c2) h, Ec.put_at l k b hk, Ec.put_other l k j b hjk]
theorem bigger_ge {l : List Ec.Ball} {k j : Nat} {more : Int} (c0 : Ec.ballsOk l = true) (cm : Ec.ballsOk (Ec.putB l k (Ec.bigger (Ec.ballAt l k) more)) = true) (hk : k < l.length) (hj : j < l.length)
  (hb : decide (Ec.power (Ec.ballAt l k) < Ec.power (Ec.ballAt l j)) = true) (h0 : 0 ≤ more) : Ec.shades (Ec.ballAt l k) (Ec.ballAt l j) ≤ Ec.shades (Ec.bigger (Ec.ballAt l k) more) (Ec.ballAt l j) := by
 have h1 := Ec.ball_pos cm (k := k) (by rw [putB_length]; exact hk)
 rw [Ec.put_at l k _ hk] at h1
 exact Ec.shades_bigger (Ec.ball_pos c0 hk).1 (Ec.ball_pos c0 hj).1 h1.2 (of_decide_eq_true hb) h0
theorem e_Moves_no {l S : List Ec.Ball} (A A2 : Option Addr) (c c2 : Nat) {n : Int} (w : World) (hm : BallsAt w A l) (hs : BallsAt w A2 S) (hc : l.length ≤ c) (hl : l.length ≤ 1000) (hn : S.length ≤ 1000) (h : movesOk l S n = false) :
  Calls Tryz.prog 29 #[.slice A l.length c, .int .i64 n, .slice A2 S.length c2] w fun e w' => e = .returned (.tuple #[.slice none 0 0, .int .i64 2]) ∧ Ext w w' :=
 (e_Moves_any l S A A2 c c2 n w hm hs hc hl hn).mono fun e w' ⟨hp, hE⟩ => by
  rcases hp with ⟨_, rfl⟩ | ⟨hy, _⟩
  ·exact ⟨rfl, hE⟩
  ·rw [h] at hy
   cases hy
theorem e_Moves_yes {l S : List Ec.Ball} (A A2 : Option Addr) (c c2 k : Nat) (w : World) (hm : BallsAt w A l) (hs : BallsAt w A2 S) (hc : l.length ≤ c) (hl : l.length ≤ 1000) (hn : S.length ≤ 1000) (h : movesOk l S (k : Int) = true) :
  Calls Tryz.prog 29 #[.slice A l.length c, .int .i64 (k : Int), .slice A2 S.length c2] w fun e w' => ∃ B d, e = .returned (.tuple #[.slice B S.length d, .int .i64 0]) ∧ Ints w' B (Ec.movesL l k S) ∧ Ext w w' :=
 (e_Moves_any l S A A2 c c2 (k : Int) w hm hs hc hl hn).mono fun e w' ⟨hp, hE⟩ => by
  rcases hp with ⟨hno, _⟩ | ⟨_, B, d, rfl, hI⟩
  ·rw [h] at hno
   cases hno
  ·exact ⟨B, d, by rw [Ec.movesL_length] <;> rfl, hI, hE⟩
theorem r7_Moves_len (l S : List Ec.Ball) (A A2 : Option Addr) (c c2 k : Nat) (w : World) (hm : BallsAt w A l) (hs : BallsAt w A2 S) (hk : k < l.length) (hl : l.length ≤ 1000) (hn : S.length ≤ 1000) (hok : Ec.spotsOk l k S = true) :
  Calls Tryz.prog 31 #[.slice A l.length c, .int .i64 k, .slice A2 S.length c2] w fun e w' => ∃ B d, e = .returned (.slice B S.length d) ∧ Ints w' B (Ec.movesL l k S) ∧ Ext w w' := by
 have h := r7_Moves_any l S A A2 c c2 k w hm hs hk hl hn (spots_of hok).1
 rw [Ec.movesL_length] at h
 exact h
theorem r7_SameWords_len (A1 A2 : Option Addr) (c1 c2 n : Nat) (l : List Int) (w : World) (q1 : Ints w A1 l) (q2 : Ints w A2 l) (hl : l.length = n) (hn : n ≤ 100000) :
  Calls Tryz.prog 21 #[.slice A1 n c1, .slice A2 n c2] w fun e w' => e = .returned (.bool true) ∧ Ext w w' := by
 subst hl
 have h := r7_SameWords_any A1 A2 c1 c2 l l w q1 q2 hn hn
 rw [decide_eq_true rfl] at h
 exact h
theorem rd_darkL {l : List Ec.Ball} {k : Nat} (hk : k < l.length) : Sp.rd (Ec.darkL l) k = Ec.darkest l k := by
 unfold Sp.rd Ec.darkL
 rw [List.getD_eq_getElem?_getD, List.getElem?_map, List.getElem?_range hk]
 rfl
theorem rd_movesL {l S : List Ec.Ball} {k m : Nat} (hm : m < S.length) : Sp.rd (Ec.movesL l k S) m = Ec.darkest (Ec.putB l k (Ec.ballAt S m)) k := by
 unfold Sp.rd Ec.movesL
 rw [List.getD_eq_getElem?_getD, List.getElem?_map, List.getElem?_eq_getElem hm, ballAt_get hm]
 rfl
end Go.Proofs.YtfkcbgehcbhjnaaGreatDoor
namespace Go.Proofs.YtfkcbgehcbhjnaaGreatDoor
open Go.RowKit
open Ec (textE parseE readE)
set_option linter.unusedVariables false
theorem e_Print_no (l : List Sp.Ecl) (A : Option Addr) (c : Nat) (w : World) (hV : Env w) (hm : EclAt w A l) (hl : l.length ≤ 1000) (h : Ec.listOk l = false) :
  Calls Tryz.prog 11 #[.slice A l.length c] w fun e w' => e = .returned (.tuple #[.string (bs []), .int .i64 2]) ∧ Ext w w' := by
 have := e_Print_any l A c w hV hm hl
 rw [if_neg (by rw [h]; decide)] at this
 exact this
theorem e_Print_yes (l : List Sp.Ecl) (A : Option Addr) (c : Nat) (w : World) (hV : Env w) (hm : EclAt w A l) (hl : l.length ≤ 1000) (h : Ec.listOk l = true) :
  Calls Tryz.prog 11 #[.slice A l.length c] w fun e w' => e = .returned (.tuple #[.string (bs (textE l)), .int .i64 0]) ∧ Ext w w' := by
 have := e_Print_any l A c w hV hm hl
 rw [if_pos h] at this
 exact this
theorem r7_List_ext (l : List Sp.Ecl) (A : Option Addr) (c : Nat) (v : Bool) (w : World) (hm : EclAt w A l) (hl : l.length ≤ 100000) (h : Ec.listOk l = v) :
  Calls Tryz.prog 12 #[.slice A l.length c] w fun e w' => e = .returned (.bool v) ∧ Ext w w' := by
 rw [← h]
 exact r7_List_any l A c w hm hl
theorem same_ecls (A1 A2 : Option Addr) (c1 c2 : Nat) (l : List Sp.Ecl) (w : World) (h1 : EclAt w A1 l) (h2 : EclAt w A2 l) (hl : l.length ≤ 100000) :
  Calls Tryz.prog 15 #[.slice A1 l.length c1, .slice A2 l.length c2] w fun e w' => e = .returned (.bool true) ∧ Ext w w' := by
 have h := r_SameEclipses_any (.slice A1 l.length c1) (.slice A2 l.length c2) l l w ⟨A1, c1, rfl, h1⟩ ⟨A2, c2, rfl, h2⟩ hl hl
 rw [decide_eq_true rfl] at h
 exact h
theorem e_Read_no (x : Bs) (k : Int) (w : World) (hV : Env w) (hx : x.length ≤ 100000) (hk : Ec.readCode x = k) (h0 : k ≠ 0) :
  Calls Tryz.prog 13 #[.string (bs x)] w fun e w' => e = .returned (.tuple #[.slice none 0 0, .int .i64 k]) ∧ Ext w w' :=
 (e_Read_any x w hV hx).mono fun e w' ⟨hE, hp⟩ => by
  rcases hp with ⟨_, rfl⟩ | ⟨l, v, hc, _⟩
  ·rw [hk]
   exact ⟨rfl, hE⟩
  ·exact absurd (hk.symm.trans hc) h0
theorem e_Read_yes (x : Bs) (l : List Sp.Ecl) (w : World) (hV : Env w) (hx : x.length ≤ 400) (hp : parseE x = some l) (hl : Ec.listOk l = true) :
  Calls Tryz.prog 13 #[.string (bs x)] w fun e w' => ∃ A c, e = .returned (.tuple #[.slice A l.length c, .int .i64 0]) ∧ EclAt w' A l ∧ Ext w w' :=
 (e_Read_any x w hV (by omega)).mono fun e w' ⟨hE, hq⟩ => by
  have hc : Ec.readCode x = 0 := by
   unfold Ec.readCode
   rw [if_neg (by omega), hp]
   simp [hl]
  rcases hq with ⟨hn, _⟩ | ⟨l', v, _, hp', _, rfl, A, c, rfl, hA⟩
  ·exact absurd hc hn
  ·obtain rfl : l = l' := Option.some.inj (hp.symm.trans hp')
   exact ⟨A, c, rfl, hA, hE⟩
theorem code_long {x : Bs} (h : 400 < x.length) : Ec.readCode x = 3 := by unfold Ec.readCode; rw [if_pos h]
theorem code_none {x : Bs} (h : ¬ 400 < x.length) (hp : parseE x = none) : Ec.readCode x = 4 := by unfold Ec.readCode; rw [if_neg h, hp]
theorem code_list {x : Bs} {l : List Sp.Ecl} (h : ¬ 400 < x.length) (hp : parseE x = some l) (hl : Ec.listOk l = false) : Ec.readCode x = 2 := by unfold Ec.readCode; rw [if_neg h, hp]; simp [hl]
theorem r7_Read_no (x : Bs) (w : World) (hx : x.length ≤ 500) (h : parseE x = none) : Calls Tryz.prog 16 #[.string (bs x)] w fun e w' => e = .returned (.tuple #[.slice none 0 0, .bool false]) ∧ Ext w w' :=
 (r7_Read_any x w hx).mono fun e w' ⟨hE, hp⟩ => by
  rcases hp with ⟨_, rfl⟩ | ⟨l, v, hs, _⟩
  ·exact ⟨rfl, hE⟩
  ·rw [Ec.read_parseE, h] at hs
   cases hs
theorem r7_Read_yes (x : Bs) (l : List Sp.Ecl) (w : World) (hx : x.length ≤ 500) (h : parseE x = some l) : Calls Tryz.prog 16 #[.string (bs x)] w fun e w' => ∃ A c, e = .returned (.tuple #[.slice A l.length c, .bool true]) ∧ EclAt w' A l ∧ Ext w w' :=
 (r7_Read_any x w hx).mono fun e w' ⟨hE, hp⟩ => by
  rcases hp with ⟨hn, _⟩ | ⟨l', v, hs, _, rfl, A, c, rfl, hA⟩
  ·rw [Ec.read_parseE, h] at hn
   cases hn
  ·rw [Ec.read_parseE, h] at hs
   obtain rfl : l = l' := Option.some.inj hs
   exact ⟨A, c, rfl, hA, hE⟩
theorem parse_len {x : Bs} {l : List Sp.Ecl} (h : parseE x = some l) (hx : x.length ≤ 500) : l.length ≤ 1000 := by
 have := parse_few h
 omega
end Go.Proofs.YtfkcbgehcbhjnaaGreatDoor
namespace Go.Proofs.YtfkcbgehcbhjnaaGreatDoor
open Go.RowKit
open Sp (rd)
set_option linter.unusedSimpArgs false
set_option linter.unusedVariables false
theorem bytes_new (x : Bs) (w : World) : ∃ (W : World) (cap : Nat), (convert 9 35 (.string (bs x))).run Tryz.prog w = .ok (.slice (some ⟨w.heap.size, 0, none⟩) x.length cap) W ∧ Ext w W ∧ w.heap.size < W.heap.size ∧
  (∀ j (hj : j < x.length), W.cell? ⟨w.heap.size, j, none⟩ = some (.int .u8 (x[j].toNat : Int))) ∧ (∀ j, j < x.length → W.frozen? ⟨w.heap.size, j, none⟩ = false) := by
 have h := run_bytes_of_string (P := Tryz.prog) w 9 35 5 (bs x) Tryz.underlying9 Tryz.underlying35 Tryz.underlying5
 rw [bs_size] at h
 refine ⟨_, _, h, ((Ext.refl w).drew).alloc _, by simp, fun j hj => ?_, fun j hj => ?_⟩
 ·have hd : (bs x).data.size = x.length := bs_size x
  have hb := bytesRow_at (bs x) (grownCap w x.length 0 5) j (by omega)
  have hx : (bs x).data[j]'(by omega) = x[j] := by simp [bs]
  rw [hx] at hb
  rw [← hb]
  exact cell_of_row _ _ _ _ _ _ (heap_alloc_new _ _)
 ·have hn := heap_alloc_new w.drew (.cells (bytesRow (bs x) (grownCap w x.length 0 5)) 5 ((bytesRow (bs x) (grownCap w x.length 0 5)).size, (bytesRow (bs x) (grownCap w x.length 0 5)).size + 1))
  have hn' : (w.drew.alloc (.cells (bytesRow (bs x) (grownCap w x.length 0 5)) 5 ((bytesRow (bs x) (grownCap w x.length 0 5)).size, (bytesRow (bs x) (grownCap w x.length 0 5)).size + 1))).heap[w.heap.size]? = _ := hn
  have hsz : x.length ≤ (bytesRow (bs x) (grownCap w x.length 0 5)).size := by
   have hd : (bs x).data.size = x.length := bs_size x
   unfold bytesRow
   simp [hd]
  simp only [World.frozen?, hn']
  simp
  omega
theorem bytes_back (x : Bs) (W : World) (g j cap : Nat) (d : UInt8) (hj : j < x.length) (hc : ∀ k (hk : k < x.length), W.cell? ⟨g, k, none⟩ = some (.int .u8 (x[k].toNat : Int))) :
  (convert 35 9 (.slice (some ⟨g, 0, none⟩) x.length cap)).run Tryz.prog (W.setCell ⟨g, j, none⟩ (.int .u8 (d.toNat : Int))) = .ok (.string (bs (x.set j d))) (W.setCell ⟨g, j, none⟩ (.int .u8 (d.toNat : Int))) := by
 have h := run_convert_bytes_back (P := Tryz.prog) (W.setCell ⟨g, j, none⟩ (.int .u8 (d.toNat : Int))) 35 9 5 ⟨g, 0, none⟩ cap (x.set j d) Tryz.underlying35 Tryz.underlying5 Tryz.underlying9 (fun k hk => by
  rw [List.length_set] at hk
  rw [add0]
  by_cases hkj : k = j
  ·subst hkj
   rw [World.cell?_setCell_same _ _ _ (hc k hj)]
   simp
  ·rw [World.cell?_setCell_other _ _ _ _ (show (⟨g, j, none⟩ : Addr) ≠ ⟨g, k, none⟩ from fun e => hkj (by injection e with _ e2 _; exact e2.symm)), hc k hk]
   rw [List.getElem_set_ne (fun e => hkj e.symm)])
 rw [List.length_set] at h
 exact h
theorem split_at (x : Bs) (j : Nat) (hj : j < x.length) (d : UInt8) : x = x.take j ++ x[j] :: x.drop (j + 1) ∧ x.set j d = x.take j ++ d :: x.drop (j + 1) := by
 constructor
 ·rw [← List.drop_eq_getElem_cons hj, List.take_append_drop]
 ·rw [List.set_eq_take_append_cons_drop, if_pos hj]
end Go.Proofs.YtfkcbgehcbhjnaaGreatDoor
