/- Volume 2 of the texts that the laws of this seat use: V05 EcText V07E V08 V13 EcSpec: walks of the program's functions, and plain laws. -/
import Derived.Lib.ItoaLen
import Derived.Recover
import Derived.Defers
import Derived.Test.YtfkcbgehcbhjnaaGreatDoorH01
namespace Go.Proofs.YtfkcbgehcbhjnaaGreatDoor
open Go.RowKit
open Sp (rd)
theorem info_moon : (Tryz.prog.info? 185).map (fun i => (i.zero, i.size, i.bytes)) = some (some (.agg #[.int .i64 0, .bool false]), 2, 16) := by kernel_rfl
def moonCells (l : List (Int × Bool)) : List Value := l.flatMap fun m => [.int .i64 m.1, .bool m.2]
theorem moonCells_append (l m : List (Int × Bool)) : moonCells (l ++ m) = moonCells l ++ moonCells m := by simp [moonCells]
abbrev moonsOut (w : World) (base bO : Nat) (v : Value) (l : List (Int × Bool)) : Prop := Out w base bO 182 185 2 v l.length (moonCells l)
theorem grown_row {w w' : World} {row : Option Nat} (hg : w.grownBy w' row) {g : Nat} {t : TypeId} {cs : Array Value} (h : Row w g t cs) (hne : row ≠ some g) : Row w' g t cs := (hg.block g h.lt (Ne.symm hne)).trans h
theorem grown_cell {w w' : World} {row : Option Nat} (hg : w.grownBy w' row) {g : Nat} {t : TypeId} {cs : Array Value} (h : Row w g t cs) (hne : row ≠ some g) (i : Nat) : w'.cell? ⟨g, i, none⟩ = cs[i]? := (grown_row hg h hne).cell i
theorem grown_free {w w' : World} {row : Option Nat} (hg : w.grownBy w' row) {g : Nat} {t : TypeId} {cs : Array Value} (h : Row w g t cs) (hne : row ≠ some g) (i : Nat) : w'.frozen? ⟨g, i, none⟩ = false := (grown_row hg h hne).free i
theorem full_new (w : World) : Calls Tryz.prog 214 #[.agg #[]] w fun e w' => e = .returned (.bool false) ∧ Ext w w' := by
 go_enter Tryz.func214, Tryz.ntmps214
 go_wp2_with fail
 go_ret
 exact ⟨rfl, (Ext.refl _).alloc _⟩
theorem full_full (w : World) : Calls Tryz.prog 215 #[.agg #[]] w fun e w' => e = .returned (.bool true) ∧ Ext w w' := by
 go_enter Tryz.func215, Tryz.ntmps215
 go_wp2_with fail
 go_ret
 exact ⟨rfl, (Ext.refl _).alloc _⟩
set_option maxRecDepth 100000 in
theorem look_new (base bX bO : Nat) (s : Sp.Sky) (A : Option Addr) (c : Nat) (day : Int) (w : World) (hs : SkyOk s) (hm : Bodies w A s.bodies) (h2 : 1 ≤ day) (h3 : day ≤ 20000)
  (hX : Row w bX 147 #[.slice A s.bodies.length c, .int .i64 s.nnum, .int .i64 s.nden, .int .i64 s.nstart, .int .i64 day]) (v : Value) (l : List (Int × Bool)) (hO : moonsOut w base bO v l)
  (hbase : base ≤ w.heap.size) (hl : l.length ≤ 2000) :
  Calls Tryz.prog 150 #[.iface 203 (.agg #[]), .pointer (some ⟨bX, 0, none⟩), .pointer (some ⟨bO, 0, none⟩)] w fun e w' => e = .returned (.tuple #[]) ∧ ∃ v', moonsOut w' base bO v' (l ++ if Sp.moonB s day false then [(day, false)] else []) ∧ Push bO v v' w w' := by
 obtain ⟨i0, hi0, hz0, hz1, hz2⟩ := info_parts info_moon
 have cX := hX.cell
 cases hb : Sp.moonB s day false
 ·go_enter Tryz.func150, Tryz.ntmps150
  go_wp2_with fail
  refine (hasNew s A c day _ hs hm h2 h3).mono ?_
  rintro e w1 ⟨rfl, hE⟩
  have HE := Lib.hid hE
  clear hE
  rw [hb]
  go_wp2_with fail
  go_end0
  exact ⟨rfl, v, by simpa using hO.ext HE.out, Push.of_ext HE.out⟩
 ·go_enter Tryz.func150, Tryz.ntmps150
  go_wp2_with fail
  refine (hasNew s A c day _ hs hm h2 h3).mono ?_
  rintro e w1 ⟨rfl, hE⟩
  replace hO := hO.ext hE
  replace hX := hX.ext hE
  have hP := Push.of_ext (bO := bO) (v := v) hE
  replace hbase : base ≤ w1.heap.size := Nat.le_trans hbase hE.size
  clear hE cX
  rw [hb]
  go_wp2_with fail
  refine wp_region_later_mix (v0 := v) 6 (by kernel_rfl) (by kernel_rfl) rfl rfl (by kernel_rfl) ?_ (fun W hW => ?_)
  ·intro x
   have c2 := (hO.box.ext x.ext).cell 0
   simp only [List.getElem?_toArray, List.getElem?_cons_zero] at c2
   simp [go_sem, c2]
  have q1 := Later.block (w := W) (by rw [hW]; exact hX)
  have q2 := Later.block (w := W) (by rw [hW]; exact hO.box)
  simp only [List.take_succ_cons, List.take_zero, List.drop_succ_cons, List.drop_zero, Act.put, List.setIfInBounds_toArray, List.set_cons_succ, List.set_cons_zero]
  have hn : ∀ w, (nilAhead 357 203 (.agg #[]) "tellurion/sky.full").run Tryz.prog w = .ok (some false) w := fun _ => by kernel_rfl
  have hn' : ∀ w, (method 357 203 (.agg #[]) "tellurion/sky.full").run Tryz.prog w = .ok (214, .agg #[]) w := fun _ => by kernel_rfl
  repeat (go_big_quiet_step ((exact Later.call (full_new _))))
  refine wpQuiet_nil ?_
  intro x
  go_wp2
  refine ⟨⟨⟨_, x.ext.alloc _⟩, rfl⟩, ?_⟩
  subst hW
  replace hbase : base ≤ x.world.heap.size := Nat.le_trans hbase x.ext.size
  have hO2 := (hO.ext x.ext).ext ((Ext.refl _).alloc (.cells #[.int .i64 day, .bool false] 185))
  refine wpList_append_lies _ rfl _ _ _ rfl base 185 i0 _ 2 16 Tryz.underlying182 hi0 hz0 hz1 hz2 rfl (by omega) v l.length (moonCells l) rfl hO2.own
   ⟨x.world.heap.size, 0, none⟩ 1 1 [.int .i64 day, .bool false] rfl rfl (World.news_of_block (cs := #[.int .i64 day, .bool false]) (t := 185) (fr := (0, 0)) (heap_alloc_new _ _)) (by simp [Value.oneCell'])
   (by omega) (by simp only [maxLen]; omega) (by omega) (by simp; omega) _ rfl ?_
  intro gg cap w3 hown1 hgrow hat hlt
  have hc3 := grown_cell hgrow hO2.box hO2.ne 0
  have hf3 := grown_free hgrow hO2.box hO2.ne 0
  simp only [List.getElem?_toArray, List.getElem?_cons_zero] at hc3
  have hpush := hO2.pushed (Ext.refl _) hown1 hgrow hat
  have hP2 := (hP.trans (Push.of_ext x.ext)).trans (Push.of_ext ((Ext.refl _).alloc (.cells #[.int .i64 day, .bool false] 185)))
  clear q1 q2 hO2 hO hX hgrow hown1 hP
  go_wp2
  refine NoPanic.normal ?_
  go_end0
  exact ⟨rfl, _, by simpa [moonsOut, moonCells_append, moonCells] using hpush.1, hP2.trans hpush.2⟩
set_option maxRecDepth 100000 in
theorem look_full (base bX bO : Nat) (s : Sp.Sky) (A : Option Addr) (c : Nat) (day : Int) (w : World) (hs : SkyOk s) (hm : Bodies w A s.bodies) (h2 : 1 ≤ day) (h3 : day ≤ 20000)
  (hX : Row w bX 147 #[.slice A s.bodies.length c, .int .i64 s.nnum, .int .i64 s.nden, .int .i64 s.nstart, .int .i64 day]) (v : Value) (l : List (Int × Bool)) (hO : moonsOut w base bO v l)
  (hbase : base ≤ w.heap.size) (hl : l.length ≤ 2000) :
  Calls Tryz.prog 150 #[.iface 204 (.agg #[]), .pointer (some ⟨bX, 0, none⟩), .pointer (some ⟨bO, 0, none⟩)] w fun e w' => e = .returned (.tuple #[]) ∧ ∃ v', moonsOut w' base bO v' (l ++ if Sp.moonB s day true then [(day, true)] else []) ∧ Push bO v v' w w' := by
 obtain ⟨i0, hi0, hz0, hz1, hz2⟩ := info_parts info_moon
 have cX := hX.cell
 cases hb : Sp.moonB s day true
 ·go_enter Tryz.func150, Tryz.ntmps150
  go_wp2_with fail
  refine (hasFull s A c day _ hs hm h2 h3).mono ?_
  rintro e w1 ⟨rfl, hE⟩
  have HE := Lib.hid hE
  clear hE
  rw [hb]
  go_wp2_with fail
  go_end0
  exact ⟨rfl, v, by simpa using hO.ext HE.out, Push.of_ext HE.out⟩
 ·go_enter Tryz.func150, Tryz.ntmps150
  go_wp2_with fail
  refine (hasFull s A c day _ hs hm h2 h3).mono ?_
  rintro e w1 ⟨rfl, hE⟩
  replace hO := hO.ext hE
  replace hX := hX.ext hE
  have hP := Push.of_ext (bO := bO) (v := v) hE
  replace hbase : base ≤ w1.heap.size := Nat.le_trans hbase hE.size
  clear hE cX
  rw [hb]
  go_wp2_with fail
  refine wp_region_later_mix (v0 := v) 6 (by kernel_rfl) (by kernel_rfl) rfl rfl (by kernel_rfl) ?_ (fun W hW => ?_)
  ·intro x
   have c2 := (hO.box.ext x.ext).cell 0
   simp only [List.getElem?_toArray, List.getElem?_cons_zero] at c2
   simp [go_sem, c2]
  have q1 := Later.block (w := W) (by rw [hW]; exact hX)
  have q2 := Later.block (w := W) (by rw [hW]; exact hO.box)
  simp only [List.take_succ_cons, List.take_zero, List.drop_succ_cons, List.drop_zero, Act.put, List.setIfInBounds_toArray, List.set_cons_succ, List.set_cons_zero]
  have hn : ∀ w, (nilAhead 357 204 (.agg #[]) "tellurion/sky.full").run Tryz.prog w = .ok (some false) w := fun _ => by kernel_rfl
  have hn' : ∀ w, (method 357 204 (.agg #[]) "tellurion/sky.full").run Tryz.prog w = .ok (215, .agg #[]) w := fun _ => by kernel_rfl
  repeat (go_big_quiet_step ((exact Later.call (full_full _))))
  refine wpQuiet_nil ?_
  intro x
  go_wp2
  refine ⟨⟨⟨_, x.ext.alloc _⟩, rfl⟩, ?_⟩
  subst hW
  replace hbase : base ≤ x.world.heap.size := Nat.le_trans hbase x.ext.size
  have hO2 := (hO.ext x.ext).ext ((Ext.refl _).alloc (.cells #[.int .i64 day, .bool true] 185))
  refine wpList_append_lies _ rfl _ _ _ rfl base 185 i0 _ 2 16 Tryz.underlying182 hi0 hz0 hz1 hz2 rfl (by omega) v l.length (moonCells l) rfl hO2.own
   ⟨x.world.heap.size, 0, none⟩ 1 1 [.int .i64 day, .bool true] rfl rfl (World.news_of_block (cs := #[.int .i64 day, .bool true]) (t := 185) (fr := (0, 0)) (heap_alloc_new _ _)) (by simp [Value.oneCell'])
   (by omega) (by simp only [maxLen]; omega) (by omega) (by simp; omega) _ rfl ?_
  intro gg cap w3 hown1 hgrow hat hlt
  have hc3 := grown_cell hgrow hO2.box hO2.ne 0
  have hf3 := grown_free hgrow hO2.box hO2.ne 0
  simp only [List.getElem?_toArray, List.getElem?_cons_zero] at hc3
  have hpush := hO2.pushed (Ext.refl _) hown1 hgrow hat
  have hP2 := (hP.trans (Push.of_ext x.ext)).trans (Push.of_ext ((Ext.refl _).alloc (.cells #[.int .i64 day, .bool true] 185)))
  clear q1 q2 hO2 hO hX hgrow hown1 hP
  go_wp2
  refine NoPanic.normal ?_
  go_end0
  exact ⟨rfl, _, by simpa [moonsOut, moonCells_append, moonCells] using hpush.1, hP2.trans hpush.2⟩
end Go.Proofs.YtfkcbgehcbhjnaaGreatDoor
namespace Go.Proofs.YtfkcbgehcbhjnaaGreatDoor
open Go.RowKit Go.Shelf
open Sp (rd)
attribute [local go_sem] Oper.semAt_some
def daysW (A : Option Addr) (n c : Nat) (s : Sp.Sky) (lo hi : Int) (w : World) : World :=
 ((w.alloc (.cells #[.slice A n c, .int .i64 s.nnum, .int .i64 s.nden, .int .i64 s.nstart] 72)).alloc (.cells #[.int .i64 lo] 3)).alloc (.cells #[.int .i64 hi] 3)
theorem daysW_size (A : Option Addr) (n c : Nat) (s : Sp.Sky) (lo hi : Int) (w : World) : (daysW A n c s lo hi w).heap.size = w.heap.size + 3 := by simp [daysW]
theorem daysW_ext (A : Option Addr) (n c : Nat) (s : Sp.Sky) (lo hi : Int) (w : World) : Ext w (daysW A n c s lo hi w) := (((Ext.refl w).alloc _).alloc _).alloc _
theorem daysW_S (A : Option Addr) (n c : Nat) (s : Sp.Sky) (lo hi : Int) (w : World) : Row (daysW A n c s lo hi w) w.heap.size 72 #[.slice A n c, .int .i64 s.nnum, .int .i64 s.nden, .int .i64 s.nstart] := (blocks3 w _ _ _).1
theorem daysW_F (A : Option Addr) (n c : Nat) (s : Sp.Sky) (lo hi : Int) (w : World) : Row (daysW A n c s lo hi w) (w.heap.size + 1) 3 #[.int .i64 lo] := (blocks3 w _ _ _).2.1
theorem daysW_T (A : Option Addr) (n c : Nat) (s : Sp.Sky) (lo hi : Int) (w : World) : Row (daysW A n c s lo hi w) (w.heap.size + 2) 3 #[.int .i64 hi] := (blocks3 w _ _ _).2.2
attribute [irreducible] daysW
def daysV (b : Nat) : Value := .func (.func 174) #[] #[.pointer (some ⟨b + 1, 0, none⟩), .pointer (some ⟨b + 2, 0, none⟩), .pointer (some ⟨b, 0, none⟩)]
theorem days_any (A : Option Addr) (n c : Nat) (s : Sp.Sky) (lo hi : Int) (w : World) :
  Calls Tryz.prog 149 #[.agg #[.slice A n c, .int .i64 s.nnum, .int .i64 s.nden, .int .i64 s.nstart], .int .i64 lo, .int .i64 hi] w fun e w' => e = .returned (daysV w.heap.size) ∧ w' = daysW A n c s lo hi w := by
 have hmf : ∀ fn first cap w, (Instr.makeFunc fn first cap).run Tryz.prog w = .ok (.func fn first cap) w := fun _ _ _ _ => rfl
 go_enter Tryz.func149, Tryz.ntmps149
 go_wp2_with fail
 go_ret
 exact ⟨rfl, by unfold daysW; rfl⟩
def DaysAll (lo hi : Int) (xs : List Day1) : Prop := xs.map Subtype.val = daysL lo (hi + 1 - lo).toNat
def DaysSome (lo hi : Int) (pre : List Day1) : Prop := ∃ k, k ≤ (hi + 1 - lo).toNat ∧ pre.map Subtype.val = daysL lo k
theorem days_stops (n : Nat) (hn : 1 ≤ n) (A : Option Addr) (m c : Nat) (s : Sp.Sky) (lo hi : Int) (h1 : 1 ≤ lo) (h2 : hi ≤ 20000) (b : Nat) (w : World) (hS : Row w b 72 #[.slice A m c, .int .i64 s.nnum, .int .i64 s.nden, .int .i64 s.nstart])
  (hF : Row w (b + 1) 3 #[.int .i64 lo]) (hT : Row w (b + 2) 3 #[.int .i64 hi]) :
  SeqStopsK Fence.wide n Tryz.prog 174 #[.pointer (some ⟨b + 1, 0, none⟩), .pointer (some ⟨b + 2, 0, none⟩), .pointer (some ⟨b, 0, none⟩)] (fun x : Day1 => #[skyV A m c s x.1]) (KeepsTwo (b + 2) b) (DaysAll lo hi) (DaysSome lo hi) (hi + 1 - lo).toNat w := fun l J Jx W hW _ _ hY h0 =>
 days1_in n hn l (b + 1) (b + 2) b A m c s lo hi J Jx h1 h2 hY W (hF.ext hW) (hT.ext hW) (hS.ext hW) h0
theorem keepsTwo_t (bT bS : Nat) {A B C : World} (h : KeepsTwo bT bS A B) (k : KeepsTwo bT bS B C) : KeepsTwo bT bS A C := ⟨k.1.trans h.1, k.2.trans h.2⟩
theorem keepsTwo_b {bT bS B : Nat} (h1 : bT < B) (h2 : bS < B) (W : World) (l : Nat) (_o o' : Obj) (hl : B ≤ l) (_ : W.heap[l]? = some _o) (_ : _o.isCells = false) (_ : _o.isWalk = false) : KeepsTwo bT bS W (W.putObj l o') :=
 ⟨World.putObj_heap_other (by omega), World.putObj_heap_other (by omega)⟩
theorem row_ne_of_other {W : World} {g : Nat} {t : TypeId} {cs : Array Value} (h : Row W g t cs) {row : Option Nat} (hrow : ∀ r, row = some r → ∃ o : Obj, W.heap[r]? = some o ∧ o.isCells = false) : some g ≠ row := by
 intro e
 obtain ⟨o, ho, hc⟩ := hrow g e.symm
 unfold Row at h
 rw [h] at ho; cases ho; cases hc
theorem Row.kept {W W' : World} {g : Nat} {t : TypeId} {cs : Array Value} (h : Row W g t cs) {row : Option Nat} (hg : W.grownBy W' row) (hrow : ∀ r, row = some r → ∃ o : Obj, W.heap[r]? = some o ∧ o.isCells = false) : Row W' g t cs :=
 (hg.block g h.lt (row_ne_of_other h hrow)).trans h
theorem own_ne_of_other {W : World} {base : Nat} {e : TypeId} {size : Nat} {v : Value} {n : Nat} {xs : List Value} (h : W.ownsRow base e size v n xs) {row : Option Nat} (hrow : ∀ r, row = some r → ∃ o : Obj, W.heap[r]? = some o ∧ o.isCells = false) {k : Nat} (hk : v.ownBlock = some k) : some k ≠ row := by
 intro e'
 obtain ⟨o, ho, hc⟩ := hrow k e'.symm
 rcases h.2 with ⟨rfl, _⟩ | ⟨g, cap, cur, rfl, _, hh, _⟩
 ·cases hk
 ·simp only [Value.ownBlock, Option.some.injEq] at hk
  subst hk
  rw [hh] at ho; cases ho; cases hc
theorem Out.kept {W W' : World} {base bO : Nat} {ty e : TypeId} {size : Nat} {v : Value} {n : Nat} {xs : List Value} (h : Out W base bO ty e size v n xs) {row : Option Nat} (hg : W.grownBy W' row) (hrow : ∀ r, row = some r → ∃ o : Obj, W.heap[r]? = some o ∧ o.isCells = false) : Out W' base bO ty e size v n xs :=
 ⟨h.box.kept hg hrow, ownsRow_of_block h.own fun k hk => hg.block k (h.own.lt k hk).2 (own_ne_of_other h.own hrow hk), h.ne⟩
theorem Out.far {W : World} {base bO : Nat} {ty e : TypeId} {size : Nat} {v : Value} {n : Nat} {xs : List Value} (h : Out W base bO ty e size v n xs) {g : Nat} {t : TypeId} {cs : Array Value} (hr : Row W g t cs) (ht : t ≠ e) : v.ownBlock ≠ some g := by
 rcases h.own.2 with ⟨rfl, _⟩ | ⟨g', cap, cur, rfl, _, hh, _⟩
 ·simp [Value.ownBlock]
 ·simp only [Value.ownBlock, ne_eq, Option.some.injEq]
  rintro rfl
  unfold Row at hr
  rw [hr] at hh; cases hh; exact ht rfl
theorem Out.nbox {W : World} {base bO : Nat} {ty e : TypeId} {size : Nat} {v : Value} {n : Nat} {xs : List Value} (h : Out W base bO ty e size v n xs) {g : Nat} {t : TypeId} {cs : Array Value} (hr : Row W g t cs) (ht : t ≠ ty) : g ≠ bO := by
 rintro rfl
 have hb := h.box
 unfold Row at hr hb
 rw [hr] at hb; cases hb; exact ht rfl
theorem Push.keepsFrom {W W' : World} {base bO : Nat} {ty e : TypeId} {size : Nat} {v v' : Value} {n : Nat} {xs : List Value} (h : Out W base bO ty e size v n xs) (hp : Push bO v v' W W') (B : Nat) : KeepsFrom B W W' := by
 refine ⟨hp.size, fun k o _ hk hc => ?_⟩
 have h1 : k ≠ bO := by
  rintro rfl
  have hb := h.box
  unfold Row at hb
  rw [hb] at hk; cases hk; cases hc
 have h2 : v.ownBlock ≠ some k := by
  rcases h.own.2 with ⟨rfl, _⟩ | ⟨g', cap, cur, rfl, _, hh, _⟩
  ·simp [Value.ownBlock]
  ·simp only [Value.ownBlock, ne_eq, Option.some.injEq]
   rintro rfl
   rw [hh] at hk; cases hk; cases hc
 exact (hp.block k (Array.getElem?_eq_some_iff.1 hk).1 h1 h2).1.trans hk
theorem Push.old {W W' : World} {base bO : Nat} {ty e : TypeId} {size : Nat} {v v' : Value} {n : Nat} {xs : List Value} (h : Out W base bO ty e size v n xs) (hp : Push bO v v' W W') {k : Nat} (hk : k < base) (hl : base ≤ W.heap.size) (hb : k ≠ bO) : W'.heap[k]? = W.heap[k]? :=
 (hp.block k (by omega) hb (fun e => by have := (h.own.lt k e).1; omega)).1
theorem Push.below {W W' : World} {base bO : Nat} {ty e : TypeId} {size : Nat} {v v' : Value} {n : Nat} {xs : List Value} (h : Out W base bO ty e size v n xs) (hp : Push bO v v' W W') {N : Nat} (hk : N ≤ bO) (hl : bO ≤ base) (hl' : base ≤ W.heap.size) : Below N W W' :=
 ⟨hp.os, hp.tape, hp.output, hp.size, fun k hk' => Push.old h hp (by omega) hl' (by omega)⟩
end Go.Proofs.YtfkcbgehcbhjnaaGreatDoor
namespace Go.Proofs.YtfkcbgehcbhjnaaGreatDoor
open Go.RowKit Go.Shelf
open Sp (rd)
attribute [local go_sem] Oper.semAt_some
def MoonsI (w : World) (s : Sp.Sky) (pre : List Day1) (W : World) : Prop := (∃ v, moonsOut W (w.heap.size + 5) (w.heap.size + 1) v (pre.flatMap fun x => Sp.dayMoons s x.1)) ∧ (Below w.heap.size w W ∧ w.heap.size + 5 ≤ W.heap.size)
theorem moonsI_own (w : World) (s : Sp.Sky) (B : Nat) (hB : w.heap.size ≤ B) : OwnFrom B (MoonsI w s) := fun _ _ _ _ ⟨⟨v, h⟩, hb, hz⟩ hg hr =>
 ⟨⟨v, h.kept hg fun r e => (hr r e).2⟩, hb.grown hg hb.size (fun k e => Nat.le_trans hB (hr k e).1), Nat.le_trans hz hg.size⟩
theorem moons_le (s : Sp.Sky) (pre : List Day1) : (pre.flatMap fun x => Sp.dayMoons s x.1).length ≤ 2 * pre.length := by
 induction pre with
 | nil => simp
 | cons x l ih =>
  simp only [List.flatMap_cons, List.length_append, List.length_cons]
  have : (Sp.dayMoons s x.1).length ≤ 2 := by
   unfold Sp.dayMoons
   split <;> split <;> simp
  omega
theorem moonsN_flat (s : Sp.Sky) (lo : Int) (k : Nat) : (daysL lo k).flatMap (Sp.dayMoons s) = Sp.moonsN s lo k := by
 induction k with
 | zero => simp [daysL, Sp.moonsN]
 | succ k ih => rw [daysL_succ, List.flatMap_append, ih]; simp [Sp.moonsN]
theorem moons_all (s : Sp.Sky) (lo hi : Int) (xs : List Day1) (h : DaysAll lo hi xs) : (xs.flatMap fun x => Sp.dayMoons s x.1) = Sp.moonsL s lo hi := by
 unfold DaysAll at h
 unfold Sp.moonsL
 rw [← moonsN_flat, ← h, List.flatMap_map]
theorem Ext.trans' {w w1 w2 : World} (h : Ext w w1) (k : Below w.heap.size w1 w2) : Ext w w2 := Below.trans h k
set_option maxRecDepth 100000 in
set_option maxHeartbeats 400000 in
theorem moons_in (n : Nat) (hn : 6 ≤ n) (s : Sp.Sky) (A : Option Addr) (c : Nat) (lo hi : Int) (w : World) (hs : SkyOk s) (hm : Bodies w A s.bodies) (h1 : 1 ≤ lo) (h2 : hi ≤ 20000) (h3 : hi - lo ≤ 800) :
  CallsIn Fence.wide n Tryz.prog 132 #[.agg #[.slice A s.bodies.length c, .int .i64 s.nnum, .int .i64 s.nden, .int .i64 s.nstart], .int .i64 lo, .int .i64 hi] w fun e w' =>
   ∃ v base, e = .returned v ∧ w.heap.size < base ∧ w'.ownsRow base 185 2 v (Sp.moonsL s lo hi).length (moonCells (Sp.moonsL s lo hi)) ∧ Ext w w' := by
 have hmf : ∀ fn first cap w, (Instr.makeFunc fn first cap).run Tryz.prog w = .ok (.func fn first cap) w := fun _ _ _ _ => rfl
 refine callsIn_of_wp_marks Tryz.func132 rfl trivial ?_ rfl
 simp only [Tryz.ntmps132, List.size_toArray, List.length_cons, List.length_nil, Nat.reduceAdd, Nat.reduceSub, Array.replicate_succ, Array.replicate_zero, List.push_toArray, List.append_toArray, List.nil_append, List.cons_append]
 gi_wp2
 refine ⟨trivial, fun _ => by omega, (callsIn_wide.2 (days_any A _ c s lo hi _)).mono ?_⟩
 rintro e w' ⟨rfl, rfl⟩
 gi_wp2
 have bO := (Out.new (w.alloc (.cells #[.slice A s.bodies.length c, .int .i64 s.nnum, .int .i64 s.nden, .int .i64 s.nstart] 72)) (w.heap.size + 5) 182 185 2)
 have hE : Ext w ((w.alloc (.cells #[.slice A s.bodies.length c, .int .i64 s.nnum, .int .i64 s.nden, .int .i64 s.nstart] 72)).alloc (.cells #[.slice none 0 0] 182)) := ((Ext.refl w).alloc _).alloc _
 obtain ⟨W1, hW1⟩ : ∃ W1, (w.alloc (.cells #[.slice A s.bodies.length c, .int .i64 s.nnum, .int .i64 s.nden, .int .i64 s.nstart] 72)).alloc (.cells #[.slice none 0 0] 182) = W1 := ⟨_, rfl⟩
 have hsz1 : W1.heap.size = w.heap.size + 1 + 1 := by rw [← hW1]; simp
 rw [hW1] at bO hE ⊢
 clear hW1
 simp only [World.size_alloc] at bO
 have rS := daysW_S A s.bodies.length c s lo hi W1
 have rF := daysW_F A s.bodies.length c s lo hi W1
 have rT := daysW_T A s.bodies.length c s lo hi W1
 have hsz := daysW_size A s.bodies.length c s lo hi W1
 replace bO := bO.ext (daysW_ext A s.bodies.length c s lo hi W1)
 replace hE := hE.trans (daysW_ext A s.bodies.length c s lo hi W1)
 obtain ⟨W0, hW0⟩ : ∃ W0, daysW A s.bodies.length c s lo hi W1 = W0 := ⟨_, rfl⟩
 rw [hW0] at bO hE rS rF rT hsz ⊢
 clear hW0
 rw [hsz1] at rS rF rT hsz
 have HM := Lib.hid hm
 have HS := Lib.hid hs
 clear hm hs
 refine wpIn_rangeFunc_ownH rfl (by omega) (gf := 174) (lb := #[.pointer (some ⟨w.heap.size + 1 + 1 + 1, 0, none⟩), .pointer (some ⟨w.heap.size + 1 + 1 + 2, 0, none⟩), .pointer (some ⟨w.heap.size + 1 + 1, 0, none⟩)]) rfl trivial (enters_of Tryz.func174 (by kernel_rfl) rfl)
  (days_stops (n - 1) (by omega) A s.bodies.length c s lo hi h1 h2 (w.heap.size + 1 + 1) W0 rS rF rT) (fun h k => keepsTwo_t _ _ h k) (keepsTwo_b (by omega) (by omega)) (Below.refl _ _) (fun _ => rfl)
  (MoonsI w s)
  (fun _ _ _ => False)
  (moonsI_own w s _ (by omega))
  (fun _ _ _ _ _ hs _ _ => hs)
  ⟨⟨_, bO⟩, hE, by omega⟩
  (fun x a' W => ∃ Bx, Row W Bx 147 #[.slice A s.bodies.length c, .int .i64 s.nnum, .int .i64 s.nden, .int .i64 s.nstart, .int .i64 x.1] ∧ a' = (⟨#[.agg #[.slice A s.bodies.length c, .int .i64 s.nnum, .int .i64 s.nden, .int .i64 s.nstart], .int .i64 lo, .int .i64 hi, .pointer (some ⟨w.heap.size, 0, none⟩), undef, undef, .slice none 0 0, .pointer (some ⟨w.heap.size + 1, 0, none⟩), .pointer (some ⟨Bx, 0, none⟩), undef, .agg #[.slice A s.bodies.length c, .int .i64 s.nnum, .int .i64 s.nden, .int .i64 s.nstart], .int .i64 lo, .int .i64 hi, daysV (w.heap.size + 1 + 1), (.agg #[.slice A s.bodies.length c, .int .i64 s.nnum, .int .i64 s.nden, .int .i64 s.nstart, .int .i64 x.1]), undef, undef, undef, undef, undef, undef, undef, undef, undef, undef], []⟩ : Act))
  (fun x a' _ X Y row hs hg hr => by obtain ⟨Bx, h1, h2⟩ := hs; exact ⟨Bx, h1.kept hg fun r e => (hr r e).2, h2⟩)
  ?assign ?body ?done ?stop
 case assign =>
  rintro l pre x W K hi hK
  simp only [skyV]
  gi_wp2
  obtain ⟨⟨v, hO⟩, hB, hz⟩ := hi
  exact hK _ _ ((KeepsOthers.alloc _ _).from _) ⟨Below.heap_alloc _ _ _ (by omega), Below.heap_alloc _ _ _ (by omega)⟩ ⟨⟨v, hO.ext ((Ext.refl _).alloc _)⟩, hB.alloc hB.size _, by simp; omega⟩ ⟨_, Row.new _ _ _, rfl⟩
 case body =>
  rintro l pre x a' W hl ⟨r, hr⟩ ⟨⟨v, hO⟩, hB, hz⟩ ⟨Bx, rX, rfl⟩ hlt
  have hl2 := moons_le s pre
  have hx := x.2
  have hne1 := hO.nbox rX (by decide)
  have hne2 := hO.far rX (by decide)
  have hE1 : Ext w W := hB
  have HE := Lib.hid hE1
  have hlen : pre.length < 801 := by omega
  clear hE1 hB
  gi_wp2
  refine ⟨trivial, fun _ => by omega, CallsIn.inRound l ((callsIn_wide.2 (look_new (w.heap.size + 5) Bx (w.heap.size + 1) s A c x.1 W HS.out (HM.out.ext HE.out) hx.1 hx.2 rX v _ hO hz (by omega))).mono ?_)⟩
  rintro e W2 ⟨rfl, v2, hO2, hP2⟩
  gi_wp2
  have rX2 := hP2.row rX hne1 hne2
  have hB2 : Ext w W2 := HE.out.trans' (hP2.below hO (N := w.heap.size) (by omega) (by omega) hz)
  refine ⟨trivial, fun _ => by omega, CallsIn.inRound l ((callsIn_wide.2 (look_full (w.heap.size + 5) Bx (w.heap.size + 1) s A c x.1 W2 HS.out (HM.out.ext hB2) hx.1 hx.2 rX2 v2 _ hO2 (Nat.le_trans hz hP2.size) (by rw [List.length_append]; split <;> (simp only [List.length_cons, List.length_nil]; omega)))).mono ?_)⟩
  rintro e W3 ⟨rfl, v3, hO3, hP3⟩
  gi_wp2
  have hP := hP2.trans hP3
  refine ⟨Push.keepsFrom hO hP _, ⟨Push.old hO hP (by omega) hz (by omega), Push.old hO hP (by omega) hz (by omega)⟩, ⟨v3, ?_⟩, HE.out.trans' (hP.below hO (N := w.heap.size) (by omega) (by omega) hz), Nat.le_trans hz hP.size⟩
  simpa [Sp.dayMoons, List.flatMap_append] using hO3
 case done =>
  rintro D xs W hD hS ⟨⟨v, hO⟩, hB, hz⟩ hK
  have cO := hO.box.cell 0
  simp only [List.getElem?_toArray, List.getElem?_cons_zero] at cO
  gi_wp2
  refine ⟨by simp, .inl ⟨_, _, rfl, run_takeDeferred hK, ?_⟩⟩
  refine ⟨_, results_tmp rfl _ _ _, v, w.heap.size + 5, rfl, by omega, ?_, ?_⟩
  ·have := (hO.kept (grownBy_putObj' W D (.deferred none)) (fun r e => by cases e; exact ⟨_, hK, rfl⟩)).own
   rwa [moons_all s lo hi xs hS] at this
  ·exact hB.grown (grownBy_putObj' W D (.deferred none)) hB.size (fun k e => by cases e; omega)
 case stop =>
  rintro D c' pre W _ _ h _
  exact h.elim
theorem moons_any (s : Sp.Sky) (A : Option Addr) (c : Nat) (lo hi : Int) (w : World) (hs : SkyOk s) (hm : Bodies w A s.bodies) (h1 : 1 ≤ lo) (h2 : hi ≤ 20000) (h3 : hi - lo ≤ 800) :
  Calls Tryz.prog 132 #[.agg #[.slice A s.bodies.length c, .int .i64 s.nnum, .int .i64 s.nden, .int .i64 s.nstart], .int .i64 lo, .int .i64 hi] w fun e w' =>
   ∃ v base, e = .returned v ∧ w.heap.size < base ∧ w'.ownsRow base 185 2 v (Sp.moonsL s lo hi).length (moonCells (Sp.moonsL s lo hi)) ∧ Ext w w' :=
 callsIn_wide.1 (moons_in 6 (Nat.le_refl _) s A c lo hi w hs hm h1 h2 h3)
end Go.Proofs.YtfkcbgehcbhjnaaGreatDoor
namespace Go.Proofs.YtfkcbgehcbhjnaaGreatDoor
open Go.RowKit
open Sp (rd)
def MoonsVal (w : World) (v : Value) (l : List (Int × Bool)) : Prop := ∃ A c, v = .slice A l.length c ∧
 (0 < l.length → ∃ b o, A = some ⟨b, o, none⟩ ∧ ∀ k, (hk : k < l.length) → w.cell? ⟨b, o + k * 2, none⟩ = some (.int .i64 l[k].1) ∧ w.cell? ⟨b, o + k * 2 + 1, none⟩ = some (.bool l[k].2))
theorem MoonsVal.ext {w w' : World} {v : Value} {l : List (Int × Bool)} (h : MoonsVal w v l) (he : Ext w w') : MoonsVal w' v l :=
 let ⟨A, c, e, hc⟩ := h
 ⟨A, c, e, fun h0 => let ⟨b, o, e2, hk⟩ := hc h0; ⟨b, o, e2, fun k hk' => ⟨he.cell (hk k hk').1, he.cell (hk k hk').2⟩⟩⟩
theorem add0 (g j : Nat) : (⟨g, 0, none⟩ : Addr).add j = ⟨g, j, none⟩ := by
 unfold Addr.add
 split <;> simp_all
theorem moonCells_get (l : List (Int × Bool)) : ∀ k (hk : k < l.length), (moonCells l)[k * 2]? = some (.int .i64 l[k].1) ∧ (moonCells l)[k * 2 + 1]? = some (.bool l[k].2) := by
 induction l with
 | nil => intro k hk; simp at hk
 | cons m l ih =>
  intro k hk
  cases k with
  | zero => simp [moonCells]
  | succ k =>
   have := ih k (by simpa using hk)
   simp only [moonCells, List.flatMap_cons] at this ⊢
   rw [show (k + 1) * 2 = k * 2 + 2 by omega]
   simpa using this
theorem MoonsVal.of_own {w : World} {base : Nat} {v : Value} {l : List (Int × Bool)} (h : w.ownsRow base 185 2 v l.length (moonCells l)) : MoonsVal w v l := by
 rcases h.2 with ⟨rfl, h0⟩ | ⟨g, cap, cur, hv, _⟩
 ·exact ⟨none, 0, by rw [h0], fun hh => by omega⟩
 ·refine ⟨some ⟨g, 0, none⟩, cap, hv, fun _ => ⟨g, 0, rfl, fun k hk => ?_⟩⟩
  have hc := h.cells (g := g) (by rw [hv]; rfl)
  have h1 := hc _ _ (moonCells_get l k hk).1
  have h2 := hc _ _ (moonCells_get l k hk).2
  rw [add0] at h1 h2
  exact ⟨by simpa using h1, by simpa using h2⟩
theorem span_of {lo hi : Int} (h : Sp.isSpan lo hi = true) : 1 ≤ lo ∧ lo ≤ hi ∧ hi ≤ 20000 ∧ hi - lo ≤ 800 := by
 simp only [Sp.isSpan, Bool.and_eq_true, decide_eq_true_eq] at h
 have h1 := inR_iff.1 h.1
 have h2 := inR_iff.1 h.2.1
 omega
end Go.Proofs.YtfkcbgehcbhjnaaGreatDoor
namespace Go.Proofs.YtfkcbgehcbhjnaaGreatDoor
open Sp (rd)
set_option linter.unusedSimpArgs false
set_option linter.unusedVariables false
theorem itoa_len5 (n : Int) (h : -9999 ≤ n) (h2 : n ≤ 99999) : (Lib.itoa n).length ≤ 5 := by
 by_cases h0 : 0 ≤ n
 ·obtain ⟨u, rfl⟩ := Int.eq_ofNat_of_zero_le h0
  rw [Lib.itoa_nonneg]
  exact dec_len5 u (by omega)
 ·obtain ⟨u, hu⟩ := Int.eq_ofNat_of_zero_le (show 0 ≤ -n by omega)
  have hn : n = -(u : Int) := by omega
  rw [hn, Lib.itoa_neg u (by omega), List.length_cons, Lib.decDigits_length]
  have := nDigits_le 3 u (by omega)
  omega
theorem flat6 (l : List Int) (h : ∀ n ∈ l, -9999 ≤ n ∧ n ≤ 99999) : ((l.map fun n => 32 :: Lib.itoa n).flatten).length ≤ 6 * l.length := by
 induction l with
 | nil => simp
 | cons n l ih =>
  have h1 := h n (by simp)
  have h2 := itoa_len5 n h1.1 h1.2
  have h3 := ih (fun m hm => h m (by simp [hm]))
  simp only [List.map_cons, List.flatten_cons, List.length_append, List.length_cons]
  omega
theorem line6 (name : Bs) (l : List Int) (h : ∀ n ∈ l, -9999 ≤ n ∧ n ≤ 99999) : (lineL name l).length ≤ name.length + 6 * l.length := by
 have := flat6 l h
 unfold lineL
 rw [List.length_append]
 omega
theorem sp1_hole (n : UInt8) (q : Bs) : ∀ p : Bs, ∃ (L1 : List Bs) (a b : Bs) (L2 : List Bs), ∀ c : UInt8, c ≠ n → sp1 n (p ++ c :: q) = L1 ++ (a ++ c :: b) :: L2
 | [] => ⟨[], [], (sp1 n q).headD [], (sp1 n q).tail, fun c hc => by rw [List.nil_append, sp1_cons_ne n c q hc]; rfl⟩
 | x :: p => by
  obtain ⟨L1, a, b, L2, h⟩ := sp1_hole n q p
  by_cases hx : x = n
  ·refine ⟨[] :: L1, a, b, L2, fun c hc => ?_⟩
   have e := sp1_step n [] (p ++ c :: q) (by simp)
   rw [hx, List.cons_append, show n :: (p ++ c :: q) = [] ++ n :: (p ++ c :: q) from rfl, e, h c hc]
   rfl
  ·cases L1 with
   | nil =>
    refine ⟨[], x :: a, b, L2, fun c hc => ?_⟩
    rw [List.cons_append, sp1_cons_ne n x _ hx, h c hc]
    rfl
   | cons l L1 =>
    refine ⟨(x :: l) :: L1, a, b, L2, fun c hc => ?_⟩
    rw [List.cons_append, sp1_cons_ne n x _ hx, h c hc]
    rfl
theorem checkN_app (T r : List Bs) (k : Nat) (hk : k ≤ T.length) : checkN (T ++ r) k = checkN T k := by
 induction k with
 | zero => rfl
 | succ k ih =>
  have e : (T ++ r).getD k [] = T.getD k [] := by
   rw [List.getD_eq_getElem?_getD, List.getD_eq_getElem?_getD, List.getElem?_append_left (by omega)]
  simp only [checkN, ih (by omega), e]
theorem sumN_hole (a b : Bs) (c d : UInt8) (i k : Nat) : sumN (a ++ c :: b) i k + (if a.length < k then d.toNat * (a.length + 1) * (i + 1) else 0) = sumN (a ++ d :: b) i k + (if a.length < k then c.toNat * (a.length + 1) * (i + 1) else 0) := by
 induction k with
 | zero => simp [sumN]
 | succ k ih =>
  simp only [sumN]
  by_cases h1 : a.length = k
  ·subst h1
   rw [if_neg (Nat.lt_irrefl _), if_neg (Nat.lt_irrefl _)] at ih
   rw [if_pos (by omega), if_pos (by omega)]
   have e1 : ((a ++ c :: b).getD a.length 0) = c := by simp
   have e2 : ((a ++ d :: b).getD a.length 0) = d := by simp
   rw [e1, e2]
   omega
  ·have e : (a ++ c :: b).getD k 0 = (a ++ d :: b).getD k 0 := by
    rw [List.getD_eq_getElem?_getD, List.getD_eq_getElem?_getD]
    rcases Nat.lt_or_ge k a.length with h | h
    ·rw [List.getElem?_append_left h, List.getElem?_append_left h]
    ·obtain ⟨m, hm⟩ : ∃ m, k - a.length = m + 1 := ⟨k - a.length - 1, by omega⟩
     rw [List.getElem?_append_right h, List.getElem?_append_right h, hm]
     rfl
   rw [e]
   by_cases h2 : a.length < k
   ·rw [if_pos h2, if_pos h2] at ih
    rw [if_pos (by omega), if_pos (by omega)]
    omega
   ·rw [if_neg h2, if_neg h2] at ih
    rw [if_neg (by omega), if_neg (by omega)]
    omega
theorem hole_getD (L1 L2 : List Bs) (y z : Bs) (k : Nat) (h : k ≠ L1.length) : (L1 ++ y :: L2).getD k [] = (L1 ++ z :: L2).getD k [] := by
 rw [List.getD_eq_getElem?_getD, List.getD_eq_getElem?_getD]
 rcases Nat.lt_or_ge k L1.length with h1 | h1
 ·rw [List.getElem?_append_left h1, List.getElem?_append_left h1]
 ·obtain ⟨m, hm⟩ : ∃ m, k - L1.length = m + 1 := ⟨k - L1.length - 1, by omega⟩
  rw [List.getElem?_append_right h1, List.getElem?_append_right h1, hm]
  rfl
theorem hole_at (L1 L2 : List Bs) (y : Bs) : (L1 ++ y :: L2).getD L1.length [] = y := by simp
theorem checkN_hole (L1 L2 : List Bs) (a b : Bs) (c d : UInt8) (k : Nat) :
  checkN (L1 ++ (a ++ c :: b) :: L2) k + (if L1.length < k then d.toNat * (a.length + 1) * (L1.length + 1) else 0) = checkN (L1 ++ (a ++ d :: b) :: L2) k + (if L1.length < k then c.toNat * (a.length + 1) * (L1.length + 1) else 0) := by
 induction k with
 | zero => simp [checkN]
 | succ k ih =>
  simp only [checkN]
  by_cases h1 : L1.length = k
  ·have hs := sumN_hole a b c d k (a ++ c :: b).length
   rw [if_pos (by simp), if_pos (by simp)] at hs
   have el : (a ++ d :: b).length = (a ++ c :: b).length := by simp
   rw [if_neg (by omega), if_neg (by omega)] at ih
   rw [if_pos (by omega), if_pos (by omega)]
   have g1 : (L1 ++ (a ++ c :: b) :: L2).getD k [] = a ++ c :: b := by rw [← h1]; exact hole_at _ _ _
   have g2 : (L1 ++ (a ++ d :: b) :: L2).getD k [] = a ++ d :: b := by rw [← h1]; exact hole_at _ _ _
   rw [g1, g2, el, h1]
   omega
  ·rw [hole_getD L1 L2 (a ++ c :: b) (a ++ d :: b) k (fun e => h1 e.symm)]
   by_cases h2 : L1.length < k
   ·rw [if_pos h2, if_pos h2] at ih
    rw [if_pos (by omega), if_pos (by omega)]
    omega
   ·rw [if_neg h2, if_neg h2] at ih
    rw [if_neg (by omega), if_neg (by omega)]
    omega
theorem itoa_one (u : Nat) (h : u < 10) : Lib.itoa (u : Int) = [UInt8.ofNat (48 + u)] := by
 rw [Lib.itoa_nonneg, Lib.decDigits, dif_pos h]
theorem endL_inj {c d : Nat} (hc : c < 1000) (hd : d < 1000) (h : endL c = endL d) : c = d := by
 unfold endL at h
 rw [itoa_one _ (by omega), itoa_one _ (by omega), itoa_one _ (by omega), itoa_one _ (by omega), itoa_one _ (by omega), itoa_one _ (by omega)] at h
 simp only [List.cons_append, List.nil_append, List.cons.injEq, and_true, true_and] at h
 obtain ⟨h1, h2, h3⟩ := h
 have e1 := congrArg UInt8.toNat h1
 have e2 := congrArg UInt8.toNat h2
 have e3 := congrArg UInt8.toNat h3
 simp only [UInt8.toNat_ofNat'] at e1 e2 e3
 omega
theorem cop139 : ∀ m, m < 139 → 0 < m → Nat.gcd 139 m = 1 := by decide
theorem no139 {x y z : Nat} (hx : 0 < x) (hx' : x < 139) (hy : 0 < y) (hy' : y < 139) (hz : 0 < z) (hz' : z < 139) : ¬ 139 ∣ x * y * z := by
 intro h
 have h1 := Nat.Coprime.dvd_of_dvd_mul_right (k := 139) (n := z) (m := x * y) (cop139 z hz' hz) h
 have h2 := Nat.Coprime.dvd_of_dvd_mul_right (k := 139) (n := y) (m := x) (cop139 y hy' hy) h1
 have := Nat.le_of_dvd hx h2
 omega
theorem joinTail_length (l : List Bs) (B : Nat) (h : ∀ x ∈ l, x.length ≤ B) : (Lib.joinTail [10] l).length ≤ (B + 1) * l.length := by
 induction l with
 | nil => simp [Lib.joinTail]
 | cons x l ih =>
  have e : Lib.joinTail [10] (x :: l) = 10 :: (x ++ Lib.joinTail [10] l) := by simp [Lib.joinTail]
  rw [e]
  have := ih (fun y hy => h y (by simp [hy]))
  have := h x (by simp)
  simp only [List.length_cons, List.length_append]
  rw [Nat.mul_add]
  omega
namespace Ec
def wEcl : Bs := [101, 99, 108, 105, 112, 115, 101, 115]
def wNew : Bs := [110, 101, 119]
def wFull : Bs := [102, 117, 108, 108]
def eWord (full : Bool) : Bs := if full then wFull else wNew
def eLine (e : Sp.Ecl) : Bs := lineL (eWord e.full) [e.day, e.far]
def tabE (l : List Sp.Ecl) : List Bs := lineL wEcl [(l.length : Int)] :: l.map eLine
def checkE (L : List Bs) : Nat := checkN L L.length % 139
def textE (l : List Sp.Ecl) : Bs := Lib.join (tabE l) [10] ++ [10] ++ endL (checkE (tabE l)) ++ [10]
def numFineE (w : Bs) : Bool := w.all isDig && decide (w.length ≤ 5) && !w.isEmpty && (Lib.itoa (digV w : Int) == w)
def numE (w : Bs) : Option Int := if numFineE w = true then some (digV w : Int) else none
def eclP (r : Bs) : Option Sp.Ecl :=
 match sp1 32 r with
 | [w, d, f] => if w = wFull ∨ w = wNew then (numE d).bind fun day => (numE f).bind fun far => some ⟨day, decide (w = wFull), far⟩ else none
 | _ => none
def eclR (r : Bs) : Option Sp.Ecl :=
 match sp1 32 r with
 | [w, d, f] => (numE d).bind fun day => (numE f).bind fun far => some ⟨day, decide (w = wFull), far⟩
 | _ => none
def midE (s : Bs) : List Bs := ((sp1 10 s).drop 1).take ((sp1 10 s).length - 3)
def parseE (s : Bs) : Option (List Sp.Ecl) := if (sp1 10 s).length < 3 then none else ((midE s).mapM eclP).bind fun l => if textE l = s then some l else none
def readE (s : Bs) : Option (List Sp.Ecl) := ((midE s).mapM eclR).bind fun l => if textE l = s then some l else none
structure EclNum (l : List Sp.Ecl) : Prop where
 day : ∀ e ∈ l, 0 ≤ e.day ∧ e.day ≤ 99999
 far : ∀ e ∈ l, 0 ≤ e.far ∧ e.far ≤ 99999
theorem numE_itoa (n : Int) (h0 : 0 ≤ n) (h1 : n ≤ 99999) : numE (Lib.itoa n) = some n := by
 obtain ⟨u, rfl⟩ := Int.eq_ofNat_of_zero_le h0
 obtain ⟨a, b, c⟩ := dec_all u
 have hl := dec_len5 u (by omega)
 have e : Lib.itoa (u : Int) = Lib.decDigits u := Lib.itoa_nonneg u
 unfold numE numFineE
 rw [e, a, b]
 have hne : (Lib.decDigits u).isEmpty = false := by simpa using c
 rw [hne, e]
 simp [hl]
theorem numE_some {w : Bs} {n : Int} (h : numE w = some n) : w = Lib.itoa n ∧ 0 ≤ n ∧ n ≤ 99999 := by
 unfold numE at h
 split at h
 ·rename_i hf
  simp only [numFineE, Bool.and_eq_true, decide_eq_true_eq, beq_iff_eq] at hf
  obtain rfl := Option.some.inj h
  have hlt := digN_lt w hf.1.1.1 w.length (Nat.le_refl _)
  have : 10 ^ w.length ≤ 10 ^ 5 := Nat.pow_le_pow_right (by omega) hf.1.1.2
  refine ⟨hf.2.symm, by omega, ?_⟩
  unfold digV
  omega
 ·cases h
theorem eWord_no (b : Bool) : (32 : UInt8) ∉ eWord b ∧ (10 : UInt8) ∉ eWord b := by cases b <;> decide
theorem eWord_full (b : Bool) : decide (eWord b = wFull) = b := by cases b <;> decide
theorem eWord_is (b : Bool) : eWord b = wFull ∨ eWord b = wNew := by cases b <;> decide
theorem sp1_eLine (e : Sp.Ecl) : sp1 32 (eLine e) = [eWord e.full, Lib.itoa e.day, Lib.itoa e.far] := sp1_line _ _ (eWord_no e.full).1
theorem eclP_line {e : Sp.Ecl} (h1 : 0 ≤ e.day ∧ e.day ≤ 99999) (h2 : 0 ≤ e.far ∧ e.far ≤ 99999) : eclP (eLine e) = some e := by
 unfold eclP
 rw [sp1_eLine]
 simp only []
 rw [if_pos (eWord_is e.full), numE_itoa _ h1.1 h1.2, numE_itoa _ h2.1 h2.2]
 simp only [Option.bind_some, eWord_full]
theorem eclR_line {e : Sp.Ecl} (h1 : 0 ≤ e.day ∧ e.day ≤ 99999) (h2 : 0 ≤ e.far ∧ e.far ≤ 99999) : eclR (eLine e) = some e := by
 unfold eclR
 rw [sp1_eLine]
 simp only []
 rw [numE_itoa _ h1.1 h1.2, numE_itoa _ h2.1 h2.2]
 simp only [Option.bind_some, eWord_full]
theorem eclP_num {r : Bs} {e : Sp.Ecl} (h : eclP r = some e) : (0 ≤ e.day ∧ e.day ≤ 99999) ∧ (0 ≤ e.far ∧ e.far ≤ 99999) := by
 unfold eclP at h
 split at h
 ·split at h
  ·rename_i w d f _ _
   cases hd : numE d with
   | none => rw [hd] at h; cases h
   | some n =>
    cases hf : numE f with
    | none => rw [hd, hf] at h; cases h
    | some m =>
     rw [hd, hf] at h
     obtain rfl := Option.some.inj h
     exact ⟨(numE_some hd).2, (numE_some hf).2⟩
  ·cases h
 ·cases h
theorem eclR_num {r : Bs} {e : Sp.Ecl} (h : eclR r = some e) : (0 ≤ e.day ∧ e.day ≤ 99999) ∧ (0 ≤ e.far ∧ e.far ≤ 99999) := by
 unfold eclR at h
 split at h
 ·rename_i w d f _
  cases hd : numE d with
  | none => rw [hd] at h; cases h
  | some n =>
   cases hf : numE f with
   | none => rw [hd, hf] at h; cases h
   | some m =>
    rw [hd, hf] at h
    obtain rfl := Option.some.inj h
    exact ⟨(numE_some hd).2, (numE_some hf).2⟩
 ·cases h
theorem tabE_no (l : List Sp.Ecl) : ∀ x ∈ tabE l, (10 : UInt8) ∉ x := by
 intro x hx
 unfold tabE at hx
 rcases List.mem_cons.1 hx with rfl | hx
 ·exact line_no _ _ 10 (by decide) (by decide) (by decide) (by decide)
 ·obtain ⟨e, _, rfl⟩ := List.mem_map.1 hx
  exact line_no _ _ 10 (by decide) (by decide) (by decide) (eWord_no e.full).2
theorem textE_join (l : List Sp.Ecl) : textE l = Lib.join (tabE l ++ [endL (checkE (tabE l)), []]) [10] := by
 unfold textE
 have e : ∃ x r, tabE l = x :: r := ⟨_, _, rfl⟩
 obtain ⟨x, r, e⟩ := e
 rw [e, List.cons_append, Lib.join_cons, Lib.join_cons, joinTail_app]
 simp [Lib.joinTail]
theorem sp1_textE (l : List Sp.Ecl) : sp1 10 (textE l) = tabE l ++ [endL (checkE (tabE l)), []] := by
 rw [textE_join]
 refine sp1_join 10 _ (by simp) fun x hx => ?_
 rcases List.mem_append.1 hx with hx | hx
 ·exact tabE_no l x hx
 ·simp only [List.mem_cons, List.not_mem_nil, or_false] at hx
  rcases hx with rfl | rfl
  ·exact endL_no _
  ·simp
theorem tabE_length (l : List Sp.Ecl) : (tabE l).length = l.length + 1 := by simp [tabE]
theorem midE_text (l : List Sp.Ecl) : midE (textE l) = l.map eLine := by
 unfold midE
 rw [sp1_textE]
 have e : (tabE l ++ [endL (checkE (tabE l)), []]).drop 1 = l.map eLine ++ [endL (checkE (tabE l)), []] := by simp [tabE]
 rw [e]
 exact List.take_left' (by simp [tabE])
theorem mapM_lines {f : Bs → Option Sp.Ecl} {l : List Sp.Ecl} (h : ∀ e ∈ l, f (eLine e) = some e) : (l.map eLine).mapM f = some l := by
 rw [mapM_some, List.map_map]
 exact List.map_congr_left fun e he => h e he
theorem parse_textE (l : List Sp.Ecl) (h : EclNum l) : parseE (textE l) = some l := by
 unfold parseE
 rw [midE_text, sp1_textE, if_neg (by simp [tabE]), mapM_lines fun e he => eclP_line (h.day e he) (h.far e he)]
 simp
theorem read_textE (l : List Sp.Ecl) (h : EclNum l) : readE (textE l) = some l := by
 unfold readE
 rw [midE_text, mapM_lines fun e he => eclR_line (h.day e he) (h.far e he)]
 simp
theorem parse_someE {s : Bs} {l : List Sp.Ecl} (h : parseE s = some l) : textE l = s ∧ EclNum l := by
 unfold parseE at h
 split at h
 ·cases h
 ·cases hm : (midE s).mapM eclP with
  | none => rw [hm] at h; cases h
  | some r =>
   rw [hm] at h
   simp only [Option.bind_some] at h
   split at h
   ·rename_i ht
    obtain rfl := Option.some.inj h
    exact ⟨ht, fun e he => by obtain ⟨a, _, ha⟩ := mapM_mem hm e he; exact (eclP_num ha).1, fun e he => by obtain ⟨a, _, ha⟩ := mapM_mem hm e he; exact (eclP_num ha).2⟩
   ·cases h
theorem read_someE {s : Bs} {l : List Sp.Ecl} (h : readE s = some l) : textE l = s ∧ EclNum l := by
 unfold readE at h
 cases hm : (midE s).mapM eclR with
 | none => rw [hm] at h; cases h
 | some r =>
  rw [hm] at h
  simp only [Option.bind_some] at h
  split at h
  ·rename_i ht
   obtain rfl := Option.some.inj h
   exact ⟨ht, fun e he => by obtain ⟨a, _, ha⟩ := mapM_mem hm e he; exact (eclR_num ha).1, fun e he => by obtain ⟨a, _, ha⟩ := mapM_mem hm e he; exact (eclR_num ha).2⟩
  ·cases h
theorem read_parseE (s : Bs) : readE s = parseE s := by
 cases hp : parseE s with
 | some l =>
  obtain ⟨rfl, hn⟩ := parse_someE hp
  exact read_textE l hn
 | none =>
  cases hr : readE s with
  | none => rfl
  | some l =>
   obtain ⟨rfl, hn⟩ := read_someE hr
   rw [parse_textE l hn] at hp
   cases hp
theorem parse_iffE (s : Bs) (l : List Sp.Ecl) : parseE s = some l ↔ textE l = s ∧ EclNum l :=
 ⟨parse_someE, fun ⟨e, h⟩ => by rw [← e]; exact parse_textE l h⟩
def itemOk (e : Sp.Ecl) : Bool := Sp.inR e.day 1 20000 && Sp.isLimit e.far
def before (a b : Sp.Ecl) : Bool := decide (a.day < b.day) || (decide (a.day = b.day) && (!a.full && b.full))
def sortedE : List Sp.Ecl → Bool
 | a :: b :: l => before a b && sortedE (b :: l)
 | _ => true
def listOk (l : List Sp.Ecl) : Bool := l.all itemOk && (sortedE l && decide (l.length ≤ 20))
theorem listOk_parts {l : List Sp.Ecl} (h : listOk l = true) : (∀ e ∈ l, (1 ≤ e.day ∧ e.day ≤ 20000) ∧ (0 ≤ e.far ∧ e.far ≤ 5400)) ∧ l.length ≤ 20 := by
 simp only [listOk, Bool.and_eq_true, decide_eq_true_eq, List.all_eq_true] at h
 refine ⟨fun e he => ?_, h.2.2⟩
 have := h.1 e he
 simp only [itemOk, Bool.and_eq_true] at this
 exact ⟨inR_iff.1 this.1, inR_iff.1 this.2⟩
theorem num_of_list {l : List Sp.Ecl} (h : listOk l = true) : EclNum l := by
 obtain ⟨a, _⟩ := listOk_parts h
 exact ⟨fun e he => by have := a e he; omega, fun e he => by have := a e he; omega⟩
theorem eLine_len {e : Sp.Ecl} (h1 : 0 ≤ e.day ∧ e.day ≤ 99999) (h2 : 0 ≤ e.far ∧ e.far ≤ 99999) : (eLine e).length ≤ 16 := by
 have a := line6 (eWord e.full) [e.day, e.far] (fun n hn => by
  simp only [List.mem_cons, List.mem_nil_iff, or_false] at hn
  rcases hn with rfl | rfl <;> omega)
 have b : (eWord e.full).length ≤ 4 := by cases e.full <;> decide
 unfold eLine
 simp only [List.length_cons, List.length_nil] at a
 omega
theorem textE_len {l : List Sp.Ecl} (h : listOk l = true) : (textE l).length ≤ 400 := by
 obtain ⟨ha, hl⟩ := listOk_parts h
 have h0 := line6 wEcl [(l.length : Int)] (fun n hn' => by obtain rfl := List.mem_singleton.1 hn'; omega)
 have w0 : wEcl.length = 8 := rfl
 have h1 := joinTail_length (l.map eLine) 16 (fun x hx => by
  obtain ⟨e, he, rfl⟩ := List.mem_map.1 hx
  have := ha e he
  exact eLine_len (by omega) (by omega))
 have hc : checkE (tabE l) < 139 := Nat.mod_lt _ (by omega)
 have x1 := itoa_one (checkE (tabE l) / 100) (by omega)
 have x2 := itoa_one (checkE (tabE l) / 10 % 10) (by omega)
 have x3 := itoa_one (checkE (tabE l) % 10) (by omega)
 unfold textE endL
 rw [x1, x2, x3]
 unfold tabE at *
 rw [Lib.join_cons]
 simp only [List.length_append, List.length_cons, List.length_nil, List.length_map] at h0 h1 ⊢
 omega
theorem spoiltE {s : List Sp.Ecl} (hs : listOk s = true) (p q : Bs) (c d : UInt8) (ht : textE s = p ++ c :: q) (hc : isDig c = true) (hd : isDig d = true) (hne : c ≠ d) : parseE (p ++ d :: q) = none := by
 cases hp : parseE (p ++ d :: q) with
 | none => rfl
 | some x =>
  exfalso
  obtain ⟨hx, _⟩ := parse_someE hp
  have hlx := tabE_length x
  obtain ⟨L1, a, b, L2, hh⟩ := sp1_hole 10 q p
  have n1 : c ≠ 10 := by rintro rfl; simp [isDig] at hc
  have n2 : d ≠ 10 := by rintro rfl; simp [isDig] at hd
  have e1 := hh c n1
  have e2 := hh d n2
  rw [← ht, sp1_textE] at e1
  rw [← hx, sp1_textE] at e2
  have hlt := tabE_length s
  have hls : (tabE s).length = (tabE x).length := by
   have l1 := congrArg List.length e1
   have l2 := congrArg List.length e2
   simp only [List.length_append, List.length_cons, List.length_nil] at l1 l2
   omega
  obtain ⟨n, hn⟩ : ∃ n, (tabE s).length = n := ⟨_, rfl⟩
  have hn' : (tabE x).length = n := by omega
  have c1 : checkN (tabE s) n = checkN (L1 ++ (a ++ c :: b) :: L2) n := by rw [← e1]; exact (checkN_app _ _ n (by omega)).symm
  have c2 : checkN (tabE x) n = checkN (L1 ++ (a ++ d :: b) :: L2) n := by rw [← e2]; exact (checkN_app _ _ n (by omega)).symm
  have g1 : (L1 ++ (a ++ c :: b) :: L2).getD n [] = endL (checkE (tabE s)) := by rw [← e1, ← hn]; exact hole_at _ _ _
  have g2 : (L1 ++ (a ++ d :: b) :: L2).getD n [] = endL (checkE (tabE x)) := by rw [← e2, ← hn']; exact hole_at _ _ _
  have hk := checkN_hole L1 L2 a b c d n
  have hcs : checkE (tabE s) = checkN (tabE s) n % 139 := by unfold checkE; rw [hn]
  have hcx : checkE (tabE x) = checkN (tabE x) n % 139 := by unfold checkE; rw [hn']
  rcases Nat.lt_trichotomy L1.length n with hi | hi | hi
  ·rw [if_pos hi, if_pos hi] at hk
   rw [hole_getD L1 L2 (a ++ c :: b) (a ++ d :: b) n (by omega), g2] at g1
   have he := endL_inj (by rw [hcx]; have := Nat.mod_lt (checkN (tabE x) n) (show 139 > 0 by omega); omega) (by rw [hcs]; have := Nat.mod_lt (checkN (tabE s) n) (show 139 > 0 by omega); omega) g1
   rw [hcs, hcx, c1, c2] at he
   have hmem : (a ++ c :: b) ∈ tabE s := by
    have : (tabE s).getD L1.length [] = a ++ c :: b := by
     have hg := hole_at L1 L2 (a ++ c :: b)
     rw [← e1, List.getD_eq_getElem?_getD, List.getElem?_append_left (by omega), ← List.getD_eq_getElem?_getD] at hg
     exact hg
    rw [← this, List.getD_eq_getElem?_getD, List.getElem?_eq_getElem (by omega)]
    exact List.getElem_mem _
   obtain ⟨hok, hl20⟩ := listOk_parts hs
   have hlen : (a ++ c :: b).length ≤ 70 := by
    simp only [tabE, List.mem_cons, List.mem_map] at hmem
    rcases hmem with h | ⟨e, he, h⟩
    ·have a1 := line6 wEcl [(s.length : Int)] (fun n hn' => by obtain rfl := List.mem_singleton.1 hn'; omega)
     rw [h]
     have : wEcl.length = 8 := rfl
     simp only [List.length_cons, List.length_nil] at a1
     omega
    ·rw [← h]
     have := hok e he
     have := eLine_len (e := e) (by omega) (by omega)
     omega
   simp only [List.length_append, List.length_cons] at hlen
   simp only [isDig, Bool.and_eq_true, decide_eq_true_eq] at hc hd
   have hcd : c.toNat ≠ d.toNat := fun e => hne (UInt8.toNat_inj.1 e)
   generalize checkN (L1 ++ (a ++ c :: b) :: L2) n = X at hk he
   generalize checkN (L1 ++ (a ++ d :: b) :: L2) n = Y at hk he
   rcases Nat.lt_or_ge c.toNat d.toNat with h | h
   ·refine no139 (x := d.toNat - c.toNat) (y := a.length + 1) (z := L1.length + 1) (by omega) (by omega) (by omega) (by omega) (by omega) (by omega) ?_
    have m1 : d.toNat * (a.length + 1) * (L1.length + 1) = (d.toNat - c.toNat) * (a.length + 1) * (L1.length + 1) + c.toNat * (a.length + 1) * (L1.length + 1) := by
     rw [← Nat.add_mul, ← Nat.add_mul, Nat.sub_add_cancel (by omega)]
    omega
   ·refine no139 (x := c.toNat - d.toNat) (y := a.length + 1) (z := L1.length + 1) (by omega) (by omega) (by omega) (by omega) (by omega) (by omega) ?_
    have m1 : c.toNat * (a.length + 1) * (L1.length + 1) = (c.toNat - d.toNat) * (a.length + 1) * (L1.length + 1) + d.toNat * (a.length + 1) * (L1.length + 1) := by
     rw [← Nat.add_mul, ← Nat.add_mul, Nat.sub_add_cancel (by omega)]
    omega
  ·rw [if_neg (by omega), if_neg (by omega)] at hk
   have he : checkE (tabE s) = checkE (tabE x) := by rw [hcs, hcx, c1, c2]; omega
   rw [← hi, hole_at] at g1 g2
   rw [he, ← g2] at g1
   have := List.append_cancel_left g1
   simp only [List.cons.injEq, and_true] at this
   exact hne this
  ·have l1 := congrArg List.length e1
   simp only [List.length_append, List.length_cons, List.length_nil] at l1
   have hi2 : L1.length = n + 1 := by omega
   have hg := hole_at L1 L2 (a ++ c :: b)
   rw [← e1, hi2, ← hn, List.getD_eq_getElem?_getD, List.getElem?_append_right (by omega)] at hg
   simp at hg
end Ec
end Go.Proofs.YtfkcbgehcbhjnaaGreatDoor
namespace Go.Proofs.YtfkcbgehcbhjnaaGreatDoor
open Go.RowKit
open Sp (rd)
def eclCells (l : List Sp.Ecl) : List Value := l.flatMap fun m => [.int .i64 m.day, .bool m.full, .int .i64 m.far]
theorem eclCells_append (l m : List Sp.Ecl) : eclCells (l ++ m) = eclCells l ++ eclCells m := by simp [eclCells]
theorem eclsOf_append (s : Sp.Sky) (nw fl : Int) (l : List (Int × Bool)) (m : Int × Bool) : Sp.eclsOf s nw fl (l ++ [m]) = Sp.eclsOf s nw fl l ++ Sp.eclOf s nw fl m := by
 induction l with
 | nil => simp [Sp.eclsOf]
 | cons x l ih => simp [Sp.eclsOf, ih]
theorem eclOf_le (s : Sp.Sky) (nw fl : Int) (m : Int × Bool) : (Sp.eclOf s nw fl m).length ≤ 1 := by
 unfold Sp.eclOf
 by_cases h : Sp.far s m.1 ≤ (if m.2 = true then fl else nw)
 ·rw [if_pos h]; exact Nat.le_refl _
 ·rw [if_neg h]; exact Nat.zero_le _
theorem ecls_le (s : Sp.Sky) (nw fl : Int) (l : List (Int × Bool)) : (Sp.eclsOf s nw fl l).length ≤ l.length := by
 induction l with
 | nil => simp [Sp.eclsOf]
 | cons x l ih =>
  have := eclOf_le s nw fl x
  simp only [Sp.eclsOf, List.length_append, List.length_cons]
  omega
theorem moonsN_le (s : Sp.Sky) (lo : Int) (k : Nat) : (Sp.moonsN s lo k).length ≤ 2 * k := by
 induction k with
 | zero => simp [Sp.moonsN]
 | succ k ih =>
  have : (Sp.dayMoons s (lo + (k : Nat))).length ≤ 2 := by
   unfold Sp.dayMoons
   split <;> split <;> simp
  simp only [Sp.moonsN, List.length_append]
  omega
theorem moonsN_days (s : Sp.Sky) (lo : Int) (k : Nat) : ∀ m ∈ Sp.moonsN s lo k, lo ≤ m.1 ∧ m.1 < lo + k := by
 induction k with
 | zero => intro m hm; simp [Sp.moonsN] at hm
 | succ k ih =>
  intro m hm
  simp only [Sp.moonsN, List.mem_append] at hm
  rcases hm with hm | hm
  ·have := ih m hm
   omega
  ·have hd : m.1 = lo + (k : Nat) := by
    unfold Sp.dayMoons at hm
    simp only [List.mem_append] at hm
    rcases hm with hm | hm <;> split at hm <;> simp at hm <;> rw [hm]
   omega
theorem info_ecl : (Tryz.prog.info? 87).map (fun i => (i.zero, i.size, i.bytes)) = some (some (.agg #[.int .i64 0, .bool false, .int .i64 0]), 3, 24) := by kernel_rfl
def EclVal (w : World) (v : Value) (l : List Sp.Ecl) : Prop := ∃ A c, v = .slice A l.length c ∧
 (0 < l.length → ∃ b o, A = some ⟨b, o, none⟩ ∧ ∀ k, (hk : k < l.length) → w.cell? ⟨b, o + k * 3, none⟩ = some (.int .i64 l[k].day) ∧ w.cell? ⟨b, o + k * 3 + 1, none⟩ = some (.bool l[k].full) ∧ w.cell? ⟨b, o + k * 3 + 2, none⟩ = some (.int .i64 l[k].far))
theorem EclVal.ext {w w' : World} {v : Value} {l : List Sp.Ecl} (h : EclVal w v l) (he : Ext w w') : EclVal w' v l :=
 let ⟨A, c, e, hc⟩ := h
 ⟨A, c, e, fun h0 => let ⟨b, o, e2, hk⟩ := hc h0; ⟨b, o, e2, fun k hk' => ⟨he.cell (hk k hk').1, he.cell (hk k hk').2.1, he.cell (hk k hk').2.2⟩⟩⟩
theorem eclCells_get (l : List Sp.Ecl) : ∀ k (hk : k < l.length), (eclCells l)[k * 3]? = some (.int .i64 l[k].day) ∧ (eclCells l)[k * 3 + 1]? = some (.bool l[k].full) ∧ (eclCells l)[k * 3 + 2]? = some (.int .i64 l[k].far) := by
 induction l with
 | nil => intro k hk; simp at hk
 | cons m l ih =>
  intro k hk
  cases k with
  | zero => simp [eclCells]
  | succ k =>
   have := ih k (by simpa using hk)
   simp only [eclCells, List.flatMap_cons] at this ⊢
   rw [show (k + 1) * 3 = k * 3 + 3 by omega]
   simpa using this
theorem EclVal.of_own {w : World} {base : Nat} {v : Value} {l : List Sp.Ecl} (h : w.ownsRow base 87 3 v l.length (eclCells l)) : EclVal w v l := by
 rcases h.2 with ⟨rfl, h0⟩ | ⟨g, cap, cur, hv, _⟩
 ·exact ⟨none, 0, by rw [h0], fun hh => by omega⟩
 ·refine ⟨some ⟨g, 0, none⟩, cap, hv, fun _ => ⟨g, 0, rfl, fun k hk => ?_⟩⟩
  have hc := h.cells (g := g) (by rw [hv]; rfl)
  have h1 := hc _ _ (eclCells_get l k hk).1
  have h2 := hc _ _ (eclCells_get l k hk).2.1
  have h3 := hc _ _ (eclCells_get l k hk).2.2
  rw [add0] at h1 h2 h3
  exact ⟨by simpa using h1, by simpa using h2, by simpa using h3⟩
theorem limit_of {n : Int} (h : Sp.isLimit n = true) : 0 ≤ n ∧ n ≤ 5400 := inR_iff.1 h
def EclRel (w : World) (s : Sp.Sky) (nw fl : Int) (l : List (Int × Bool)) (v d : Value) (wr : World) : Prop :=
 ∃ k : Nat, k ≤ l.length ∧ d = .int .i64 k ∧ wr.ownsRow w.heap.size 87 3 v (Sp.eclsOf s nw fl (l.take k)).length (eclCells (Sp.eclsOf s nw fl (l.take k))) ∧ Ext w wr
set_option maxHeartbeats 1000000
set_option maxRecDepth 100000
theorem Ecl_ok (s : Sp.Sky) (A : Option Addr) (c : Nat) (nw fl lo hi : Int) (w : World) (hm : Bodies w A s.bodies) (hl : Short s.bodies)  (c0 : Sp.skyOk s = true) (c1 : Sp.isLimit nw = true) (c2 : Sp.isLimit fl = true) (c3 : Sp.isSpan lo hi = true) :
  Calls Tryz.prog 108 #[.agg #[.slice A s.bodies.length c, .int .i64 s.nnum, .int .i64 s.nden, .int .i64 s.nstart], .int .i64 nw, .int .i64 fl, .int .i64 lo, .int .i64 hi] w fun e w' => ∃ v, e = .returned (.tuple #[v, .int .i64 0]) ∧ EclVal w' v (Sp.ecls s nw fl lo hi) ∧ Ext w w' := by
 have hl1 := hl.1
 have HL := Lib.hid hl
 have HM := Lib.hid hm
 clear hm hl
 go_enter Tryz.func108, Tryz.ntmps108
 go_wp2_with fail
 refine (isSky_any s A c _ (HM.out.ext ((Ext.refl w).alloc _)) HL.out).mono ?_
 rintro e w1 ⟨rfl, hE1⟩
 have hE := ((Ext.refl w).alloc _).trans hE1
 have hr : Row w1 w.heap.size 72 _ := (Row.new w _ _).ext hE1
 have b0 := hr.cell
 clear hE1
 go_wp2_with fail
 refine (isLimit_any nw _).mono ?_
 rintro e w0 ⟨rfl, rfl⟩
 go_wp2_with fail
 refine (isLimit_any fl _).mono ?_
 rintro e w0 ⟨rfl, rfl⟩
 go_wp2_with fail
 refine (isSpan_any lo hi _).mono ?_
 rintro e w0 ⟨rfl, rfl⟩
 have HK := Lib.hid (skyOk_iff.1 c0)
 obtain ⟨d1, d2, d3, d4⟩ := span_of c3
 obtain ⟨e1, e2⟩ := limit_of c1
 obtain ⟨e3, e4⟩ := limit_of c2
 obtain ⟨i0, hi0, hi1, hi2, hi3⟩ := info_parts info_ecl
 go_wp2_with fail
 refine (moons_any s A c lo hi _ HK.out (HM.out.ext hE) d1 d3 d4).mono ?_
 rintro e w2 ⟨v, base, rfl, _, hown, hE1⟩
 have hv := MoonsVal.of_own hown
 have hll := moonsN_le s lo (hi + 1 - lo).toNat
 have HD := Lib.hid (moonsN_days s lo (hi + 1 - lo).toNat)
 obtain ⟨l, hL⟩ : ∃ l, Sp.moonsL s lo hi = l := ⟨_, rfl⟩
 rw [show Sp.moonsN s lo (hi + 1 - lo).toNat = l from hL] at hll HD
 have hEq : Sp.ecls s nw fl lo hi = Sp.eclsOf s nw fl l := by rw [← hL]; rfl
 rw [hL] at hv
 obtain ⟨AM, cM, rfl, hc⟩ := hv
 replace hE := hE.trans hE1
 replace hr := hr.ext hE1
 clear hE1 hown b0
 have HC := Lib.hid hc
 have HQ := Lib.hid hEq
 have HE := Lib.hid hE
 have hz := hE.size
 clear hc hEq hL hE
 go_wp2_with fail
 go_loopw [12, 41] (fun v d wr => EclRel w2 s nw fl l v d wr) (fun _ d _ => l.length - (intOf d).toNat)
 case atStart => exact ⟨0, Nat.zero_le _, rfl, by simp [Sp.eclsOf, eclCells, World.ownsRow], Ext.refl _⟩
 case round =>
  obtain ⟨k, hk, rfl, hown, hE⟩ := hrel
  have HE2 := Lib.hid hE
  have hz2 := hE.size
  have b0 := (hr.ext hE).cell
  by_cases hlt : k < l.length
  ·have hle := ecls_le s nw fl (l.take k)
   rw [List.length_take] at hle
   have htake : l.take (k + 1) = l.take k ++ [l[k]] := by rw [List.take_succ_eq_append_getElem hlt]
   have hday := HD.out l[k] (List.getElem_mem hlt)
   have hcc := HC.out (by omega)
   obtain ⟨b, o, rfl, hcell⟩ := hcc
   obtain ⟨q1, q2⟩ := hcell k hlt
   replace q1 := hE.cell q1
   replace q2 := hE.cell q2
   have hnext : Sp.eclsOf s nw fl (l.take (k + 1)) = Sp.eclsOf s nw fl (l.take k) ++ Sp.eclOf s nw fl l[k] := by rw [htake, eclsOf_append]
   obtain ⟨L, hL⟩ : ∃ L, Sp.eclsOf s nw fl (l.take k) = L := ⟨_, rfl⟩
   rw [hL] at hown hle hnext
   have HN := Lib.hid hnext
   obtain ⟨m, hm⟩ : ∃ m, l[k] = m := ⟨_, rfl⟩
   rw [hm] at q1 q2 hday HN
   clear hE hcell htake hnext hL hm
   obtain ⟨md, mf⟩ := m
   simp only at q1 q2 hday
   have j1 := lts (lt_of_cell q1)
   have j0 := lts (show w.heap.size < wr.heap.size by have := hr.lt; omega)
   have HO := Lib.hid hown
   cases mf
   ·go_wp2_with fail
    refine (far_any s A c md _ HK.out (HM.out.ext ((HE.out.trans HE2.out).alloc _)) (by omega) (by omega)).mono ?_
    rintro e w3 ⟨rfl, hE3⟩
    have n3 := ((Row.new wr 185 #[.int .i64 md, .bool false]).ext hE3).cell
    have HE3 := Lib.hid hE3
    have hz3 := hE3.size
    rw [World.size_alloc] at hz3
    clear b0 q1 q2
    have hown3 := ownsRow_of_block (hown.alloc (.cells #[.int .i64 md, .bool false] 185)) (fun g hg => hE3.block g ((hown.alloc _).lt g hg).2)
    clear hown hE3
    by_cases hf : Sp.far s md ≤ nw <;> have HF := Lib.hid hf
    ·have hown4 := hown3.alloc (.cells #[.int .i64 md, .bool false, .int .i64 (Sp.far s md)] 87)
     have HO4 := Lib.hid hown4
     go_wp2_with (at_builtin; refine wpList_append_lies _ rfl _ _ 22 rfl w2.heap.size 87 i0 _ 3 24 Tryz.underlying22 hi0 hi1 hi2 hi3 rfl (by decide) _ L.length (eclCells L) rfl hown4 ⟨w3.heap.size, 0, none⟩ 1 1 [.int .i64 md, .bool false, .int .i64 (Sp.far s md)] rfl rfl (World.news_of_block (cs := #[.int .i64 md, .bool false, .int .i64 (Sp.far s md)]) (t := 87) (fr := (0, 0)) (heap_alloc_new _ _)) (by simp [Value.oneCell']) (by omega) (by simp only [maxLen]; omega) (by omega) (by simp; omega) _ rfl ?_; intro gg cap w4 hown5 hgrow hat hlt4; have HO5 := Lib.hid hown5; have HG := Lib.hid hgrow; clear hown5 hgrow)
     refine ⟨⟨k + 1, by omega, by go_num, ?_, (((HE2.out.alloc _).trans HE3.out).alloc _).grown HG.out (fun g hg => (HO4.out.lt g hg).1)⟩, by simp [intOf]; omega⟩
     rw [HN.out]
     simpa [Sp.eclOf, HF.out, eclCells_append, eclCells] using HO5.out
    ·go_wp2_with fail
     refine ⟨⟨k + 1, by omega, by go_num, ?_, (HE2.out.alloc _).trans HE3.out⟩, by simp [intOf]; omega⟩
     rw [HN.out, show Sp.eclOf s nw fl (md, false) = [] from if_neg (Int.not_le.2 HF.out)]
     simpa using hown3
   ·go_wp2_with fail
    refine (far_any s A c md _ HK.out (HM.out.ext ((HE.out.trans HE2.out).alloc _)) (by omega) (by omega)).mono ?_
    rintro e w3 ⟨rfl, hE3⟩
    have n3 := ((Row.new wr 185 #[.int .i64 md, .bool true]).ext hE3).cell
    have HE3 := Lib.hid hE3
    have hz3 := hE3.size
    rw [World.size_alloc] at hz3
    clear b0 q1 q2
    have hown3 := ownsRow_of_block (hown.alloc (.cells #[.int .i64 md, .bool true] 185)) (fun g hg => hE3.block g ((hown.alloc _).lt g hg).2)
    clear hown hE3
    by_cases hf : Sp.far s md ≤ fl <;> have HF := Lib.hid hf
    ·have hown4 := hown3.alloc (.cells #[.int .i64 md, .bool true, .int .i64 (Sp.far s md)] 87)
     have HO4 := Lib.hid hown4
     go_wp2_with (at_builtin; refine wpList_append_lies _ rfl _ _ 22 rfl w2.heap.size 87 i0 _ 3 24 Tryz.underlying22 hi0 hi1 hi2 hi3 rfl (by decide) _ L.length (eclCells L) rfl hown4 ⟨w3.heap.size, 0, none⟩ 1 1 [.int .i64 md, .bool true, .int .i64 (Sp.far s md)] rfl rfl (World.news_of_block (cs := #[.int .i64 md, .bool true, .int .i64 (Sp.far s md)]) (t := 87) (fr := (0, 0)) (heap_alloc_new _ _)) (by simp [Value.oneCell']) (by omega) (by simp only [maxLen]; omega) (by omega) (by simp; omega) _ rfl ?_; intro gg cap w4 hown5 hgrow hat hlt4; have HO5 := Lib.hid hown5; have HG := Lib.hid hgrow; clear hown5 hgrow)
     refine ⟨⟨k + 1, by omega, by go_num, ?_, (((HE2.out.alloc _).trans HE3.out).alloc _).grown HG.out (fun g hg => (HO4.out.lt g hg).1)⟩, by simp [intOf]; omega⟩
     rw [HN.out]
     simpa [Sp.eclOf, HF.out, eclCells_append, eclCells] using HO5.out
    ·go_wp2_with fail
     refine ⟨⟨k + 1, by omega, by go_num, ?_, (HE2.out.alloc _).trans HE3.out⟩, by simp [intOf]; omega⟩
     rw [HN.out, show Sp.eclOf s nw fl (md, true) = [] from if_neg (Int.not_le.2 HF.out)]
     simpa using hown3
  ·obtain rfl : k = l.length := by omega
   clear b0
   have HO := Lib.hid hown
   clear hown
   go_wp2_with fail
   go_ret2
   refine ⟨_, rfl, ?_, HE.out.trans HE2.out⟩
   have := EclVal.of_own (l := Sp.eclsOf s nw fl (l.take l.length)) HO.out
   rwa [List.take_length, ← HQ.out] at this
end Go.Proofs.YtfkcbgehcbhjnaaGreatDoor
namespace Go.Proofs.YtfkcbgehcbhjnaaGreatDoor
open Go.RowKit
open Sp (rd)
set_option maxRecDepth 100000 in
set_option maxHeartbeats 1000000 in
theorem month_ok (s : Sp.Sky) (A : Option Addr) (c : Nat) (w : World) (hs : SkyOk s) (hm : Bodies w A s.bodies) (h : Sp.isMonth s = true) :
  Calls Tryz.prog 144 #[.agg #[.slice A s.bodies.length c, .int .i64 s.nnum, .int .i64 s.nden, .int .i64 s.nstart]] w fun e w' => e = .returned (.tuple #[.int .i64 (Sp.monthNum s), .int .i64 (Sp.monthDen s)]) ∧ Ext w w' := by
 have n2 := hs.n2
 obtain ⟨b, o, rfl, hc⟩ := hm (by omega)
 have e0 := hc 0 (by omega)
 have e1 := hc 1 (by omega)
 have b0 : bd s.bodies 0 = Sp.body s 0 := rfl
 have b1 : bd s.bodies 1 = Sp.body s 1 := rfl
 rw [b0] at e0
 rw [b1] at e1
 obtain ⟨p0, p1, _, _⟩ := e0
 obtain ⟨p2, p3, _, _⟩ := e1
 simp only [Nat.zero_mul, Nat.one_mul, Nat.add_zero] at p0 p1 p2 p3
 have n0 := lts (lt_of_cell p0)
 clear hc
 have q := (Row.new w 72 #[.slice (some ⟨b, o, none⟩) s.bodies.length c, .int .i64 s.nnum, .int .i64 s.nden, .int .i64 s.nstart]).cell 0
 simp only [List.getElem?_toArray, List.getElem?_cons_zero] at q
 have hE : Ext w (w.alloc (.cells #[.slice (some ⟨b, o, none⟩) s.bodies.length c, .int .i64 s.nnum, .int .i64 s.nden, .int .i64 s.nstart] 72)) := (Ext.refl w).alloc _
 replace p0 := hE.cell p0
 replace p1 := hE.cell p1
 replace p2 := hE.cell p2
 replace p3 := hE.cell p3
 go_enter Tryz.func144, Tryz.ntmps144
 go_wp2_with fail
 obtain ⟨W, hW⟩ : ∃ W, w.alloc (.cells #[.slice (some ⟨b, o, none⟩) s.bodies.length c, .int .i64 s.nnum, .int .i64 s.nden, .int .i64 s.nstart] 72) = W := ⟨_, rfl⟩
 have hz : W.heap.size = w.heap.size + 1 := by rw [← hW]; simp
 rw [hW] at q p0 p1 p2 p3 hE ⊢
 clear hW n0
 have m0 := World.new_ne W _ q
 have m1 := World.new_ne W _ p0
 have k0 := lts (lt_of_cell q)
 have k1 := lts (lt_of_cell p0)
 simp only at m0 m1 k0 k1
 have h01 : (0 : Int) < s.bodies.length := by omega
 have h11 : (1 : Int) < s.bodies.length := by omega
 have h00 : 0 < s.bodies.length := by omega
 refine Code.wp_mono (Q := fun e a' w' => e = .normal ∧ ∃ b4 b5, w.heap.size < b4 ∧ w.heap.size < b5 ∧ b4 ≠ b5 ∧ Ext W w' ∧ Row w' b4 68 #[.int .i64 (Sp.body s 0).num, .int .i64 (Sp.body s 0).den] ∧ Row w' b5 68 #[.int .i64 (Sp.body s 1).num, .int .i64 (Sp.body s 1).den] ∧ a' = (⟨#[.agg #[.slice (some ⟨b, o, none⟩) s.bodies.length c, .int .i64 s.nnum, .int .i64 s.nden, .int .i64 s.nstart], .pointer (some ⟨w.heap.size, 0, none⟩), .int .i64 0, .int .i64 0, .pointer (some ⟨b4, 0, none⟩), .pointer (some ⟨b5, 0, none⟩), undef, undef, .pointer (some ⟨w.heap.size, 0, none⟩), .slice (some ⟨b, o, none⟩) s.bodies.length c, .pointer (some ⟨b, o, none⟩), .pointer (some ⟨b, o, none⟩), .agg #[.int .i64 (Sp.body s 0).num, .int .i64 (Sp.body s 0).den], .pointer (some ⟨w.heap.size, 0, none⟩), .slice (some ⟨b, o, none⟩) s.bodies.length c, .pointer (some ⟨b, o + 4, none⟩), .pointer (some ⟨b, o + 4, none⟩), .agg #[.int .i64 (Sp.body s 1).num, .int .i64 (Sp.body s 1).den], undef, undef, undef, undef, undef, undef, undef, undef, undef, undef, undef, undef, undef, undef, undef, undef, undef, undef, undef, undef, undef, undef], []⟩ : Act)) ?hq ?hr
 case hr =>
  go_region_held3 (fun w' => w'.cell? ⟨w.heap.size, 0, none⟩ = some (.slice (some ⟨b, o, none⟩) s.bodies.length c) ∧ w'.cell? ⟨b, o, none⟩ = some (.int .i64 (Sp.body s 0).num) ∧ w'.cell? ⟨b, o + 1, none⟩ = some (.int .i64 (Sp.body s 0).den) ∧ w'.cell? ⟨b, o + 4, none⟩ = some (.int .i64 (Sp.body s 1).num) ∧ w'.cell? ⟨b, o + 4 + 1, none⟩ = some (.int .i64 (Sp.body s 1).den)) (go_keep) (fail)
  ·have hE3 : Ext W ((W.alloc (.cells #[.int .i64 (Sp.body s 0).num, .int .i64 (Sp.body s 0).den] 68)).alloc (.cells #[.int .i64 (Sp.body s 1).num, .int .i64 (Sp.body s 1).den] 68)).drew := (((Ext.refl W).alloc _).alloc _).drew
   exact ⟨rfl, w.heap.size + 1, w.heap.size + 1 + 1, by omega, by omega, by omega, hE3, by rw [← hz]; exact (blocks2 W _ _).1, by rw [← hz]; exact (blocks2 W _ _).2, rfl⟩
  ·have hE3 : Ext W ((W.alloc (.cells #[.int .i64 (Sp.body s 1).num, .int .i64 (Sp.body s 1).den] 68)).alloc (.cells #[.int .i64 (Sp.body s 0).num, .int .i64 (Sp.body s 0).den] 68)).drew := (((Ext.refl W).alloc _).alloc _).drew
   exact ⟨rfl, w.heap.size + 1 + 1, w.heap.size + 1, by omega, by omega, by omega, hE3, by rw [← hz]; exact (blocks2 W _ _).2, by rw [← hz]; exact (blocks2 W _ _).1, rfl⟩
 case hq =>
  rintro e a' w1 ⟨rfl, b4, b5, hb4, hb5, hne, hE1, r4, r5, rfl⟩
  have c4 := r4.cell
  have c5 := r5.cell
  have g0 := hs.all 0 (by omega)
  have g1 := hs.all 1 (by omega)
  rw [b0] at g0
  rw [b1] at g1
  obtain ⟨n0, hn0⟩ : ∃ n0, (Sp.body s 0).num = n0 := ⟨_, rfl⟩
  obtain ⟨x0, hx0⟩ : ∃ x0, (Sp.body s 0).den = x0 := ⟨_, rfl⟩
  obtain ⟨n1, hn1⟩ : ∃ n1, (Sp.body s 1).num = n1 := ⟨_, rfl⟩
  obtain ⟨x1, hx1⟩ : ∃ x1, (Sp.body s 1).den = x1 := ⟨_, rfl⟩
  obtain ⟨u1, u2, u3, u4, _, _, _, _, _⟩ := g0
  obtain ⟨v1, v2, v3, v4, _, _, _, _, _⟩ := g1
  simp only [hn0, hx0] at u1 u2 u3 u4 c4 ⊢
  simp only [hn1, hx1] at v1 v2 v3 v4 c5 ⊢
  have t1 := mul_bounds (a := n1) (b := n0) (A := 10000) (B := 10000) (by omega) (by omega) (by omega) (by omega)
  have t2 := mul_bounds (a := x1) (b := n0) (A := 10000) (B := 10000) (by omega) (by omega) (by omega) (by omega)
  have t3 := mul_bounds (a := x0) (b := n1) (A := 10000) (B := 10000) (by omega) (by omega) (by omega) (by omega)
  have hden : 0 < x1 * n0 - x0 * n1 := by
   have h' : 0 < Sp.monthDen s := of_decide_eq_true h
   unfold Sp.monthDen at h'
   rw [hx1, hn0, hx0, hn1] at h'
   exact h'
  have hnum : Sp.monthNum s = n1 * n0 := by simp only [Sp.monthNum, hn1, hn0]
  have hd : Sp.monthDen s = x1 * n0 - x0 * n1 := by simp only [Sp.monthDen, hn1, hn0, hx0, hx1]
  have HN := Lib.hid hnum
  have HD := Lib.hid hd
  have HE := Lib.hid (hE.trans hE1)
  clear hnum hd hn0 hx0 hn1 hx1 hE hE1 b0 b1 h
  go_wp2
  go_quiet (fail)
  go_wp2
  go_ret2
  exact ⟨by rw [HN.out, HD.out]; rfl, HE.out.drewN _⟩
set_option maxRecDepth 100000 in
set_option maxHeartbeats 1000000 in
theorem month_no (s : Sp.Sky) (A : Option Addr) (c : Nat) (w : World) (hs : SkyOk s) (hm : Bodies w A s.bodies) (h : Sp.isMonth s = false) :
  Calls Tryz.prog 144 #[.agg #[.slice A s.bodies.length c, .int .i64 s.nnum, .int .i64 s.nden, .int .i64 s.nstart]] w fun e w' => e = .panicked [{ v := .iface 221 (.agg #[.int .i64 7]), recovered := false }] ∧ Ext w w' := by
 have n2 := hs.n2
 obtain ⟨b, o, rfl, hc⟩ := hm (by omega)
 have e0 := hc 0 (by omega)
 have e1 := hc 1 (by omega)
 have b0 : bd s.bodies 0 = Sp.body s 0 := rfl
 have b1 : bd s.bodies 1 = Sp.body s 1 := rfl
 rw [b0] at e0
 rw [b1] at e1
 obtain ⟨p0, p1, _, _⟩ := e0
 obtain ⟨p2, p3, _, _⟩ := e1
 simp only [Nat.zero_mul, Nat.one_mul, Nat.add_zero] at p0 p1 p2 p3
 have n0 := lts (lt_of_cell p0)
 clear hc
 have q := (Row.new w 72 #[.slice (some ⟨b, o, none⟩) s.bodies.length c, .int .i64 s.nnum, .int .i64 s.nden, .int .i64 s.nstart]).cell 0
 simp only [List.getElem?_toArray, List.getElem?_cons_zero] at q
 have hE : Ext w (w.alloc (.cells #[.slice (some ⟨b, o, none⟩) s.bodies.length c, .int .i64 s.nnum, .int .i64 s.nden, .int .i64 s.nstart] 72)) := (Ext.refl w).alloc _
 replace p0 := hE.cell p0
 replace p1 := hE.cell p1
 replace p2 := hE.cell p2
 replace p3 := hE.cell p3
 go_enter Tryz.func144, Tryz.ntmps144
 go_wp2_with fail
 obtain ⟨W, hW⟩ : ∃ W, w.alloc (.cells #[.slice (some ⟨b, o, none⟩) s.bodies.length c, .int .i64 s.nnum, .int .i64 s.nden, .int .i64 s.nstart] 72) = W := ⟨_, rfl⟩
 have hz : W.heap.size = w.heap.size + 1 := by rw [← hW]; simp
 rw [hW] at q p0 p1 p2 p3 hE ⊢
 clear hW n0
 have m0 := World.new_ne W _ q
 have m1 := World.new_ne W _ p0
 have k0 := lts (lt_of_cell q)
 have k1 := lts (lt_of_cell p0)
 simp only at m0 m1 k0 k1
 have h01 : (0 : Int) < s.bodies.length := by omega
 have h11 : (1 : Int) < s.bodies.length := by omega
 have h00 : 0 < s.bodies.length := by omega
 refine Code.wp_mono (Q := fun e a' w' => e = .normal ∧ ∃ b4 b5, w.heap.size < b4 ∧ w.heap.size < b5 ∧ b4 ≠ b5 ∧ Ext W w' ∧ Row w' b4 68 #[.int .i64 (Sp.body s 0).num, .int .i64 (Sp.body s 0).den] ∧ Row w' b5 68 #[.int .i64 (Sp.body s 1).num, .int .i64 (Sp.body s 1).den] ∧ a' = (⟨#[.agg #[.slice (some ⟨b, o, none⟩) s.bodies.length c, .int .i64 s.nnum, .int .i64 s.nden, .int .i64 s.nstart], .pointer (some ⟨w.heap.size, 0, none⟩), .int .i64 0, .int .i64 0, .pointer (some ⟨b4, 0, none⟩), .pointer (some ⟨b5, 0, none⟩), undef, undef, .pointer (some ⟨w.heap.size, 0, none⟩), .slice (some ⟨b, o, none⟩) s.bodies.length c, .pointer (some ⟨b, o, none⟩), .pointer (some ⟨b, o, none⟩), .agg #[.int .i64 (Sp.body s 0).num, .int .i64 (Sp.body s 0).den], .pointer (some ⟨w.heap.size, 0, none⟩), .slice (some ⟨b, o, none⟩) s.bodies.length c, .pointer (some ⟨b, o + 4, none⟩), .pointer (some ⟨b, o + 4, none⟩), .agg #[.int .i64 (Sp.body s 1).num, .int .i64 (Sp.body s 1).den], undef, undef, undef, undef, undef, undef, undef, undef, undef, undef, undef, undef, undef, undef, undef, undef, undef, undef, undef, undef, undef, undef], []⟩ : Act)) ?hq ?hr
 case hr =>
  go_region_held3 (fun w' => w'.cell? ⟨w.heap.size, 0, none⟩ = some (.slice (some ⟨b, o, none⟩) s.bodies.length c) ∧ w'.cell? ⟨b, o, none⟩ = some (.int .i64 (Sp.body s 0).num) ∧ w'.cell? ⟨b, o + 1, none⟩ = some (.int .i64 (Sp.body s 0).den) ∧ w'.cell? ⟨b, o + 4, none⟩ = some (.int .i64 (Sp.body s 1).num) ∧ w'.cell? ⟨b, o + 4 + 1, none⟩ = some (.int .i64 (Sp.body s 1).den)) (go_keep) (fail)
  ·have hE3 : Ext W ((W.alloc (.cells #[.int .i64 (Sp.body s 0).num, .int .i64 (Sp.body s 0).den] 68)).alloc (.cells #[.int .i64 (Sp.body s 1).num, .int .i64 (Sp.body s 1).den] 68)).drew := (((Ext.refl W).alloc _).alloc _).drew
   exact ⟨rfl, w.heap.size + 1, w.heap.size + 1 + 1, by omega, by omega, by omega, hE3, by rw [← hz]; exact (blocks2 W _ _).1, by rw [← hz]; exact (blocks2 W _ _).2, rfl⟩
  ·have hE3 : Ext W ((W.alloc (.cells #[.int .i64 (Sp.body s 1).num, .int .i64 (Sp.body s 1).den] 68)).alloc (.cells #[.int .i64 (Sp.body s 0).num, .int .i64 (Sp.body s 0).den] 68)).drew := (((Ext.refl W).alloc _).alloc _).drew
   exact ⟨rfl, w.heap.size + 1 + 1, w.heap.size + 1, by omega, by omega, by omega, hE3, by rw [← hz]; exact (blocks2 W _ _).2, by rw [← hz]; exact (blocks2 W _ _).1, rfl⟩
 case hq =>
  rintro e a' w1 ⟨rfl, b4, b5, hb4, hb5, hne, hE1, r4, r5, rfl⟩
  have c4 := r4.cell
  have c5 := r5.cell
  have g0 := hs.all 0 (by omega)
  have g1 := hs.all 1 (by omega)
  rw [b0] at g0
  rw [b1] at g1
  obtain ⟨n0, hn0⟩ : ∃ n0, (Sp.body s 0).num = n0 := ⟨_, rfl⟩
  obtain ⟨x0, hx0⟩ : ∃ x0, (Sp.body s 0).den = x0 := ⟨_, rfl⟩
  obtain ⟨n1, hn1⟩ : ∃ n1, (Sp.body s 1).num = n1 := ⟨_, rfl⟩
  obtain ⟨x1, hx1⟩ : ∃ x1, (Sp.body s 1).den = x1 := ⟨_, rfl⟩
  obtain ⟨u1, u2, u3, u4, _, _, _, _, _⟩ := g0
  obtain ⟨v1, v2, v3, v4, _, _, _, _, _⟩ := g1
  simp only [hn0, hx0] at u1 u2 u3 u4 c4 ⊢
  simp only [hn1, hx1] at v1 v2 v3 v4 c5 ⊢
  have t1 := mul_bounds (a := n1) (b := n0) (A := 10000) (B := 10000) (by omega) (by omega) (by omega) (by omega)
  have t2 := mul_bounds (a := x1) (b := n0) (A := 10000) (B := 10000) (by omega) (by omega) (by omega) (by omega)
  have t3 := mul_bounds (a := x0) (b := n1) (A := 10000) (B := 10000) (by omega) (by omega) (by omega) (by omega)
  have hden : x1 * n0 - x0 * n1 ≤ 0 := by
   have h' : ¬ 0 < Sp.monthDen s := of_decide_eq_false h
   unfold Sp.monthDen at h'
   rw [hx1, hn0, hx0, hn1] at h'
   omega
  have HE := Lib.hid (hE.trans hE1)
  clear hn0 hx0 hn1 hx1 hE hE1 b0 b1 h
  go_wp2
  go_quiet (fail)
  go_wp2
  exact ⟨rfl, rfl, HE.out.drewN _⟩
end Go.Proofs.YtfkcbgehcbhjnaaGreatDoor
namespace Go.Proofs.YtfkcbgehcbhjnaaGreatDoor
open Go.RowKit
open Sp (rd)
theorem ta_nothing (k : Int) (w : World) : (Instr.typeAssert (.iface 221 (.agg #[.int .i64 k])) 20 221 true).run Tryz.prog w = .ok (.tuple #[.agg #[.int .i64 k], .bool true]) w := by kernel_rfl
theorem catch_nothing (p : Nat) (x k : Int) (older : List PanicEntry) (w : World) (hr : Row w p 24 #[.int .i64 x]) :
  CallsD Tryz.prog 169 #[.pointer (some ⟨p, 0, none⟩)] (.panicking ({ v := .iface 221 (.agg #[.int .i64 k]), recovered := false } :: older)) w fun e u' w' =>
   e = .returned (.tuple #[]) ∧ u' = .panicking ({ v := .iface 221 (.agg #[.int .i64 k]), recovered := true } :: older) ∧ w' = (w.setCell ⟨p, 0, none⟩ (.int .i64 k)).alloc (.cells #[.int .i64 k] 221) := by
 refine callsD_of_wpS Tryz.func169 rfl fun c₀ cs hu => ?_
 have hc := hr.cell
 have hf := hr.free
 have j0 := lts hr.lt
 have hT := ta_nothing k
 have he : ∀ w, (binOp .eql 20 (.iface 221 (.agg #[.int .i64 k])) .nilIface).run Tryz.prog w = .ok (.bool false) w := fun _ => by kernel_rfl
 simp only [Tryz.ntmps169, List.size_toArray, List.length_cons, List.length_nil, Nat.reduceAdd, Nat.reduceSub, Array.replicate_succ, Array.replicate_zero, List.push_toArray, List.append_toArray, List.nil_append, List.cons_append]
 apply wpS_seq
 apply wpS_region
 simp [wpOpsS, go_sem, recoverD, hu, Exit.thenS]
 refine wpS_of_wp ?_
 generalize hQ : (fun (e : Exit) (a' : Act) (w' : World) => bodyPostS Tryz.prog Tryz.f169 c₀ cs _ e a' _ w') = Q
 go_wp2
 subst hQ
 simp [bodyPostS, results, Tryz.results169]
theorem catch_idle (p : Value) (w : World) :
  CallsD Tryz.prog 169 #[p] .returning w fun e u' w' => e = .returned (.tuple #[]) ∧ u' = .returning ∧ w' = w := by
 refine callsD_of_wpS Tryz.func169 rfl fun c₀ cs hu => ?_
 have he : ∀ w, (binOp .eql 20 .nilIface .nilIface).run Tryz.prog w = .ok (.bool true) w := fun _ => by kernel_rfl
 simp only [Tryz.ntmps169, List.size_toArray, List.length_cons, List.length_nil, Nat.reduceAdd, Nat.reduceSub, Array.replicate_succ, Array.replicate_zero, List.push_toArray, List.append_toArray, List.nil_append, List.cons_append]
 apply wpS_seq
 apply wpS_region
 simp [wpOpsS, go_sem, recoverD, hu, Exit.thenS]
 refine wpS_of_wp ?_
 generalize hQ : (fun (e : Exit) (a' : Act) (w' : World) => bodyPostS Tryz.prog Tryz.f169 c₀ cs _ e a' _ w') = Q
 go_wp2
 subst hQ
 cases c₀
 simp_all [bodyPostS, results, Tryz.results169]
def Tried (w : World) (k : Int) (Q1 Q2 : World → Prop) (e : Ending) (w' : World) : Prop := Row w' w.heap.size 24 #[.int .i64 0] ∧
 ((e = .returned (.tuple #[]) ∧ Q1 w') ∨ (e = .panicked [{ v := .iface 221 (.agg #[.int .i64 k]), recovered := false }] ∧ Q2 w'))
theorem try_any (f : Nat) (cap : Array Value) (k : Int) (w : World) (Q1 Q2 : World → Prop) (he : ∀ (args : Array Value) (w : World), (callFunc f args).run Tryz.prog w = .ok (.enter f args) w)
  (hc : Calls Tryz.prog f cap (w.alloc (.cells #[.int .i64 0] 24)) (Tried w k Q1 Q2)) :
  Calls Tryz.prog 142 #[.func (.func f) #[] cap] w fun e w' => ∃ w1, (Q1 w1 ∧ e = .returned (.int .i64 0) ∧ w' = w1.setCell ⟨w.heap.size, 0, none⟩ (.int .i64 0)) ∨
   (Q2 w1 ∧ e = .returned (.int .i64 k) ∧ w' = (w1.setCell ⟨w.heap.size, 0, none⟩ (.int .i64 k)).alloc (.cells #[.int .i64 k] 221)) := by
 have hmf : ∀ (fn : Fn) (first cap : Array Value) (w : World), (Instr.makeFunc fn first cap).run Tryz.prog w = .ok (.func fn first cap) w := fun _ _ _ _ => rfl
 go_enter_defers Tryz.func142, Tryz.ntmps142
 go_wp2
 refine hc.mono ?_
 rintro e w1 ⟨hR, ⟨rfl, h1⟩ | ⟨rfl, h2⟩⟩
 ·have cR := hR.cell
  have fR := hR.free
  go_wp2
  refine leaves_cons (f := 169) (args := #[.pointer (some ⟨w.heap.size, 0, none⟩)]) (by simp) (by simp [go_sem]) ?_
  refine (catch_idle _ _).mono ?_
  rintro e u' w'' ⟨rfl, rfl, rfl⟩
  have r2 := (hR.set_ 0 (.int .i64 0)).cell 0
  simp only [List.setIfInBounds_toArray, List.set_cons_zero, List.getElem?_toArray, List.getElem?_cons_zero] at r2
  simp [Leaves, settle, results, Tryz.results142, go_sem, r2]
  exact ⟨w1, .inl ⟨h1, rfl⟩⟩
 ·refine leaves_cons (f := 169) (args := #[.pointer (some ⟨w.heap.size, 0, none⟩)]) (by simp) (by simp [go_sem]) ?_
  refine (catch_nothing w.heap.size 0 k [] w1 hR).mono ?_
  rintro e u' w'' ⟨rfl, rfl, rfl⟩
  have r2 := ((hR.set_ 0 (.int .i64 k)).alloc (.cells #[.int .i64 k] 221)).cell 0
  simp only [List.setIfInBounds_toArray, List.set_cons_zero, List.getElem?_toArray, List.getElem?_cons_zero] at r2
  simp [Leaves, settle, results, Tryz.results142, go_sem, r2]
  exact ⟨w1, .inr ⟨h2, rfl⟩⟩
end Go.Proofs.YtfkcbgehcbhjnaaGreatDoor
namespace Go.Proofs.YtfkcbgehcbhjnaaGreatDoor
open Go.RowKit
open Sp (rd)
theorem gcd_step {a b : Int} (h1 : 0 ≤ a) (h2 : 0 ≤ b) : Int.gcd b (a % b) = Int.gcd a b := by
 obtain ⟨m, rfl⟩ := Int.eq_ofNat_of_zero_le h1
 obtain ⟨n, rfl⟩ := Int.eq_ofNat_of_zero_le h2
 rw [show ((m : Int) % (n : Int)) = ((m % n : Nat) : Int) by rfl]
 show Nat.gcd n (m % n) = Nat.gcd m n
 rw [Nat.gcd_comm n, ← Nat.gcd_rec, Nat.gcd_comm]
theorem gcd_end {a : Int} (h1 : 0 ≤ a) : (Int.gcd a 0 : Int) = a := by
 obtain ⟨m, rfl⟩ := Int.eq_ofNat_of_zero_le h1
 show ((Nat.gcd m 0 : Nat) : Int) = m
 rw [Nat.gcd_zero_right]
theorem gcd_any (a b : Int) (w : World) (h1 : 0 ≤ a) (h2 : a ≤ 1000000000000) (h3 : 0 ≤ b) (h4 : b ≤ 1000000000000) :
  Calls Tryz.prog 145 #[.int .i64 a, .int .i64 b] w fun e w' => e = .returned (.int .i64 (Int.gcd a b)) ∧ Ext w w' := by
 go_enter Tryz.func145, Tryz.ntmps145
 go_wp2_with fail
 go_loopw [0, 1] (fun x y wr => ∃ a' b' : Int, x = .int .i64 a' ∧ y = .int .i64 b' ∧ 0 ≤ a' ∧ a' ≤ 1000000000000 ∧ 0 ≤ b' ∧ b' ≤ 1000000000000 ∧ Int.gcd a' b' = Int.gcd a b ∧ Ext w wr) (fun _ y _ => (intOf y).toNat)
 case atStart => exact ⟨a, b, rfl, rfl, h1, h2, h3, h4, rfl, Ext.refl _⟩
 case round =>
  obtain ⟨a', b', rfl, rfl, k1, k2, k3, k4, hg, hE⟩ := hrel
  by_cases hb : 0 < b'
  ·have hb0 : ¬ b' = 0 := by omega
   have ht : a'.tmod b' = a' % b' := Int.tmod_eq_emod_of_nonneg k1
   have hm1 := Int.emod_nonneg a' hb0
   have hm2 := Int.emod_lt_of_pos a' hb
   go_wp2_with fail
   go_quiet (fail)
   go_wp2
   go_roundw
   case rel => exact ⟨b', a' % b', rfl, rfl, by omega, by omega, by omega, by omega, (gcd_step k1 k3).trans hg, hE.drewN _⟩
   case measure => simp [intOf]; omega
  ·obtain rfl : b' = 0 := by omega
   go_wp2_with fail
   go_ret
   refine ⟨?_, hE⟩
   rw [← hg]
   exact ret_int (gcd_end k1).symm
theorem month1_ok (s : Sp.Sky) (A : Option Addr) (c : Nat) (bS bN bD : Nat) (n d : Int) (W : World) (hs : SkyOk s) (hm : Bodies W A s.bodies) (h : Sp.isMonth s = true) (rS : Row W bS 72 #[.slice A s.bodies.length c, .int .i64 s.nnum, .int .i64 s.nden, .int .i64 s.nstart])
  (rN : Row W bN 3 #[.int .i64 n]) (rD : Row W bD 3 #[.int .i64 d]) (hne : bN ≠ bD) :
  Calls Tryz.prog 143 #[.pointer (some ⟨bS, 0, none⟩), .pointer (some ⟨bN, 0, none⟩), .pointer (some ⟨bD, 0, none⟩)] W fun e w' => e = .returned (.tuple #[]) ∧ ∃ W1, Ext W W1 ∧ w' = (W1.setCell ⟨bN, 0, none⟩ (.int .i64 (Sp.monthNum s))).setCell ⟨bD, 0, none⟩ (.int .i64 (Sp.monthDen s)) := by
 have cS := rS.cell
 go_enter Tryz.func143, Tryz.ntmps143
 go_wp2_with fail
 refine (month_ok s A c W hs hm h).mono ?_
 rintro e W1 ⟨rfl, hE⟩
 have cN := (rN.ext hE).cell
 have cD := (rD.ext hE).cell
 have fN := (rN.ext hE).free
 have fD := (rD.ext hE).free
 clear cS
 go_wp2_with fail
 go_end0
 exact ⟨rfl, W1, hE, rfl⟩
theorem month1_no (s : Sp.Sky) (A : Option Addr) (c : Nat) (bS : Nat) (p q : Value) (W : World) (hs : SkyOk s) (hm : Bodies W A s.bodies) (h : Sp.isMonth s = false) (rS : Row W bS 72 #[.slice A s.bodies.length c, .int .i64 s.nnum, .int .i64 s.nden, .int .i64 s.nstart]) :
  Calls Tryz.prog 143 #[.pointer (some ⟨bS, 0, none⟩), p, q] W fun e w' => e = .panicked [{ v := .iface 221 (.agg #[.int .i64 7]), recovered := false }] ∧ Ext W w' := by
 have cS := rS.cell
 go_enter Tryz.func143, Tryz.ntmps143
 go_wp2_with fail
 refine (month_no s A c W hs hm h).mono ?_
 rintro e W1 ⟨rfl, hE⟩
 exact ⟨rfl, rfl, hE⟩
theorem month_bounds {s : Sp.Sky} (hs : SkyOk s) (h : Sp.isMonth s = true) : 1 ≤ Sp.monthNum s ∧ Sp.monthNum s ≤ 100000000 ∧ 1 ≤ Sp.monthDen s ∧ Sp.monthDen s ≤ 100000000 := by
 have n2 := hs.n2
 have g0 : BodyOk (Sp.body s 0) := hs.body (by omega) (by omega)
 have g1 : BodyOk (Sp.body s 1) := hs.body (by omega) (by omega)
 have h' : 0 < Sp.monthDen s := of_decide_eq_true h
 obtain ⟨u1, u2, u3, u4, _, _, _, _, _⟩ := g0
 obtain ⟨v1, v2, v3, v4, _, _, _, _, _⟩ := g1
 have t1 := mul_bounds (a := (Sp.body s 1).num) (b := (Sp.body s 0).num) (A := 10000) (B := 10000) (by omega) (by omega) (by omega) (by omega)
 have t2 := mul_bounds (a := (Sp.body s 1).den) (b := (Sp.body s 0).num) (A := 10000) (B := 10000) (by omega) (by omega) (by omega) (by omega)
 have t3 : 0 ≤ (Sp.body s 0).den * (Sp.body s 1).num := Int.mul_nonneg (by omega) (by omega)
 have t4 : 0 < (Sp.body s 1).num * (Sp.body s 0).num := Int.mul_pos (by omega) (by omega)
 unfold Sp.monthNum
 unfold Sp.monthDen at h' ⊢
 omega
def monthG (s : Sp.Sky) : Int := Int.gcd (Sp.monthNum s) (Sp.monthDen s)
theorem monthG_bounds {s : Sp.Sky} (hs : SkyOk s) (h : Sp.isMonth s = true) : 1 ≤ monthG s ∧ monthG s ≤ 100000000 := by
 have hb := month_bounds hs h
 have h1 : 0 < Int.gcd (Sp.monthNum s) (Sp.monthDen s) := Int.gcd_pos_of_ne_zero_left _ (by omega)
 have h2 : monthG s ∣ Sp.monthNum s := Int.gcd_dvd_left ..
 have := Int.le_of_dvd (by omega) h2
 unfold monthG at *
 omega
theorem Month_err (s : Sp.Sky) (A : Option Addr) (c : Nat) (w : World) (hm : Bodies w A s.bodies) (hl : Short s.bodies) (h : (Sp.skyOk s) = false) :
  Calls Tryz.prog 118 #[.agg #[.slice A s.bodies.length c, .int .i64 s.nnum, .int .i64 s.nden, .int .i64 s.nstart]] w fun e w' => e = .returned (.tuple #[.int .i64 0, .int .i64 0, .int .i64 2]) ∧ Ext w w' := by
 have hl1 := hl.1
 have HL := Lib.hid hl
 have HM := Lib.hid hm
 clear hm hl
 cases c0 : Sp.skyOk s
 ·clear h
  go_enter Tryz.func118, Tryz.ntmps118
  go_wp2_with fail
  refine (isSky_any s A c _ (HM.out.ext ((Ext.refl w).alloc _)) HL.out).mono ?_
  rintro e w1 ⟨rfl, hE1⟩
  have hE := ((Ext.refl w).alloc _).trans hE1
  have hr : Row w1 w.heap.size 72 _ := (Row.new w _ _).ext hE1
  have b0 := hr.cell
  clear hE1
  go_wp2_with fail
  go_ret3
  exact ⟨rfl, hE⟩
 ·simp [c0] at h
theorem Month_ok (s : Sp.Sky) (A : Option Addr) (c : Nat) (w : World) (hm : Bodies w A s.bodies) (hl : Short s.bodies) (hmn : Sp.isMonth s = true) (c0 : Sp.skyOk s = true) :
  Calls Tryz.prog 118 #[.agg #[.slice A s.bodies.length c, .int .i64 s.nnum, .int .i64 s.nden, .int .i64 s.nstart]] w fun e w' => e = .returned (.tuple #[.int .i64 (Sp.monthNum s / monthG s), .int .i64 (Sp.monthDen s / monthG s), .int .i64 0]) ∧ Ext w w' := by
 have hl1 := hl.1
 have HL := Lib.hid hl
 have HM := Lib.hid hm
 clear hm hl
 go_enter Tryz.func118, Tryz.ntmps118
 go_wp2_with fail
 refine (isSky_any s A c _ (HM.out.ext ((Ext.refl w).alloc _)) HL.out).mono ?_
 rintro e w1 ⟨rfl, hE1⟩
 have hE := ((Ext.refl w).alloc _).trans hE1
 have hr : Row w1 w.heap.size 72 _ := (Row.new w _ _).ext hE1
 have b0 := hr.cell
 clear hE1
 have hmf : ∀ (fn : Fn) (first cap : Array Value) (w : World), (Instr.makeFunc fn first cap).run Tryz.prog w = .ok (.func fn first cap) w := fun _ _ _ _ => rfl
 have HK := Lib.hid (skyOk_iff.1 c0)
 have hE3 : Ext w1 (((w1.alloc (.cells #[.int .i64 0] 3)).alloc (.cells #[.int .i64 1] 3)).alloc (.cells #[.int .i64 0] 24)) := (((Ext.refl w1).alloc _).alloc _).alloc _
 have rN : Row (((w1.alloc (.cells #[.int .i64 0] 3)).alloc (.cells #[.int .i64 1] 3)).alloc (.cells #[.int .i64 0] 24)) w1.heap.size 3 #[.int .i64 0] := (blocks3 w1 _ _ _).1
 have rD : Row (((w1.alloc (.cells #[.int .i64 0] 3)).alloc (.cells #[.int .i64 1] 3)).alloc (.cells #[.int .i64 0] 24)) (w1.heap.size + 1) 3 #[.int .i64 1] := (blocks3 w1 _ _ _).2.1
 have rR : Row (((w1.alloc (.cells #[.int .i64 0] 3)).alloc (.cells #[.int .i64 1] 3)).alloc (.cells #[.int .i64 0] 24)) (w1.heap.size + 2) 24 #[.int .i64 0] := (blocks3 w1 _ _ _).2.2
 have hz := hr.lt
 have hb := month_bounds HK.out hmn
 have hg := monthG_bounds HK.out hmn
 go_wp2_with fail
 refine (try_any 143 _ 7 _ (fun w' => ∃ W1, Ext (((w1.alloc (.cells #[.int .i64 0] 3)).alloc (.cells #[.int .i64 1] 3)).alloc (.cells #[.int .i64 0] 24)) W1 ∧ w' = (W1.setCell ⟨w1.heap.size, 0, none⟩ (.int .i64 (Sp.monthNum s))).setCell ⟨w1.heap.size + 1, 0, none⟩ (.int .i64 (Sp.monthDen s))) (fun _ => False) (enters_of Tryz.func143 (by kernel_rfl) rfl)
  ((month1_ok s A c w.heap.size w1.heap.size (w1.heap.size + 1) 0 1 _ HK.out (HM.out.ext (hE.trans hE3)) hmn (hr.ext hE3) rN rD (by omega)).mono ?_)).mono ?_
 ·rintro e w' ⟨rfl, W1, hEE, rfl⟩
  refine ⟨?_, .inl ⟨rfl, W1, hEE, rfl⟩⟩
  simpa using ((rR.ext hEE).far (p := ⟨w1.heap.size, 0, none⟩) (by simp) _).far (p := ⟨w1.heap.size + 1, 0, none⟩) (by simp) _
 ·rintro e w' ⟨W2, ⟨⟨W1, hEE, rfl⟩, rfl, rfl⟩ | ⟨h0, _⟩⟩
  ·simp only [World.size_alloc]
   have sN : Row (((W1.setCell ⟨w1.heap.size, 0, none⟩ (.int .i64 (Sp.monthNum s))).setCell ⟨w1.heap.size + 1, 0, none⟩ (.int .i64 (Sp.monthDen s))).setCell ⟨w1.heap.size + 1 + 1, 0, none⟩ (.int .i64 0)) w1.heap.size 3 #[.int .i64 (Sp.monthNum s)] := by
    simpa using (((rN.ext hEE).set_ 0 (.int .i64 (Sp.monthNum s))).far (p := ⟨w1.heap.size + 1, 0, none⟩) (by simp) (.int .i64 (Sp.monthDen s))).far (p := ⟨w1.heap.size + 1 + 1, 0, none⟩) (by simp <;> omega) (.int .i64 0)
   have sD : Row (((W1.setCell ⟨w1.heap.size, 0, none⟩ (.int .i64 (Sp.monthNum s))).setCell ⟨w1.heap.size + 1, 0, none⟩ (.int .i64 (Sp.monthDen s))).setCell ⟨w1.heap.size + 1 + 1, 0, none⟩ (.int .i64 0)) (w1.heap.size + 1) 3 #[.int .i64 (Sp.monthDen s)] := by
    simpa using (((rD.ext hEE).far (p := ⟨w1.heap.size, 0, none⟩) (by simp) (.int .i64 (Sp.monthNum s))).set_ 0 (.int .i64 (Sp.monthDen s))).far (p := ⟨w1.heap.size + 1 + 1, 0, none⟩) (by simp <;> omega) (.int .i64 0)
   have hE4 : Ext w1 (((W1.setCell ⟨w1.heap.size, 0, none⟩ (.int .i64 (Sp.monthNum s))).setCell ⟨w1.heap.size + 1, 0, none⟩ (.int .i64 (Sp.monthDen s))).setCell ⟨w1.heap.size + 1 + 1, 0, none⟩ (.int .i64 0)) :=
    (((hE3.trans hEE).setCell (by simp) _).setCell (by simp) _).setCell (by simp; omega) _
   obtain ⟨W3, hW3⟩ : ∃ W3, ((W1.setCell ⟨w1.heap.size, 0, none⟩ (.int .i64 (Sp.monthNum s))).setCell ⟨w1.heap.size + 1, 0, none⟩ (.int .i64 (Sp.monthDen s))).setCell ⟨w1.heap.size + 1 + 1, 0, none⟩ (.int .i64 0) = W3 := ⟨_, rfl⟩
   rw [hW3] at sN sD hE4 ⊢
   have cN := sN.cell
   have cD := sD.cell
   have HE := Lib.hid (hE.trans hE4)
   clear hW3 hE3 rN rD rR hEE hE hE4 b0 W1
   obtain ⟨n, hn⟩ : ∃ n, Sp.monthNum s = n := ⟨_, rfl⟩
   obtain ⟨d, hd⟩ : ∃ d, Sp.monthDen s = d := ⟨_, rfl⟩
   obtain ⟨g, hgg⟩ : ∃ g, monthG s = g := ⟨_, rfl⟩
   have hgg' : ((Int.gcd n d : Nat) : Int) = g := by rw [← hn, ← hd]; exact hgg
   rw [hn, hd] at hb
   rw [hgg] at hg
   rw [hn] at cN
   rw [hd] at cD
   have HN := Lib.hid hn
   have HD := Lib.hid hd
   have HG := Lib.hid hgg
   have HG' := Lib.hid hgg'
   clear hn hd hgg hgg'
   have g0 : ¬ g = 0 := by omega
   have t1 : n.tdiv g = n / g := Int.tdiv_eq_ediv_of_nonneg (by omega)
   have t2 : d.tdiv g = d / g := Int.tdiv_eq_ediv_of_nonneg (by omega)
   have q1 : 0 ≤ n / g := Int.ediv_nonneg (by omega) (by omega)
   have q2 : 0 ≤ d / g := Int.ediv_nonneg (by omega) (by omega)
   have q3 : n / g ≤ n := Int.ediv_le_self _ (by omega)
   have q4 : d / g ≤ d := Int.ediv_le_self _ (by omega)
   go_wp2_with fail
   refine (gcd_any n d W3 (by omega) (by omega) (by omega) (by omega)).mono ?_
   rintro e W4 ⟨rfl, hE5⟩
   rw [HG'.out]
   replace cN := (sN.ext hE5).cell
   replace cD := (sD.ext hE5).cell
   rw [HN.out] at cN
   rw [HD.out] at cD
   go_wp2_with fail
   go_quiet (fail)
   go_wp2
   go_ret3
   exact ⟨by rw [HN.out, HD.out, HG.out]; rfl, (HE.out.trans hE5).drewN _⟩
  ·exact h0.elim
theorem MonthNo_ok (s : Sp.Sky) (A : Option Addr) (c : Nat) (w : World) (hm : Bodies w A s.bodies) (hl : Short s.bodies) (hmn : Sp.isMonth s = false) (c0 : Sp.skyOk s = true) :
  Calls Tryz.prog 118 #[.agg #[.slice A s.bodies.length c, .int .i64 s.nnum, .int .i64 s.nden, .int .i64 s.nstart]] w fun e w' => e = .returned (.tuple #[.int .i64 0, .int .i64 0, .int .i64 7]) ∧ Ext w w' := by
 have hl1 := hl.1
 have HL := Lib.hid hl
 have HM := Lib.hid hm
 clear hm hl
 go_enter Tryz.func118, Tryz.ntmps118
 go_wp2_with fail
 refine (isSky_any s A c _ (HM.out.ext ((Ext.refl w).alloc _)) HL.out).mono ?_
 rintro e w1 ⟨rfl, hE1⟩
 have hE := ((Ext.refl w).alloc _).trans hE1
 have hr : Row w1 w.heap.size 72 _ := (Row.new w _ _).ext hE1
 have b0 := hr.cell
 clear hE1
 have hmf : ∀ (fn : Fn) (first cap : Array Value) (w : World), (Instr.makeFunc fn first cap).run Tryz.prog w = .ok (.func fn first cap) w := fun _ _ _ _ => rfl
 have HK := Lib.hid (skyOk_iff.1 c0)
 have hE3 : Ext w1 (((w1.alloc (.cells #[.int .i64 0] 3)).alloc (.cells #[.int .i64 1] 3)).alloc (.cells #[.int .i64 0] 24)) := (((Ext.refl w1).alloc _).alloc _).alloc _
 have rN : Row (((w1.alloc (.cells #[.int .i64 0] 3)).alloc (.cells #[.int .i64 1] 3)).alloc (.cells #[.int .i64 0] 24)) w1.heap.size 3 #[.int .i64 0] := (blocks3 w1 _ _ _).1
 have rD : Row (((w1.alloc (.cells #[.int .i64 0] 3)).alloc (.cells #[.int .i64 1] 3)).alloc (.cells #[.int .i64 0] 24)) (w1.heap.size + 1) 3 #[.int .i64 1] := (blocks3 w1 _ _ _).2.1
 have rR : Row (((w1.alloc (.cells #[.int .i64 0] 3)).alloc (.cells #[.int .i64 1] 3)).alloc (.cells #[.int .i64 0] 24)) (w1.heap.size + 2) 24 #[.int .i64 0] := (blocks3 w1 _ _ _).2.2
 have hz := hr.lt
 go_wp2_with fail
 refine (try_any 143 _ 7 _ (fun _ => False) (fun w' => Ext (((w1.alloc (.cells #[.int .i64 0] 3)).alloc (.cells #[.int .i64 1] 3)).alloc (.cells #[.int .i64 0] 24)) w') (enters_of Tryz.func143 (by kernel_rfl) rfl)
  ((month1_no s A c w.heap.size _ _ _ HK.out (HM.out.ext (hE.trans hE3)) hmn (hr.ext hE3)).mono ?_)).mono ?_
 ·rintro e w' ⟨rfl, hEE⟩
  exact ⟨by simpa using rR.ext hEE, .inr ⟨rfl, hEE⟩⟩
 ·rintro e w' ⟨W1, ⟨h0, _⟩ | ⟨hEE, rfl, rfl⟩⟩
  ·exact h0.elim
  ·have HE := Lib.hid (hE.trans (((hE3.trans hEE).setCell (p := ⟨w1.heap.size + 1 + 1, 0, none⟩) (by simp; omega) (.int .i64 7)).alloc (.cells #[.int .i64 7] 221)))
   simp only [World.size_alloc]
   clear hE3 rN rD rR hEE hE b0
   go_wp2_with fail
   go_ret3
   exact ⟨rfl, HE.out⟩
end Go.Proofs.YtfkcbgehcbhjnaaGreatDoor
namespace Go.Proofs.YtfkcbgehcbhjnaaGreatDoor
open Sp (rd)
theorem dayMoons_mem (s : Sp.Sky) (d : Int) (x : Int × Bool) : x ∈ Sp.dayMoons s d ↔ x.1 = d ∧ Sp.moonB s d x.2 = true := by
 obtain ⟨e, f⟩ := x
 unfold Sp.dayMoons
 rw [List.mem_append]
 cases f <;> cases h1 : Sp.moonB s d false <;> cases h2 : Sp.moonB s d true <;> simp [*]
theorem moonsN_mem (s : Sp.Sky) (lo : Int) (k : Nat) (x : Int × Bool) : x ∈ Sp.moonsN s lo k ↔ lo ≤ x.1 ∧ x.1 < lo + k ∧ Sp.moonB s x.1 x.2 = true := by
 induction k with
 | zero => simp [Sp.moonsN]; omega
 | succ k ih =>
  rw [Sp.moonsN, List.mem_append, ih, dayMoons_mem]
  constructor
  ·rintro (⟨h1, h2, h3⟩ | ⟨h1, h2⟩)
   ·exact ⟨h1, by omega, h3⟩
   ·exact ⟨by omega, by omega, by rw [h1]; exact h2⟩
  ·rintro ⟨h1, h2, h3⟩
   by_cases e : x.1 = lo + (k : Int)
   ·exact .inr ⟨e, by rw [← e]; exact h3⟩
   ·exact .inl ⟨h1, by omega, h3⟩
theorem moonsL_mem (s : Sp.Sky) (lo hi : Int) (x : Int × Bool) : x ∈ Sp.moonsL s lo hi ↔ lo ≤ x.1 ∧ x.1 ≤ hi ∧ Sp.moonB s x.1 x.2 = true := by
 unfold Sp.moonsL
 rw [moonsN_mem]
 constructor <;> rintro ⟨h1, h2, h3⟩ <;> exact ⟨h1, by omega, h3⟩
theorem eclsOf_mem (s : Sp.Sky) (nw fl : Int) (l : List (Int × Bool)) (x : Sp.Ecl) : x ∈ Sp.eclsOf s nw fl l ↔ (x.day, x.full) ∈ l ∧ x.far = Sp.far s x.day ∧ Sp.far s x.day ≤ (if x.full then fl else nw) := by
 induction l with
 | nil => simp [Sp.eclsOf]
 | cons m l ih =>
  rw [Sp.eclsOf, List.mem_append, ih, List.mem_cons]
  obtain ⟨d, f⟩ := m
  obtain ⟨xd, xf, xr⟩ := x
  unfold Sp.eclOf
  dsimp only
  by_cases hc : Sp.far s d ≤ (if f = true then fl else nw)
  ·rw [if_pos hc]
   constructor
   ·rintro (h | ⟨h1, h2, h3⟩)
    ·simp only [List.mem_singleton, Sp.Ecl.mk.injEq] at h
     obtain ⟨rfl, rfl, rfl⟩ := h
     exact ⟨.inl rfl, rfl, hc⟩
    ·exact ⟨.inr h1, h2, h3⟩
   ·rintro ⟨h1 | h1, h2, h3⟩
    ·simp only [Prod.mk.injEq] at h1
     obtain ⟨rfl, rfl⟩ := h1
     exact .inl (by simp [h2])
    ·exact .inr ⟨h1, h2, h3⟩
  ·rw [if_neg hc]
   constructor
   ·rintro (h | ⟨h1, h2, h3⟩)
    ·cases h
    ·exact ⟨.inr h1, h2, h3⟩
   ·rintro ⟨h1 | h1, h2, h3⟩
    ·simp only [Prod.mk.injEq] at h1
     obtain ⟨rfl, rfl⟩ := h1
     exact absurd h3 hc
    ·exact .inr ⟨h1, h2, h3⟩
end Go.Proofs.YtfkcbgehcbhjnaaGreatDoor
namespace Go.Proofs.YtfkcbgehcbhjnaaGreatDoor
open Sp (rd)
end Go.Proofs.YtfkcbgehcbhjnaaGreatDoor
namespace Go.Proofs.YtfkcbgehcbhjnaaGreatDoor
open Sp (rd)
set_option linter.unusedSimpArgs false
set_option linter.unusedVariables false
namespace Ec
structure Pair where
 drives : Int
 driven : Int
structure Engine where
 sky : Sp.Sky
 sun : List Pair
 moon : List Pair
 node : List Pair
 feasts : List Int
 nw : Int
 fl : Int
 wide : Int
def noPair : Pair := ⟨0, 0⟩
def isTeeth (n : Int) : Bool := Sp.inR n 4 60
def pairOk (p : Pair) : Bool := isTeeth p.drives && isTeeth p.driven
def trainOk (l : List Pair) : Bool := Sp.inR l.length 1 3 && l.all pairOk
def risingN (l : List Int) (lo hi : Int) : Nat → Bool
 | 0 => true
 | k + 1 => risingN l lo hi k && (Sp.inR (rd l k) lo hi && (decide (k = 0) || decide (rd l (k - 1) < rd l k)))
def rising (l : List Int) (lo hi : Int) : Bool := risingN l lo hi l.length
def feastsOk (l : List Int) : Bool := rising l 1 10000 && decide (l.length ≤ 8)
def setOk (feasts set : List Int) : Bool := rising set 0 (feasts.length - 1)
def engineOk (e : Engine) : Bool :=
 (trainOk e.sun && (trainOk e.moon && trainOk e.node)) && ((Sp.skyOk e.sky && Sp.isMonth e.sky) && (feastsOk e.feasts && (Sp.isLimit e.nw && (Sp.isLimit e.fl && Sp.isLimit e.wide))))
def isDay (n : Int) : Bool := Sp.inR n 0 9000
def isSpan (lo hi : Int) : Bool := Sp.inR lo 1 9000 && (Sp.inR hi lo 9000 && decide (hi - lo ≤ 400))
def isLate (n : Int) : Bool := Sp.inR n 0 30
def drivesP (l : List Pair) : Int := l.foldl (fun n p => n * p.drives) 1
def drivenP (l : List Pair) : Int := l.foldl (fun n p => n * p.driven) 1
def turnsG (l : List Pair) : Int := Int.gcd (drivesP l) (drivenP l)
def turnsN (l : List Pair) : Int := drivesP l / turnsG l
def turnsD (l : List Pair) : Int := drivenP l / turnsG l
def feastOf (feasts set : List Int) (k : Nat) : Int := rd feasts (rd set k).toNat
def lastN (feasts set : List Int) (turn : Int) : Nat → Int
 | 0 => 0
 | k + 1 => if feastOf feasts set k ≤ turn then feastOf feasts set k else lastN feasts set turn k
def last (feasts set : List Int) (turn : Int) : Int := lastN feasts set turn set.length
def shown (l : List Pair) (num den : Int) (feasts set : List Int) (turn : Int) : Int :=
 (num * last feasts set turn * turnsD l + turnsN l * (turn - last feasts set turn) * den) % (turnsD l * den) * 21600 / (turnsD l * den)
def sunAt (e : Engine) (set : List Int) (day : Int) : Int := ((Sp.body e.sky 0).start + shown e.sun (Sp.body e.sky 0).den (Sp.body e.sky 0).num e.feasts set day) % 21600
def moonAt (e : Engine) (set : List Int) (day : Int) : Int := ((Sp.body e.sky 1).start + shown e.moon (Sp.body e.sky 1).den (Sp.body e.sky 1).num e.feasts set day) % 21600
def nodeAt (e : Engine) (set : List Int) (day : Int) : Int := (e.sky.nstart - shown e.node e.sky.nden e.sky.nnum e.feasts set day) % 21600
def near (n : Int) : Int := (n + 10800) % 21600 - 10800
def leadAt (e : Engine) (set : List Int) (day : Int) : Int := (moonAt e set day - sunAt e set day) % 21600
def crossB (a b : Int) (full : Bool) : Bool := decide (0 < near (b - a)) && decide (21600 ≤ (a - Sp.halfOf full) % 21600 + near (b - a))
def hasB (e : Engine) (set : List Int) (day : Int) (full : Bool) : Bool := crossB (leadAt e set (day - 1)) (leadAt e set day) full
def farAt (e : Engine) (set : List Int) (day : Int) : Int :=
 let n := (moonAt e set day - nodeAt e set day) % 21600 % 10800
 min n (10800 - n)
def limitOf (e : Engine) (full : Bool) : Int := if full then e.fl else e.nw
def foreB (e : Engine) (set : List Int) (day : Int) (full : Bool) : Bool := hasB e set day full && decide (farAt e set day ≤ limitOf e full + e.wide)
def foreD (e : Engine) (set : List Int) (d : Int) : List Sp.Ecl :=
 (if foreB e set d false then [⟨d, false, farAt e set d⟩] else []) ++ (if foreB e set d true then [⟨d, true, farAt e set d⟩] else [])
def foreN (e : Engine) (set : List Int) (lo : Int) : Nat → List Sp.Ecl
 | 0 => []
 | k + 1 => foreN e set lo k ++ foreD e set (lo + k)
def foreL (e : Engine) (set : List Int) (lo hi : Int) : List Sp.Ecl := foreN e set lo (hi + 1 - lo).toNat
def realL (e : Engine) (lo hi : Int) : List Sp.Ecl := Sp.ecls e.sky e.nw e.fl lo hi
def beside (l : List Sp.Ecl) (x : Sp.Ecl) (late : Int) : Bool := l.any fun y => (y.full == x.full) && (decide (x.day - late ≤ y.day) && decide (y.day ≤ x.day + late))
def without (l other : List Sp.Ecl) (late : Int) : List Sp.Ecl := l.filter fun x => !beside other x late
def toldB (e : Engine) (set : List Int) (x : Sp.Ecl) (late : Int) : Bool := (foreL e set (max 1 (x.day - late)) (x.day + late)).any fun y => y.full == x.full
def missedL (e : Engine) (set : List Int) (lo hi late : Int) : List Sp.Ecl := (realL e lo hi).filter fun x => !toldB e set x late
theorem rising_at {l : List Int} {lo hi : Int} {n : Nat} (h : risingN l lo hi n = true) : ∀ k, k < n → (lo ≤ rd l k ∧ rd l k ≤ hi) ∧ (0 < k → rd l (k - 1) < rd l k) := by
 induction n with
 | zero => intro k hk; omega
 | succ n ih =>
  simp only [risingN, Bool.and_eq_true, Bool.or_eq_true, decide_eq_true_eq] at h
  intro k hk
  rcases Nat.lt_or_ge k n with h1 | h1
  ·exact ih h.1 k h1
  ·obtain rfl : k = n := by omega
   exact ⟨inR_iff.1 h.2.1, fun h0 => by rcases h.2.2 with e | e; exact absurd e (by omega); exact e⟩
theorem ecls_mem (s : Sp.Sky) (nw fl lo hi : Int) (x : Sp.Ecl) : x ∈ Sp.ecls s nw fl lo hi ↔ lo ≤ x.day ∧ x.day ≤ hi ∧ Sp.moonB s x.day x.full = true ∧ x.far = Sp.far s x.day ∧ Sp.far s x.day ≤ (if x.full then fl else nw) := by
 unfold Sp.ecls
 rw [eclsOf_mem, moonsL_mem]
 constructor
 ·rintro ⟨⟨h1, h2, h3⟩, h4, h5⟩; exact ⟨h1, h2, h3, h4, h5⟩
 ·rintro ⟨h1, h2, h3, h4, h5⟩; exact ⟨⟨h1, h2, h3⟩, h4, h5⟩
theorem missed_mem (e : Engine) (set : List Int) (lo hi late : Int) (x : Sp.Ecl) : x ∈ missedL e set lo hi late ↔ x ∈ realL e lo hi ∧ toldB e set x late = false := by
 unfold missedL
 rw [List.mem_filter]
 simp
end Ec
end Go.Proofs.YtfkcbgehcbhjnaaGreatDoor
