/- Volume 2 of the texts that the laws of this seat use: V05 V07E V08 EcTurns EcTrain EcTurns2: walks of the program's functions, and plain laws. -/
import Derived.Recover
import Derived.Defers
import Derived.Deep.DrawnRows
import Derived.Deep.RegionHeld3
import Derived.Test.YtimkmokomohgjaaGreatT01
namespace Go.Proofs.YtimkmokomohgjaaGreat
open Go.RowKit
open Sp (rd)
theorem info_moon : (Tryz.prog.info? 45).map (fun i => (i.zero, i.size, i.bytes)) = some (some (.agg #[.int .i64 0, .bool false]), 2, 16) := by kernel_rfl
def moonCells (l : List (Int × Bool)) : List Value := l.flatMap fun m => [.int .i64 m.1, .bool m.2]
theorem moonCells_append (l m : List (Int × Bool)) : moonCells (l ++ m) = moonCells l ++ moonCells m := by simp [moonCells]
abbrev moonsOut (w : World) (base bO : Nat) (v : Value) (l : List (Int × Bool)) : Prop := Out w base bO 41 45 2 v l.length (moonCells l)
theorem grown_row {w w' : World} {row : Option Nat} (hg : w.grownBy w' row) {g : Nat} {t : TypeId} {cs : Array Value} (h : Row w g t cs) (hne : row ≠ some g) : Row w' g t cs := (hg.block g h.lt (Ne.symm hne)).trans h
theorem grown_cell {w w' : World} {row : Option Nat} (hg : w.grownBy w' row) {g : Nat} {t : TypeId} {cs : Array Value} (h : Row w g t cs) (hne : row ≠ some g) (i : Nat) : w'.cell? ⟨g, i, none⟩ = cs[i]? := (grown_row hg h hne).cell i
theorem grown_free {w w' : World} {row : Option Nat} (hg : w.grownBy w' row) {g : Nat} {t : TypeId} {cs : Array Value} (h : Row w g t cs) (hne : row ≠ some g) (i : Nat) : w'.frozen? ⟨g, i, none⟩ = false := (grown_row hg h hne).free i
theorem full_new (w : World) : Calls Tryz.prog 229 #[.agg #[]] w fun e w' => e = .returned (.bool false) ∧ Ext w w' := by
  go_enter Tryz.func229, Tryz.ntmps229
  go_wp2_with fail
  go_ret
  exact ⟨rfl, (Ext.refl _).alloc _⟩
theorem full_full (w : World) : Calls Tryz.prog 228 #[.agg #[]] w fun e w' => e = .returned (.bool true) ∧ Ext w w' := by
  go_enter Tryz.func228, Tryz.ntmps228
  go_wp2_with fail
  go_ret
  exact ⟨rfl, (Ext.refl _).alloc _⟩
set_option maxRecDepth 100000 in
theorem look_new (base bX bO : Nat) (s : Sp.Sky) (A : Option Addr) (c : Nat) (day : Int) (w : World) (hs : SkyOk s) (hm : Bodies w A s.bodies) (h2 : 1 ≤ day) (h3 : day ≤ 20000)
    (hX : Row w bX 115 #[.slice A s.bodies.length c, .int .i64 s.nnum, .int .i64 s.nden, .int .i64 s.nstart, .int .i64 day]) (v : Value) (l : List (Int × Bool)) (hO : moonsOut w base bO v l)
    (hbase : base ≤ w.heap.size) (hl : l.length ≤ 2000) :
    Calls Tryz.prog 109 #[.iface 181 (.agg #[]), .pointer (some ⟨bX, 0, none⟩), .pointer (some ⟨bO, 0, none⟩)] w fun e w' => e = .returned (.tuple #[]) ∧ ∃ v', moonsOut w' base bO v' (l ++ if Sp.moonB s day false then [(day, false)] else []) ∧ Push bO v v' w w' := by
  obtain ⟨i0, hi0, hz0, hz1, hz2⟩ := info_parts info_moon
  have cX := hX.cell
  cases hb : Sp.moonB s day false
  · go_enter Tryz.func109, Tryz.ntmps109
    go_wp2_with fail
    refine (hasNew s A c day _ hs hm h2 h3).mono ?_
    rintro e w1 ⟨rfl, hE⟩
    have HE := Lib.hid hE
    clear hE
    rw [hb]
    go_wp2_with fail
    go_end0
    exact ⟨rfl, v, by simpa using hO.ext HE.out, Push.of_ext HE.out⟩
  · go_enter Tryz.func109, Tryz.ntmps109
    go_wp2_with fail
    refine (hasNew s A c day _ hs hm h2 h3).mono ?_
    rintro e w1 ⟨rfl, hE⟩
    replace hO := hO.ext hE
    replace hX := hX.ext hE
    have hP := Push.of_ext (bO := bO) (v := v) hE
    replace hbase : base ≤ w1.heap.size := Nat.le_trans hbase hE.size
    clear hE cX
    rw [hb]
    go_wp2_with fail
    refine wp_region_later_mix (v0 := v) 6 (by kernel_rfl) (by kernel_rfl) rfl rfl (by kernel_rfl) ?_ (fun W hW => ?_)
    · intro x
      have c2 := (hO.box.ext x.ext).cell 0
      simp only [List.getElem?_toArray, List.getElem?_cons_zero] at c2
      simp [go_sem, c2]
    have q1 := Later.block (w := W) (by rw [hW]; exact hX)
    have q2 := Later.block (w := W) (by rw [hW]; exact hO.box)
    simp only [List.take_succ_cons, List.take_zero, List.drop_succ_cons, List.drop_zero, Act.put, List.setIfInBounds_toArray, List.set_cons_succ, List.set_cons_zero]
    have hn : ∀ w, (nilAhead 378 181 (.agg #[]) "tellurion/sky.full").run Tryz.prog w = .ok (some false) w := fun _ => by kernel_rfl
    have hn' : ∀ w, (method 378 181 (.agg #[]) "tellurion/sky.full").run Tryz.prog w = .ok (229, .agg #[]) w := fun _ => by kernel_rfl
    repeat (go_big_quiet_step ((exact Later.call (full_new _))))
    refine wpQuiet_nil ?_
    intro x
    go_wp2
    refine ⟨⟨⟨_, x.ext.alloc _⟩, rfl⟩, ?_⟩
    subst hW
    replace hbase : base ≤ x.world.heap.size := Nat.le_trans hbase x.ext.size
    have hO2 := (hO.ext x.ext).ext ((Ext.refl _).alloc (.cells #[.int .i64 day, .bool false] 45))
    refine wpList_append_lies _ rfl _ _ _ rfl base 45 i0 _ 2 16 Tryz.underlying41 hi0 hz0 hz1 hz2 rfl (by omega) v l.length (moonCells l) rfl hO2.own
      ⟨x.world.heap.size, 0, none⟩ 1 1 [.int .i64 day, .bool false] rfl rfl (World.news_of_block (cs := #[.int .i64 day, .bool false]) (t := 45) (fr := (0, 0)) (heap_alloc_new _ _)) (by simp [Value.oneCell'])
      (by omega) (by simp only [maxLen]; omega) (by omega) (by simp; omega) _ rfl ?_
    intro gg cap w3 hown1 hgrow hat hlt
    have hc3 := grown_cell hgrow hO2.box hO2.ne 0
    have hf3 := grown_free hgrow hO2.box hO2.ne 0
    simp only [List.getElem?_toArray, List.getElem?_cons_zero] at hc3
    have hpush := hO2.pushed (Ext.refl _) hown1 hgrow hat
    have hP2 := (hP.trans (Push.of_ext x.ext)).trans (Push.of_ext ((Ext.refl _).alloc (.cells #[.int .i64 day, .bool false] 45)))
    clear q1 q2 hO2 hO hX hgrow hown1 hP
    go_wp2
    refine NoPanic.normal ?_
    go_end0
    exact ⟨rfl, _, by simpa [moonsOut, moonCells_append, moonCells] using hpush.1, hP2.trans hpush.2⟩
set_option maxRecDepth 100000 in
theorem look_full (base bX bO : Nat) (s : Sp.Sky) (A : Option Addr) (c : Nat) (day : Int) (w : World) (hs : SkyOk s) (hm : Bodies w A s.bodies) (h2 : 1 ≤ day) (h3 : day ≤ 20000)
    (hX : Row w bX 115 #[.slice A s.bodies.length c, .int .i64 s.nnum, .int .i64 s.nden, .int .i64 s.nstart, .int .i64 day]) (v : Value) (l : List (Int × Bool)) (hO : moonsOut w base bO v l)
    (hbase : base ≤ w.heap.size) (hl : l.length ≤ 2000) :
    Calls Tryz.prog 109 #[.iface 179 (.agg #[]), .pointer (some ⟨bX, 0, none⟩), .pointer (some ⟨bO, 0, none⟩)] w fun e w' => e = .returned (.tuple #[]) ∧ ∃ v', moonsOut w' base bO v' (l ++ if Sp.moonB s day true then [(day, true)] else []) ∧ Push bO v v' w w' := by
  obtain ⟨i0, hi0, hz0, hz1, hz2⟩ := info_parts info_moon
  have cX := hX.cell
  cases hb : Sp.moonB s day true
  · go_enter Tryz.func109, Tryz.ntmps109
    go_wp2_with fail
    refine (hasFull s A c day _ hs hm h2 h3).mono ?_
    rintro e w1 ⟨rfl, hE⟩
    have HE := Lib.hid hE
    clear hE
    rw [hb]
    go_wp2_with fail
    go_end0
    exact ⟨rfl, v, by simpa using hO.ext HE.out, Push.of_ext HE.out⟩
  · go_enter Tryz.func109, Tryz.ntmps109
    go_wp2_with fail
    refine (hasFull s A c day _ hs hm h2 h3).mono ?_
    rintro e w1 ⟨rfl, hE⟩
    replace hO := hO.ext hE
    replace hX := hX.ext hE
    have hP := Push.of_ext (bO := bO) (v := v) hE
    replace hbase : base ≤ w1.heap.size := Nat.le_trans hbase hE.size
    clear hE cX
    rw [hb]
    go_wp2_with fail
    refine wp_region_later_mix (v0 := v) 6 (by kernel_rfl) (by kernel_rfl) rfl rfl (by kernel_rfl) ?_ (fun W hW => ?_)
    · intro x
      have c2 := (hO.box.ext x.ext).cell 0
      simp only [List.getElem?_toArray, List.getElem?_cons_zero] at c2
      simp [go_sem, c2]
    have q1 := Later.block (w := W) (by rw [hW]; exact hX)
    have q2 := Later.block (w := W) (by rw [hW]; exact hO.box)
    simp only [List.take_succ_cons, List.take_zero, List.drop_succ_cons, List.drop_zero, Act.put, List.setIfInBounds_toArray, List.set_cons_succ, List.set_cons_zero]
    have hn : ∀ w, (nilAhead 378 179 (.agg #[]) "tellurion/sky.full").run Tryz.prog w = .ok (some false) w := fun _ => by kernel_rfl
    have hn' : ∀ w, (method 378 179 (.agg #[]) "tellurion/sky.full").run Tryz.prog w = .ok (228, .agg #[]) w := fun _ => by kernel_rfl
    repeat (go_big_quiet_step ((exact Later.call (full_full _))))
    refine wpQuiet_nil ?_
    intro x
    go_wp2
    refine ⟨⟨⟨_, x.ext.alloc _⟩, rfl⟩, ?_⟩
    subst hW
    replace hbase : base ≤ x.world.heap.size := Nat.le_trans hbase x.ext.size
    have hO2 := (hO.ext x.ext).ext ((Ext.refl _).alloc (.cells #[.int .i64 day, .bool true] 45))
    refine wpList_append_lies _ rfl _ _ _ rfl base 45 i0 _ 2 16 Tryz.underlying41 hi0 hz0 hz1 hz2 rfl (by omega) v l.length (moonCells l) rfl hO2.own
      ⟨x.world.heap.size, 0, none⟩ 1 1 [.int .i64 day, .bool true] rfl rfl (World.news_of_block (cs := #[.int .i64 day, .bool true]) (t := 45) (fr := (0, 0)) (heap_alloc_new _ _)) (by simp [Value.oneCell'])
      (by omega) (by simp only [maxLen]; omega) (by omega) (by simp; omega) _ rfl ?_
    intro gg cap w3 hown1 hgrow hat hlt
    have hc3 := grown_cell hgrow hO2.box hO2.ne 0
    have hf3 := grown_free hgrow hO2.box hO2.ne 0
    simp only [List.getElem?_toArray, List.getElem?_cons_zero] at hc3
    have hpush := hO2.pushed (Ext.refl _) hown1 hgrow hat
    have hP2 := (hP.trans (Push.of_ext x.ext)).trans (Push.of_ext ((Ext.refl _).alloc (.cells #[.int .i64 day, .bool true] 45)))
    clear q1 q2 hO2 hO hX hgrow hown1 hP
    go_wp2
    refine NoPanic.normal ?_
    go_end0
    exact ⟨rfl, _, by simpa [moonsOut, moonCells_append, moonCells] using hpush.1, hP2.trans hpush.2⟩
end Go.Proofs.YtimkmokomohgjaaGreat
namespace Go.Proofs.YtimkmokomohgjaaGreat
open Go.RowKit Go.Shelf
open Sp (rd)
attribute [local go_sem] Oper.semAt_some
/-- The world behind the call of days. -/
def daysW (A : Option Addr) (n c : Nat) (s : Sp.Sky) (lo hi : Int) (w : World) : World :=
  ((w.alloc (.cells #[.slice A n c, .int .i64 s.nnum, .int .i64 s.nden, .int .i64 s.nstart] 28)).alloc (.cells #[.int .i64 lo] 3)).alloc (.cells #[.int .i64 hi] 3)
theorem daysW_size (A : Option Addr) (n c : Nat) (s : Sp.Sky) (lo hi : Int) (w : World) : (daysW A n c s lo hi w).heap.size = w.heap.size + 3 := by simp [daysW]
theorem daysW_ext (A : Option Addr) (n c : Nat) (s : Sp.Sky) (lo hi : Int) (w : World) : Ext w (daysW A n c s lo hi w) := (((Ext.refl w).alloc _).alloc _).alloc _
theorem daysW_S (A : Option Addr) (n c : Nat) (s : Sp.Sky) (lo hi : Int) (w : World) : Row (daysW A n c s lo hi w) w.heap.size 28 #[.slice A n c, .int .i64 s.nnum, .int .i64 s.nden, .int .i64 s.nstart] := (blocks3 w _ _ _).1
theorem daysW_F (A : Option Addr) (n c : Nat) (s : Sp.Sky) (lo hi : Int) (w : World) : Row (daysW A n c s lo hi w) (w.heap.size + 1) 3 #[.int .i64 lo] := (blocks3 w _ _ _).2.1
theorem daysW_T (A : Option Addr) (n c : Nat) (s : Sp.Sky) (lo hi : Int) (w : World) : Row (daysW A n c s lo hi w) (w.heap.size + 2) 3 #[.int .i64 hi] := (blocks3 w _ _ _).2.2
attribute [irreducible] daysW
def daysV (b : Nat) : Value := .func (.func 103) #[] #[.pointer (some ⟨b + 1, 0, none⟩), .pointer (some ⟨b + 2, 0, none⟩), .pointer (some ⟨b, 0, none⟩)]
theorem days_any (A : Option Addr) (n c : Nat) (s : Sp.Sky) (lo hi : Int) (w : World) :
    Calls Tryz.prog 48 #[.agg #[.slice A n c, .int .i64 s.nnum, .int .i64 s.nden, .int .i64 s.nstart], .int .i64 lo, .int .i64 hi] w fun e w' => e = .returned (daysV w.heap.size) ∧ w' = daysW A n c s lo hi w := by
  have hmf : ∀ fn first cap w, (Instr.makeFunc fn first cap).run Tryz.prog w = .ok (.func fn first cap) w := fun _ _ _ _ => rfl
  go_enter Tryz.func48, Tryz.ntmps48
  go_wp2_with fail
  go_ret
  exact ⟨rfl, by unfold daysW; rfl⟩
def DaysAll (lo hi : Int) (xs : List Day1) : Prop := xs.map Subtype.val = daysL lo (hi + 1 - lo).toNat
def DaysSome (lo hi : Int) (pre : List Day1) : Prop := ∃ k, k ≤ (hi + 1 - lo).toNat ∧ pre.map Subtype.val = daysL lo k
theorem days_stops (n : Nat) (hn : 1 ≤ n) (A : Option Addr) (m c : Nat) (s : Sp.Sky) (lo hi : Int) (h1 : 1 ≤ lo) (h2 : hi ≤ 20000) (b : Nat) (w : World) (hS : Row w b 28 #[.slice A m c, .int .i64 s.nnum, .int .i64 s.nden, .int .i64 s.nstart])
    (hF : Row w (b + 1) 3 #[.int .i64 lo]) (hT : Row w (b + 2) 3 #[.int .i64 hi]) :
    SeqStopsK Fence.wide n Tryz.prog 103 #[.pointer (some ⟨b + 1, 0, none⟩), .pointer (some ⟨b + 2, 0, none⟩), .pointer (some ⟨b, 0, none⟩)] (fun x : Day1 => #[skyV A m c s x.1]) (KeepsTwo (b + 2) b) (DaysAll lo hi) (DaysSome lo hi) (hi + 1 - lo).toNat w := fun l J Jx W hW _ _ hY h0 =>
  days1_in n hn l (b + 1) (b + 2) b A m c s lo hi J Jx h1 h2 hY W (hF.ext hW) (hT.ext hW) (hS.ext hW) h0
theorem keepsTwo_t (bT bS : Nat) {A B C : World} (h : KeepsTwo bT bS A B) (k : KeepsTwo bT bS B C) : KeepsTwo bT bS A C := ⟨k.1.trans h.1, k.2.trans h.2⟩
theorem keepsTwo_b {bT bS B : Nat} (h1 : bT < B) (h2 : bS < B) (W : World) (l : Nat) (_o o' : Obj) (hl : B ≤ l) (_ : W.heap[l]? = some _o) (_ : _o.isCells = false) (_ : _o.isWalk = false) : KeepsTwo bT bS W (W.putObj l o') :=
  ⟨World.putObj_heap_other (by omega), World.putObj_heap_other (by omega)⟩
/-- What is cells is no loop's record. -/
theorem row_ne_of_other {W : World} {g : Nat} {t : TypeId} {cs : Array Value} (h : Row W g t cs) {row : Option Nat} (hrow : ∀ r, row = some r → ∃ o : Obj, W.heap[r]? = some o ∧ o.isCells = false) : some g ≠ row := by
  intro e
  obtain ⟨o, ho, hc⟩ := hrow g e.symm
  unfold Row at h
  rw [h] at ho; cases ho; cases hc
theorem Row.kept {W W' : World} {g : Nat} {t : TypeId} {cs : Array Value} (h : Row W g t cs) {row : Option Nat} (hg : W.grownBy W' row) (hrow : ∀ r, row = some r → ∃ o : Obj, W.heap[r]? = some o ∧ o.isCells = false) : Row W' g t cs :=
  (hg.block g h.lt (row_ne_of_other h hrow)).trans h
theorem own_ne_of_other {W : World} {base : Nat} {e : TypeId} {size : Nat} {v : Value} {n : Nat} {xs : List Value} (h : W.ownsRow base e size v n xs) {row : Option Nat} (hrow : ∀ r, row = some r → ∃ o : Obj, W.heap[r]? = some o ∧ o.isCells = false) {k : Nat} (hk : v.ownBlock = some k) : some k ≠ row := by
  intro e'
  obtain ⟨o, ho, hc⟩ := hrow k e'.symm
  rcases h.2 with ⟨rfl, _⟩ | ⟨g, cap, cur, rfl, _, hh, _⟩
  · cases hk
  · simp only [Value.ownBlock, Option.some.injEq] at hk
    subst hk
    rw [hh] at ho; cases ho; cases hc
theorem Out.kept {W W' : World} {base bO : Nat} {ty e : TypeId} {size : Nat} {v : Value} {n : Nat} {xs : List Value} (h : Out W base bO ty e size v n xs) {row : Option Nat} (hg : W.grownBy W' row) (hrow : ∀ r, row = some r → ∃ o : Obj, W.heap[r]? = some o ∧ o.isCells = false) : Out W' base bO ty e size v n xs :=
  ⟨h.box.kept hg hrow, ownsRow_of_block h.own fun k hk => hg.block k (h.own.lt k hk).2 (own_ne_of_other h.own hrow hk), h.ne⟩
/-- A row of another type is not the list's own. -/
theorem Out.far {W : World} {base bO : Nat} {ty e : TypeId} {size : Nat} {v : Value} {n : Nat} {xs : List Value} (h : Out W base bO ty e size v n xs) {g : Nat} {t : TypeId} {cs : Array Value} (hr : Row W g t cs) (ht : t ≠ e) : v.ownBlock ≠ some g := by
  rcases h.own.2 with ⟨rfl, _⟩ | ⟨g', cap, cur, rfl, _, hh, _⟩
  · simp [Value.ownBlock]
  · simp only [Value.ownBlock, ne_eq, Option.some.injEq]
    rintro rfl
    unfold Row at hr
    rw [hr] at hh; cases hh; exact ht rfl
theorem Out.nbox {W : World} {base bO : Nat} {ty e : TypeId} {size : Nat} {v : Value} {n : Nat} {xs : List Value} (h : Out W base bO ty e size v n xs) {g : Nat} {t : TypeId} {cs : Array Value} (hr : Row W g t cs) (ht : t ≠ ty) : g ≠ bO := by
  rintro rfl
  have hb := h.box
  unfold Row at hr hb
  rw [hr] at hb; cases hb; exact ht rfl
/-- What a push leaves is enough for a round. -/
theorem Push.keepsFrom {W W' : World} {base bO : Nat} {ty e : TypeId} {size : Nat} {v v' : Value} {n : Nat} {xs : List Value} (h : Out W base bO ty e size v n xs) (hp : Push bO v v' W W') (B : Nat) : KeepsFrom B W W' := by
  refine ⟨hp.size, fun k o _ hk hc => ?_⟩
  have h1 : k ≠ bO := by
    rintro rfl
    have hb := h.box
    unfold Row at hb
    rw [hb] at hk; cases hk; cases hc
  have h2 : v.ownBlock ≠ some k := by
    rcases h.own.2 with ⟨rfl, _⟩ | ⟨g', cap, cur, rfl, _, hh, _⟩
    · simp [Value.ownBlock]
    · simp only [Value.ownBlock, ne_eq, Option.some.injEq]
      rintro rfl
      rw [hh] at hk; cases hk; cases hc
  exact (hp.block k (Array.getElem?_eq_some_iff.1 hk).1 h1 h2).1.trans hk
/-- What lies below the list's rows and is not its box is as it was. -/
theorem Push.old {W W' : World} {base bO : Nat} {ty e : TypeId} {size : Nat} {v v' : Value} {n : Nat} {xs : List Value} (h : Out W base bO ty e size v n xs) (hp : Push bO v v' W W') {k : Nat} (hk : k < base) (hl : base ≤ W.heap.size) (hb : k ≠ bO) : W'.heap[k]? = W.heap[k]? :=
  (hp.block k (by omega) hb (fun e => by have := (h.own.lt k e).1; omega)).1
theorem Push.below {W W' : World} {base bO : Nat} {ty e : TypeId} {size : Nat} {v v' : Value} {n : Nat} {xs : List Value} (h : Out W base bO ty e size v n xs) (hp : Push bO v v' W W') {N : Nat} (hk : N ≤ bO) (hl : bO ≤ base) (hl' : base ≤ W.heap.size) : Below N W W' :=
  ⟨hp.os, hp.tape, hp.output, hp.size, fun k hk' => Push.old h hp (by omega) hl' (by omega)⟩
end Go.Proofs.YtimkmokomohgjaaGreat
namespace Go.Proofs.YtimkmokomohgjaaGreat
open Go.RowKit Go.Shelf
open Sp (rd)
attribute [local go_sem] Oper.semAt_some
def MoonsI (w : World) (s : Sp.Sky) (pre : List Day1) (W : World) : Prop := (∃ v, moonsOut W (w.heap.size + 5) (w.heap.size + 1) v (pre.flatMap fun x => Sp.dayMoons s x.1)) ∧ (Below w.heap.size w W ∧ w.heap.size + 5 ≤ W.heap.size)
theorem moonsI_own (w : World) (s : Sp.Sky) (B : Nat) (hB : w.heap.size ≤ B) : OwnFrom B (MoonsI w s) := fun _ _ _ _ ⟨⟨v, h⟩, hb, hz⟩ hg hr =>
  ⟨⟨v, h.kept hg fun r e => (hr r e).2⟩, hb.grown hg hb.size (fun k e => Nat.le_trans hB (hr k e).1), Nat.le_trans hz hg.size⟩
theorem moons_le (s : Sp.Sky) (pre : List Day1) : (pre.flatMap fun x => Sp.dayMoons s x.1).length ≤ 2 * pre.length := by
  induction pre with
  | nil => simp
  | cons x l ih =>
    simp only [List.flatMap_cons, List.length_append, List.length_cons]
    have : (Sp.dayMoons s x.1).length ≤ 2 := by
      unfold Sp.dayMoons
      split <;> split <;> simp
    omega
theorem moonsN_flat (s : Sp.Sky) (lo : Int) (k : Nat) : (daysL lo k).flatMap (Sp.dayMoons s) = Sp.moonsN s lo k := by
  induction k with
  | zero => simp [daysL, Sp.moonsN]
  | succ k ih => rw [daysL_succ, List.flatMap_append, ih]; simp [Sp.moonsN]
theorem moons_all (s : Sp.Sky) (lo hi : Int) (xs : List Day1) (h : DaysAll lo hi xs) : (xs.flatMap fun x => Sp.dayMoons s x.1) = Sp.moonsL s lo hi := by
  unfold DaysAll at h
  unfold Sp.moonsL
  rw [← moonsN_flat, ← h, List.flatMap_map]
theorem Ext.trans' {w w1 w2 : World} (h : Ext w w1) (k : Below w.heap.size w1 w2) : Ext w w2 := Below.trans h k
set_option maxRecDepth 100000 in
set_option maxHeartbeats 400000 in
theorem moons_in (n : Nat) (hn : 6 ≤ n) (s : Sp.Sky) (A : Option Addr) (c : Nat) (lo hi : Int) (w : World) (hs : SkyOk s) (hm : Bodies w A s.bodies) (h1 : 1 ≤ lo) (h2 : hi ≤ 20000) (h3 : hi - lo ≤ 800) :
    CallsIn Fence.wide n Tryz.prog 55 #[.agg #[.slice A s.bodies.length c, .int .i64 s.nnum, .int .i64 s.nden, .int .i64 s.nstart], .int .i64 lo, .int .i64 hi] w fun e w' =>
      ∃ v base, e = .returned v ∧ w.heap.size < base ∧ w'.ownsRow base 45 2 v (Sp.moonsL s lo hi).length (moonCells (Sp.moonsL s lo hi)) ∧ Ext w w' := by
  have hmf : ∀ fn first cap w, (Instr.makeFunc fn first cap).run Tryz.prog w = .ok (.func fn first cap) w := fun _ _ _ _ => rfl
  refine callsIn_of_wp_marks Tryz.func55 rfl trivial ?_ rfl
  simp only [Tryz.ntmps55, List.size_toArray, List.length_cons, List.length_nil, Nat.reduceAdd, Nat.reduceSub, Array.replicate_succ, Array.replicate_zero, List.push_toArray, List.append_toArray, List.nil_append, List.cons_append]
  gi_wp2
  refine ⟨trivial, fun _ => by omega, (callsIn_wide.2 (days_any A _ c s lo hi _)).mono ?_⟩
  rintro e w' ⟨rfl, rfl⟩
  gi_wp2
  have bO := (Out.new (w.alloc (.cells #[.slice A s.bodies.length c, .int .i64 s.nnum, .int .i64 s.nden, .int .i64 s.nstart] 28)) (w.heap.size + 5) 41 45 2)
  have hE : Ext w ((w.alloc (.cells #[.slice A s.bodies.length c, .int .i64 s.nnum, .int .i64 s.nden, .int .i64 s.nstart] 28)).alloc (.cells #[.slice none 0 0] 41)) := ((Ext.refl w).alloc _).alloc _
  obtain ⟨W1, hW1⟩ : ∃ W1, (w.alloc (.cells #[.slice A s.bodies.length c, .int .i64 s.nnum, .int .i64 s.nden, .int .i64 s.nstart] 28)).alloc (.cells #[.slice none 0 0] 41) = W1 := ⟨_, rfl⟩
  have hsz1 : W1.heap.size = w.heap.size + 1 + 1 := by rw [← hW1]; simp
  rw [hW1] at bO hE ⊢
  clear hW1
  simp only [World.size_alloc] at bO
  have rS := daysW_S A s.bodies.length c s lo hi W1
  have rF := daysW_F A s.bodies.length c s lo hi W1
  have rT := daysW_T A s.bodies.length c s lo hi W1
  have hsz := daysW_size A s.bodies.length c s lo hi W1
  replace bO := bO.ext (daysW_ext A s.bodies.length c s lo hi W1)
  replace hE := hE.trans (daysW_ext A s.bodies.length c s lo hi W1)
  obtain ⟨W0, hW0⟩ : ∃ W0, daysW A s.bodies.length c s lo hi W1 = W0 := ⟨_, rfl⟩
  rw [hW0] at bO hE rS rF rT hsz ⊢
  clear hW0
  rw [hsz1] at rS rF rT hsz
  have HM := Lib.hid hm
  have HS := Lib.hid hs
  clear hm hs
  refine wpIn_rangeFunc_ownH rfl (by omega) (gf := 103) (lb := #[.pointer (some ⟨w.heap.size + 1 + 1 + 1, 0, none⟩), .pointer (some ⟨w.heap.size + 1 + 1 + 2, 0, none⟩), .pointer (some ⟨w.heap.size + 1 + 1, 0, none⟩)]) rfl trivial (enters_of Tryz.func103 (by kernel_rfl) rfl)
    (days_stops (n - 1) (by omega) A s.bodies.length c s lo hi h1 h2 (w.heap.size + 1 + 1) W0 rS rF rT) (fun h k => keepsTwo_t _ _ h k) (keepsTwo_b (by omega) (by omega)) (Below.refl _ _) (fun _ => rfl)
    (MoonsI w s)
    (fun _ _ _ => False)
    (moonsI_own w s _ (by omega))
    (fun _ _ _ _ _ hs _ _ => hs)
    ⟨⟨_, bO⟩, hE, by omega⟩
    (fun x a' W => ∃ Bx, Row W Bx 115 #[.slice A s.bodies.length c, .int .i64 s.nnum, .int .i64 s.nden, .int .i64 s.nstart, .int .i64 x.1] ∧ a' = (⟨#[.agg #[.slice A s.bodies.length c, .int .i64 s.nnum, .int .i64 s.nden, .int .i64 s.nstart], .int .i64 lo, .int .i64 hi, .pointer (some ⟨w.heap.size, 0, none⟩), undef, undef, .slice none 0 0, .pointer (some ⟨w.heap.size + 1, 0, none⟩), .pointer (some ⟨Bx, 0, none⟩), undef, .agg #[.slice A s.bodies.length c, .int .i64 s.nnum, .int .i64 s.nden, .int .i64 s.nstart], .int .i64 lo, .int .i64 hi, daysV (w.heap.size + 1 + 1), (.agg #[.slice A s.bodies.length c, .int .i64 s.nnum, .int .i64 s.nden, .int .i64 s.nstart, .int .i64 x.1]), undef, undef, undef, undef, undef, undef, undef, undef, undef, undef], []⟩ : Act))
    (fun x a' _ X Y row hs hg hr => by obtain ⟨Bx, h1, h2⟩ := hs; exact ⟨Bx, h1.kept hg fun r e => (hr r e).2, h2⟩)
    ?assign ?body ?done ?stop
  case assign =>
    rintro l pre x W K hi hK
    simp only [skyV]
    gi_wp2
    obtain ⟨⟨v, hO⟩, hB, hz⟩ := hi
    exact hK _ _ ((KeepsOthers.alloc _ _).from _) ⟨Below.heap_alloc _ _ _ (by omega), Below.heap_alloc _ _ _ (by omega)⟩ ⟨⟨v, hO.ext ((Ext.refl _).alloc _)⟩, hB.alloc hB.size _, by simp; omega⟩ ⟨_, Row.new _ _ _, rfl⟩
  case body =>
    rintro l pre x a' W hl ⟨r, hr⟩ ⟨⟨v, hO⟩, hB, hz⟩ ⟨Bx, rX, rfl⟩ hlt
    have hl2 := moons_le s pre
    have hx := x.2
    have hne1 := hO.nbox rX (by decide)
    have hne2 := hO.far rX (by decide)
    have hE1 : Ext w W := hB
    have HE := Lib.hid hE1
    have hlen : pre.length < 801 := by omega
    clear hE1 hB
    gi_wp2
    refine ⟨trivial, fun _ => by omega, CallsIn.inRound l ((callsIn_wide.2 (look_new (w.heap.size + 5) Bx (w.heap.size + 1) s A c x.1 W HS.out (HM.out.ext HE.out) hx.1 hx.2 rX v _ hO hz (by omega))).mono ?_)⟩
    rintro e W2 ⟨rfl, v2, hO2, hP2⟩
    gi_wp2
    have rX2 := hP2.row rX hne1 hne2
    have hB2 : Ext w W2 := HE.out.trans' (hP2.below hO (N := w.heap.size) (by omega) (by omega) hz)
    refine ⟨trivial, fun _ => by omega, CallsIn.inRound l ((callsIn_wide.2 (look_full (w.heap.size + 5) Bx (w.heap.size + 1) s A c x.1 W2 HS.out (HM.out.ext hB2) hx.1 hx.2 rX2 v2 _ hO2 (Nat.le_trans hz hP2.size) (by rw [List.length_append]; split <;> (simp only [List.length_cons, List.length_nil]; omega)))).mono ?_)⟩
    rintro e W3 ⟨rfl, v3, hO3, hP3⟩
    gi_wp2
    have hP := hP2.trans hP3
    refine ⟨Push.keepsFrom hO hP _, ⟨Push.old hO hP (by omega) hz (by omega), Push.old hO hP (by omega) hz (by omega)⟩, ⟨v3, ?_⟩, HE.out.trans' (hP.below hO (N := w.heap.size) (by omega) (by omega) hz), Nat.le_trans hz hP.size⟩
    simpa [Sp.dayMoons, List.flatMap_append] using hO3
  case done =>
    rintro D xs W hD hS ⟨⟨v, hO⟩, hB, hz⟩ hK
    have cO := hO.box.cell 0
    simp only [List.getElem?_toArray, List.getElem?_cons_zero] at cO
    gi_wp2
    refine ⟨by simp, .inl ⟨_, _, rfl, run_takeDeferred hK, ?_⟩⟩
    refine ⟨_, results_tmp rfl _ _ _, v, w.heap.size + 5, rfl, by omega, ?_, ?_⟩
    · have := (hO.kept (grownBy_putObj' W D (.deferred none)) (fun r e => by cases e; exact ⟨_, hK, rfl⟩)).own
      rwa [moons_all s lo hi xs hS] at this
    · exact hB.grown (grownBy_putObj' W D (.deferred none)) hB.size (fun k e => by cases e; omega)
  case stop =>
    rintro D c' pre W _ _ h _
    exact h.elim
theorem moons_any (s : Sp.Sky) (A : Option Addr) (c : Nat) (lo hi : Int) (w : World) (hs : SkyOk s) (hm : Bodies w A s.bodies) (h1 : 1 ≤ lo) (h2 : hi ≤ 20000) (h3 : hi - lo ≤ 800) :
    Calls Tryz.prog 55 #[.agg #[.slice A s.bodies.length c, .int .i64 s.nnum, .int .i64 s.nden, .int .i64 s.nstart], .int .i64 lo, .int .i64 hi] w fun e w' =>
      ∃ v base, e = .returned v ∧ w.heap.size < base ∧ w'.ownsRow base 45 2 v (Sp.moonsL s lo hi).length (moonCells (Sp.moonsL s lo hi)) ∧ Ext w w' :=
  callsIn_wide.1 (moons_in 6 (Nat.le_refl _) s A c lo hi w hs hm h1 h2 h3)
end Go.Proofs.YtimkmokomohgjaaGreat
namespace Go.Proofs.YtimkmokomohgjaaGreat
open Go.RowKit
open Sp (rd)
/-- A list of moons in memory. -/
def MoonsVal (w : World) (v : Value) (l : List (Int × Bool)) : Prop := ∃ A c, v = .slice A l.length c ∧
  (0 < l.length → ∃ b o, A = some ⟨b, o, none⟩ ∧ ∀ k, (hk : k < l.length) → w.cell? ⟨b, o + k * 2, none⟩ = some (.int .i64 l[k].1) ∧ w.cell? ⟨b, o + k * 2 + 1, none⟩ = some (.bool l[k].2))
theorem MoonsVal.ext {w w' : World} {v : Value} {l : List (Int × Bool)} (h : MoonsVal w v l) (he : Ext w w') : MoonsVal w' v l :=
  let ⟨A, c, e, hc⟩ := h
  ⟨A, c, e, fun h0 => let ⟨b, o, e2, hk⟩ := hc h0; ⟨b, o, e2, fun k hk' => ⟨he.cell (hk k hk').1, he.cell (hk k hk').2⟩⟩⟩
theorem add0 (g j : Nat) : (⟨g, 0, none⟩ : Addr).add j = ⟨g, j, none⟩ := by
  unfold Addr.add
  split <;> simp_all
theorem moonCells_get (l : List (Int × Bool)) : ∀ k (hk : k < l.length), (moonCells l)[k * 2]? = some (.int .i64 l[k].1) ∧ (moonCells l)[k * 2 + 1]? = some (.bool l[k].2) := by
  induction l with
  | nil => intro k hk; simp at hk
  | cons m l ih =>
    intro k hk
    cases k with
    | zero => simp [moonCells]
    | succ k =>
      have := ih k (by simpa using hk)
      simp only [moonCells, List.flatMap_cons] at this ⊢
      rw [show (k + 1) * 2 = k * 2 + 2 by omega]
      simpa using this
theorem MoonsVal.of_own {w : World} {base : Nat} {v : Value} {l : List (Int × Bool)} (h : w.ownsRow base 45 2 v l.length (moonCells l)) : MoonsVal w v l := by
  rcases h.2 with ⟨rfl, h0⟩ | ⟨g, cap, cur, hv, _⟩
  · exact ⟨none, 0, by rw [h0], fun hh => by omega⟩
  · refine ⟨some ⟨g, 0, none⟩, cap, hv, fun _ => ⟨g, 0, rfl, fun k hk => ?_⟩⟩
    have hc := h.cells (g := g) (by rw [hv]; rfl)
    have h1 := hc _ _ (moonCells_get l k hk).1
    have h2 := hc _ _ (moonCells_get l k hk).2
    rw [add0] at h1 h2
    exact ⟨by simpa using h1, by simpa using h2⟩
theorem span_of {lo hi : Int} (h : Sp.isSpan lo hi = true) : 1 ≤ lo ∧ lo ≤ hi ∧ hi ≤ 20000 ∧ hi - lo ≤ 800 := by
  simp only [Sp.isSpan, Bool.and_eq_true, decide_eq_true_eq] at h
  have h1 := inR_iff.1 h.1
  have h2 := inR_iff.1 h.2.1
  omega
theorem Moons_ok (s : Sp.Sky) (A : Option Addr) (c : Nat) (lo hi : Int) (w : World) (hm : Bodies w A s.bodies) (hl : Short s.bodies)  (c0 : Sp.skyOk s = true) (c1 : Sp.isSpan lo hi = true) :
    Calls Tryz.prog 13 #[.agg #[.slice A s.bodies.length c, .int .i64 s.nnum, .int .i64 s.nden, .int .i64 s.nstart], .int .i64 lo, .int .i64 hi] w fun e w' => ∃ v, e = .returned (.tuple #[v, .int .i64 0]) ∧ MoonsVal w' v (Sp.moonsL s lo hi) ∧ Ext w w' := by
  have hl1 := hl.1
  have HL := Lib.hid hl
  have HM := Lib.hid hm
  clear hm hl
  go_enter Tryz.func13, Tryz.ntmps13
  go_wp2_with fail
  refine (isSky_any s A c _ (HM.out.ext ((Ext.refl w).alloc _)) HL.out).mono ?_
  rintro e w1 ⟨rfl, hE1⟩
  have hE := ((Ext.refl w).alloc _).trans hE1
  have hr : Row w1 w.heap.size 28 _ := (Row.new w _ _).ext hE1
  have b0 := hr.cell
  clear hE1
  go_wp2_with fail
  refine (isSpan_any lo hi _).mono ?_
  rintro e w0 ⟨rfl, rfl⟩
  have HK := Lib.hid (skyOk_iff.1 c0)
  obtain ⟨d1, d2, d3, d4⟩ := span_of c1
  go_wp2_with fail
  refine (moons_any s A c lo hi _ HK.out (HM.out.ext hE) d1 d3 d4).mono ?_
  rintro e w2 ⟨v, base, rfl, _, hown, hE1⟩
  have HO := Lib.hid hown
  replace hE := hE.trans hE1
  clear hE1 hown
  go_wp2_with fail
  go_ret2
  exact ⟨v, rfl, MoonsVal.of_own HO.out, hE⟩
end Go.Proofs.YtimkmokomohgjaaGreat
namespace Go.Proofs.YtimkmokomohgjaaGreat
open Go.RowKit
open Sp (rd)
def eclCells (l : List Sp.Ecl) : List Value := l.flatMap fun m => [.int .i64 m.day, .bool m.full, .int .i64 m.far]
/-- A list of eclipses in memory. -/
def EclVal (w : World) (v : Value) (l : List Sp.Ecl) : Prop := ∃ A c, v = .slice A l.length c ∧
  (0 < l.length → ∃ b o, A = some ⟨b, o, none⟩ ∧ ∀ k, (hk : k < l.length) → w.cell? ⟨b, o + k * 3, none⟩ = some (.int .i64 l[k].day) ∧ w.cell? ⟨b, o + k * 3 + 1, none⟩ = some (.bool l[k].full) ∧ w.cell? ⟨b, o + k * 3 + 2, none⟩ = some (.int .i64 l[k].far))
theorem EclVal.ext {w w' : World} {v : Value} {l : List Sp.Ecl} (h : EclVal w v l) (he : Ext w w') : EclVal w' v l :=
  let ⟨A, c, e, hc⟩ := h
  ⟨A, c, e, fun h0 => let ⟨b, o, e2, hk⟩ := hc h0; ⟨b, o, e2, fun k hk' => ⟨he.cell (hk k hk').1, he.cell (hk k hk').2.1, he.cell (hk k hk').2.2⟩⟩⟩
theorem eclCells_get (l : List Sp.Ecl) : ∀ k (hk : k < l.length), (eclCells l)[k * 3]? = some (.int .i64 l[k].day) ∧ (eclCells l)[k * 3 + 1]? = some (.bool l[k].full) ∧ (eclCells l)[k * 3 + 2]? = some (.int .i64 l[k].far) := by
  induction l with
  | nil => intro k hk; simp at hk
  | cons m l ih =>
    intro k hk
    cases k with
    | zero => simp [eclCells]
    | succ k =>
      have := ih k (by simpa using hk)
      simp only [eclCells, List.flatMap_cons] at this ⊢
      rw [show (k + 1) * 3 = k * 3 + 3 by omega]
      simpa using this
theorem EclVal.of_own {w : World} {base : Nat} {v : Value} {l : List Sp.Ecl} (h : w.ownsRow base 156 3 v l.length (eclCells l)) : EclVal w v l := by
  rcases h.2 with ⟨rfl, h0⟩ | ⟨g, cap, cur, hv, _⟩
  · exact ⟨none, 0, by rw [h0], fun hh => by omega⟩
  · refine ⟨some ⟨g, 0, none⟩, cap, hv, fun _ => ⟨g, 0, rfl, fun k hk => ?_⟩⟩
    have hc := h.cells (g := g) (by rw [hv]; rfl)
    have h1 := hc _ _ (eclCells_get l k hk).1
    have h2 := hc _ _ (eclCells_get l k hk).2.1
    have h3 := hc _ _ (eclCells_get l k hk).2.2
    rw [add0] at h1 h2 h3
    exact ⟨by simpa using h1, by simpa using h2, by simpa using h3⟩
set_option maxHeartbeats 1000000
set_option maxRecDepth 100000
end Go.Proofs.YtimkmokomohgjaaGreat
namespace Go.Proofs.YtimkmokomohgjaaGreat
open Go.RowKit
open Sp (rd)
set_option maxRecDepth 100000 in
set_option maxHeartbeats 1000000 in
theorem month_ok (s : Sp.Sky) (A : Option Addr) (c : Nat) (w : World) (hs : SkyOk s) (hm : Bodies w A s.bodies) (h : Sp.isMonth s = true) :
    Calls Tryz.prog 44 #[.agg #[.slice A s.bodies.length c, .int .i64 s.nnum, .int .i64 s.nden, .int .i64 s.nstart]] w fun e w' => e = .returned (.tuple #[.int .i64 (Sp.monthNum s), .int .i64 (Sp.monthDen s)]) ∧ Ext w w' := by
  have n2 := hs.n2
  obtain ⟨b, o, rfl, hc⟩ := hm (by omega)
  have e0 := hc 0 (by omega)
  have e1 := hc 1 (by omega)
  have b0 : bd s.bodies 0 = Sp.body s 0 := rfl
  have b1 : bd s.bodies 1 = Sp.body s 1 := rfl
  rw [b0] at e0
  rw [b1] at e1
  obtain ⟨p0, p1, _, _⟩ := e0
  obtain ⟨p2, p3, _, _⟩ := e1
  simp only [Nat.zero_mul, Nat.one_mul, Nat.add_zero] at p0 p1 p2 p3
  have n0 := lts (lt_of_cell p0)
  clear hc
  have q := (Row.new w 28 #[.slice (some ⟨b, o, none⟩) s.bodies.length c, .int .i64 s.nnum, .int .i64 s.nden, .int .i64 s.nstart]).cell 0
  simp only [List.getElem?_toArray, List.getElem?_cons_zero] at q
  have hE : Ext w (w.alloc (.cells #[.slice (some ⟨b, o, none⟩) s.bodies.length c, .int .i64 s.nnum, .int .i64 s.nden, .int .i64 s.nstart] 28)) := (Ext.refl w).alloc _
  replace p0 := hE.cell p0
  replace p1 := hE.cell p1
  replace p2 := hE.cell p2
  replace p3 := hE.cell p3
  go_enter Tryz.func44, Tryz.ntmps44
  go_wp2_with fail
  obtain ⟨W, hW⟩ : ∃ W, w.alloc (.cells #[.slice (some ⟨b, o, none⟩) s.bodies.length c, .int .i64 s.nnum, .int .i64 s.nden, .int .i64 s.nstart] 28) = W := ⟨_, rfl⟩
  have hz : W.heap.size = w.heap.size + 1 := by rw [← hW]; simp
  rw [hW] at q p0 p1 p2 p3 hE ⊢
  clear hW n0
  have m0 := World.new_ne W _ q
  have m1 := World.new_ne W _ p0
  have k0 := lts (lt_of_cell q)
  have k1 := lts (lt_of_cell p0)
  simp only at m0 m1 k0 k1
  have h01 : (0 : Int) < s.bodies.length := by omega
  have h11 : (1 : Int) < s.bodies.length := by omega
  have h00 : 0 < s.bodies.length := by omega
  refine Code.wp_mono (Q := fun e a' w' => e = .normal ∧ ∃ b4 b5, w.heap.size < b4 ∧ w.heap.size < b5 ∧ b4 ≠ b5 ∧ Ext W w' ∧ Row w' b4 23 #[.int .i64 (Sp.body s 0).num, .int .i64 (Sp.body s 0).den] ∧ Row w' b5 23 #[.int .i64 (Sp.body s 1).num, .int .i64 (Sp.body s 1).den] ∧ a' = (⟨#[.agg #[.slice (some ⟨b, o, none⟩) s.bodies.length c, .int .i64 s.nnum, .int .i64 s.nden, .int .i64 s.nstart], .pointer (some ⟨w.heap.size, 0, none⟩), .int .i64 0, .int .i64 0, .pointer (some ⟨b4, 0, none⟩), .pointer (some ⟨b5, 0, none⟩), undef, undef, .pointer (some ⟨w.heap.size, 0, none⟩), .slice (some ⟨b, o, none⟩) s.bodies.length c, .pointer (some ⟨b, o, none⟩), .pointer (some ⟨b, o, none⟩), .agg #[.int .i64 (Sp.body s 0).num, .int .i64 (Sp.body s 0).den], .pointer (some ⟨w.heap.size, 0, none⟩), .slice (some ⟨b, o, none⟩) s.bodies.length c, .pointer (some ⟨b, o + 4, none⟩), .pointer (some ⟨b, o + 4, none⟩), .agg #[.int .i64 (Sp.body s 1).num, .int .i64 (Sp.body s 1).den], undef, undef, undef, undef, undef, undef, undef, undef, undef, undef, undef, undef, undef, undef, undef, undef, undef, undef, undef, undef, undef, undef], []⟩ : Act)) ?hq ?hr
  case hr =>
    go_region_held3 (fun w' => w'.cell? ⟨w.heap.size, 0, none⟩ = some (.slice (some ⟨b, o, none⟩) s.bodies.length c) ∧ w'.cell? ⟨b, o, none⟩ = some (.int .i64 (Sp.body s 0).num) ∧ w'.cell? ⟨b, o + 1, none⟩ = some (.int .i64 (Sp.body s 0).den) ∧ w'.cell? ⟨b, o + 4, none⟩ = some (.int .i64 (Sp.body s 1).num) ∧ w'.cell? ⟨b, o + 4 + 1, none⟩ = some (.int .i64 (Sp.body s 1).den)) (go_keep) (fail)
    · have hE3 : Ext W ((W.alloc (.cells #[.int .i64 (Sp.body s 0).num, .int .i64 (Sp.body s 0).den] 23)).alloc (.cells #[.int .i64 (Sp.body s 1).num, .int .i64 (Sp.body s 1).den] 23)).drew := (((Ext.refl W).alloc _).alloc _).drew
      exact ⟨rfl, w.heap.size + 1, w.heap.size + 1 + 1, by omega, by omega, by omega, hE3, by rw [← hz]; exact (blocks2 W _ _).1, by rw [← hz]; exact (blocks2 W _ _).2, rfl⟩
    · have hE3 : Ext W ((W.alloc (.cells #[.int .i64 (Sp.body s 1).num, .int .i64 (Sp.body s 1).den] 23)).alloc (.cells #[.int .i64 (Sp.body s 0).num, .int .i64 (Sp.body s 0).den] 23)).drew := (((Ext.refl W).alloc _).alloc _).drew
      exact ⟨rfl, w.heap.size + 1 + 1, w.heap.size + 1, by omega, by omega, by omega, hE3, by rw [← hz]; exact (blocks2 W _ _).2, by rw [← hz]; exact (blocks2 W _ _).1, rfl⟩
  case hq =>
    rintro e a' w1 ⟨rfl, b4, b5, hb4, hb5, hne, hE1, r4, r5, rfl⟩
    have c4 := r4.cell
    have c5 := r5.cell
    have g0 := hs.all 0 (by omega)
    have g1 := hs.all 1 (by omega)
    rw [b0] at g0
    rw [b1] at g1
    obtain ⟨n0, hn0⟩ : ∃ n0, (Sp.body s 0).num = n0 := ⟨_, rfl⟩
    obtain ⟨x0, hx0⟩ : ∃ x0, (Sp.body s 0).den = x0 := ⟨_, rfl⟩
    obtain ⟨n1, hn1⟩ : ∃ n1, (Sp.body s 1).num = n1 := ⟨_, rfl⟩
    obtain ⟨x1, hx1⟩ : ∃ x1, (Sp.body s 1).den = x1 := ⟨_, rfl⟩
    obtain ⟨u1, u2, u3, u4, _, _, _, _, _⟩ := g0
    obtain ⟨v1, v2, v3, v4, _, _, _, _, _⟩ := g1
    simp only [hn0, hx0] at u1 u2 u3 u4 c4 ⊢
    simp only [hn1, hx1] at v1 v2 v3 v4 c5 ⊢
    have t1 := mul_bounds (a := n1) (b := n0) (A := 10000) (B := 10000) (by omega) (by omega) (by omega) (by omega)
    have t2 := mul_bounds (a := x1) (b := n0) (A := 10000) (B := 10000) (by omega) (by omega) (by omega) (by omega)
    have t3 := mul_bounds (a := x0) (b := n1) (A := 10000) (B := 10000) (by omega) (by omega) (by omega) (by omega)
    have hden : 0 < x1 * n0 - x0 * n1 := by
      have h' : 0 < Sp.monthDen s := of_decide_eq_true h
      unfold Sp.monthDen at h'
      rw [hx1, hn0, hx0, hn1] at h'
      exact h'
    have hnum : Sp.monthNum s = n1 * n0 := by simp only [Sp.monthNum, hn1, hn0]
    have hd : Sp.monthDen s = x1 * n0 - x0 * n1 := by simp only [Sp.monthDen, hn1, hn0, hx0, hx1]
    have HN := Lib.hid hnum
    have HD := Lib.hid hd
    have HE := Lib.hid (hE.trans hE1)
    clear hnum hd hn0 hx0 hn1 hx1 hE hE1 b0 b1 h
    go_wp2
    go_quiet (fail)
    go_wp2
    go_ret2
    exact ⟨by rw [HN.out, HD.out]; rfl, HE.out.drewN _⟩
set_option maxRecDepth 100000 in
set_option maxHeartbeats 1000000 in
theorem month_no (s : Sp.Sky) (A : Option Addr) (c : Nat) (w : World) (hs : SkyOk s) (hm : Bodies w A s.bodies) (h : Sp.isMonth s = false) :
    Calls Tryz.prog 44 #[.agg #[.slice A s.bodies.length c, .int .i64 s.nnum, .int .i64 s.nden, .int .i64 s.nstart]] w fun e w' => e = .panicked [{ v := .iface 174 (.agg #[.int .i64 7]), recovered := false }] ∧ Ext w w' := by
  have n2 := hs.n2
  obtain ⟨b, o, rfl, hc⟩ := hm (by omega)
  have e0 := hc 0 (by omega)
  have e1 := hc 1 (by omega)
  have b0 : bd s.bodies 0 = Sp.body s 0 := rfl
  have b1 : bd s.bodies 1 = Sp.body s 1 := rfl
  rw [b0] at e0
  rw [b1] at e1
  obtain ⟨p0, p1, _, _⟩ := e0
  obtain ⟨p2, p3, _, _⟩ := e1
  simp only [Nat.zero_mul, Nat.one_mul, Nat.add_zero] at p0 p1 p2 p3
  have n0 := lts (lt_of_cell p0)
  clear hc
  have q := (Row.new w 28 #[.slice (some ⟨b, o, none⟩) s.bodies.length c, .int .i64 s.nnum, .int .i64 s.nden, .int .i64 s.nstart]).cell 0
  simp only [List.getElem?_toArray, List.getElem?_cons_zero] at q
  have hE : Ext w (w.alloc (.cells #[.slice (some ⟨b, o, none⟩) s.bodies.length c, .int .i64 s.nnum, .int .i64 s.nden, .int .i64 s.nstart] 28)) := (Ext.refl w).alloc _
  replace p0 := hE.cell p0
  replace p1 := hE.cell p1
  replace p2 := hE.cell p2
  replace p3 := hE.cell p3
  go_enter Tryz.func44, Tryz.ntmps44
  go_wp2_with fail
  obtain ⟨W, hW⟩ : ∃ W, w.alloc (.cells #[.slice (some ⟨b, o, none⟩) s.bodies.length c, .int .i64 s.nnum, .int .i64 s.nden, .int .i64 s.nstart] 28) = W := ⟨_, rfl⟩
  have hz : W.heap.size = w.heap.size + 1 := by rw [← hW]; simp
  rw [hW] at q p0 p1 p2 p3 hE ⊢
  clear hW n0
  have m0 := World.new_ne W _ q
  have m1 := World.new_ne W _ p0
  have k0 := lts (lt_of_cell q)
  have k1 := lts (lt_of_cell p0)
  simp only at m0 m1 k0 k1
  have h01 : (0 : Int) < s.bodies.length := by omega
  have h11 : (1 : Int) < s.bodies.length := by omega
  have h00 : 0 < s.bodies.length := by omega
  refine Code.wp_mono (Q := fun e a' w' => e = .normal ∧ ∃ b4 b5, w.heap.size < b4 ∧ w.heap.size < b5 ∧ b4 ≠ b5 ∧ Ext W w' ∧ Row w' b4 23 #[.int .i64 (Sp.body s 0).num, .int .i64 (Sp.body s 0).den] ∧ Row w' b5 23 #[.int .i64 (Sp.body s 1).num, .int .i64 (Sp.body s 1).den] ∧ a' = (⟨#[.agg #[.slice (some ⟨b, o, none⟩) s.bodies.length c, .int .i64 s.nnum, .int .i64 s.nden, .int .i64 s.nstart], .pointer (some ⟨w.heap.size, 0, none⟩), .int .i64 0, .int .i64 0, .pointer (some ⟨b4, 0, none⟩), .pointer (some ⟨b5, 0, none⟩), undef, undef, .pointer (some ⟨w.heap.size, 0, none⟩), .slice (some ⟨b, o, none⟩) s.bodies.length c, .pointer (some ⟨b, o, none⟩), .pointer (some ⟨b, o, none⟩), .agg #[.int .i64 (Sp.body s 0).num, .int .i64 (Sp.body s 0).den], .pointer (some ⟨w.heap.size, 0, none⟩), .slice (some ⟨b, o, none⟩) s.bodies.length c, .pointer (some ⟨b, o + 4, none⟩), .pointer (some ⟨b, o + 4, none⟩), .agg #[.int .i64 (Sp.body s 1).num, .int .i64 (Sp.body s 1).den], undef, undef, undef, undef, undef, undef, undef, undef, undef, undef, undef, undef, undef, undef, undef, undef, undef, undef, undef, undef, undef, undef], []⟩ : Act)) ?hq ?hr
  case hr =>
    go_region_held3 (fun w' => w'.cell? ⟨w.heap.size, 0, none⟩ = some (.slice (some ⟨b, o, none⟩) s.bodies.length c) ∧ w'.cell? ⟨b, o, none⟩ = some (.int .i64 (Sp.body s 0).num) ∧ w'.cell? ⟨b, o + 1, none⟩ = some (.int .i64 (Sp.body s 0).den) ∧ w'.cell? ⟨b, o + 4, none⟩ = some (.int .i64 (Sp.body s 1).num) ∧ w'.cell? ⟨b, o + 4 + 1, none⟩ = some (.int .i64 (Sp.body s 1).den)) (go_keep) (fail)
    · have hE3 : Ext W ((W.alloc (.cells #[.int .i64 (Sp.body s 0).num, .int .i64 (Sp.body s 0).den] 23)).alloc (.cells #[.int .i64 (Sp.body s 1).num, .int .i64 (Sp.body s 1).den] 23)).drew := (((Ext.refl W).alloc _).alloc _).drew
      exact ⟨rfl, w.heap.size + 1, w.heap.size + 1 + 1, by omega, by omega, by omega, hE3, by rw [← hz]; exact (blocks2 W _ _).1, by rw [← hz]; exact (blocks2 W _ _).2, rfl⟩
    · have hE3 : Ext W ((W.alloc (.cells #[.int .i64 (Sp.body s 1).num, .int .i64 (Sp.body s 1).den] 23)).alloc (.cells #[.int .i64 (Sp.body s 0).num, .int .i64 (Sp.body s 0).den] 23)).drew := (((Ext.refl W).alloc _).alloc _).drew
      exact ⟨rfl, w.heap.size + 1 + 1, w.heap.size + 1, by omega, by omega, by omega, hE3, by rw [← hz]; exact (blocks2 W _ _).2, by rw [← hz]; exact (blocks2 W _ _).1, rfl⟩
  case hq =>
    rintro e a' w1 ⟨rfl, b4, b5, hb4, hb5, hne, hE1, r4, r5, rfl⟩
    have c4 := r4.cell
    have c5 := r5.cell
    have g0 := hs.all 0 (by omega)
    have g1 := hs.all 1 (by omega)
    rw [b0] at g0
    rw [b1] at g1
    obtain ⟨n0, hn0⟩ : ∃ n0, (Sp.body s 0).num = n0 := ⟨_, rfl⟩
    obtain ⟨x0, hx0⟩ : ∃ x0, (Sp.body s 0).den = x0 := ⟨_, rfl⟩
    obtain ⟨n1, hn1⟩ : ∃ n1, (Sp.body s 1).num = n1 := ⟨_, rfl⟩
    obtain ⟨x1, hx1⟩ : ∃ x1, (Sp.body s 1).den = x1 := ⟨_, rfl⟩
    obtain ⟨u1, u2, u3, u4, _, _, _, _, _⟩ := g0
    obtain ⟨v1, v2, v3, v4, _, _, _, _, _⟩ := g1
    simp only [hn0, hx0] at u1 u2 u3 u4 c4 ⊢
    simp only [hn1, hx1] at v1 v2 v3 v4 c5 ⊢
    have t1 := mul_bounds (a := n1) (b := n0) (A := 10000) (B := 10000) (by omega) (by omega) (by omega) (by omega)
    have t2 := mul_bounds (a := x1) (b := n0) (A := 10000) (B := 10000) (by omega) (by omega) (by omega) (by omega)
    have t3 := mul_bounds (a := x0) (b := n1) (A := 10000) (B := 10000) (by omega) (by omega) (by omega) (by omega)
    have hden : x1 * n0 - x0 * n1 ≤ 0 := by
      have h' : ¬ 0 < Sp.monthDen s := of_decide_eq_false h
      unfold Sp.monthDen at h'
      rw [hx1, hn0, hx0, hn1] at h'
      omega
    have HE := Lib.hid (hE.trans hE1)
    clear hn0 hx0 hn1 hx1 hE hE1 b0 b1 h
    go_wp2
    go_quiet (fail)
    go_wp2
    exact ⟨rfl, rfl, HE.out.drewN _⟩
end Go.Proofs.YtimkmokomohgjaaGreat
namespace Go.Proofs.YtimkmokomohgjaaGreat
open Go.RowKit
open Sp (rd)
/-- A type switch on the panic's value. -/
theorem ta_nothing (k : Int) (w : World) : (Instr.typeAssert (.iface 174 (.agg #[.int .i64 k])) 20 174 true).run Tryz.prog w = .ok (.tuple #[.agg #[.int .i64 k], .bool true]) w := by kernel_rfl
theorem catch_nothing (p : Nat) (x k : Int) (older : List PanicEntry) (w : World) (hr : Row w p 32 #[.int .i64 x]) :
    CallsD Tryz.prog 102 #[.pointer (some ⟨p, 0, none⟩)] (.panicking ({ v := .iface 174 (.agg #[.int .i64 k]), recovered := false } :: older)) w fun e u' w' =>
      e = .returned (.tuple #[]) ∧ u' = .panicking ({ v := .iface 174 (.agg #[.int .i64 k]), recovered := true } :: older) ∧ w' = (w.setCell ⟨p, 0, none⟩ (.int .i64 k)).alloc (.cells #[.int .i64 k] 174) := by
  refine callsD_of_wpS Tryz.func102 rfl fun c₀ cs hu => ?_
  have hc := hr.cell
  have hf := hr.free
  have j0 := lts hr.lt
  have hT := ta_nothing k
  have he : ∀ w, (binOp .eql 20 (.iface 174 (.agg #[.int .i64 k])) .nilIface).run Tryz.prog w = .ok (.bool false) w := fun _ => by kernel_rfl
  simp only [Tryz.ntmps102, List.size_toArray, List.length_cons, List.length_nil, Nat.reduceAdd, Nat.reduceSub, Array.replicate_succ, Array.replicate_zero, List.push_toArray, List.append_toArray, List.nil_append, List.cons_append]
  apply wpS_seq
  apply wpS_region
  simp [wpOpsS, go_sem, recoverD, hu, Exit.thenS]
  refine wpS_of_wp ?_
  generalize hQ : (fun (e : Exit) (a' : Act) (w' : World) => bodyPostS Tryz.prog Tryz.f102 c₀ cs _ e a' _ w') = Q
  go_wp2
  subst hQ
  simp [bodyPostS, results, Tryz.results102]
theorem catch_idle (p : Value) (w : World) :
    CallsD Tryz.prog 102 #[p] .returning w fun e u' w' => e = .returned (.tuple #[]) ∧ u' = .returning ∧ w' = w := by
  refine callsD_of_wpS Tryz.func102 rfl fun c₀ cs hu => ?_
  have he : ∀ w, (binOp .eql 20 .nilIface .nilIface).run Tryz.prog w = .ok (.bool true) w := fun _ => by kernel_rfl
  simp only [Tryz.ntmps102, List.size_toArray, List.length_cons, List.length_nil, Nat.reduceAdd, Nat.reduceSub, Array.replicate_succ, Array.replicate_zero, List.push_toArray, List.append_toArray, List.nil_append, List.cons_append]
  apply wpS_seq
  apply wpS_region
  simp [wpOpsS, go_sem, recoverD, hu, Exit.thenS]
  refine wpS_of_wp ?_
  generalize hQ : (fun (e : Exit) (a' : Act) (w' : World) => bodyPostS Tryz.prog Tryz.f102 c₀ cs _ e a' _ w') = Q
  go_wp2
  subst hQ
  cases c₀
  simp_all [bodyPostS, results, Tryz.results102]
/-- What a closure that is tried may do. -/
def Tried (w : World) (k : Int) (Q1 Q2 : World → Prop) (e : Ending) (w' : World) : Prop := Row w' w.heap.size 32 #[.int .i64 0] ∧
  ((e = .returned (.tuple #[]) ∧ Q1 w') ∨ (e = .panicked [{ v := .iface 174 (.agg #[.int .i64 k]), recovered := false }] ∧ Q2 w'))
theorem try_any (f : Nat) (cap : Array Value) (k : Int) (w : World) (Q1 Q2 : World → Prop) (he : ∀ (args : Array Value) (w : World), (callFunc f args).run Tryz.prog w = .ok (.enter f args) w)
    (hc : Calls Tryz.prog f cap (w.alloc (.cells #[.int .i64 0] 32)) (Tried w k Q1 Q2)) :
    Calls Tryz.prog 42 #[.func (.func f) #[] cap] w fun e w' => ∃ w1, (Q1 w1 ∧ e = .returned (.int .i64 0) ∧ w' = w1.setCell ⟨w.heap.size, 0, none⟩ (.int .i64 0)) ∨
      (Q2 w1 ∧ e = .returned (.int .i64 k) ∧ w' = (w1.setCell ⟨w.heap.size, 0, none⟩ (.int .i64 k)).alloc (.cells #[.int .i64 k] 174)) := by
  have hmf : ∀ (fn : Fn) (first cap : Array Value) (w : World), (Instr.makeFunc fn first cap).run Tryz.prog w = .ok (.func fn first cap) w := fun _ _ _ _ => rfl
  go_enter_defers Tryz.func42, Tryz.ntmps42
  go_wp2
  refine hc.mono ?_
  rintro e w1 ⟨hR, ⟨rfl, h1⟩ | ⟨rfl, h2⟩⟩
  · have cR := hR.cell
    have fR := hR.free
    go_wp2
    refine leaves_cons (f := 102) (args := #[.pointer (some ⟨w.heap.size, 0, none⟩)]) (by simp) (by simp [go_sem]) ?_
    refine (catch_idle _ _).mono ?_
    rintro e u' w'' ⟨rfl, rfl, rfl⟩
    have r2 := (hR.set_ 0 (.int .i64 0)).cell 0
    simp only [List.setIfInBounds_toArray, List.set_cons_zero, List.getElem?_toArray, List.getElem?_cons_zero] at r2
    simp [Leaves, settle, results, Tryz.results42, go_sem, r2]
    exact ⟨w1, .inl ⟨h1, rfl⟩⟩
  · refine leaves_cons (f := 102) (args := #[.pointer (some ⟨w.heap.size, 0, none⟩)]) (by simp) (by simp [go_sem]) ?_
    refine (catch_nothing w.heap.size 0 k [] w1 hR).mono ?_
    rintro e u' w'' ⟨rfl, rfl, rfl⟩
    have r2 := ((hR.set_ 0 (.int .i64 k)).alloc (.cells #[.int .i64 k] 174)).cell 0
    simp only [List.setIfInBounds_toArray, List.set_cons_zero, List.getElem?_toArray, List.getElem?_cons_zero] at r2
    simp [Leaves, settle, results, Tryz.results42, go_sem, r2]
    exact ⟨w1, .inr ⟨h2, rfl⟩⟩
end Go.Proofs.YtimkmokomohgjaaGreat
namespace Go.Proofs.YtimkmokomohgjaaGreat
open Go.RowKit
open Sp (rd)
theorem gcd_step {a b : Int} (h1 : 0 ≤ a) (h2 : 0 ≤ b) : Int.gcd b (a % b) = Int.gcd a b := by
  obtain ⟨m, rfl⟩ := Int.eq_ofNat_of_zero_le h1
  obtain ⟨n, rfl⟩ := Int.eq_ofNat_of_zero_le h2
  rw [show ((m : Int) % (n : Int)) = ((m % n : Nat) : Int) by rfl]
  show Nat.gcd n (m % n) = Nat.gcd m n
  rw [Nat.gcd_comm n, ← Nat.gcd_rec, Nat.gcd_comm]
theorem gcd_end {a : Int} (h1 : 0 ≤ a) : (Int.gcd a 0 : Int) = a := by
  obtain ⟨m, rfl⟩ := Int.eq_ofNat_of_zero_le h1
  show ((Nat.gcd m 0 : Nat) : Int) = m
  rw [Nat.gcd_zero_right]
theorem gcd_any (a b : Int) (w : World) (h1 : 0 ≤ a) (h2 : a ≤ 1000000000000) (h3 : 0 ≤ b) (h4 : b ≤ 1000000000000) :
    Calls Tryz.prog 45 #[.int .i64 a, .int .i64 b] w fun e w' => e = .returned (.int .i64 (Int.gcd a b)) ∧ Ext w w' := by
  go_enter Tryz.func45, Tryz.ntmps45
  go_wp2_with fail
  go_loopw [0, 1] (fun x y wr => ∃ a' b' : Int, x = .int .i64 a' ∧ y = .int .i64 b' ∧ 0 ≤ a' ∧ a' ≤ 1000000000000 ∧ 0 ≤ b' ∧ b' ≤ 1000000000000 ∧ Int.gcd a' b' = Int.gcd a b ∧ Ext w wr) (fun _ y _ => (intOf y).toNat)
  case atStart => exact ⟨a, b, rfl, rfl, h1, h2, h3, h4, rfl, Ext.refl _⟩
  case round =>
    obtain ⟨a', b', rfl, rfl, k1, k2, k3, k4, hg, hE⟩ := hrel
    by_cases hb : 0 < b'
    · have hb0 : ¬ b' = 0 := by omega
      have ht : a'.tmod b' = a' % b' := Int.tmod_eq_emod_of_nonneg k1
      have hm1 := Int.emod_nonneg a' hb0
      have hm2 := Int.emod_lt_of_pos a' hb
      go_wp2_with fail
      go_quiet (fail)
      go_wp2
      go_roundw
      case rel => exact ⟨b', a' % b', rfl, rfl, by omega, by omega, by omega, by omega, (gcd_step k1 k3).trans hg, hE.drewN _⟩
      case measure => simp [intOf]; omega
    · obtain rfl : b' = 0 := by omega
      go_wp2_with fail
      go_ret
      refine ⟨?_, hE⟩
      rw [← hg]
      exact ret_int (gcd_end k1).symm
theorem month1_ok (s : Sp.Sky) (A : Option Addr) (c : Nat) (bS bN bD : Nat) (n d : Int) (W : World) (hs : SkyOk s) (hm : Bodies W A s.bodies) (h : Sp.isMonth s = true) (rS : Row W bS 28 #[.slice A s.bodies.length c, .int .i64 s.nnum, .int .i64 s.nden, .int .i64 s.nstart])
    (rN : Row W bN 3 #[.int .i64 n]) (rD : Row W bD 3 #[.int .i64 d]) (hne : bN ≠ bD) :
    Calls Tryz.prog 43 #[.pointer (some ⟨bS, 0, none⟩), .pointer (some ⟨bN, 0, none⟩), .pointer (some ⟨bD, 0, none⟩)] W fun e w' => e = .returned (.tuple #[]) ∧ ∃ W1, Ext W W1 ∧ w' = (W1.setCell ⟨bN, 0, none⟩ (.int .i64 (Sp.monthNum s))).setCell ⟨bD, 0, none⟩ (.int .i64 (Sp.monthDen s)) := by
  have cS := rS.cell
  go_enter Tryz.func43, Tryz.ntmps43
  go_wp2_with fail
  refine (month_ok s A c W hs hm h).mono ?_
  rintro e W1 ⟨rfl, hE⟩
  have cN := (rN.ext hE).cell
  have cD := (rD.ext hE).cell
  have fN := (rN.ext hE).free
  have fD := (rD.ext hE).free
  clear cS
  go_wp2_with fail
  go_end0
  exact ⟨rfl, W1, hE, rfl⟩
theorem month1_no (s : Sp.Sky) (A : Option Addr) (c : Nat) (bS : Nat) (p q : Value) (W : World) (hs : SkyOk s) (hm : Bodies W A s.bodies) (h : Sp.isMonth s = false) (rS : Row W bS 28 #[.slice A s.bodies.length c, .int .i64 s.nnum, .int .i64 s.nden, .int .i64 s.nstart]) :
    Calls Tryz.prog 43 #[.pointer (some ⟨bS, 0, none⟩), p, q] W fun e w' => e = .panicked [{ v := .iface 174 (.agg #[.int .i64 7]), recovered := false }] ∧ Ext W w' := by
  have cS := rS.cell
  go_enter Tryz.func43, Tryz.ntmps43
  go_wp2_with fail
  refine (month_no s A c W hs hm h).mono ?_
  rintro e W1 ⟨rfl, hE⟩
  exact ⟨rfl, rfl, hE⟩
theorem month_bounds {s : Sp.Sky} (hs : SkyOk s) (h : Sp.isMonth s = true) : 1 ≤ Sp.monthNum s ∧ Sp.monthNum s ≤ 100000000 ∧ 1 ≤ Sp.monthDen s ∧ Sp.monthDen s ≤ 100000000 := by
  have n2 := hs.n2
  have g0 : BodyOk (Sp.body s 0) := hs.body (by omega) (by omega)
  have g1 : BodyOk (Sp.body s 1) := hs.body (by omega) (by omega)
  have h' : 0 < Sp.monthDen s := of_decide_eq_true h
  obtain ⟨u1, u2, u3, u4, _, _, _, _, _⟩ := g0
  obtain ⟨v1, v2, v3, v4, _, _, _, _, _⟩ := g1
  have t1 := mul_bounds (a := (Sp.body s 1).num) (b := (Sp.body s 0).num) (A := 10000) (B := 10000) (by omega) (by omega) (by omega) (by omega)
  have t2 := mul_bounds (a := (Sp.body s 1).den) (b := (Sp.body s 0).num) (A := 10000) (B := 10000) (by omega) (by omega) (by omega) (by omega)
  have t3 : 0 ≤ (Sp.body s 0).den * (Sp.body s 1).num := Int.mul_nonneg (by omega) (by omega)
  have t4 : 0 < (Sp.body s 1).num * (Sp.body s 0).num := Int.mul_pos (by omega) (by omega)
  unfold Sp.monthNum
  unfold Sp.monthDen at h' ⊢
  omega
/-- The month, reduced. -/
def monthG (s : Sp.Sky) : Int := Int.gcd (Sp.monthNum s) (Sp.monthDen s)
theorem monthG_bounds {s : Sp.Sky} (hs : SkyOk s) (h : Sp.isMonth s = true) : 1 ≤ monthG s ∧ monthG s ≤ 100000000 := by
  have hb := month_bounds hs h
  have h1 : 0 < Int.gcd (Sp.monthNum s) (Sp.monthDen s) := Int.gcd_pos_of_ne_zero_left _ (by omega)
  have h2 : monthG s ∣ Sp.monthNum s := Int.gcd_dvd_left ..
  have := Int.le_of_dvd (by omega) h2
  unfold monthG at *
  omega
theorem Month_ok (s : Sp.Sky) (A : Option Addr) (c : Nat) (w : World) (hm : Bodies w A s.bodies) (hl : Short s.bodies) (hmn : Sp.isMonth s = true) (c0 : Sp.skyOk s = true) :
    Calls Tryz.prog 9 #[.agg #[.slice A s.bodies.length c, .int .i64 s.nnum, .int .i64 s.nden, .int .i64 s.nstart]] w fun e w' => e = .returned (.tuple #[.int .i64 (Sp.monthNum s / monthG s), .int .i64 (Sp.monthDen s / monthG s), .int .i64 0]) ∧ Ext w w' := by
  have hl1 := hl.1
  have HL := Lib.hid hl
  have HM := Lib.hid hm
  clear hm hl
  go_enter Tryz.func9, Tryz.ntmps9
  go_wp2_with fail
  refine (isSky_any s A c _ (HM.out.ext ((Ext.refl w).alloc _)) HL.out).mono ?_
  rintro e w1 ⟨rfl, hE1⟩
  have hE := ((Ext.refl w).alloc _).trans hE1
  have hr : Row w1 w.heap.size 28 _ := (Row.new w _ _).ext hE1
  have b0 := hr.cell
  clear hE1
  have hmf : ∀ (fn : Fn) (first cap : Array Value) (w : World), (Instr.makeFunc fn first cap).run Tryz.prog w = .ok (.func fn first cap) w := fun _ _ _ _ => rfl
  have HK := Lib.hid (skyOk_iff.1 c0)
  have hE3 : Ext w1 (((w1.alloc (.cells #[.int .i64 0] 3)).alloc (.cells #[.int .i64 1] 3)).alloc (.cells #[.int .i64 0] 32)) := (((Ext.refl w1).alloc _).alloc _).alloc _
  have rN : Row (((w1.alloc (.cells #[.int .i64 0] 3)).alloc (.cells #[.int .i64 1] 3)).alloc (.cells #[.int .i64 0] 32)) w1.heap.size 3 #[.int .i64 0] := (blocks3 w1 _ _ _).1
  have rD : Row (((w1.alloc (.cells #[.int .i64 0] 3)).alloc (.cells #[.int .i64 1] 3)).alloc (.cells #[.int .i64 0] 32)) (w1.heap.size + 1) 3 #[.int .i64 1] := (blocks3 w1 _ _ _).2.1
  have rR : Row (((w1.alloc (.cells #[.int .i64 0] 3)).alloc (.cells #[.int .i64 1] 3)).alloc (.cells #[.int .i64 0] 32)) (w1.heap.size + 2) 32 #[.int .i64 0] := (blocks3 w1 _ _ _).2.2
  have hz := hr.lt
  have hb := month_bounds HK.out hmn
  have hg := monthG_bounds HK.out hmn
  go_wp2_with fail
  refine (try_any 43 _ 7 _ (fun w' => ∃ W1, Ext (((w1.alloc (.cells #[.int .i64 0] 3)).alloc (.cells #[.int .i64 1] 3)).alloc (.cells #[.int .i64 0] 32)) W1 ∧ w' = (W1.setCell ⟨w1.heap.size, 0, none⟩ (.int .i64 (Sp.monthNum s))).setCell ⟨w1.heap.size + 1, 0, none⟩ (.int .i64 (Sp.monthDen s))) (fun _ => False) (enters_of Tryz.func43 (by kernel_rfl) rfl)
    ((month1_ok s A c w.heap.size w1.heap.size (w1.heap.size + 1) 0 1 _ HK.out (HM.out.ext (hE.trans hE3)) hmn (hr.ext hE3) rN rD (by omega)).mono ?_)).mono ?_
  · rintro e w' ⟨rfl, W1, hEE, rfl⟩
    refine ⟨?_, .inl ⟨rfl, W1, hEE, rfl⟩⟩
    simpa using ((rR.ext hEE).far (p := ⟨w1.heap.size, 0, none⟩) (by simp) _).far (p := ⟨w1.heap.size + 1, 0, none⟩) (by simp) _
  · rintro e w' ⟨W2, ⟨⟨W1, hEE, rfl⟩, rfl, rfl⟩ | ⟨h0, _⟩⟩
    · simp only [World.size_alloc]
      have sN : Row (((W1.setCell ⟨w1.heap.size, 0, none⟩ (.int .i64 (Sp.monthNum s))).setCell ⟨w1.heap.size + 1, 0, none⟩ (.int .i64 (Sp.monthDen s))).setCell ⟨w1.heap.size + 1 + 1, 0, none⟩ (.int .i64 0)) w1.heap.size 3 #[.int .i64 (Sp.monthNum s)] := by
        simpa using (((rN.ext hEE).set_ 0 (.int .i64 (Sp.monthNum s))).far (p := ⟨w1.heap.size + 1, 0, none⟩) (by simp) (.int .i64 (Sp.monthDen s))).far (p := ⟨w1.heap.size + 1 + 1, 0, none⟩) (by simp <;> omega) (.int .i64 0)
      have sD : Row (((W1.setCell ⟨w1.heap.size, 0, none⟩ (.int .i64 (Sp.monthNum s))).setCell ⟨w1.heap.size + 1, 0, none⟩ (.int .i64 (Sp.monthDen s))).setCell ⟨w1.heap.size + 1 + 1, 0, none⟩ (.int .i64 0)) (w1.heap.size + 1) 3 #[.int .i64 (Sp.monthDen s)] := by
        simpa using (((rD.ext hEE).far (p := ⟨w1.heap.size, 0, none⟩) (by simp) (.int .i64 (Sp.monthNum s))).set_ 0 (.int .i64 (Sp.monthDen s))).far (p := ⟨w1.heap.size + 1 + 1, 0, none⟩) (by simp <;> omega) (.int .i64 0)
      have hE4 : Ext w1 (((W1.setCell ⟨w1.heap.size, 0, none⟩ (.int .i64 (Sp.monthNum s))).setCell ⟨w1.heap.size + 1, 0, none⟩ (.int .i64 (Sp.monthDen s))).setCell ⟨w1.heap.size + 1 + 1, 0, none⟩ (.int .i64 0)) :=
        (((hE3.trans hEE).setCell (by simp) _).setCell (by simp) _).setCell (by simp; omega) _
      obtain ⟨W3, hW3⟩ : ∃ W3, ((W1.setCell ⟨w1.heap.size, 0, none⟩ (.int .i64 (Sp.monthNum s))).setCell ⟨w1.heap.size + 1, 0, none⟩ (.int .i64 (Sp.monthDen s))).setCell ⟨w1.heap.size + 1 + 1, 0, none⟩ (.int .i64 0) = W3 := ⟨_, rfl⟩
      rw [hW3] at sN sD hE4 ⊢
      have cN := sN.cell
      have cD := sD.cell
      have HE := Lib.hid (hE.trans hE4)
      clear hW3 hE3 rN rD rR hEE hE hE4 b0 W1
      obtain ⟨n, hn⟩ : ∃ n, Sp.monthNum s = n := ⟨_, rfl⟩
      obtain ⟨d, hd⟩ : ∃ d, Sp.monthDen s = d := ⟨_, rfl⟩
      obtain ⟨g, hgg⟩ : ∃ g, monthG s = g := ⟨_, rfl⟩
      have hgg' : ((Int.gcd n d : Nat) : Int) = g := by rw [← hn, ← hd]; exact hgg
      rw [hn, hd] at hb
      rw [hgg] at hg
      rw [hn] at cN
      rw [hd] at cD
      have HN := Lib.hid hn
      have HD := Lib.hid hd
      have HG := Lib.hid hgg
      have HG' := Lib.hid hgg'
      clear hn hd hgg hgg'
      have g0 : ¬ g = 0 := by omega
      have t1 : n.tdiv g = n / g := Int.tdiv_eq_ediv_of_nonneg (by omega)
      have t2 : d.tdiv g = d / g := Int.tdiv_eq_ediv_of_nonneg (by omega)
      have q1 : 0 ≤ n / g := Int.ediv_nonneg (by omega) (by omega)
      have q2 : 0 ≤ d / g := Int.ediv_nonneg (by omega) (by omega)
      have q3 : n / g ≤ n := Int.ediv_le_self _ (by omega)
      have q4 : d / g ≤ d := Int.ediv_le_self _ (by omega)
      go_wp2_with fail
      refine (gcd_any n d W3 (by omega) (by omega) (by omega) (by omega)).mono ?_
      rintro e W4 ⟨rfl, hE5⟩
      rw [HG'.out]
      replace cN := (sN.ext hE5).cell
      replace cD := (sD.ext hE5).cell
      rw [HN.out] at cN
      rw [HD.out] at cD
      go_wp2_with fail
      go_quiet (fail)
      go_wp2
      go_ret3
      exact ⟨by rw [HN.out, HD.out, HG.out]; rfl, (HE.out.trans hE5).drewN _⟩
    · exact h0.elim
theorem MonthNo_ok (s : Sp.Sky) (A : Option Addr) (c : Nat) (w : World) (hm : Bodies w A s.bodies) (hl : Short s.bodies) (hmn : Sp.isMonth s = false) (c0 : Sp.skyOk s = true) :
    Calls Tryz.prog 9 #[.agg #[.slice A s.bodies.length c, .int .i64 s.nnum, .int .i64 s.nden, .int .i64 s.nstart]] w fun e w' => e = .returned (.tuple #[.int .i64 0, .int .i64 0, .int .i64 7]) ∧ Ext w w' := by
  have hl1 := hl.1
  have HL := Lib.hid hl
  have HM := Lib.hid hm
  clear hm hl
  go_enter Tryz.func9, Tryz.ntmps9
  go_wp2_with fail
  refine (isSky_any s A c _ (HM.out.ext ((Ext.refl w).alloc _)) HL.out).mono ?_
  rintro e w1 ⟨rfl, hE1⟩
  have hE := ((Ext.refl w).alloc _).trans hE1
  have hr : Row w1 w.heap.size 28 _ := (Row.new w _ _).ext hE1
  have b0 := hr.cell
  clear hE1
  have hmf : ∀ (fn : Fn) (first cap : Array Value) (w : World), (Instr.makeFunc fn first cap).run Tryz.prog w = .ok (.func fn first cap) w := fun _ _ _ _ => rfl
  have HK := Lib.hid (skyOk_iff.1 c0)
  have hE3 : Ext w1 (((w1.alloc (.cells #[.int .i64 0] 3)).alloc (.cells #[.int .i64 1] 3)).alloc (.cells #[.int .i64 0] 32)) := (((Ext.refl w1).alloc _).alloc _).alloc _
  have rN : Row (((w1.alloc (.cells #[.int .i64 0] 3)).alloc (.cells #[.int .i64 1] 3)).alloc (.cells #[.int .i64 0] 32)) w1.heap.size 3 #[.int .i64 0] := (blocks3 w1 _ _ _).1
  have rD : Row (((w1.alloc (.cells #[.int .i64 0] 3)).alloc (.cells #[.int .i64 1] 3)).alloc (.cells #[.int .i64 0] 32)) (w1.heap.size + 1) 3 #[.int .i64 1] := (blocks3 w1 _ _ _).2.1
  have rR : Row (((w1.alloc (.cells #[.int .i64 0] 3)).alloc (.cells #[.int .i64 1] 3)).alloc (.cells #[.int .i64 0] 32)) (w1.heap.size + 2) 32 #[.int .i64 0] := (blocks3 w1 _ _ _).2.2
  have hz := hr.lt
  go_wp2_with fail
  refine (try_any 43 _ 7 _ (fun _ => False) (fun w' => Ext (((w1.alloc (.cells #[.int .i64 0] 3)).alloc (.cells #[.int .i64 1] 3)).alloc (.cells #[.int .i64 0] 32)) w') (enters_of Tryz.func43 (by kernel_rfl) rfl)
    ((month1_no s A c w.heap.size _ _ _ HK.out (HM.out.ext (hE.trans hE3)) hmn (hr.ext hE3)).mono ?_)).mono ?_
  · rintro e w' ⟨rfl, hEE⟩
    exact ⟨by simpa using rR.ext hEE, .inr ⟨rfl, hEE⟩⟩
  · rintro e w' ⟨W1, ⟨h0, _⟩ | ⟨hEE, rfl, rfl⟩⟩
    · exact h0.elim
    · have HE := Lib.hid (hE.trans (((hE3.trans hEE).setCell (p := ⟨w1.heap.size + 1 + 1, 0, none⟩) (by simp; omega) (.int .i64 7)).alloc (.cells #[.int .i64 7] 174)))
      simp only [World.size_alloc]
      clear hE3 rN rD rR hEE hE b0
      go_wp2_with fail
      go_ret3
      exact ⟨rfl, HE.out⟩
end Go.Proofs.YtimkmokomohgjaaGreat
namespace Go.Proofs.YtimkmokomohgjaaGreat
open Go.RowKit
open Sp (rd)
attribute [local go_sem ↓] Go.wp_at_zero Go.wp_at_succ
def pd (l : List Ec.Pair) (k : Nat) : Ec.Pair := l.getD k Ec.noPair
/-- A train in memory. -/
def Pairs (w : World) (A : Option Addr) (l : List Ec.Pair) : Prop :=
  0 < l.length → ∃ b o, A = some ⟨b, o, none⟩ ∧ ∀ k, k < l.length → w.cell? ⟨b, o + k * 2, none⟩ = some (.int .i64 (pd l k).drives) ∧ w.cell? ⟨b, o + k * 2 + 1, none⟩ = some (.int .i64 (pd l k).driven)
theorem Pairs.ext {w w' : World} {A : Option Addr} {l : List Ec.Pair} (h : Pairs w A l) (he : Ext w w') : Pairs w' A l := fun h0 =>
  let ⟨b, o, e, hc⟩ := h h0
  ⟨b, o, e, fun k hk => ⟨he.cell (hc k hk).1, he.cell (hc k hk).2⟩⟩
/-- Trains as defined, and what follows of them. -/
structure TrainOk (l : List Ec.Pair) : Prop where
  n1 : 1 ≤ l.length
  n3 : l.length ≤ 3
  all : ∀ k, k < l.length → (4 ≤ (pd l k).drives ∧ (pd l k).drives ≤ 60) ∧ (4 ≤ (pd l k).driven ∧ (pd l k).driven ≤ 60)
theorem trainOk_of {l : List Ec.Pair} (h : Ec.trainOk l = true) : TrainOk l := by
  simp only [Ec.trainOk, Bool.and_eq_true, inR_iff, List.all_eq_true] at h
  refine ⟨by omega, by omega, fun k hk => ?_⟩
  have := h.2 (pd l k) (by unfold pd; rw [List.getD_eq_getElem?_getD, List.getElem?_eq_getElem hk]; exact List.getElem_mem hk)
  simp only [Ec.pairOk, Ec.isTeeth, Bool.and_eq_true, inR_iff] at this
  exact this
theorem mul_bounds0 {a b A B : Int} (h1 : 0 ≤ a) (h2 : a ≤ A) (h3 : 0 ≤ b) (h4 : b ≤ B) : 0 ≤ a * b ∧ a * b ≤ A * B :=
  ⟨Int.mul_nonneg h1 h3, Int.mul_le_mul h2 h4 h3 (by omega)⟩
theorem prod_bounds (f : Ec.Pair → Int) : ∀ (l : List Ec.Pair) (k : Nat), l.length = k → k ≤ 3 → (∀ p ∈ l, 4 ≤ f p ∧ f p ≤ 60) → 1 ≤ l.foldl (fun n p => n * f p) 1 ∧ l.foldl (fun n p => n * f p) 1 ≤ 216000 := by
  intro l k hl hk h
  match l, hl with
  | [], _ => simp
  | [a], _ => have := h a (by simp); simp; omega
  | [a, b], _ =>
    have h1 := h a (by simp)
    have h2 := h b (by simp)
    have := mul_bounds (a := f a) (b := f b) (A := 60) (B := 60) (by omega) (by omega) (by omega) (by omega)
    have : 1 * 1 ≤ f a * f b := Int.mul_le_mul (by omega) (by omega) (by omega) (by omega)
    simp; omega
  | [a, b, c], _ =>
    have h1 := h a (by simp)
    have h2 := h b (by simp)
    have h3 := h c (by simp)
    have k1 : 1 * 1 ≤ f a * f b := Int.mul_le_mul (by omega) (by omega) (by omega) (by omega)
    have k2 : f a * f b ≤ 60 * 60 := Int.mul_le_mul (by omega) (by omega) (by omega) (by omega)
    have k3 : 1 * 1 ≤ f a * f b * f c := Int.mul_le_mul (by omega) (by omega) (by omega) (by omega)
    have k4 : f a * f b * f c ≤ 3600 * 60 := Int.mul_le_mul (by omega) (by omega) (by omega) (by omega)
    simp; omega
  | _ :: _ :: _ :: _ :: _, hl => simp at hl; omega
theorem TrainOk.mem {l : List Ec.Pair} (h : TrainOk l) : ∀ p ∈ l, (4 ≤ p.drives ∧ p.drives ≤ 60) ∧ (4 ≤ p.driven ∧ p.driven ≤ 60) := by
  intro p hp
  obtain ⟨k, hk, rfl⟩ := List.mem_iff_getElem.1 hp
  have := h.all k hk
  unfold pd at this
  rwa [List.getD_eq_getElem?_getD, List.getElem?_eq_getElem hk] at this
theorem TrainOk.prods {l : List Ec.Pair} (h : TrainOk l) : (1 ≤ Ec.drivesP l ∧ Ec.drivesP l ≤ 216000) ∧ (1 ≤ Ec.drivenP l ∧ Ec.drivenP l ≤ 216000) :=
  ⟨prod_bounds (·.drives) l _ rfl h.n3 fun p hp => (h.mem p hp).1, prod_bounds (·.driven) l _ rfl h.n3 fun p hp => (h.mem p hp).2⟩
theorem TrainOk.turns {l : List Ec.Pair} (h : TrainOk l) : (1 ≤ Ec.turnsN l ∧ Ec.turnsN l ≤ 216000) ∧ (1 ≤ Ec.turnsD l ∧ Ec.turnsD l ≤ 216000) := by
  obtain ⟨⟨a1, a2⟩, b1, b2⟩ := h.prods
  unfold Ec.turnsN Ec.turnsD Ec.turnsG
  have hg : 1 ≤ (Int.gcd (Ec.drivesP l) (Ec.drivenP l) : Int) := by
    have := Int.gcd_pos_of_ne_zero_left (a := Ec.drivesP l) (Ec.drivenP l) (by omega)
    omega
  have e1 := Int.ediv_mul_cancel (Int.gcd_dvd_left (a := Ec.drivesP l) (b := Ec.drivenP l))
  have e2 := Int.ediv_mul_cancel (Int.gcd_dvd_right (a := Ec.drivesP l) (b := Ec.drivenP l))
  have f1 := ediv_bounds (Ec.drivesP l) _ hg (by omega)
  have f2 := ediv_bounds (Ec.drivenP l) _ hg (by omega)
  refine ⟨⟨?_, by omega⟩, ?_, by omega⟩
  · rcases Int.lt_or_le 0 (Ec.drivesP l / (Int.gcd (Ec.drivesP l) (Ec.drivenP l) : Int)) with h | h
    · omega
    · rw [show Ec.drivesP l / (Int.gcd (Ec.drivesP l) (Ec.drivenP l) : Int) = 0 by omega] at e1; omega
  · rcases Int.lt_or_le 0 (Ec.drivenP l / (Int.gcd (Ec.drivesP l) (Ec.drivenP l) : Int)) with h | h
    · omega
    · rw [show Ec.drivenP l / (Int.gcd (Ec.drivesP l) (Ec.drivenP l) : Int) = 0 by omega] at e2; omega
theorem t_in_any (x lo hi : Int) (w : World) : Calls Tryz.prog 146 #[.int .i64 x, .int .i64 lo, .int .i64 hi] w fun e w' => e = .returned (.bool (Sp.inR x lo hi)) ∧ w = w' := by
  go_enter Tryz.func146, Tryz.ntmps146
  go_wp2
  · go_ret
    exact ⟨ret_bool (by simp [Sp.inR, *]), rfl⟩
  · go_ret
    exact ⟨ret_bool (by simp [Sp.inR, *]; omega), rfl⟩
theorem t_isTeeth_any (n : Int) (w : World) : Calls Tryz.prog 145 #[.int .i64 n] w fun e w' => e = .returned (.bool (Ec.isTeeth n)) ∧ w = w' := by
  go_enter Tryz.func145, Tryz.ntmps145
  go_wp2_with (go_at_call 146; refine (t_in_any _ _ _ _).mono ?_; rintro e w' ⟨rfl, rfl⟩)
  go_ret
  exact ⟨rfl, rfl⟩
theorem t_badPair_any (p : Ec.Pair) (w : World) : Calls Tryz.prog 176 #[.agg #[.int .i64 p.drives, .int .i64 p.driven]] w fun e w' => e = .returned (.bool (!Ec.pairOk p)) ∧ Ext w w' := by
  cases h1 : Ec.isTeeth p.drives
  all_goals
    go_enter Tryz.func176, Tryz.ntmps176
    go_wp2_with (go_at_call 145; refine (t_isTeeth_any _ _).mono ?_; rintro e w' ⟨rfl, rfl⟩)
    go_ret
    exact ⟨ret_bool (by simp [Ec.pairOk, h1]), (Ext.refl _).alloc _⟩
theorem t_index_pair (A : Option Addr) (c : Nat) (l : List Ec.Pair) (w : World) (hm : Pairs w A l) (hl : l.length ≤ 100000) :
    Calls Tryz.prog 202 #[.slice A l.length c, .func (.func 176) #[] #[]] w (FoundInt (l.any fun b => !Ec.pairOk b) w) := by
  have HM := Lib.hid hm
  clear hm
  go_enter Tryz.func202, Tryz.ntmps202
  go_wp2_with fail
  go_loopw [5, 8] (fun _ i wr => ∃ k : Nat, k ≤ l.length ∧ i = .int .i64 k ∧ (l.take k).any (fun b => !Ec.pairOk b) = false ∧ Ext w wr) (fun _ i _ => l.length - (intOf i).toNat)
  case atStart => exact ⟨0, Nat.zero_le _, rfl, rfl, Ext.refl _⟩
  case round =>
    obtain ⟨k, hk, rfl, hq, hE⟩ := hrel
    have HQ := Lib.hid hq
    clear hq
    by_cases hlt : k < l.length
    · obtain ⟨b, o, rfl, hc⟩ := (HM.out.ext hE) (by omega)
      obtain ⟨c0, c1⟩ := hc k hlt
      have HS := Lib.hid (any_take_succ l Ec.noPair (fun b => !Ec.pairOk b) k hlt)
      have HT := Lib.hid (any_of_take l Ec.noPair (fun b => !Ec.pairOk b) k hlt)
      clear hc
      cases hv : (!Ec.pairOk (pd l k))
      · go_wp2_with fail
        refine (t_badPair_any (pd l k) _).mono ?_
        rintro e w' ⟨rfl, hE'⟩
        replace hE := hE.trans hE'
        clear c0 c1
        go_wp2_with fail
        go_roundw
        case rel => exact ⟨k + 1, by omega, by go_num, by rw [HS.out, HQ.out]; exact hv, hE⟩
        case measure => simp [intOf]; omega
      · go_wp2_with fail
        refine (t_badPair_any (pd l k) _).mono ?_
        rintro e w' ⟨rfl, hE'⟩
        replace hE := hE.trans hE'
        clear c0 c1
        go_wp2_with fail
        go_ret
        exact ⟨_, rfl, by rw [HT.out hv]; simp, hE⟩
    · go_wp2_with fail
      go_ret
      have e : l.take k = l := List.take_of_length_le (by omega)
      have := HQ.out
      rw [e] at this
      exact ⟨_, rfl, by rw [this]; rfl, hE⟩
theorem t_contains_pair (A : Option Addr) (c : Nat) (l : List Ec.Pair) (w : World) (hm : Pairs w A l) (hl : l.length ≤ 100000) :
    Calls Tryz.prog 175 #[.slice A l.length c, .func (.func 176) #[] #[]] w fun e w' => e = .returned (.bool (l.any fun b => !Ec.pairOk b)) ∧ Ext w w' := by
  go_enter Tryz.func175, Tryz.ntmps175
  go_wp2_with fail
  refine (t_index_pair A c l w hm hl).mono ?_
  rintro e w1 ⟨r, rfl, hr, hE⟩
  have HR := Lib.hid hr
  clear hr
  go_wp2_with fail
  go_ret
  exact ⟨ret_bool HR.out, hE⟩
theorem t_isTrain_any (A : Option Addr) (c : Nat) (l : List Ec.Pair) (w : World) (hm : Pairs w A l) (hl : l.length ≤ 100000) :
    Calls Tryz.prog 125 #[.slice A l.length c] w fun e w' => e = .returned (.bool (Ec.trainOk l)) ∧ Ext w w' := by
  have HM := Lib.hid hm
  clear hm
  cases h1 : Sp.inR l.length 1 3
  · go_enter Tryz.func125, Tryz.ntmps125
    go_wp2_with fail
    refine (t_in_any _ _ _ _).mono ?_
    rintro e w1 ⟨rfl, rfl⟩
    go_wp2_with fail
    go_ret
    exact ⟨ret_bool (by simp [Ec.trainOk, h1]), Ext.refl _⟩
  · go_enter Tryz.func125, Tryz.ntmps125
    go_wp2_with fail
    refine (t_in_any _ _ _ _).mono ?_
    rintro e w1 ⟨rfl, rfl⟩
    go_wp2_with fail
    refine (t_contains_pair A c l _ HM.out hl).mono ?_
    rintro e w2 ⟨rfl, hE2⟩
    go_wp2_with fail
    go_ret
    exact ⟨ret_bool (by simp [Ec.trainOk, h1, List.not_any_eq_all_not]), hE2⟩
theorem t_gcd_any (a b : Int) (w : World) (h1 : 0 ≤ a) (h2 : a ≤ 1000000000000) (h3 : 0 ≤ b) (h4 : b ≤ 1000000000000) :
    Calls Tryz.prog 203 #[.int .i64 a, .int .i64 b] w fun e w' => e = .returned (.int .i64 (Int.gcd a b)) ∧ Ext w w' := by
  go_enter Tryz.func203, Tryz.ntmps203
  go_wp2_with fail
  go_loopw [0, 1] (fun x y wr => ∃ a' b' : Int, x = .int .i64 a' ∧ y = .int .i64 b' ∧ 0 ≤ a' ∧ a' ≤ 1000000000000 ∧ 0 ≤ b' ∧ b' ≤ 1000000000000 ∧ Int.gcd a' b' = Int.gcd a b ∧ Ext w wr) (fun _ y _ => (intOf y).toNat)
  case atStart => exact ⟨a, b, rfl, rfl, h1, h2, h3, h4, rfl, Ext.refl _⟩
  case round =>
    obtain ⟨a', b', rfl, rfl, k1, k2, k3, k4, hg, hE⟩ := hrel
    by_cases hb : 0 < b'
    · have hb0 : ¬ b' = 0 := by omega
      have ht : a'.tmod b' = a' % b' := Int.tmod_eq_emod_of_nonneg k1
      have hm1 := Int.emod_nonneg a' hb0
      have hm2 := Int.emod_lt_of_pos a' hb
      go_wp2_with fail
      go_quiet (fail)
      go_wp2
      go_roundw
      case rel => exact ⟨b', a' % b', rfl, rfl, by omega, by omega, by omega, by omega, (gcd_step k1 k3).trans hg, hE.drewN _⟩
      case measure => simp [intOf]; omega
    · obtain rfl : b' = 0 := by omega
      go_wp2_with fail
      go_ret
      refine ⟨?_, hE⟩
      rw [← hg]
      exact ret_int (gcd_end k1).symm
/-- The product of a list. -/
def prodL (l : List Int) : Int := l.foldl (fun n x => n * x) 1
theorem prodL_take (l : List Int) (k : Nat) (hk : k < l.length) : prodL (l.take (k + 1)) = prodL (l.take k) * rd l k := by
  rw [List.take_succ_eq_append_getElem hk, prodL, List.foldl_append]
  simp [prodL, rd, List.getD_eq_getElem?_getD, List.getElem?_eq_getElem hk]
theorem prodL_bound (l : List Int) (hl : l.length ≤ 3) (h : ∀ k, k < l.length → 4 ≤ rd l k ∧ rd l k ≤ 60) : ∀ k, k ≤ l.length → 1 ≤ prodL (l.take k) ∧ prodL (l.take k) ≤ 216000 ∧ (k < 3 → prodL (l.take k) ≤ 3600) ∧ (k < 2 → prodL (l.take k) ≤ 60) ∧ (k = 0 → prodL (l.take k) = 1) := by
  intro k hk
  induction k with
  | zero => simp [prodL]
  | succ k ih =>
    obtain ⟨h1, h2, h3, h4, h5⟩ := ih (by omega)
    have hb := h k (by omega)
    rw [prodL_take l k (by omega)]
    obtain ⟨p, hp⟩ : ∃ p, prodL (l.take k) = p := ⟨_, rfl⟩
    obtain ⟨q, hq⟩ : ∃ q, rd l k = q := ⟨_, rfl⟩
    rw [hp] at h1 h2 h3 h4 h5 ⊢
    rw [hq] at hb ⊢
    have a1 : 1 * 1 ≤ p * q := Int.mul_le_mul (by omega) (by omega) (by omega) (by omega)
    rcases (show k = 0 ∨ k = 1 ∨ k = 2 by omega) with rfl | rfl | rfl
    · obtain rfl := h5 rfl
      refine ⟨by omega, by omega, fun _ => by omega, fun _ => by omega, fun e => by omega⟩
    · have := h4 (by omega)
      have a2 : p * q ≤ 60 * 60 := Int.mul_le_mul (by omega) (by omega) (by omega) (by omega)
      refine ⟨by omega, by omega, fun _ => by omega, fun e => by omega, fun e => by omega⟩
    · have := h3 (by omega)
      have a2 : p * q ≤ 3600 * 60 := Int.mul_le_mul (by omega) (by omega) (by omega) (by omega)
      refine ⟨by omega, by omega, fun e => by omega, fun e => by omega, fun e => by omega⟩
theorem t_product_any (A : Option Addr) (c : Nat) (l : List Int) (w : World) (hm : Ints w A l) (hl : l.length ≤ 3) (h : ∀ k, k < l.length → 4 ≤ rd l k ∧ rd l k ≤ 60) :
    Calls Tryz.prog 148 #[.slice A l.length c] w fun e w' => e = .returned (.int .i64 (prodL l)) ∧ w = w' := by
  have HM := Lib.hid hm
  have HB := Lib.hid (prodL_bound l hl h)
  have HH := Lib.hid h
  clear hm h
  go_enter Tryz.func148, Tryz.ntmps148
  go_wp2_with fail
  go_loop [3, 5, 8] (fun p _ i => ∃ k : Nat, k ≤ l.length ∧ i = .int .i64 k ∧ p = .int .i64 (prodL (l.take k))) (fun _ _ i => l.length - (intOf i).toNat)
  case atStart => exact ⟨0, Nat.zero_le _, rfl, rfl⟩
  case round =>
    obtain ⟨k, hk, rfl, rfl⟩ := hrel
    by_cases hlt : k < l.length
    · obtain ⟨b, o, rfl, hc⟩ := HM.out (by omega)
      have ck := hc k hlt
      have h1 := HB.out k hk
      have h2 := HB.out (k + 1) hlt
      have h3 := HH.out k hlt
      have HT := Lib.hid (prodL_take l k hlt)
      rw [HT.out] at h2
      obtain ⟨h21, h22, _⟩ := h2
      obtain ⟨h11, h12, _⟩ := h1
      clear hc
      go_wp2_with fail
      go_round
      case rel => exact ⟨k + 1, by omega, by go_num, by rw [HT.out]⟩
      case measure => simp [intOf]; omega
    · obtain rfl : k = l.length := by omega
      go_wp2_with fail
      go_ret
      exact ⟨rfl, rfl⟩
theorem t_reduced_any (a b : Int) (w : World) (h1 : 1 ≤ a) (h2 : a ≤ 1000000) (h3 : 1 ≤ b) (h4 : b ≤ 1000000) :
    Calls Tryz.prog 177 #[.int .i64 a, .int .i64 b] w fun e w' => e = .returned (.agg #[.int .i64 (a / Int.gcd a b), .int .i64 (b / Int.gcd a b)]) ∧ Ext w w' := by
  have hg : 1 ≤ (Int.gcd a b : Int) := by
    have := Int.gcd_pos_of_ne_zero_left (a := a) b (by omega)
    omega
  have hg2 : (Int.gcd a b : Int) ≤ a := by
    have h0 := Int.gcd_dvd_left (a := a) (b := b)
    exact Int.le_of_dvd (by omega) h0
  obtain ⟨g, hG⟩ : ∃ g : Int, (Int.gcd a b : Int) = g := ⟨_, rfl⟩
  have HG := Lib.hid hG
  rw [hG] at hg hg2
  have hq1 : a.tdiv g = a / g := Int.tdiv_eq_ediv_of_nonneg (by omega)
  have hq2 : b.tdiv g = b / g := Int.tdiv_eq_ediv_of_nonneg (by omega)
  have hg0 : ¬ g = 0 := by omega
  have q1 := ediv_bounds a g hg (by omega)
  have q2 := ediv_bounds b g hg (by omega)
  clear hG
  go_enter Tryz.func177, Tryz.ntmps177
  go_wp2_with fail
  refine (t_gcd_any a b _ (by omega) (by omega) (by omega) (by omega)).mono ?_
  rintro e w1 ⟨rfl, hE1⟩
  have hr := ((Row.new w 69 _).ext hE1)
  have hE := ((Ext.refl w).alloc _).trans hE1
  have b0 := hr.cell
  have f0 := hr.free
  clear hE1
  rw [HG.out]
  go_wp2_with fail
  go_region
  go_wp2
  rw [HG.out]
  have r2 := (hr.set_ 0 (.int .i64 (a / g))).set_ 1 (.int .i64 (b / g))
  have c2 := r2.drew.cell
  exact bodyPost_ret (v := .agg #[.int .i64 (a / g), .int .i64 (b / g)]) (by simp [results, Tryz.results177, go_sem, b0]) rfl ⟨rfl, ((hE.setCell (p := ⟨w.heap.size, 0, none⟩) (Nat.le_refl _) _).setCell (p := ⟨w.heap.size, 1, none⟩) (Nat.le_refl _) _).drew⟩
/-- Two lists of a train's teeth, each in a row of its own. -/
structure Two (B : Nat) (w : World) (v1 v2 : Value) (l : List Ec.Pair) : Prop where
  one : w.ownsRow B 3 1 v1 l.length (l.map fun p => .int .i64 p.drives)
  two : w.ownsRow B 3 1 v2 l.length (l.map fun p => .int .i64 p.driven)
  ne : ∀ g, v1.ownBlock = some g → v2.ownBlock ≠ some g
theorem own_ext {w w' : World} {base : Nat} {e : TypeId} {size : Nat} {v : Value} {n : Nat} {xs : List Value} (h : w.ownsRow base e size v n xs) (he : Ext w w') : w'.ownsRow base e size v n xs :=
  ownsRow_of_block h fun k hk => he.block k (h.lt k hk).2
theorem Two.own2 {B : Nat} {wr Wp w1 : World} {v1 v2 : Value} {l : List Ec.Pair} (hT : Two B wr v1 v2 l) (e0 : Ext wr Wp) (hg : Wp.grownBy w1 v1.ownBlock) : w1.ownsRow B 3 1 v2 l.length (l.map fun p => .int .i64 p.driven) :=
  ownsRow_of_block (own_ext hT.two e0) fun q hq => hg.block q ((own_ext hT.two e0).lt q hq).2 (fun e => hT.ne q e.symm hq)
theorem Two.step {B : Nat} {W0 wr Wp w1 Wq w2 : World} {v1 v2 : Value} {l : List Ec.Pair} {x y : Int} {g1 cap1 g2 cap2 : Nat} (hT : Two B wr v1 v2 l) (e0 : Ext wr Wp) (hg1 : Wp.grownBy w1 v1.ownBlock)
    (ho1 : w1.ownsRow B 3 1 (.slice (some ⟨g1, 0, none⟩) (l.length + 1) cap1) (l.length + 1) ((l.map fun p => .int .i64 p.drives) ++ [.int .i64 x])) (ha1 : v1.ownBlock = some g1 ∨ g1 = Wp.heap.size) (hl1 : g1 < w1.heap.size)
    (e1 : Ext w1 Wq) (hg2 : Wq.grownBy w2 v2.ownBlock) (ho2 : w2.ownsRow B 3 1 (.slice (some ⟨g2, 0, none⟩) (l.length + 1) cap2) (l.length + 1) ((l.map fun p => .int .i64 p.driven) ++ [.int .i64 y]))
    (ha2 : v2.ownBlock = some g2 ∨ g2 = Wq.heap.size) (hE : Ext W0 wr) (hB : W0.heap.size ≤ B) :
    Two B w2 (.slice (some ⟨g1, 0, none⟩) (l.length + 1) cap1) (.slice (some ⟨g2, 0, none⟩) (l.length + 1) cap2) (l ++ [⟨x, y⟩]) ∧ Ext W0 w2 := by
  have s0 := e0.size
  have s1 := e1.size
  have s2 := hg1.size
  have hne : v2.ownBlock ≠ some g1 := by
    intro e
    rcases ha1 with h | h
    · exact hT.ne g1 h e
    · have := (hT.two.lt g1 e).2
      omega
  refine ⟨⟨?_, ?_, ?_⟩, ?_⟩
  · have := (own_ext ho1 e1).kept hg2 (.inr (by simpa [Value.ownBlock] using Ne.symm hne))
    simpa using this
  · simpa using ho2
  · intro g hg
    simp only [Value.ownBlock, Option.some.injEq] at hg
    subst hg
    simp only [Value.ownBlock, ne_eq, Option.some.injEq]
    rintro rfl
    rcases ha2 with h | h
    · exact hne h
    · omega
  · have h1 := (hE.trans e0).grown hg1 (fun k e => Nat.le_trans hB (hT.one.lt k e).1)
    exact (h1.trans e1).grown hg2 (fun k e => Nat.le_trans hB (hT.two.lt k e).1)
theorem info_int : (Tryz.prog.info? 3).map (fun i => (i.zero, i.size, i.bytes)) = some (some (.int .i64 0), 1, 8) := by kernel_rfl
end Go.Proofs.YtimkmokomohgjaaGreat
namespace Go.Proofs.YtimkmokomohgjaaGreat
open Go.RowKit
open Sp (rd)
theorem t_isFraction_any (num den : Int) (w : World) : Calls Tryz.prog 90 #[.agg #[.int .i64 num, .int .i64 den]] w fun e w' => e = .returned (.bool (Sp.inR num 0 50000 && Sp.inR den 1 50000)) ∧ Ext w w' := by
  cases hd : Sp.inR num 0 50000
  all_goals
    go_enter Tryz.func90, Tryz.ntmps90
    go_wp2_with (go_at_call 146; refine (t_in_any _ _ _ _).mono ?_; rintro e w' ⟨rfl, rfl⟩)
    go_ret
    exact ⟨ret_bool (by simp), (Ext.refl _).alloc _⟩
end Go.Proofs.YtimkmokomohgjaaGreat
namespace Go.Proofs.YtimkmokomohgjaaGreat
open Go.RowKit
open Sp (rd)
attribute [local go_sem ↓] Go.wp_at_zero Go.wp_at_succ
theorem Ints.of_own {w : World} {base : Nat} {v : Value} {α : Type} {l : List α} {f : α → Int} (h : w.ownsRow base 3 1 v l.length (l.map fun x => .int .i64 (f x))) : ∃ A c, v = .slice A l.length c ∧ Ints w A (l.map f) := by
  rcases h.2 with ⟨rfl, h0⟩ | ⟨g, cap, cur, hv, _⟩
  · refine ⟨none, 0, by rw [h0], fun hh => ?_⟩
    rw [List.length_map] at hh
    omega
  · refine ⟨some ⟨g, 0, none⟩, cap, hv, fun _ => ⟨g, 0, rfl, fun k hk => ?_⟩⟩
    rw [List.length_map] at hk
    have hc := h.cells (g := g) (by rw [hv]; rfl)
    have h1 := hc k (.int .i64 (rd (l.map f) k)) (by simp [rd, hk])
    rw [add0] at h1
    simpa using h1
theorem mapAll {α : Type} (l : List α) (f : α → Int) {lo hi : Int} (h : ∀ x ∈ l, lo ≤ f x ∧ f x ≤ hi) : ∀ j, j < (l.map f).length → lo ≤ rd (l.map f) j ∧ rd (l.map f) j ≤ hi := by
  intro j hj
  rw [List.length_map] at hj
  have := h l[j] (List.getElem_mem hj)
  simpa [rd, hj] using this
theorem news1 {W : World} {o : Obj} {b : Nat} (h : W.heap.size = b) : (W.alloc o).heap[b]? = some o := by subst h; exact heap_alloc_new W o
theorem news1d {W : World} {o : Obj} {b : Nat} (h : W.heap.size = b) : (W.alloc o).drew.heap[b]? = some o := news1 h
theorem news2 {W : World} {o o2 : Obj} {b : Nat} (h : W.heap.size = b) : ((W.alloc o).alloc o2).heap[b]? = some o := by subst h; exact (Below.heap_alloc _ _ _ (by simp)).trans (heap_alloc_new W o)
theorem news2d {W : World} {o o2 : Obj} {b : Nat} (h : W.heap.size = b) : ((W.alloc o).alloc o2).drew.heap[b]? = some o := news2 h
set_option maxRecDepth 100000 in
set_option maxHeartbeats 1000000 in
theorem t_turns_any (A : Option Addr) (c : Nat) (l : List Ec.Pair) (w : World) (hm : Pairs w A l) (hK : TrainOk l) :
    Calls Tryz.prog 126 #[.slice A l.length c] w fun e w' => e = .returned (.agg #[.int .i64 (Ec.turnsN l), .int .i64 (Ec.turnsD l)]) ∧ Ext w w' := by
  have hn3 := hK.n3
  have HM := Lib.hid hm
  have HK := Lib.hid hK
  clear hm hK
  obtain ⟨i0, hi0, hz0, hz1, hz2⟩ := info_parts info_int
  go_enter Tryz.func126, Tryz.ntmps126
  go_wp2_with fail
  go_loopw [3, 4, 6, 9] (fun v1 v2 _ i wr => ∃ k : Nat, k ≤ l.length ∧ i = .int .i64 k ∧ Two (w.heap.size + 1) wr v1 v2 (l.take k) ∧ Ext (w.alloc (.cells #[.int .i64 0, .int .i64 0] 69)) wr) (fun _ _ _ i _ => l.length - (intOf i).toNat)
  case atStart => exact ⟨0, Nat.zero_le _, rfl, ⟨by simp [World.ownsRow], by simp [World.ownsRow], by simp [Value.ownBlock]⟩, Ext.refl _⟩
  case round =>
    obtain ⟨k, hk, rfl, hT, hE⟩ := hrel
    have hz := hE.size
    rw [World.size_alloc] at hz
    by_cases hlt : k < l.length
    · obtain ⟨b, o, rfl, hc⟩ := HM.out (by omega)
      obtain ⟨c0, c1⟩ := hc k hlt
      replace c0 := hE.cell (((Ext.refl w).alloc _).cell c0)
      replace c1 := hE.cell (((Ext.refl w).alloc _).cell c1)
      have hlen : (l.take k).length = k := by rw [List.length_take]; omega
      have HT := Lib.hid hT
      have HE := Lib.hid hE
      clear hc hT hE
      have htk : l.take (k + 1) = l.take k ++ [⟨(pd l k).drives, (pd l k).driven⟩] := by
        rw [List.take_succ_eq_append_getElem hlt]
        congr 1
        unfold pd
        rw [List.getD_eq_getElem?_getD, List.getElem?_eq_getElem hlt]
        rfl
      generalize (pd l k).drives = x at *
      generalize (pd l k).driven = y at *
      obtain ⟨m, hm⟩ : ∃ m, l.take k = m := ⟨_, rfl⟩
      rw [hm] at HT hlen htk
      have HTK := Lib.hid htk
      clear htk
      have HN1 : Hid (u3.ownBlock ≠ some wr.heap.size) := Lib.hid fun e => by have := (HT.out.one.lt _ e).2; omega
      have HN2 : Hid (u4.ownBlock ≠ some wr.heap.size) := Lib.hid fun e => by have := (HT.out.two.lt _ e).2; omega
      have HLN := Lib.hid hlen
      have hm2 : m.length ≤ 2 := by omega
      clear hm hlen
      go_wp2_with fail
      go_region_held3 (fun w' => w'.cell? ⟨wr.heap.size, 0, none⟩ = some (.int .i64 x) ∧ w'.cell? ⟨wr.heap.size, 1, none⟩ = some (.int .i64 y))
        (first | go_keep | (go_split_ands; refine ⟨?_, ?_⟩ <;> (first | (rw [hgrow2.cell_far _ (by have := hgrow1.size; simp at this; simp; omega) (Ne.symm HN2.out)]; assumption) | (rw [hgrow1.cell_far _ (by simp; omega) (Ne.symm HN1.out)]; assumption))))
        (first
          | ((refine step_append_lies _ (by rfl) (Operand.tmp 13) (Operand.tmp 16) _ (by rfl) (w.heap.size + 1) 3 i0 _ 1 8 Tryz.underlying48 hi0 hz0 hz1 hz2 rfl (by omega) u3 m.length (m.map fun p => .int .i64 p.drives) (by rfl)
                (own_ext HT.out.one (by first | exact ((((Ext.refl _).alloc _).alloc _).alloc _).drew | exact (((Ext.refl _).alloc _).alloc _).drew)) _ 1 1 [.int .i64 x] (by rfl) (by rfl)
                (World.news_of_block (cs := #[.int .i64 x]) (t := 3) (fr := (0, 0)) (by first | exact news1d (by simp) | exact news2d (by simp) | exact news1 (by simp) | exact news2 (by simp))) (by simp [Value.oneCell'])
                (by omega) (by unfold maxLen; omega) (by omega) (by simp; omega) _ (by rfl) ?_; intro g1 cap1 w1 hown1 hgrow1 hat1 hlt1))
          | ((refine step_append_lies _ (by rfl) (Operand.tmp 18) (Operand.tmp 21) _ (by rfl) (w.heap.size + 1) 3 i0 _ 1 8 Tryz.underlying48 hi0 hz0 hz1 hz2 rfl (by omega) u4 m.length (m.map fun p => .int .i64 p.driven) (by rfl)
                (by first | exact HT.out.own2 (by first | exact ((((Ext.refl _).alloc _).alloc _).alloc _).drew | exact (((Ext.refl _).alloc _).alloc _).drew) hgrow1 | exact (HT.out.own2 (by first | exact ((((Ext.refl _).alloc _).alloc _).alloc _).drew | exact (((Ext.refl _).alloc _).alloc _).drew) hgrow1).alloc _) _ 1 1 [.int .i64 y] (by rfl) (by rfl)
                (World.news_of_block (cs := #[.int .i64 y]) (t := 3) (fr := (0, 0)) (by first | exact news1 rfl | exact (hgrow1.block _ (by simp) (fun e => by have := (HT.out.one.lt _ e.symm).2; (try simp only [World.size_alloc] at this); omega)).trans (by first | exact news1d (by simp) | exact news2d (by simp)))) (by simp [Value.oneCell'])
                (by omega) (by unfold maxLen; omega) (by omega) (by have := hgrow1.size; simp at this; simp; omega) _ (by rfl) ?_; intro g2 cap2 w2 hown2 hgrow2 hat2 hlt2)))
      all_goals
        have hS := Lib.hid (HT.out.step (y := y) (by first | exact ((((Ext.refl _).alloc _).alloc _).alloc _).drew | exact (((Ext.refl _).alloc _).alloc _).drew) hgrow1 hown1 hat1 hlt1 (by first | exact Ext.refl _ | exact (Ext.refl _).alloc _) hgrow2 hown2 hat2 HE.out (Nat.le_of_eq (World.size_alloc _ _)))
        clear hown1 hown2 hgrow1 hgrow2 hat1 hat2
        go_wp2
        go_roundw
        case rel => exact ⟨k + 1, by omega, by go_num, by rw [HTK.out]; exact hS.out.1, hS.out.2⟩
        case measure => simp [intOf]; omega
    · obtain rfl : k = l.length := by omega
      rw [List.take_length] at hT
      obtain ⟨A1, c1, rfl, h1⟩ := Ints.of_own hT.one
      obtain ⟨A2, c2, rfl, h2⟩ := Ints.of_own hT.two
      have HT1 := Lib.hid h1
      have HT2 := Lib.hid h2
      have HE := Lib.hid hE
      have hr := (Row.new w 69 #[.int .i64 0, .int .i64 0]).ext hE
      have b0 := hr.cell
      have f0 := hr.free
      have HR := Lib.hid hr
      have hD : Hid (prodL (l.map (·.drives)) = Ec.drivesP l) := Lib.hid (by unfold prodL Ec.drivesP; rw [List.foldl_map])
      have hN : Hid (prodL (l.map (·.driven)) = Ec.drivenP l) := Lib.hid (by unfold prodL Ec.drivenP; rw [List.foldl_map])
      obtain ⟨⟨a1, a2⟩, d1, d2⟩ := HK.out.prods
      have HA1 : Hid (∀ j, j < (l.map (·.drives)).length → 4 ≤ rd (l.map (·.drives)) j ∧ rd (l.map (·.drives)) j ≤ 60) := Lib.hid (mapAll l _ fun p hp => (HK.out.mem p hp).1)
      have HA2 : Hid (∀ j, j < (l.map (·.driven)).length → 4 ≤ rd (l.map (·.driven)) j ∧ rd (l.map (·.driven)) j ≤ 60) := Lib.hid (mapAll l _ fun p hp => (HK.out.mem p hp).2)
      have hl1 : (l.map (·.drives)).length = l.length := List.length_map _
      have hl2 : (l.map (·.driven)).length = l.length := List.length_map _
      clear hT h1 h2 hE hr
      go_wp2_with fail
      have p1 := t_product_any A1 c1 (l.map (·.drives)) wr HT1.out (by omega) HA1.out
      rw [hl1, hD.out] at p1
      refine p1.mono ?_
      rintro r w1 ⟨rfl, rfl⟩
      clear p1
      go_wp2_with fail
      have p2 := t_product_any A2 c2 (l.map (·.driven)) wr HT2.out (by omega) HA2.out
      rw [hl2, hN.out] at p2
      refine p2.mono ?_
      rintro r w1 ⟨rfl, rfl⟩
      clear p2
      go_wp2_with fail
      refine (t_reduced_any _ _ _ a1 (by omega) d1 (by omega)).mono ?_
      rintro r w1 ⟨rfl, hE1⟩
      have hr1 := HR.out.ext hE1
      have b1 := hr1.cell
      have f1 := hr1.free
      clear b0 f0
      go_wp2_with fail
      have hEE := ((((Ext.refl w).alloc _).trans HE.out).trans hE1)
      exact bodyPost_ret (v := .agg #[.int .i64 (Ec.turnsN l), .int .i64 (Ec.turnsD l)]) (by simp [results, Tryz.results126, go_sem, b1, Ec.turnsN, Ec.turnsD, Ec.turnsG]) rfl ⟨rfl, (hEE.setCell (p := ⟨w.heap.size, 0, none⟩) (Nat.le_refl _) _).setCell (p := ⟨w.heap.size, 1, none⟩) (Nat.le_refl _) _⟩
end Go.Proofs.YtimkmokomohgjaaGreat
