/- Moons1: The walks of layer 5: the closure 'look' of moons, that appends a moon.
Days2: The walks of layer 5: days(s, from, to): its value, its contract for a loop; small laws for a body that appends to a box.
Moons2: The walks of layer 5: moons.
MoonsX: The walks of layer 5: Moons; Meets and Near where the arguments are not as defined. (Printed by wip/mkmx.py.) -/
import Derived.Test.YtlcddcnmoajpjaaGreatDoorV04
import Derived.Test.YtlcddcnmoajpjaaGreatDoorV03
namespace Go.Proofs.YtlcddcnmoajpjaaGreatDoor
open Go.RowKit
open Sp (rd)

theorem info_moon : (Tryz.prog.info? 40).map (fun i => (i.zero, i.size, i.bytes)) = some (some (.agg #[.int .i64 0, .bool false]), 2, 16) := by kernel_rfl
def moonCells (l : List (Int × Bool)) : List Value := l.flatMap fun m => [.int .i64 m.1, .bool m.2]
theorem moonCells_append (l m : List (Int × Bool)) : moonCells (l ++ m) = moonCells l ++ moonCells m := by simp [moonCells]
abbrev moonsOut (w : World) (base bO : Nat) (v : Value) (l : List (Int × Bool)) : Prop := Out w base bO 31 40 2 v l.length (moonCells l)
theorem grown_row {w w' : World} {row : Option Nat} (hg : w.grownBy w' row) {g : Nat} {t : TypeId} {cs : Array Value} (h : Row w g t cs) (hne : row ≠ some g) : Row w' g t cs := (hg.block g h.lt (Ne.symm hne)).trans h
theorem grown_cell {w w' : World} {row : Option Nat} (hg : w.grownBy w' row) {g : Nat} {t : TypeId} {cs : Array Value} (h : Row w g t cs) (hne : row ≠ some g) (i : Nat) : w'.cell? ⟨g, i, none⟩ = cs[i]? := (grown_row hg h hne).cell i
theorem grown_free {w w' : World} {row : Option Nat} (hg : w.grownBy w' row) {g : Nat} {t : TypeId} {cs : Array Value} (h : Row w g t cs) (hne : row ≠ some g) (i : Nat) : w'.frozen? ⟨g, i, none⟩ = false := (grown_row hg h hne).free i
theorem full_new (w : World) : Calls Tryz.prog 225 #[.agg #[]] w fun e w' => e = .returned (.bool false) ∧ Ext w w' := by
  go_enter Tryz.func225, Tryz.ntmps225
  go_wp2_with fail
  go_ret
  exact ⟨rfl, (Ext.refl _).alloc _⟩
theorem full_full (w : World) : Calls Tryz.prog 226 #[.agg #[]] w fun e w' => e = .returned (.bool true) ∧ Ext w w' := by
  go_enter Tryz.func226, Tryz.ntmps226
  go_wp2_with fail
  go_ret
  exact ⟨rfl, (Ext.refl _).alloc _⟩

set_option maxRecDepth 100000 in
theorem look_new (base bX bO : Nat) (s : Sp.Sky) (A : Option Addr) (c : Nat) (day : Int) (w : World) (hs : SkyOk s) (hm : Bodies w A s.bodies) (h2 : 1 ≤ day) (h3 : day ≤ 20000)
    (hX : Row w bX 120 #[.slice A s.bodies.length c, .int .i64 s.nnum, .int .i64 s.nden, .int .i64 s.nstart, .int .i64 day]) (v : Value) (l : List (Int × Bool)) (hO : moonsOut w base bO v l)
    (hbase : base ≤ w.heap.size) (hl : l.length ≤ 2000) :
    Calls Tryz.prog 147 #[.iface 160 (.agg #[]), .pointer (some ⟨bX, 0, none⟩), .pointer (some ⟨bO, 0, none⟩)] w fun e w' => e = .returned (.tuple #[]) ∧ ∃ v', moonsOut w' base bO v' (l ++ if Sp.moonB s day false then [(day, false)] else []) ∧ Push bO v v' w w' := by
  obtain ⟨i0, hi0, hz0, hz1, hz2⟩ := info_parts info_moon
  have cX := hX.cell
  cases hb : Sp.moonB s day false
  · go_enter Tryz.func147, Tryz.ntmps147
    go_wp2_with fail
    refine (hasNew s A c day _ hs hm h2 h3).mono ?_
    rintro e w1 ⟨rfl, hE⟩
    have HE := Lib.hid hE
    clear hE
    rw [hb]
    go_wp2_with fail
    go_end0
    exact ⟨rfl, v, by simpa using hO.ext HE.out, Push.of_ext HE.out⟩
  · go_enter Tryz.func147, Tryz.ntmps147
    go_wp2_with fail
    refine (hasNew s A c day _ hs hm h2 h3).mono ?_
    rintro e w1 ⟨rfl, hE⟩
    replace hO := hO.ext hE
    replace hX := hX.ext hE
    have hP := Push.of_ext (bO := bO) (v := v) hE
    replace hbase : base ≤ w1.heap.size := Nat.le_trans hbase hE.size
    clear hE cX
    rw [hb]
    go_wp2_with fail
    refine wp_region_later_mix (v0 := v) 6 (by kernel_rfl) (by kernel_rfl) rfl rfl (by kernel_rfl) ?_ (fun W hW => ?_)
    · intro x
      have c2 := (hO.box.ext x.ext).cell 0
      simp only [List.getElem?_toArray, List.getElem?_cons_zero] at c2
      simp [go_sem, c2]
    have q1 := Later.block (w := W) (by rw [hW]; exact hX)
    have q2 := Later.block (w := W) (by rw [hW]; exact hO.box)
    simp only [List.take_succ_cons, List.take_zero, List.drop_succ_cons, List.drop_zero, Act.put, List.setIfInBounds_toArray, List.set_cons_succ, List.set_cons_zero]
    have hn : ∀ w, (nilAhead 177 160 (.agg #[]) "tellurion/sky.full").run Tryz.prog w = .ok (some false) w := fun _ => by kernel_rfl
    have hn' : ∀ w, (method 337 160 (.agg #[]) "tellurion/sky.full").run Tryz.prog w = .ok (225, .agg #[]) w := fun _ => by kernel_rfl
    repeat (go_big_quiet_step ((exact Later.call (full_new _))))
    refine wpQuiet_nil ?_
    intro x
    go_wp2
    refine ⟨⟨⟨_, x.ext.alloc _⟩, rfl⟩, ?_⟩
    subst hW
    replace hbase : base ≤ x.world.heap.size := Nat.le_trans hbase x.ext.size
    have hO2 := (hO.ext x.ext).ext ((Ext.refl _).alloc (.cells #[.int .i64 day, .bool false] 40))
    refine wpList_append_lies _ rfl _ _ _ rfl base 40 i0 _ 2 16 Tryz.underlying31 hi0 hz0 hz1 hz2 rfl (by omega) v l.length (moonCells l) rfl hO2.own
      ⟨x.world.heap.size, 0, none⟩ 1 1 [.int .i64 day, .bool false] rfl rfl (World.news_of_block (cs := #[.int .i64 day, .bool false]) (t := 40) (fr := (0, 0)) (heap_alloc_new _ _)) (by simp [Value.oneCell'])
      (by omega) (by simp only [maxLen]; omega) (by omega) (by simp; omega) _ rfl ?_
    intro gg cap w3 hown1 hgrow hat hlt
    have hc3 := grown_cell hgrow hO2.box hO2.ne 0
    have hf3 := grown_free hgrow hO2.box hO2.ne 0
    simp only [List.getElem?_toArray, List.getElem?_cons_zero] at hc3
    have hpush := hO2.pushed (Ext.refl _) hown1 hgrow hat
    have hP2 := (hP.trans (Push.of_ext x.ext)).trans (Push.of_ext ((Ext.refl _).alloc (.cells #[.int .i64 day, .bool false] 40)))
    clear q1 q2 hO2 hO hX hgrow hown1 hP
    go_wp2
    refine NoPanic.normal ?_
    go_end0
    exact ⟨rfl, _, by simpa [moonsOut, moonCells_append, moonCells] using hpush.1, hP2.trans hpush.2⟩

set_option maxRecDepth 100000 in
theorem look_full (base bX bO : Nat) (s : Sp.Sky) (A : Option Addr) (c : Nat) (day : Int) (w : World) (hs : SkyOk s) (hm : Bodies w A s.bodies) (h2 : 1 ≤ day) (h3 : day ≤ 20000)
    (hX : Row w bX 120 #[.slice A s.bodies.length c, .int .i64 s.nnum, .int .i64 s.nden, .int .i64 s.nstart, .int .i64 day]) (v : Value) (l : List (Int × Bool)) (hO : moonsOut w base bO v l)
    (hbase : base ≤ w.heap.size) (hl : l.length ≤ 2000) :
    Calls Tryz.prog 147 #[.iface 161 (.agg #[]), .pointer (some ⟨bX, 0, none⟩), .pointer (some ⟨bO, 0, none⟩)] w fun e w' => e = .returned (.tuple #[]) ∧ ∃ v', moonsOut w' base bO v' (l ++ if Sp.moonB s day true then [(day, true)] else []) ∧ Push bO v v' w w' := by
  obtain ⟨i0, hi0, hz0, hz1, hz2⟩ := info_parts info_moon
  have cX := hX.cell
  cases hb : Sp.moonB s day true
  · go_enter Tryz.func147, Tryz.ntmps147
    go_wp2_with fail
    refine (hasFull s A c day _ hs hm h2 h3).mono ?_
    rintro e w1 ⟨rfl, hE⟩
    have HE := Lib.hid hE
    clear hE
    rw [hb]
    go_wp2_with fail
    go_end0
    exact ⟨rfl, v, by simpa using hO.ext HE.out, Push.of_ext HE.out⟩
  · go_enter Tryz.func147, Tryz.ntmps147
    go_wp2_with fail
    refine (hasFull s A c day _ hs hm h2 h3).mono ?_
    rintro e w1 ⟨rfl, hE⟩
    replace hO := hO.ext hE
    replace hX := hX.ext hE
    have hP := Push.of_ext (bO := bO) (v := v) hE
    replace hbase : base ≤ w1.heap.size := Nat.le_trans hbase hE.size
    clear hE cX
    rw [hb]
    go_wp2_with fail
    refine wp_region_later_mix (v0 := v) 6 (by kernel_rfl) (by kernel_rfl) rfl rfl (by kernel_rfl) ?_ (fun W hW => ?_)
    · intro x
      have c2 := (hO.box.ext x.ext).cell 0
      simp only [List.getElem?_toArray, List.getElem?_cons_zero] at c2
      simp [go_sem, c2]
    have q1 := Later.block (w := W) (by rw [hW]; exact hX)
    have q2 := Later.block (w := W) (by rw [hW]; exact hO.box)
    simp only [List.take_succ_cons, List.take_zero, List.drop_succ_cons, List.drop_zero, Act.put, List.setIfInBounds_toArray, List.set_cons_succ, List.set_cons_zero]
    have hn : ∀ w, (nilAhead 177 161 (.agg #[]) "tellurion/sky.full").run Tryz.prog w = .ok (some false) w := fun _ => by kernel_rfl
    have hn' : ∀ w, (method 337 161 (.agg #[]) "tellurion/sky.full").run Tryz.prog w = .ok (226, .agg #[]) w := fun _ => by kernel_rfl
    repeat (go_big_quiet_step ((exact Later.call (full_full _))))
    refine wpQuiet_nil ?_
    intro x
    go_wp2
    refine ⟨⟨⟨_, x.ext.alloc _⟩, rfl⟩, ?_⟩
    subst hW
    replace hbase : base ≤ x.world.heap.size := Nat.le_trans hbase x.ext.size
    have hO2 := (hO.ext x.ext).ext ((Ext.refl _).alloc (.cells #[.int .i64 day, .bool true] 40))
    refine wpList_append_lies _ rfl _ _ _ rfl base 40 i0 _ 2 16 Tryz.underlying31 hi0 hz0 hz1 hz2 rfl (by omega) v l.length (moonCells l) rfl hO2.own
      ⟨x.world.heap.size, 0, none⟩ 1 1 [.int .i64 day, .bool true] rfl rfl (World.news_of_block (cs := #[.int .i64 day, .bool true]) (t := 40) (fr := (0, 0)) (heap_alloc_new _ _)) (by simp [Value.oneCell'])
      (by omega) (by simp only [maxLen]; omega) (by omega) (by simp; omega) _ rfl ?_
    intro gg cap w3 hown1 hgrow hat hlt
    have hc3 := grown_cell hgrow hO2.box hO2.ne 0
    have hf3 := grown_free hgrow hO2.box hO2.ne 0
    simp only [List.getElem?_toArray, List.getElem?_cons_zero] at hc3
    have hpush := hO2.pushed (Ext.refl _) hown1 hgrow hat
    have hP2 := (hP.trans (Push.of_ext x.ext)).trans (Push.of_ext ((Ext.refl _).alloc (.cells #[.int .i64 day, .bool true] 40)))
    clear q1 q2 hO2 hO hX hgrow hown1 hP
    go_wp2
    refine NoPanic.normal ?_
    go_end0
    exact ⟨rfl, _, by simpa [moonsOut, moonCells_append, moonCells] using hpush.1, hP2.trans hpush.2⟩
end Go.Proofs.YtlcddcnmoajpjaaGreatDoor

namespace Go.Proofs.YtlcddcnmoajpjaaGreatDoor
open Go.RowKit Go.Shelf
open Sp (rd)
attribute [local go_sem] Oper.semAt_some

/-- The world behind the call of days. -/
def daysW (A : Option Addr) (n c : Nat) (s : Sp.Sky) (lo hi : Int) (w : World) : World :=
  ((w.alloc (.cells #[.slice A n c, .int .i64 s.nnum, .int .i64 s.nden, .int .i64 s.nstart] 28)).alloc (.cells #[.int .i64 lo] 3)).alloc (.cells #[.int .i64 hi] 3)
theorem daysW_size (A : Option Addr) (n c : Nat) (s : Sp.Sky) (lo hi : Int) (w : World) : (daysW A n c s lo hi w).heap.size = w.heap.size + 3 := by simp [daysW]
theorem daysW_ext (A : Option Addr) (n c : Nat) (s : Sp.Sky) (lo hi : Int) (w : World) : Ext w (daysW A n c s lo hi w) := (((Ext.refl w).alloc _).alloc _).alloc _
theorem daysW_S (A : Option Addr) (n c : Nat) (s : Sp.Sky) (lo hi : Int) (w : World) : Row (daysW A n c s lo hi w) w.heap.size 28 #[.slice A n c, .int .i64 s.nnum, .int .i64 s.nden, .int .i64 s.nstart] := (blocks3 w _ _ _).1
theorem daysW_F (A : Option Addr) (n c : Nat) (s : Sp.Sky) (lo hi : Int) (w : World) : Row (daysW A n c s lo hi w) (w.heap.size + 1) 3 #[.int .i64 lo] := (blocks3 w _ _ _).2.1
theorem daysW_T (A : Option Addr) (n c : Nat) (s : Sp.Sky) (lo hi : Int) (w : World) : Row (daysW A n c s lo hi w) (w.heap.size + 2) 3 #[.int .i64 hi] := (blocks3 w _ _ _).2.2
attribute [irreducible] daysW

def daysV (b : Nat) : Value := .func (.func 157) #[] #[.pointer (some ⟨b + 1, 0, none⟩), .pointer (some ⟨b + 2, 0, none⟩), .pointer (some ⟨b, 0, none⟩)]

theorem days_any (A : Option Addr) (n c : Nat) (s : Sp.Sky) (lo hi : Int) (w : World) :
    Calls Tryz.prog 114 #[.agg #[.slice A n c, .int .i64 s.nnum, .int .i64 s.nden, .int .i64 s.nstart], .int .i64 lo, .int .i64 hi] w fun e w' => e = .returned (daysV w.heap.size) ∧ w' = daysW A n c s lo hi w := by
  have hmf : ∀ fn first cap w, (Instr.makeFunc fn first cap).run Tryz.prog w = .ok (.func fn first cap) w := fun _ _ _ _ => rfl
  go_enter Tryz.func114, Tryz.ntmps114
  go_wp2_with fail
  go_ret
  exact ⟨rfl, by unfold daysW; rfl⟩

def DaysAll (lo hi : Int) (xs : List Day1) : Prop := xs.map Subtype.val = daysL lo (hi + 1 - lo).toNat
def DaysSome (lo hi : Int) (pre : List Day1) : Prop := ∃ k, k ≤ (hi + 1 - lo).toNat ∧ pre.map Subtype.val = daysL lo k

theorem days_stops (n : Nat) (hn : 1 ≤ n) (A : Option Addr) (m c : Nat) (s : Sp.Sky) (lo hi : Int) (h1 : 1 ≤ lo) (h2 : hi ≤ 20000) (b : Nat) (w : World) (hS : Row w b 28 #[.slice A m c, .int .i64 s.nnum, .int .i64 s.nden, .int .i64 s.nstart])
    (hF : Row w (b + 1) 3 #[.int .i64 lo]) (hT : Row w (b + 2) 3 #[.int .i64 hi]) :
    SeqStopsK Fence.wide n Tryz.prog 157 #[.pointer (some ⟨b + 1, 0, none⟩), .pointer (some ⟨b + 2, 0, none⟩), .pointer (some ⟨b, 0, none⟩)] (fun x : Day1 => #[skyV A m c s x.1]) (KeepsTwo (b + 2) b) (DaysAll lo hi) (DaysSome lo hi) (hi + 1 - lo).toNat w := fun l J Jx W hW _ _ hY h0 =>
  days1_in n hn l (b + 1) (b + 2) b A m c s lo hi J Jx h1 h2 hY W (hF.ext hW) (hT.ext hW) (hS.ext hW) h0

theorem keepsTwo_t (bT bS : Nat) {A B C : World} (h : KeepsTwo bT bS A B) (k : KeepsTwo bT bS B C) : KeepsTwo bT bS A C := ⟨k.1.trans h.1, k.2.trans h.2⟩
theorem keepsTwo_b {bT bS B : Nat} (h1 : bT < B) (h2 : bS < B) (W : World) (l : Nat) (_o o' : Obj) (hl : B ≤ l) (_ : W.heap[l]? = some _o) (_ : _o.isCells = false) (_ : _o.isWalk = false) : KeepsTwo bT bS W (W.putObj l o') :=
  ⟨World.putObj_heap_other (by omega), World.putObj_heap_other (by omega)⟩

/-- What is cells is no loop's record. -/
theorem row_ne_of_other {W : World} {g : Nat} {t : TypeId} {cs : Array Value} (h : Row W g t cs) {row : Option Nat} (hrow : ∀ r, row = some r → ∃ o : Obj, W.heap[r]? = some o ∧ o.isCells = false) : some g ≠ row := by
  intro e
  obtain ⟨o, ho, hc⟩ := hrow g e.symm
  unfold Row at h
  rw [h] at ho; cases ho; cases hc
theorem Row.kept {W W' : World} {g : Nat} {t : TypeId} {cs : Array Value} (h : Row W g t cs) {row : Option Nat} (hg : W.grownBy W' row) (hrow : ∀ r, row = some r → ∃ o : Obj, W.heap[r]? = some o ∧ o.isCells = false) : Row W' g t cs :=
  (hg.block g h.lt (row_ne_of_other h hrow)).trans h
theorem own_ne_of_other {W : World} {base : Nat} {e : TypeId} {size : Nat} {v : Value} {n : Nat} {xs : List Value} (h : W.ownsRow base e size v n xs) {row : Option Nat} (hrow : ∀ r, row = some r → ∃ o : Obj, W.heap[r]? = some o ∧ o.isCells = false) {k : Nat} (hk : v.ownBlock = some k) : some k ≠ row := by
  intro e'
  obtain ⟨o, ho, hc⟩ := hrow k e'.symm
  rcases h.2 with ⟨rfl, _⟩ | ⟨g, cap, cur, rfl, _, hh, _⟩
  · cases hk
  · simp only [Value.ownBlock, Option.some.injEq] at hk
    subst hk
    rw [hh] at ho; cases ho; cases hc
theorem Out.kept {W W' : World} {base bO : Nat} {ty e : TypeId} {size : Nat} {v : Value} {n : Nat} {xs : List Value} (h : Out W base bO ty e size v n xs) {row : Option Nat} (hg : W.grownBy W' row) (hrow : ∀ r, row = some r → ∃ o : Obj, W.heap[r]? = some o ∧ o.isCells = false) : Out W' base bO ty e size v n xs :=
  ⟨h.box.kept hg hrow, ownsRow_of_block h.own fun k hk => hg.block k (h.own.lt k hk).2 (own_ne_of_other h.own hrow hk), h.ne⟩
/-- A row of another type is not the list's own. -/
theorem Out.far {W : World} {base bO : Nat} {ty e : TypeId} {size : Nat} {v : Value} {n : Nat} {xs : List Value} (h : Out W base bO ty e size v n xs) {g : Nat} {t : TypeId} {cs : Array Value} (hr : Row W g t cs) (ht : t ≠ e) : v.ownBlock ≠ some g := by
  rcases h.own.2 with ⟨rfl, _⟩ | ⟨g', cap, cur, rfl, _, hh, _⟩
  · simp [Value.ownBlock]
  · simp only [Value.ownBlock, ne_eq, Option.some.injEq]
    rintro rfl
    unfold Row at hr
    rw [hr] at hh; cases hh; exact ht rfl
theorem Out.nbox {W : World} {base bO : Nat} {ty e : TypeId} {size : Nat} {v : Value} {n : Nat} {xs : List Value} (h : Out W base bO ty e size v n xs) {g : Nat} {t : TypeId} {cs : Array Value} (hr : Row W g t cs) (ht : t ≠ ty) : g ≠ bO := by
  rintro rfl
  have hb := h.box
  unfold Row at hr hb
  rw [hr] at hb; cases hb; exact ht rfl
/-- What a push leaves is enough for a round. -/
theorem Push.keepsFrom {W W' : World} {base bO : Nat} {ty e : TypeId} {size : Nat} {v v' : Value} {n : Nat} {xs : List Value} (h : Out W base bO ty e size v n xs) (hp : Push bO v v' W W') (B : Nat) : KeepsFrom B W W' := by
  refine ⟨hp.size, fun k o _ hk hc => ?_⟩
  have h1 : k ≠ bO := by
    rintro rfl
    have hb := h.box
    unfold Row at hb
    rw [hb] at hk; cases hk; cases hc
  have h2 : v.ownBlock ≠ some k := by
    rcases h.own.2 with ⟨rfl, _⟩ | ⟨g', cap, cur, rfl, _, hh, _⟩
    · simp [Value.ownBlock]
    · simp only [Value.ownBlock, ne_eq, Option.some.injEq]
      rintro rfl
      rw [hh] at hk; cases hk; cases hc
  exact (hp.block k (Array.getElem?_eq_some_iff.1 hk).1 h1 h2).1.trans hk
/-- What lies below the list's rows and is not its box is as it was. -/
theorem Push.old {W W' : World} {base bO : Nat} {ty e : TypeId} {size : Nat} {v v' : Value} {n : Nat} {xs : List Value} (h : Out W base bO ty e size v n xs) (hp : Push bO v v' W W') {k : Nat} (hk : k < base) (hl : base ≤ W.heap.size) (hb : k ≠ bO) : W'.heap[k]? = W.heap[k]? :=
  (hp.block k (by omega) hb (fun e => by have := (h.own.lt k e).1; omega)).1
theorem Push.below {W W' : World} {base bO : Nat} {ty e : TypeId} {size : Nat} {v v' : Value} {n : Nat} {xs : List Value} (h : Out W base bO ty e size v n xs) (hp : Push bO v v' W W') {N : Nat} (hk : N ≤ bO) (hl : bO ≤ base) (hl' : base ≤ W.heap.size) : Below N W W' :=
  ⟨hp.os, hp.tape, hp.output, hp.size, fun k hk' => Push.old h hp (by omega) hl' (by omega)⟩
theorem outOwn {β : Type} (B base bO : Nat) (ty e : TypeId) (size : Nat) (n : β → Nat) (xs : β → List Value) : OwnFrom B (fun s W => ∃ v, Out W base bO ty e size v (n s) (xs s)) := fun _ _ _ _ ⟨v, h⟩ hg hr => ⟨v, h.kept hg fun r e => (hr r e).2⟩
theorem rowOwn {β : Type} (B : Nat) (t : TypeId) (g : β → Nat) (cs : β → Array Value) : OwnFrom B (fun s W => Row W (g s) t (cs s)) := fun _ _ _ _ h hg hr => Row.kept h hg fun r e => (hr r e).2
end Go.Proofs.YtlcddcnmoajpjaaGreatDoor

namespace Go.Proofs.YtlcddcnmoajpjaaGreatDoor
open Go.RowKit Go.Shelf
open Sp (rd)
attribute [local go_sem] Oper.semAt_some

def MoonsI (w : World) (s : Sp.Sky) (pre : List Day1) (W : World) : Prop := (∃ v, moonsOut W (w.heap.size + 5) (w.heap.size + 1) v (pre.flatMap fun x => Sp.dayMoons s x.1)) ∧ (Below w.heap.size w W ∧ w.heap.size + 5 ≤ W.heap.size)
theorem moonsI_own (w : World) (s : Sp.Sky) (B : Nat) (hB : w.heap.size ≤ B) : OwnFrom B (MoonsI w s) := fun _ _ _ _ ⟨⟨v, h⟩, hb, hz⟩ hg hr =>
  ⟨⟨v, h.kept hg fun r e => (hr r e).2⟩, hb.grown hg hb.size (fun k e => Nat.le_trans hB (hr k e).1), Nat.le_trans hz hg.size⟩
theorem moons_le (s : Sp.Sky) (pre : List Day1) : (pre.flatMap fun x => Sp.dayMoons s x.1).length ≤ 2 * pre.length := by
  induction pre with
  | nil => simp
  | cons x l ih =>
    simp only [List.flatMap_cons, List.length_append, List.length_cons]
    have : (Sp.dayMoons s x.1).length ≤ 2 := by
      unfold Sp.dayMoons
      split <;> split <;> simp
    omega
theorem moonsN_flat (s : Sp.Sky) (lo : Int) (k : Nat) : (daysL lo k).flatMap (Sp.dayMoons s) = Sp.moonsN s lo k := by
  induction k with
  | zero => simp [daysL, Sp.moonsN]
  | succ k ih => rw [daysL_succ, List.flatMap_append, ih]; simp [Sp.moonsN]
theorem moons_all (s : Sp.Sky) (lo hi : Int) (xs : List Day1) (h : DaysAll lo hi xs) : (xs.flatMap fun x => Sp.dayMoons s x.1) = Sp.moonsL s lo hi := by
  unfold DaysAll at h
  unfold Sp.moonsL
  rw [← moonsN_flat, ← h, List.flatMap_map]
theorem Ext.trans' {w w1 w2 : World} (h : Ext w w1) (k : Below w.heap.size w1 w2) : Ext w w2 := Below.trans h k
set_option maxRecDepth 100000 in
set_option maxHeartbeats 400000 in
theorem moons_in (n : Nat) (hn : 6 ≤ n) (s : Sp.Sky) (A : Option Addr) (c : Nat) (lo hi : Int) (w : World) (hs : SkyOk s) (hm : Bodies w A s.bodies) (h1 : 1 ≤ lo) (h2 : hi ≤ 20000) (h3 : hi - lo ≤ 800) :
    CallsIn Fence.wide n Tryz.prog 87 #[.agg #[.slice A s.bodies.length c, .int .i64 s.nnum, .int .i64 s.nden, .int .i64 s.nstart], .int .i64 lo, .int .i64 hi] w fun e w' =>
      ∃ v base, e = .returned v ∧ w.heap.size < base ∧ w'.ownsRow base 40 2 v (Sp.moonsL s lo hi).length (moonCells (Sp.moonsL s lo hi)) ∧ Ext w w' := by
  have hmf : ∀ fn first cap w, (Instr.makeFunc fn first cap).run Tryz.prog w = .ok (.func fn first cap) w := fun _ _ _ _ => rfl
  refine callsIn_of_wp_marks Tryz.func87 rfl trivial ?_ rfl
  simp only [Tryz.ntmps87, List.size_toArray, List.length_cons, List.length_nil, Nat.reduceAdd, Nat.reduceSub, Array.replicate_succ, Array.replicate_zero, List.push_toArray, List.append_toArray, List.nil_append, List.cons_append]
  gi_wp2
  refine ⟨trivial, fun _ => by omega, (callsIn_wide.2 (days_any A _ c s lo hi _)).mono ?_⟩
  rintro e w' ⟨rfl, rfl⟩
  gi_wp2
  have bO := (Out.new (w.alloc (.cells #[.slice A s.bodies.length c, .int .i64 s.nnum, .int .i64 s.nden, .int .i64 s.nstart] 28)) (w.heap.size + 5) 31 40 2)
  have hE : Ext w ((w.alloc (.cells #[.slice A s.bodies.length c, .int .i64 s.nnum, .int .i64 s.nden, .int .i64 s.nstart] 28)).alloc (.cells #[.slice none 0 0] 31)) := ((Ext.refl w).alloc _).alloc _
  obtain ⟨W1, hW1⟩ : ∃ W1, (w.alloc (.cells #[.slice A s.bodies.length c, .int .i64 s.nnum, .int .i64 s.nden, .int .i64 s.nstart] 28)).alloc (.cells #[.slice none 0 0] 31) = W1 := ⟨_, rfl⟩
  have hsz1 : W1.heap.size = w.heap.size + 1 + 1 := by rw [← hW1]; simp
  rw [hW1] at bO hE ⊢
  clear hW1
  simp only [World.size_alloc] at bO
  have rS := daysW_S A s.bodies.length c s lo hi W1
  have rF := daysW_F A s.bodies.length c s lo hi W1
  have rT := daysW_T A s.bodies.length c s lo hi W1
  have hsz := daysW_size A s.bodies.length c s lo hi W1
  replace bO := bO.ext (daysW_ext A s.bodies.length c s lo hi W1)
  replace hE := hE.trans (daysW_ext A s.bodies.length c s lo hi W1)
  obtain ⟨W0, hW0⟩ : ∃ W0, daysW A s.bodies.length c s lo hi W1 = W0 := ⟨_, rfl⟩
  rw [hW0] at bO hE rS rF rT hsz ⊢
  clear hW0
  rw [hsz1] at rS rF rT hsz
  have HM := Lib.hid hm
  have HS := Lib.hid hs
  clear hm hs
  refine wpIn_rangeFunc_ownH rfl (by omega) (gf := 157) (lb := #[.pointer (some ⟨w.heap.size + 1 + 1 + 1, 0, none⟩), .pointer (some ⟨w.heap.size + 1 + 1 + 2, 0, none⟩), .pointer (some ⟨w.heap.size + 1 + 1, 0, none⟩)]) rfl trivial (enters_of Tryz.func157 (by kernel_rfl) rfl)
    (days_stops (n - 1) (by omega) A s.bodies.length c s lo hi h1 h2 (w.heap.size + 1 + 1) W0 rS rF rT) (fun h k => keepsTwo_t _ _ h k) (keepsTwo_b (by omega) (by omega)) (Below.refl _ _) (fun _ => rfl)
    (MoonsI w s)
    (fun _ _ _ => False)
    (moonsI_own w s _ (by omega))
    (fun _ _ _ _ _ hs _ _ => hs)
    ⟨⟨_, bO⟩, hE, by omega⟩
    (fun x a' W => ∃ Bx, Row W Bx 120 #[.slice A s.bodies.length c, .int .i64 s.nnum, .int .i64 s.nden, .int .i64 s.nstart, .int .i64 x.1] ∧ a' = (⟨#[.agg #[.slice A s.bodies.length c, .int .i64 s.nnum, .int .i64 s.nden, .int .i64 s.nstart], .int .i64 lo, .int .i64 hi, .pointer (some ⟨w.heap.size, 0, none⟩), undef, undef, .slice none 0 0, .pointer (some ⟨w.heap.size + 1, 0, none⟩), .pointer (some ⟨Bx, 0, none⟩), undef, .agg #[.slice A s.bodies.length c, .int .i64 s.nnum, .int .i64 s.nden, .int .i64 s.nstart], .int .i64 lo, .int .i64 hi, daysV (w.heap.size + 1 + 1), (.agg #[.slice A s.bodies.length c, .int .i64 s.nnum, .int .i64 s.nden, .int .i64 s.nstart, .int .i64 x.1]), undef, undef, undef, undef, undef, undef, undef, undef, undef, undef], []⟩ : Act))
    (fun x a' _ X Y row hs hg hr => by obtain ⟨Bx, h1, h2⟩ := hs; exact ⟨Bx, h1.kept hg fun r e => (hr r e).2, h2⟩)
    ?assign ?body ?done ?stop
  case assign =>
    rintro l pre x W K hi hK
    simp only [skyV]
    gi_wp2
    obtain ⟨⟨v, hO⟩, hB, hz⟩ := hi
    exact hK _ _ ((KeepsOthers.alloc _ _).from _) ⟨Below.heap_alloc _ _ _ (by omega), Below.heap_alloc _ _ _ (by omega)⟩ ⟨⟨v, hO.ext ((Ext.refl _).alloc _)⟩, hB.alloc hB.size _, by simp; omega⟩ ⟨_, Row.new _ _ _, rfl⟩
  case body =>
    rintro l pre x a' W hl ⟨r, hr⟩ ⟨⟨v, hO⟩, hB, hz⟩ ⟨Bx, rX, rfl⟩ hlt
    have hl2 := moons_le s pre
    have hx := x.2
    have hne1 := hO.nbox rX (by decide)
    have hne2 := hO.far rX (by decide)
    have hE1 : Ext w W := hB
    have HE := Lib.hid hE1
    have hlen : pre.length < 801 := by omega
    clear hE1 hB
    gi_wp2
    refine ⟨trivial, fun _ => by omega, CallsIn.inRound l ((callsIn_wide.2 (look_new (w.heap.size + 5) Bx (w.heap.size + 1) s A c x.1 W HS.out (HM.out.ext HE.out) hx.1 hx.2 rX v _ hO hz (by omega))).mono ?_)⟩
    rintro e W2 ⟨rfl, v2, hO2, hP2⟩
    gi_wp2
    have rX2 := hP2.row rX hne1 hne2
    have hB2 : Ext w W2 := HE.out.trans' (hP2.below hO (N := w.heap.size) (by omega) (by omega) hz)
    refine ⟨trivial, fun _ => by omega, CallsIn.inRound l ((callsIn_wide.2 (look_full (w.heap.size + 5) Bx (w.heap.size + 1) s A c x.1 W2 HS.out (HM.out.ext hB2) hx.1 hx.2 rX2 v2 _ hO2 (Nat.le_trans hz hP2.size) (by rw [List.length_append]; split <;> (simp only [List.length_cons, List.length_nil]; omega)))).mono ?_)⟩
    rintro e W3 ⟨rfl, v3, hO3, hP3⟩
    gi_wp2
    have hP := hP2.trans hP3
    refine ⟨Push.keepsFrom hO hP _, ⟨Push.old hO hP (by omega) hz (by omega), Push.old hO hP (by omega) hz (by omega)⟩, ⟨v3, ?_⟩, HE.out.trans' (hP.below hO (N := w.heap.size) (by omega) (by omega) hz), Nat.le_trans hz hP.size⟩
    simpa [Sp.dayMoons, List.flatMap_append] using hO3
  case done =>
    rintro D xs W hD hS ⟨⟨v, hO⟩, hB, hz⟩ hK
    have cO := hO.box.cell 0
    simp only [List.getElem?_toArray, List.getElem?_cons_zero] at cO
    gi_wp2
    refine ⟨by simp, .inl ⟨_, _, rfl, run_takeDeferred hK, ?_⟩⟩
    refine ⟨_, results_tmp rfl _ _ _, v, w.heap.size + 5, rfl, by omega, ?_, ?_⟩
    · have := (hO.kept (grownBy_putObj' W D (.deferred none)) (fun r e => by cases e; exact ⟨_, hK, rfl⟩)).own
      rwa [moons_all s lo hi xs hS] at this
    · exact hB.grown (grownBy_putObj' W D (.deferred none)) hB.size (fun k e => by cases e; omega)
  case stop =>
    rintro D c' pre W _ _ h _
    exact h.elim
theorem moons_any (s : Sp.Sky) (A : Option Addr) (c : Nat) (lo hi : Int) (w : World) (hs : SkyOk s) (hm : Bodies w A s.bodies) (h1 : 1 ≤ lo) (h2 : hi ≤ 20000) (h3 : hi - lo ≤ 800) :
    Calls Tryz.prog 87 #[.agg #[.slice A s.bodies.length c, .int .i64 s.nnum, .int .i64 s.nden, .int .i64 s.nstart], .int .i64 lo, .int .i64 hi] w fun e w' =>
      ∃ v base, e = .returned v ∧ w.heap.size < base ∧ w'.ownsRow base 40 2 v (Sp.moonsL s lo hi).length (moonCells (Sp.moonsL s lo hi)) ∧ Ext w w' :=
  callsIn_wide.1 (moons_in 6 (Nat.le_refl _) s A c lo hi w hs hm h1 h2 h3)
end Go.Proofs.YtlcddcnmoajpjaaGreatDoor

namespace Go.Proofs.YtlcddcnmoajpjaaGreatDoor
open Go.RowKit
open Sp (rd)

/-- A list of moons in memory. -/
def MoonsVal (w : World) (v : Value) (l : List (Int × Bool)) : Prop := ∃ A c, v = .slice A l.length c ∧
  (0 < l.length → ∃ b o, A = some ⟨b, o, none⟩ ∧ ∀ k, (hk : k < l.length) → w.cell? ⟨b, o + k * 2, none⟩ = some (.int .i64 l[k].1) ∧ w.cell? ⟨b, o + k * 2 + 1, none⟩ = some (.bool l[k].2))
theorem MoonsVal.ext {w w' : World} {v : Value} {l : List (Int × Bool)} (h : MoonsVal w v l) (he : Ext w w') : MoonsVal w' v l :=
  let ⟨A, c, e, hc⟩ := h
  ⟨A, c, e, fun h0 => let ⟨b, o, e2, hk⟩ := hc h0; ⟨b, o, e2, fun k hk' => ⟨he.cell (hk k hk').1, he.cell (hk k hk').2⟩⟩⟩
theorem add0 (g j : Nat) : (⟨g, 0, none⟩ : Addr).add j = ⟨g, j, none⟩ := by
  unfold Addr.add
  split <;> simp_all
theorem moonCells_get (l : List (Int × Bool)) : ∀ k (hk : k < l.length), (moonCells l)[k * 2]? = some (.int .i64 l[k].1) ∧ (moonCells l)[k * 2 + 1]? = some (.bool l[k].2) := by
  induction l with
  | nil => intro k hk; simp at hk
  | cons m l ih =>
    intro k hk
    cases k with
    | zero => simp [moonCells]
    | succ k =>
      have := ih k (by simpa using hk)
      simp only [moonCells, List.flatMap_cons] at this ⊢
      rw [show (k + 1) * 2 = k * 2 + 2 by omega]
      simpa using this
theorem MoonsVal.of_own {w : World} {base : Nat} {v : Value} {l : List (Int × Bool)} (h : w.ownsRow base 40 2 v l.length (moonCells l)) : MoonsVal w v l := by
  rcases h.2 with ⟨rfl, h0⟩ | ⟨g, cap, cur, hv, _⟩
  · exact ⟨none, 0, by rw [h0], fun hh => by omega⟩
  · refine ⟨some ⟨g, 0, none⟩, cap, hv, fun _ => ⟨g, 0, rfl, fun k hk => ?_⟩⟩
    have hc := h.cells (g := g) (by rw [hv]; rfl)
    have h1 := hc _ _ (moonCells_get l k hk).1
    have h2 := hc _ _ (moonCells_get l k hk).2
    rw [add0] at h1 h2
    exact ⟨by simpa using h1, by simpa using h2⟩

theorem span_of {lo hi : Int} (h : Sp.isSpan lo hi = true) : 1 ≤ lo ∧ lo ≤ hi ∧ hi ≤ 20000 ∧ hi - lo ≤ 800 := by
  simp only [Sp.isSpan, Bool.and_eq_true, decide_eq_true_eq] at h
  have h1 := inR_iff.1 h.1
  have h2 := inR_iff.1 h.2.1
  omega

theorem Moons_err (s : Sp.Sky) (A : Option Addr) (c : Nat) (lo hi : Int) (w : World) (hm : Bodies w A s.bodies) (hl : Short s.bodies) (h : (Sp.skyOk s && (Sp.isSpan lo hi)) = false) :
    Calls Tryz.prog 26 #[.agg #[.slice A s.bodies.length c, .int .i64 s.nnum, .int .i64 s.nden, .int .i64 s.nstart], .int .i64 lo, .int .i64 hi] w fun e w' => e = .returned (.tuple #[.slice none 0 0, .int .i64 2]) ∧ Ext w w' := by
  have hl1 := hl.1
  have HL := Lib.hid hl
  have HM := Lib.hid hm
  clear hm hl
  cases c0 : Sp.skyOk s
  · clear h
    go_enter Tryz.func26, Tryz.ntmps26
    go_wp2_with fail
    refine (isSky_any s A c _ (HM.out.ext ((Ext.refl w).alloc _)) HL.out).mono ?_
    rintro e w1 ⟨rfl, hE1⟩
    have hE := ((Ext.refl w).alloc _).trans hE1
    have hr : Row w1 w.heap.size 28 _ := (Row.new w _ _).ext hE1
    have b0 := hr.cell
    clear hE1
    go_wp2_with fail
    go_ret2
    exact ⟨rfl, hE⟩
  cases c1 : Sp.isSpan lo hi
  · clear h
    go_enter Tryz.func26, Tryz.ntmps26
    go_wp2_with fail
    refine (isSky_any s A c _ (HM.out.ext ((Ext.refl w).alloc _)) HL.out).mono ?_
    rintro e w1 ⟨rfl, hE1⟩
    have hE := ((Ext.refl w).alloc _).trans hE1
    have hr : Row w1 w.heap.size 28 _ := (Row.new w _ _).ext hE1
    have b0 := hr.cell
    clear hE1
    go_wp2_with fail
    refine (isSpan_any lo hi _).mono ?_
    rintro e w0 ⟨rfl, rfl⟩
    go_wp2_with fail
    go_ret2
    exact ⟨rfl, hE⟩
  · simp [c0, c1] at h

theorem Moons_ok (s : Sp.Sky) (A : Option Addr) (c : Nat) (lo hi : Int) (w : World) (hm : Bodies w A s.bodies) (hl : Short s.bodies)  (c0 : Sp.skyOk s = true) (c1 : Sp.isSpan lo hi = true) :
    Calls Tryz.prog 26 #[.agg #[.slice A s.bodies.length c, .int .i64 s.nnum, .int .i64 s.nden, .int .i64 s.nstart], .int .i64 lo, .int .i64 hi] w fun e w' => ∃ v, e = .returned (.tuple #[v, .int .i64 0]) ∧ MoonsVal w' v (Sp.moonsL s lo hi) ∧ Ext w w' := by
  have hl1 := hl.1
  have HL := Lib.hid hl
  have HM := Lib.hid hm
  clear hm hl
  go_enter Tryz.func26, Tryz.ntmps26
  go_wp2_with fail
  refine (isSky_any s A c _ (HM.out.ext ((Ext.refl w).alloc _)) HL.out).mono ?_
  rintro e w1 ⟨rfl, hE1⟩
  have hE := ((Ext.refl w).alloc _).trans hE1
  have hr : Row w1 w.heap.size 28 _ := (Row.new w _ _).ext hE1
  have b0 := hr.cell
  clear hE1
  go_wp2_with fail
  refine (isSpan_any lo hi _).mono ?_
  rintro e w0 ⟨rfl, rfl⟩
  have HK := Lib.hid (skyOk_iff.1 c0)
  obtain ⟨d1, d2, d3, d4⟩ := span_of c1
  go_wp2_with fail
  refine (moons_any s A c lo hi _ HK.out (HM.out.ext hE) d1 d3 d4).mono ?_
  rintro e w2 ⟨v, base, rfl, _, hown, hE1⟩
  have HO := Lib.hid hown
  replace hE := hE.trans hE1
  clear hE1 hown
  go_wp2_with fail
  go_ret2
  exact ⟨v, rfl, MoonsVal.of_own HO.out, hE⟩

theorem Meets_err (s : Sp.Sky) (A : Option Addr) (c : Nat) (i j lo hi : Int) (w : World) (hm : Bodies w A s.bodies) (hl : Short s.bodies) (h : (Sp.skyOk s && ((Sp.isBody s i && (Sp.isBody s j && (i != j))) && (Sp.isSpan lo hi))) = false) :
    Calls Tryz.prog 52 #[.agg #[.slice A s.bodies.length c, .int .i64 s.nnum, .int .i64 s.nden, .int .i64 s.nstart], .int .i64 i, .int .i64 j, .int .i64 lo, .int .i64 hi] w fun e w' => e = .returned (.tuple #[.slice none 0 0, .int .i64 2]) ∧ Ext w w' := by
  have hl1 := hl.1
  have HL := Lib.hid hl
  have HM := Lib.hid hm
  clear hm hl
  cases c0 : Sp.skyOk s
  · clear h
    go_enter Tryz.func52, Tryz.ntmps52
    go_wp2_with fail
    refine (isSky_any s A c _ (HM.out.ext ((((Ext.refl w).alloc _).alloc _).alloc _)) HL.out).mono ?_
    rintro e w1 ⟨rfl, hE1⟩
    have hE := ((((Ext.refl w).alloc _).alloc _).alloc _).trans hE1
    have hr : Row w1 w.heap.size 28 _ := Row.ext (blocks3 w _ _ _ ).1 hE1
    have hr1 : Row w1 (w.heap.size + 1) 3 _ := Row.ext (blocks3 w _ _ _ ).2.1 hE1
    have hr2 : Row w1 (w.heap.size + 2) 3 _ := Row.ext (blocks3 w _ _ _ ).2.2 hE1
    have b0 := hr.cell
    have b1 := hr1.cell
    have b2 := hr2.cell
    clear hE1
    go_wp2_with fail
    go_ret2
    exact ⟨rfl, hE⟩
  cases c1 : (Sp.isBody s i && (Sp.isBody s j && (i != j)))
  · clear h
    go_enter Tryz.func52, Tryz.ntmps52
    go_wp2_with fail
    refine (isSky_any s A c _ (HM.out.ext ((((Ext.refl w).alloc _).alloc _).alloc _)) HL.out).mono ?_
    rintro e w1 ⟨rfl, hE1⟩
    have hE := ((((Ext.refl w).alloc _).alloc _).alloc _).trans hE1
    have hr : Row w1 w.heap.size 28 _ := Row.ext (blocks3 w _ _ _ ).1 hE1
    have hr1 : Row w1 (w.heap.size + 1) 3 _ := Row.ext (blocks3 w _ _ _ ).2.1 hE1
    have hr2 : Row w1 (w.heap.size + 2) 3 _ := Row.ext (blocks3 w _ _ _ ).2.2 hE1
    have b0 := hr.cell
    have b1 := hr1.cell
    have b2 := hr2.cell
    clear hE1
    go_wp2_with fail
    refine (areTwo_any A c s _ _ _ i j _ hl1).mono ?_
    rintro e w2 ⟨rfl, hE1⟩
    replace hE := hE.trans hE1
    replace hr := hr.ext hE1
    replace hr1 := hr1.ext hE1
    replace hr2 := hr2.ext hE1
    clear hE1 b0 b1 b2
    have b0 := hr.cell
    have b1 := hr1.cell
    have b2 := hr2.cell
    go_wp2_with fail
    go_ret2
    exact ⟨rfl, hE⟩
  cases c2 : Sp.isSpan lo hi
  · clear h
    go_enter Tryz.func52, Tryz.ntmps52
    go_wp2_with fail
    refine (isSky_any s A c _ (HM.out.ext ((((Ext.refl w).alloc _).alloc _).alloc _)) HL.out).mono ?_
    rintro e w1 ⟨rfl, hE1⟩
    have hE := ((((Ext.refl w).alloc _).alloc _).alloc _).trans hE1
    have hr : Row w1 w.heap.size 28 _ := Row.ext (blocks3 w _ _ _ ).1 hE1
    have hr1 : Row w1 (w.heap.size + 1) 3 _ := Row.ext (blocks3 w _ _ _ ).2.1 hE1
    have hr2 : Row w1 (w.heap.size + 2) 3 _ := Row.ext (blocks3 w _ _ _ ).2.2 hE1
    have b0 := hr.cell
    have b1 := hr1.cell
    have b2 := hr2.cell
    clear hE1
    go_wp2_with fail
    refine (areTwo_any A c s _ _ _ i j _ hl1).mono ?_
    rintro e w2 ⟨rfl, hE1⟩
    replace hE := hE.trans hE1
    replace hr := hr.ext hE1
    replace hr1 := hr1.ext hE1
    replace hr2 := hr2.ext hE1
    clear hE1 b0 b1 b2
    have b0 := hr.cell
    have b1 := hr1.cell
    have b2 := hr2.cell
    go_wp2_with fail
    refine (isSpan_any lo hi _).mono ?_
    rintro e w0 ⟨rfl, rfl⟩
    go_wp2_with fail
    go_ret2
    exact ⟨rfl, hE⟩
  · simp [c0, c1, c2] at h

theorem Near_err (s : Sp.Sky) (A : Option Addr) (c : Nat) (i j lo hi : Int) (w : World) (hm : Bodies w A s.bodies) (hl : Short s.bodies) (h : (Sp.skyOk s && ((Sp.isBody s i && (Sp.isBody s j && (i != j))) && (Sp.isSpan lo hi))) = false) :
    Calls Tryz.prog 64 #[.agg #[.slice A s.bodies.length c, .int .i64 s.nnum, .int .i64 s.nden, .int .i64 s.nstart], .int .i64 i, .int .i64 j, .int .i64 lo, .int .i64 hi] w fun e w' => e = .returned (.tuple #[.int .i64 0, .int .i64 0, .int .i64 2]) ∧ Ext w w' := by
  have hl1 := hl.1
  have HL := Lib.hid hl
  have HM := Lib.hid hm
  clear hm hl
  cases c0 : Sp.skyOk s
  · clear h
    go_enter Tryz.func64, Tryz.ntmps64
    go_wp2_with fail
    refine (isSky_any s A c _ (HM.out.ext ((((Ext.refl w).alloc _).alloc _).alloc _)) HL.out).mono ?_
    rintro e w1 ⟨rfl, hE1⟩
    have hE := ((((Ext.refl w).alloc _).alloc _).alloc _).trans hE1
    have hr : Row w1 w.heap.size 28 _ := Row.ext (blocks3 w _ _ _ ).1 hE1
    have hr1 : Row w1 (w.heap.size + 1) 3 _ := Row.ext (blocks3 w _ _ _ ).2.1 hE1
    have hr2 : Row w1 (w.heap.size + 2) 3 _ := Row.ext (blocks3 w _ _ _ ).2.2 hE1
    have b0 := hr.cell
    have b1 := hr1.cell
    have b2 := hr2.cell
    clear hE1
    go_wp2_with fail
    go_ret3
    exact ⟨rfl, hE⟩
  cases c1 : (Sp.isBody s i && (Sp.isBody s j && (i != j)))
  · clear h
    go_enter Tryz.func64, Tryz.ntmps64
    go_wp2_with fail
    refine (isSky_any s A c _ (HM.out.ext ((((Ext.refl w).alloc _).alloc _).alloc _)) HL.out).mono ?_
    rintro e w1 ⟨rfl, hE1⟩
    have hE := ((((Ext.refl w).alloc _).alloc _).alloc _).trans hE1
    have hr : Row w1 w.heap.size 28 _ := Row.ext (blocks3 w _ _ _ ).1 hE1
    have hr1 : Row w1 (w.heap.size + 1) 3 _ := Row.ext (blocks3 w _ _ _ ).2.1 hE1
    have hr2 : Row w1 (w.heap.size + 2) 3 _ := Row.ext (blocks3 w _ _ _ ).2.2 hE1
    have b0 := hr.cell
    have b1 := hr1.cell
    have b2 := hr2.cell
    clear hE1
    go_wp2_with fail
    refine (areTwo_any A c s _ _ _ i j _ hl1).mono ?_
    rintro e w2 ⟨rfl, hE1⟩
    replace hE := hE.trans hE1
    replace hr := hr.ext hE1
    replace hr1 := hr1.ext hE1
    replace hr2 := hr2.ext hE1
    clear hE1 b0 b1 b2
    have b0 := hr.cell
    have b1 := hr1.cell
    have b2 := hr2.cell
    go_wp2_with fail
    go_ret3
    exact ⟨rfl, hE⟩
  cases c2 : Sp.isSpan lo hi
  · clear h
    go_enter Tryz.func64, Tryz.ntmps64
    go_wp2_with fail
    refine (isSky_any s A c _ (HM.out.ext ((((Ext.refl w).alloc _).alloc _).alloc _)) HL.out).mono ?_
    rintro e w1 ⟨rfl, hE1⟩
    have hE := ((((Ext.refl w).alloc _).alloc _).alloc _).trans hE1
    have hr : Row w1 w.heap.size 28 _ := Row.ext (blocks3 w _ _ _ ).1 hE1
    have hr1 : Row w1 (w.heap.size + 1) 3 _ := Row.ext (blocks3 w _ _ _ ).2.1 hE1
    have hr2 : Row w1 (w.heap.size + 2) 3 _ := Row.ext (blocks3 w _ _ _ ).2.2 hE1
    have b0 := hr.cell
    have b1 := hr1.cell
    have b2 := hr2.cell
    clear hE1
    go_wp2_with fail
    refine (areTwo_any A c s _ _ _ i j _ hl1).mono ?_
    rintro e w2 ⟨rfl, hE1⟩
    replace hE := hE.trans hE1
    replace hr := hr.ext hE1
    replace hr1 := hr1.ext hE1
    replace hr2 := hr2.ext hE1
    clear hE1 b0 b1 b2
    have b0 := hr.cell
    have b1 := hr1.cell
    have b2 := hr2.cell
    go_wp2_with fail
    refine (isSpan_any lo hi _).mono ?_
    rintro e w0 ⟨rfl, rfl⟩
    go_wp2_with fail
    go_ret3
    exact ⟨rfl, hE⟩
  · simp [c0, c1, c2] at h

end Go.Proofs.YtlcddcnmoajpjaaGreatDoor
