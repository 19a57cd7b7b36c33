/- Find: The walks of layer 5: slices.IndexFunc and ContainsFunc with the functions that layer 5 hands over; which skies, notes and days are as defined.
FindSky: The walks of layer 5: which skies are as defined.
Exp: The walks of layer 5: the exported functions Mean, Place, Node, Between. (Printed by wip/mkexp.py.) -/
import Derived.Test.YtlcddcnmoajpjaaGreatDoorV02
namespace Go.Proofs.YtlcddcnmoajpjaaGreatDoor
open Go.RowKit
open Sp (rd)

/-- An integer that is at least 0 just if something is so. -/
def FoundInt (b : Bool) (w : World) (e : Ending) (w' : World) : Prop := ∃ r : Int, e = .returned (.int .i64 r) ∧ decide (0 ≤ r) = b ∧ Ext w w'
theorem any_take_succ {α : Type} (l : List α) (d : α) (q : α → Bool) (k : Nat) (hk : k < l.length) : (l.take (k + 1)).any q = ((l.take k).any q || q (l.getD k d)) := by
  rw [List.take_succ_eq_append_getElem hk, List.any_append, List.getD_eq_getElem?_getD, List.getElem?_eq_getElem hk]
  simp
theorem any_of_take {α : Type} (l : List α) (d : α) (q : α → Bool) (k : Nat) (hk : k < l.length) (h : q (l.getD k d) = true) : l.any q = true := by
  rw [List.any_eq_true]
  refine ⟨l[k], List.getElem_mem hk, ?_⟩
  rwa [List.getD_eq_getElem?_getD, List.getElem?_eq_getElem hk] at h

theorem badDay_any (n : Int) (w : World) : Calls Tryz.prog 106 #[.int .i64 n] w fun e w' => e = .returned (.bool (!Sp.isDay n)) ∧ w = w' := by
  go_enter Tryz.func106, Tryz.ntmps106
  go_wp2_with (go_at_call 95; refine (isDay_any _ _).mono ?_; rintro e w' ⟨rfl, rfl⟩)
  go_ret
  exact ⟨rfl, rfl⟩

theorem index_err (A : Option Addr) (c : Nat) (l : List Int) (w : World) (hm : Ints w A l) (hl : l.length ≤ 100000) :
    Calls Tryz.prog 156 #[.slice A l.length c, .func (.func 146) #[] #[]] w (FoundInt (l.any fun n => !Sp.inR n (-600) 600) w) := by
  go_enter Tryz.func156, Tryz.ntmps156
  go_wp2_with fail
  go_loop [5, 8] (fun _ i => ∃ k : Nat, k ≤ l.length ∧ i = .int .i64 k ∧ (l.take k).any (fun n => !Sp.inR n (-600) 600) = false) (fun _ i => l.length - (intOf i).toNat)
  case atStart => exact ⟨0, Nat.zero_le _, rfl, rfl⟩
  case round =>
    obtain ⟨k, hk, rfl, hq⟩ := hrel
    have HQ := Lib.hid hq
    clear hq
    by_cases hlt : k < l.length
    · obtain ⟨b, o, rfl, hc⟩ := hm (by omega)
      have ck := hc k hlt
      have HS := Lib.hid (any_take_succ l 0 (fun n => !Sp.inR n (-600) 600) k hlt)
      have HT := Lib.hid (any_of_take l 0 (fun n => !Sp.inR n (-600) 600) k hlt)
      clear hc
      cases hv : (!(fun n => Sp.inR n (-600) 600) (rd l k))
      · go_wp2_with fail
        refine (badErr_any _ _).mono ?_
        rintro e w' ⟨rfl, rfl⟩
        go_wp2_with fail
        go_round
        case rel => exact ⟨k + 1, by omega, by go_num, by rw [HS.out, HQ.out]; exact hv⟩
        case measure => simp [intOf]; omega
      · go_wp2_with fail
        refine (badErr_any _ _).mono ?_
        rintro e w' ⟨rfl, rfl⟩
        go_wp2_with fail
        go_ret
        exact ⟨_, rfl, by rw [HT.out hv]; simp, Ext.refl _⟩
    · go_wp2_with fail
      go_ret
      have e : l.take k = l := List.take_of_length_le (by omega)
      have := HQ.out
      rw [e] at this
      exact ⟨_, rfl, by rw [this]; rfl, Ext.refl _⟩

theorem contains_err (A : Option Addr) (c : Nat) (l : List Int) (w : World) (hm : Ints w A l) (hl : l.length ≤ 100000) :
    Calls Tryz.prog 105 #[.slice A l.length c, .func (.func 146) #[] #[]] w fun e w' => e = .returned (.bool (l.any fun n => !Sp.inR n (-600) 600)) ∧ Ext w w' := by
  go_enter Tryz.func105, Tryz.ntmps105
  go_wp2_with fail
  refine (index_err A c l w hm hl).mono ?_
  rintro e w1 ⟨r, rfl, hr, hE⟩
  have HR := Lib.hid hr
  clear hr
  go_wp2_with fail
  go_ret
  exact ⟨ret_bool HR.out, hE⟩

theorem index_day (A : Option Addr) (c : Nat) (l : List Int) (w : World) (hm : Ints w A l) (hl : l.length ≤ 100000) :
    Calls Tryz.prog 156 #[.slice A l.length c, .func (.func 106) #[] #[]] w (FoundInt (l.any fun n => !Sp.isDay n) w) := by
  go_enter Tryz.func156, Tryz.ntmps156
  go_wp2_with fail
  go_loop [5, 8] (fun _ i => ∃ k : Nat, k ≤ l.length ∧ i = .int .i64 k ∧ (l.take k).any (fun n => !Sp.isDay n) = false) (fun _ i => l.length - (intOf i).toNat)
  case atStart => exact ⟨0, Nat.zero_le _, rfl, rfl⟩
  case round =>
    obtain ⟨k, hk, rfl, hq⟩ := hrel
    have HQ := Lib.hid hq
    clear hq
    by_cases hlt : k < l.length
    · obtain ⟨b, o, rfl, hc⟩ := hm (by omega)
      have ck := hc k hlt
      have HS := Lib.hid (any_take_succ l 0 (fun n => !Sp.isDay n) k hlt)
      have HT := Lib.hid (any_of_take l 0 (fun n => !Sp.isDay n) k hlt)
      clear hc
      cases hv : (!(fun n => Sp.isDay n) (rd l k))
      · go_wp2_with fail
        refine (badDay_any _ _).mono ?_
        rintro e w' ⟨rfl, rfl⟩
        go_wp2_with fail
        go_round
        case rel => exact ⟨k + 1, by omega, by go_num, by rw [HS.out, HQ.out]; exact hv⟩
        case measure => simp [intOf]; omega
      · go_wp2_with fail
        refine (badDay_any _ _).mono ?_
        rintro e w' ⟨rfl, rfl⟩
        go_wp2_with fail
        go_ret
        exact ⟨_, rfl, by rw [HT.out hv]; simp, Ext.refl _⟩
    · go_wp2_with fail
      go_ret
      have e : l.take k = l := List.take_of_length_le (by omega)
      have := HQ.out
      rw [e] at this
      exact ⟨_, rfl, by rw [this]; rfl, Ext.refl _⟩

theorem contains_day (A : Option Addr) (c : Nat) (l : List Int) (w : World) (hm : Ints w A l) (hl : l.length ≤ 100000) :
    Calls Tryz.prog 105 #[.slice A l.length c, .func (.func 106) #[] #[]] w fun e w' => e = .returned (.bool (l.any fun n => !Sp.isDay n)) ∧ Ext w w' := by
  go_enter Tryz.func105, Tryz.ntmps105
  go_wp2_with fail
  refine (index_day A c l w hm hl).mono ?_
  rintro e w1 ⟨r, rfl, hr, hE⟩
  have HR := Lib.hid hr
  clear hr
  go_wp2_with fail
  go_ret
  exact ⟨ret_bool HR.out, hE⟩

theorem roadOk_any (l : List Int) : (l.any fun n => !Sp.inR n (-600) 600) = !Sp.roadOk l := by
  unfold Sp.roadOk
  rw [List.not_all_eq_any_not]

end Go.Proofs.YtlcddcnmoajpjaaGreatDoor

namespace Go.Proofs.YtlcddcnmoajpjaaGreatDoor
open Go.RowKit
open Sp (rd)

/-- What a body is, whether or not it is as defined. -/
theorem badBody_any (b : Sp.Body) (A : Option Addr) (c : Nat) (w : World) (hm : Ints w A b.road) (hl : b.road.length ≤ 100000) :
    Calls Tryz.prog 145 #[.agg #[.int .i64 b.num, .int .i64 b.den, .int .i64 b.start, .slice A b.road.length c]] w fun e w' => e = .returned (.bool (!Sp.bodyOk b)) ∧ Ext w w' := by
  have HM := Lib.hid hm
  clear hm
  cases h1 : Sp.period b.num b.den
  · go_enter Tryz.func145, Tryz.ntmps145
    go_wp2_with fail
    refine (isPeriod_any _ _ _).mono ?_
    rintro e w1 ⟨rfl, hE⟩
    replace hE := ((Ext.refl w).alloc _).trans hE
    go_wp2_with fail
    go_ret
    exact ⟨ret_bool (by simp [Sp.bodyOk, h1]), hE⟩
  cases h2 : Sp.spot b.start
  · go_enter Tryz.func145, Tryz.ntmps145
    go_wp2_with fail
    refine (isPeriod_any _ _ _).mono ?_
    rintro e w1 ⟨rfl, hE⟩
    have hr := ((Row.new w _ _).ext hE).cell
    replace hE := ((Ext.refl w).alloc _).trans hE
    go_wp2_with fail
    refine (isPlace_any _ _).mono ?_
    rintro e w2 ⟨rfl, rfl⟩
    go_wp2_with fail
    go_ret
    exact ⟨ret_bool (by simp [Sp.bodyOk, h2]), hE⟩
  cases h3 : Sp.inR b.road.length 1 8
  · go_enter Tryz.func145, Tryz.ntmps145
    go_wp2_with fail
    refine (isPeriod_any _ _ _).mono ?_
    rintro e w1 ⟨rfl, hE⟩
    have hr := ((Row.new w _ _).ext hE).cell
    replace hE := ((Ext.refl w).alloc _).trans hE
    go_wp2_with fail
    refine (isPlace_any _ _).mono ?_
    rintro e w2 ⟨rfl, rfl⟩
    go_wp2_with fail
    refine (in_any _ _ _ _).mono ?_
    rintro e w2 ⟨rfl, rfl⟩
    go_wp2_with fail
    go_ret
    exact ⟨ret_bool (by simp [Sp.bodyOk, h3]), hE⟩
  · go_enter Tryz.func145, Tryz.ntmps145
    go_wp2_with fail
    refine (isPeriod_any _ _ _).mono ?_
    rintro e w1 ⟨rfl, hE⟩
    have hr := ((Row.new w _ _).ext hE).cell
    replace hE := ((Ext.refl w).alloc _).trans hE
    go_wp2_with fail
    refine (isPlace_any _ _).mono ?_
    rintro e w2 ⟨rfl, rfl⟩
    go_wp2_with fail
    refine (in_any _ _ _ _).mono ?_
    rintro e w2 ⟨rfl, rfl⟩
    go_wp2_with fail
    refine (contains_err A c b.road _ (HM.out.ext hE) hl).mono ?_
    rintro e w2 ⟨rfl, hE2⟩
    replace hE := hE.trans hE2
    go_wp2_with fail
    go_ret
    exact ⟨ret_bool (by rw [roadOk_any]; simp [Sp.bodyOk, h1, h2, h3]), hE⟩

/-- Lists that are not too long for a walk. -/
def Short (l : List Sp.Body) : Prop := l.length ≤ 100000 ∧ ∀ k, k < l.length → (bd l k).road.length ≤ 100000

theorem index_body (A : Option Addr) (c : Nat) (l : List Sp.Body) (w : World) (hm : Bodies w A l) (hl : Short l) :
    Calls Tryz.prog 167 #[.slice A l.length c, .func (.func 145) #[] #[]] w (FoundInt (l.any fun b => !Sp.bodyOk b) w) := by
  have hl1 := hl.1
  have HL := Lib.hid hl.2
  have HM := Lib.hid hm
  clear hl hm
  go_enter Tryz.func167, Tryz.ntmps167
  go_wp2_with fail
  go_loopw [5, 8] (fun _ i wr => ∃ k : Nat, k ≤ l.length ∧ i = .int .i64 k ∧ (l.take k).any (fun b => !Sp.bodyOk b) = false ∧ Ext w wr) (fun _ i _ => l.length - (intOf i).toNat)
  case atStart => exact ⟨0, Nat.zero_le _, rfl, rfl, Ext.refl _⟩
  case round =>
    obtain ⟨k, hk, rfl, hq, hE⟩ := hrel
    have HQ := Lib.hid hq
    clear hq
    by_cases hlt : k < l.length
    · obtain ⟨b, o, rfl, hc⟩ := (HM.out.ext hE) (by omega)
      obtain ⟨c0, c1, c2, RA, rc, c3, hi⟩ := hc k hlt
      have HI := Lib.hid hi
      have HS := Lib.hid (any_take_succ l Sp.noBody (fun b => !Sp.bodyOk b) k hlt)
      have HT := Lib.hid (any_of_take l Sp.noBody (fun b => !Sp.bodyOk b) k hlt)
      clear hc hi
      cases hv : (!Sp.bodyOk (bd l k))
      · go_wp2_with fail
        refine (badBody_any (bd l k) RA rc _ HI.out (HL.out k hlt)).mono ?_
        rintro e w' ⟨rfl, hE'⟩
        replace hE := hE.trans hE'
        clear c0 c1 c2 c3
        go_wp2_with fail
        go_roundw
        case rel => exact ⟨k + 1, by omega, by go_num, by rw [HS.out, HQ.out]; exact hv, hE⟩
        case measure => simp [intOf]; omega
      · go_wp2_with fail
        refine (badBody_any (bd l k) RA rc _ HI.out (HL.out k hlt)).mono ?_
        rintro e w' ⟨rfl, hE'⟩
        replace hE := hE.trans hE'
        clear c0 c1 c2 c3
        go_wp2_with fail
        go_ret
        exact ⟨_, rfl, by rw [HT.out hv]; simp, hE⟩
    · go_wp2_with fail
      go_ret
      have e : l.take k = l := List.take_of_length_le (by omega)
      have := HQ.out
      rw [e] at this
      exact ⟨_, rfl, by rw [this]; rfl, hE⟩

theorem contains_body (A : Option Addr) (c : Nat) (l : List Sp.Body) (w : World) (hm : Bodies w A l) (hl : Short l) :
    Calls Tryz.prog 144 #[.slice A l.length c, .func (.func 145) #[] #[]] w fun e w' => e = .returned (.bool (l.any fun b => !Sp.bodyOk b)) ∧ Ext w w' := by
  go_enter Tryz.func144, Tryz.ntmps144
  go_wp2_with fail
  refine (index_body A c l w hm hl).mono ?_
  rintro e w1 ⟨r, rfl, hr, hE⟩
  have HR := Lib.hid hr
  clear hr
  go_wp2_with fail
  go_ret
  exact ⟨ret_bool HR.out, hE⟩

theorem isSky_any (s : Sp.Sky) (A : Option Addr) (c : Nat) (w : World) (hm : Bodies w A s.bodies) (hl : Short s.bodies) :
    Calls Tryz.prog 85 #[.agg #[.slice A s.bodies.length c, .int .i64 s.nnum, .int .i64 s.nden, .int .i64 s.nstart]] w fun e w' => e = .returned (.bool (Sp.skyOk s)) ∧ Ext w w' := by
  have hl1 := hl.1
  have HL := Lib.hid hl
  have HM := Lib.hid hm
  clear hm hl
  cases h1 : Sp.inR s.bodies.length 2 4
  · go_enter Tryz.func85, Tryz.ntmps85
    go_wp2_with fail
    refine (in_any _ _ _ _).mono ?_
    rintro e w1 ⟨rfl, rfl⟩
    go_wp2_with fail
    go_ret
    exact ⟨ret_bool (by simp [Sp.skyOk, h1]), (Ext.refl _).alloc _⟩
  cases h2 : Sp.period s.nnum s.nden
  · go_enter Tryz.func85, Tryz.ntmps85
    go_wp2_with fail
    refine (in_any _ _ _ _).mono ?_
    rintro e w1 ⟨rfl, rfl⟩
    go_wp2_with fail
    refine (isPeriod_any _ _ _).mono ?_
    rintro e w1 ⟨rfl, hE⟩
    replace hE := ((Ext.refl w).alloc _).trans hE
    go_wp2_with fail
    go_ret
    exact ⟨ret_bool (by simp [Sp.skyOk, h2]), hE⟩
  cases h3 : Sp.spot s.nstart
  · go_enter Tryz.func85, Tryz.ntmps85
    go_wp2_with fail
    refine (in_any _ _ _ _).mono ?_
    rintro e w1 ⟨rfl, rfl⟩
    go_wp2_with fail
    refine (isPeriod_any _ _ _).mono ?_
    rintro e w1 ⟨rfl, hE⟩
    have hr := ((Row.new w _ _).ext hE).cell
    replace hE := ((Ext.refl w).alloc _).trans hE
    go_wp2_with fail
    refine (isPlace_any _ _).mono ?_
    rintro e w2 ⟨rfl, rfl⟩
    go_wp2_with fail
    go_ret
    exact ⟨ret_bool (by simp [Sp.skyOk, h3]), hE⟩
  · go_enter Tryz.func85, Tryz.ntmps85
    go_wp2_with fail
    refine (in_any _ _ _ _).mono ?_
    rintro e w1 ⟨rfl, rfl⟩
    go_wp2_with fail
    refine (isPeriod_any _ _ _).mono ?_
    rintro e w1 ⟨rfl, hE⟩
    have hr := ((Row.new w _ _).ext hE).cell
    replace hE := ((Ext.refl w).alloc _).trans hE
    go_wp2_with fail
    refine (isPlace_any _ _).mono ?_
    rintro e w2 ⟨rfl, rfl⟩
    go_wp2_with fail
    refine (contains_body A c s.bodies _ (HM.out.ext hE) HL.out).mono ?_
    rintro e w2 ⟨rfl, hE2⟩
    replace hE := hE.trans hE2
    go_wp2_with fail
    go_ret
    exact ⟨ret_bool (by simp [Sp.skyOk, h1, h2, h3, List.not_any_eq_all_not]), hE⟩

theorem Check_any (s : Sp.Sky) (A : Option Addr) (c : Nat) (w : World) (hm : Bodies w A s.bodies) (hl : Short s.bodies) :
    Calls Tryz.prog 75 #[.agg #[.slice A s.bodies.length c, .int .i64 s.nnum, .int .i64 s.nden, .int .i64 s.nstart]] w fun e w' => e = .returned (.int .i64 (if Sp.skyOk s then 0 else 2)) ∧ Ext w w' := by
  have HL := Lib.hid hl
  have HM := Lib.hid hm
  clear hm hl
  cases h : Sp.skyOk s
  all_goals
    go_enter Tryz.func75, Tryz.ntmps75
    go_wp2_with fail
    refine (isSky_any s A c _ (HM.out.ext ((Ext.refl w).alloc _)) HL.out).mono ?_
    rintro e w1 ⟨rfl, hE⟩
    replace hE := ((Ext.refl w).alloc _).trans hE
    go_wp2_with fail
    go_ret
    exact ⟨rfl, hE⟩

end Go.Proofs.YtlcddcnmoajpjaaGreatDoor

namespace Go.Proofs.YtlcddcnmoajpjaaGreatDoor
open Go.RowKit
open Sp (rd)

theorem isDay_of {n : Int} (h : Sp.isDay n = true) : 0 ≤ n ∧ n ≤ 20000 := inR_iff.1 h
theorem isBody_of {s : Sp.Sky} {n : Int} (h : Sp.isBody s n = true) : 0 ≤ n ∧ n < s.bodies.length := by
  have := inR_iff.1 h
  omega

theorem Mean_err (s : Sp.Sky) (A : Option Addr) (c : Nat) (i day : Int) (w : World) (hm : Bodies w A s.bodies) (hl : Short s.bodies) (h : (Sp.skyOk s && (Sp.isBody s i && (Sp.isDay day))) = false) :
    Calls Tryz.prog 56 #[.agg #[.slice A s.bodies.length c, .int .i64 s.nnum, .int .i64 s.nden, .int .i64 s.nstart], .int .i64 i, .int .i64 day] w fun e w' => e = .returned (.tuple #[.int .i64 0, .int .i64 2]) ∧ Ext w w' := by
  have hl1 := hl.1
  have HL := Lib.hid hl
  have HM := Lib.hid hm
  clear hm hl
  cases c0 : Sp.skyOk s
  · clear h
    go_enter Tryz.func56, Tryz.ntmps56
    go_wp2_with fail
    refine (isSky_any s A c _ (HM.out.ext ((Ext.refl w).alloc _)) HL.out).mono ?_
    rintro e w1 ⟨rfl, hE1⟩
    have hE := ((Ext.refl w).alloc _).trans hE1
    have hr : Row w1 w.heap.size 28 _ := (Row.new w _ _).ext hE1
    have b0 := hr.cell
    clear hE1
    go_wp2_with fail
    go_ret2
    exact ⟨rfl, hE⟩
  cases c1 : Sp.isBody s i
  · clear h
    go_enter Tryz.func56, Tryz.ntmps56
    go_wp2_with fail
    refine (isSky_any s A c _ (HM.out.ext ((Ext.refl w).alloc _)) HL.out).mono ?_
    rintro e w1 ⟨rfl, hE1⟩
    have hE := ((Ext.refl w).alloc _).trans hE1
    have hr : Row w1 w.heap.size 28 _ := (Row.new w _ _).ext hE1
    have b0 := hr.cell
    clear hE1
    go_wp2_with fail
    refine (isBody_any A c s _ _ _ i _ hl1).mono ?_
    rintro e w2 ⟨rfl, hE1⟩
    replace hE := hE.trans hE1
    replace hr := hr.ext hE1
    clear hE1 b0
    have b0 := hr.cell
    go_wp2_with fail
    go_ret2
    exact ⟨rfl, hE⟩
  cases c2 : Sp.isDay day
  · clear h
    go_enter Tryz.func56, Tryz.ntmps56
    go_wp2_with fail
    refine (isSky_any s A c _ (HM.out.ext ((Ext.refl w).alloc _)) HL.out).mono ?_
    rintro e w1 ⟨rfl, hE1⟩
    have hE := ((Ext.refl w).alloc _).trans hE1
    have hr : Row w1 w.heap.size 28 _ := (Row.new w _ _).ext hE1
    have b0 := hr.cell
    clear hE1
    go_wp2_with fail
    refine (isBody_any A c s _ _ _ i _ hl1).mono ?_
    rintro e w2 ⟨rfl, hE1⟩
    replace hE := hE.trans hE1
    replace hr := hr.ext hE1
    clear hE1 b0
    have b0 := hr.cell
    go_wp2_with fail
    refine (isDay_any day _).mono ?_
    rintro e w0 ⟨rfl, rfl⟩
    go_wp2_with fail
    go_ret2
    exact ⟨rfl, hE⟩
  · simp [c0, c1, c2] at h

theorem Mean_ok (s : Sp.Sky) (A : Option Addr) (c : Nat) (i day : Int) (w : World) (hm : Bodies w A s.bodies) (hl : Short s.bodies)  (c0 : Sp.skyOk s = true) (c1 : Sp.isBody s i = true) (c2 : Sp.isDay day = true) :
    Calls Tryz.prog 56 #[.agg #[.slice A s.bodies.length c, .int .i64 s.nnum, .int .i64 s.nden, .int .i64 s.nstart], .int .i64 i, .int .i64 day] w fun e w' => e = .returned (.tuple #[.int .i64 (Sp.mean (Sp.body s i) day % 21600), .int .i64 0]) ∧ Ext w w' := by
  have hl1 := hl.1
  have HL := Lib.hid hl
  have HM := Lib.hid hm
  clear hm hl
  go_enter Tryz.func56, Tryz.ntmps56
  go_wp2_with fail
  refine (isSky_any s A c _ (HM.out.ext ((Ext.refl w).alloc _)) HL.out).mono ?_
  rintro e w1 ⟨rfl, hE1⟩
  have hE := ((Ext.refl w).alloc _).trans hE1
  have hr : Row w1 w.heap.size 28 _ := (Row.new w _ _).ext hE1
  have b0 := hr.cell
  clear hE1
  go_wp2_with fail
  refine (isBody_any A c s _ _ _ i _ hl1).mono ?_
  rintro e w2 ⟨rfl, hE1⟩
  replace hE := hE.trans hE1
  replace hr := hr.ext hE1
  clear hE1 b0
  have b0 := hr.cell
  go_wp2_with fail
  refine (isDay_any day _).mono ?_
  rintro e w0 ⟨rfl, rfl⟩
  have HK := Lib.hid (skyOk_iff.1 c0)
  obtain ⟨d1, d2⟩ := isDay_of c2
  obtain ⟨i1, i2⟩ := isBody_of c1
  have hb := mean_bounds (HK.out.body i1 i2) d1 d2
  go_wp2_with fail
  refine (mean_sky s A c _ _ _ day i _ HK.out (HM.out.ext hE) i1 i2 d1 d2).mono ?_
  rintro e w9 ⟨rfl, hE1⟩
  replace hE := hE.trans hE1
  clear hE1
  go_wp2_with fail
  refine (around_any _ _ (by omega) (by omega)).mono ?_
  rintro e w9 ⟨rfl, hE1⟩
  replace hE := hE.trans hE1
  clear hE1
  go_wp2_with fail
  go_ret2
  exact ⟨rfl, hE⟩

theorem Place_err (s : Sp.Sky) (A : Option Addr) (c : Nat) (i day : Int) (w : World) (hm : Bodies w A s.bodies) (hl : Short s.bodies) (h : (Sp.skyOk s && (Sp.isBody s i && (Sp.isDay day))) = false) :
    Calls Tryz.prog 37 #[.agg #[.slice A s.bodies.length c, .int .i64 s.nnum, .int .i64 s.nden, .int .i64 s.nstart], .int .i64 i, .int .i64 day] w fun e w' => e = .returned (.tuple #[.int .i64 0, .int .i64 2]) ∧ Ext w w' := by
  have hl1 := hl.1
  have HL := Lib.hid hl
  have HM := Lib.hid hm
  clear hm hl
  cases c0 : Sp.skyOk s
  · clear h
    go_enter Tryz.func37, Tryz.ntmps37
    go_wp2_with fail
    refine (isSky_any s A c _ (HM.out.ext ((Ext.refl w).alloc _)) HL.out).mono ?_
    rintro e w1 ⟨rfl, hE1⟩
    have hE := ((Ext.refl w).alloc _).trans hE1
    have hr : Row w1 w.heap.size 28 _ := (Row.new w _ _).ext hE1
    have b0 := hr.cell
    clear hE1
    go_wp2_with fail
    go_ret2
    exact ⟨rfl, hE⟩
  cases c1 : Sp.isBody s i
  · clear h
    go_enter Tryz.func37, Tryz.ntmps37
    go_wp2_with fail
    refine (isSky_any s A c _ (HM.out.ext ((Ext.refl w).alloc _)) HL.out).mono ?_
    rintro e w1 ⟨rfl, hE1⟩
    have hE := ((Ext.refl w).alloc _).trans hE1
    have hr : Row w1 w.heap.size 28 _ := (Row.new w _ _).ext hE1
    have b0 := hr.cell
    clear hE1
    go_wp2_with fail
    refine (isBody_any A c s _ _ _ i _ hl1).mono ?_
    rintro e w2 ⟨rfl, hE1⟩
    replace hE := hE.trans hE1
    replace hr := hr.ext hE1
    clear hE1 b0
    have b0 := hr.cell
    go_wp2_with fail
    go_ret2
    exact ⟨rfl, hE⟩
  cases c2 : Sp.isDay day
  · clear h
    go_enter Tryz.func37, Tryz.ntmps37
    go_wp2_with fail
    refine (isSky_any s A c _ (HM.out.ext ((Ext.refl w).alloc _)) HL.out).mono ?_
    rintro e w1 ⟨rfl, hE1⟩
    have hE := ((Ext.refl w).alloc _).trans hE1
    have hr : Row w1 w.heap.size 28 _ := (Row.new w _ _).ext hE1
    have b0 := hr.cell
    clear hE1
    go_wp2_with fail
    refine (isBody_any A c s _ _ _ i _ hl1).mono ?_
    rintro e w2 ⟨rfl, hE1⟩
    replace hE := hE.trans hE1
    replace hr := hr.ext hE1
    clear hE1 b0
    have b0 := hr.cell
    go_wp2_with fail
    refine (isDay_any day _).mono ?_
    rintro e w0 ⟨rfl, rfl⟩
    go_wp2_with fail
    go_ret2
    exact ⟨rfl, hE⟩
  · simp [c0, c1, c2] at h

theorem Place_ok (s : Sp.Sky) (A : Option Addr) (c : Nat) (i day : Int) (w : World) (hm : Bodies w A s.bodies) (hl : Short s.bodies)  (c0 : Sp.skyOk s = true) (c1 : Sp.isBody s i = true) (c2 : Sp.isDay day = true) :
    Calls Tryz.prog 37 #[.agg #[.slice A s.bodies.length c, .int .i64 s.nnum, .int .i64 s.nden, .int .i64 s.nstart], .int .i64 i, .int .i64 day] w fun e w' => e = .returned (.tuple #[.int .i64 (Sp.place (Sp.body s i) day), .int .i64 0]) ∧ Ext w w' := by
  have hl1 := hl.1
  have HL := Lib.hid hl
  have HM := Lib.hid hm
  clear hm hl
  go_enter Tryz.func37, Tryz.ntmps37
  go_wp2_with fail
  refine (isSky_any s A c _ (HM.out.ext ((Ext.refl w).alloc _)) HL.out).mono ?_
  rintro e w1 ⟨rfl, hE1⟩
  have hE := ((Ext.refl w).alloc _).trans hE1
  have hr : Row w1 w.heap.size 28 _ := (Row.new w _ _).ext hE1
  have b0 := hr.cell
  clear hE1
  go_wp2_with fail
  refine (isBody_any A c s _ _ _ i _ hl1).mono ?_
  rintro e w2 ⟨rfl, hE1⟩
  replace hE := hE.trans hE1
  replace hr := hr.ext hE1
  clear hE1 b0
  have b0 := hr.cell
  go_wp2_with fail
  refine (isDay_any day _).mono ?_
  rintro e w0 ⟨rfl, rfl⟩
  have HK := Lib.hid (skyOk_iff.1 c0)
  obtain ⟨d1, d2⟩ := isDay_of c2
  obtain ⟨i1, i2⟩ := isBody_of c1
  have hb := way_sky_bounds HK.out i1 i2 d1 d2
  go_wp2_with fail
  refine (way_sky s A c _ _ _ day i _ HK.out (HM.out.ext hE) i1 i2 d1 d2).mono ?_
  rintro e w9 ⟨rfl, hE1⟩
  replace hE := hE.trans hE1
  clear hE1
  go_wp2_with fail
  refine (around_any _ _ (by omega) (by omega)).mono ?_
  rintro e w9 ⟨rfl, hE1⟩
  replace hE := hE.trans hE1
  clear hE1
  go_wp2_with fail
  go_ret2
  exact ⟨rfl, hE⟩

theorem Node_err (s : Sp.Sky) (A : Option Addr) (c : Nat) (day : Int) (w : World) (hm : Bodies w A s.bodies) (hl : Short s.bodies) (h : (Sp.skyOk s && (Sp.isDay day)) = false) :
    Calls Tryz.prog 38 #[.agg #[.slice A s.bodies.length c, .int .i64 s.nnum, .int .i64 s.nden, .int .i64 s.nstart], .int .i64 day] w fun e w' => e = .returned (.tuple #[.int .i64 0, .int .i64 2]) ∧ Ext w w' := by
  have hl1 := hl.1
  have HL := Lib.hid hl
  have HM := Lib.hid hm
  clear hm hl
  cases c0 : Sp.skyOk s
  · clear h
    go_enter Tryz.func38, Tryz.ntmps38
    go_wp2_with fail
    refine (isSky_any s A c _ (HM.out.ext ((Ext.refl w).alloc _)) HL.out).mono ?_
    rintro e w1 ⟨rfl, hE1⟩
    have hE := ((Ext.refl w).alloc _).trans hE1
    have hr : Row w1 w.heap.size 28 _ := (Row.new w _ _).ext hE1
    have b0 := hr.cell
    clear hE1
    go_wp2_with fail
    go_ret2
    exact ⟨rfl, hE⟩
  cases c1 : Sp.isDay day
  · clear h
    go_enter Tryz.func38, Tryz.ntmps38
    go_wp2_with fail
    refine (isSky_any s A c _ (HM.out.ext ((Ext.refl w).alloc _)) HL.out).mono ?_
    rintro e w1 ⟨rfl, hE1⟩
    have hE := ((Ext.refl w).alloc _).trans hE1
    have hr : Row w1 w.heap.size 28 _ := (Row.new w _ _).ext hE1
    have b0 := hr.cell
    clear hE1
    go_wp2_with fail
    refine (isDay_any day _).mono ?_
    rintro e w0 ⟨rfl, rfl⟩
    go_wp2_with fail
    go_ret2
    exact ⟨rfl, hE⟩
  · simp [c0, c1] at h

theorem Node_ok (s : Sp.Sky) (A : Option Addr) (c : Nat) (day : Int) (w : World) (hm : Bodies w A s.bodies) (hl : Short s.bodies)  (c0 : Sp.skyOk s = true) (c1 : Sp.isDay day = true) :
    Calls Tryz.prog 38 #[.agg #[.slice A s.bodies.length c, .int .i64 s.nnum, .int .i64 s.nden, .int .i64 s.nstart], .int .i64 day] w fun e w' => e = .returned (.tuple #[.int .i64 (Sp.node s day), .int .i64 0]) ∧ Ext w w' := by
  have hl1 := hl.1
  have HL := Lib.hid hl
  have HM := Lib.hid hm
  clear hm hl
  go_enter Tryz.func38, Tryz.ntmps38
  go_wp2_with fail
  refine (isSky_any s A c _ (HM.out.ext ((Ext.refl w).alloc _)) HL.out).mono ?_
  rintro e w1 ⟨rfl, hE1⟩
  have hE := ((Ext.refl w).alloc _).trans hE1
  have hr : Row w1 w.heap.size 28 _ := (Row.new w _ _).ext hE1
  have b0 := hr.cell
  clear hE1
  go_wp2_with fail
  refine (isDay_any day _).mono ?_
  rintro e w0 ⟨rfl, rfl⟩
  have HK := Lib.hid (skyOk_iff.1 c0)
  obtain ⟨d1, d2⟩ := isDay_of c1
  go_wp2_with fail
  refine (node_any s A _ c day _ HK.out d1 d2).mono ?_
  rintro e w9 ⟨rfl, hE1⟩
  replace hE := hE.trans hE1
  clear hE1
  go_wp2_with fail
  go_ret2
  exact ⟨rfl, hE⟩

theorem two_of {s : Sp.Sky} {i j : Int} (h : (Sp.isBody s i && (Sp.isBody s j && (i != j))) = true) : 0 ≤ i ∧ i < s.bodies.length ∧ 0 ≤ j ∧ j < s.bodies.length ∧ i ≠ j := by
  simp only [Bool.and_eq_true, bne_iff_ne] at h
  have h1 := isBody_of h.1
  have h2 := isBody_of h.2.1
  exact ⟨h1.1, h1.2, h2.1, h2.2, h.2.2⟩

theorem Between_err (s : Sp.Sky) (A : Option Addr) (c : Nat) (i j day : Int) (w : World) (hm : Bodies w A s.bodies) (hl : Short s.bodies) (h : (Sp.skyOk s && ((Sp.isBody s i && (Sp.isBody s j && (i != j))) && (Sp.isDay day))) = false) :
    Calls Tryz.prog 57 #[.agg #[.slice A s.bodies.length c, .int .i64 s.nnum, .int .i64 s.nden, .int .i64 s.nstart], .int .i64 i, .int .i64 j, .int .i64 day] w fun e w' => e = .returned (.tuple #[.int .i64 0, .int .i64 2]) ∧ Ext w w' := by
  have hl1 := hl.1
  have HL := Lib.hid hl
  have HM := Lib.hid hm
  clear hm hl
  cases c0 : Sp.skyOk s
  · clear h
    go_enter Tryz.func57, Tryz.ntmps57
    go_wp2_with fail
    refine (isSky_any s A c _ (HM.out.ext ((Ext.refl w).alloc _)) HL.out).mono ?_
    rintro e w1 ⟨rfl, hE1⟩
    have hE := ((Ext.refl w).alloc _).trans hE1
    have hr : Row w1 w.heap.size 28 _ := (Row.new w _ _).ext hE1
    have b0 := hr.cell
    clear hE1
    go_wp2_with fail
    go_ret2
    exact ⟨rfl, hE⟩
  cases c1 : (Sp.isBody s i && (Sp.isBody s j && (i != j)))
  · clear h
    go_enter Tryz.func57, Tryz.ntmps57
    go_wp2_with fail
    refine (isSky_any s A c _ (HM.out.ext ((Ext.refl w).alloc _)) HL.out).mono ?_
    rintro e w1 ⟨rfl, hE1⟩
    have hE := ((Ext.refl w).alloc _).trans hE1
    have hr : Row w1 w.heap.size 28 _ := (Row.new w _ _).ext hE1
    have b0 := hr.cell
    clear hE1
    go_wp2_with fail
    refine (areTwo_any A c s _ _ _ i j _ hl1).mono ?_
    rintro e w2 ⟨rfl, hE1⟩
    replace hE := hE.trans hE1
    replace hr := hr.ext hE1
    clear hE1 b0
    have b0 := hr.cell
    go_wp2_with fail
    go_ret2
    exact ⟨rfl, hE⟩
  cases c2 : Sp.isDay day
  · clear h
    go_enter Tryz.func57, Tryz.ntmps57
    go_wp2_with fail
    refine (isSky_any s A c _ (HM.out.ext ((Ext.refl w).alloc _)) HL.out).mono ?_
    rintro e w1 ⟨rfl, hE1⟩
    have hE := ((Ext.refl w).alloc _).trans hE1
    have hr : Row w1 w.heap.size 28 _ := (Row.new w _ _).ext hE1
    have b0 := hr.cell
    clear hE1
    go_wp2_with fail
    refine (areTwo_any A c s _ _ _ i j _ hl1).mono ?_
    rintro e w2 ⟨rfl, hE1⟩
    replace hE := hE.trans hE1
    replace hr := hr.ext hE1
    clear hE1 b0
    have b0 := hr.cell
    go_wp2_with fail
    refine (isDay_any day _).mono ?_
    rintro e w0 ⟨rfl, rfl⟩
    go_wp2_with fail
    go_ret2
    exact ⟨rfl, hE⟩
  · simp [c0, c1, c2] at h

theorem Between_ok (s : Sp.Sky) (A : Option Addr) (c : Nat) (i j day : Int) (w : World) (hm : Bodies w A s.bodies) (hl : Short s.bodies)  (c0 : Sp.skyOk s = true) (c1 : (Sp.isBody s i && (Sp.isBody s j && (i != j))) = true) (c2 : Sp.isDay day = true) :
    Calls Tryz.prog 57 #[.agg #[.slice A s.bodies.length c, .int .i64 s.nnum, .int .i64 s.nden, .int .i64 s.nstart], .int .i64 i, .int .i64 j, .int .i64 day] w fun e w' => e = .returned (.tuple #[.int .i64 (Sp.between s i j day), .int .i64 0]) ∧ Ext w w' := by
  have hl1 := hl.1
  have HL := Lib.hid hl
  have HM := Lib.hid hm
  clear hm hl
  go_enter Tryz.func57, Tryz.ntmps57
  go_wp2_with fail
  refine (isSky_any s A c _ (HM.out.ext ((Ext.refl w).alloc _)) HL.out).mono ?_
  rintro e w1 ⟨rfl, hE1⟩
  have hE := ((Ext.refl w).alloc _).trans hE1
  have hr : Row w1 w.heap.size 28 _ := (Row.new w _ _).ext hE1
  have b0 := hr.cell
  clear hE1
  go_wp2_with fail
  refine (areTwo_any A c s _ _ _ i j _ hl1).mono ?_
  rintro e w2 ⟨rfl, hE1⟩
  replace hE := hE.trans hE1
  replace hr := hr.ext hE1
  clear hE1 b0
  have b0 := hr.cell
  go_wp2_with fail
  refine (isDay_any day _).mono ?_
  rintro e w0 ⟨rfl, rfl⟩
  have HK := Lib.hid (skyOk_iff.1 c0)
  obtain ⟨d1, d2⟩ := isDay_of c2
  obtain ⟨i1, i2, i3, i4, _⟩ := two_of c1
  have hb := way_sky_bounds HK.out i1 i2 d1 d2
  have hb2 := way_sky_bounds HK.out i3 i4 d1 d2
  have hb3 : Sp.ahead s i j day = Sp.way (Sp.body s i) day - Sp.way (Sp.body s j) day := rfl
  have hb4 : -200000000 ≤ Sp.ahead s i j day ∧ Sp.ahead s i j day ≤ 200000000 := by omega
  clear hb3
  go_wp2_with fail
  refine (ahead_any s A c _ _ _ day i j _ HK.out (HM.out.ext hE) i1 i2 i3 i4 d1 d2).mono ?_
  rintro e w9 ⟨rfl, hE1⟩
  replace hE := hE.trans hE1
  clear hE1
  go_wp2_with fail
  refine (around_any _ _ (by omega) (by omega)).mono ?_
  rintro e w9 ⟨rfl, hE1⟩
  replace hE := hE.trans hE1
  clear hE1
  go_wp2_with fail
  go_ret2
  exact ⟨rfl, hE⟩

end Go.Proofs.YtlcddcnmoajpjaaGreatDoor
