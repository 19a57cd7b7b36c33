/- The walks of the reference's Left and Watch. -/
import Derived.Test.YtlcddcnmoajpjaaGreatDoorRefNotes
import Derived.Test.YtlcddcnmoajpjaaGreatDoorV11
import Derived.Test.YtlcddcnmoajpjaaGreatDoorV12
namespace Go.Proofs.YtlcddcnmoajpjaaGreatDoor
open Go.RowKit Go.Maps
open Sp (rd)
set_option linter.unusedSimpArgs false
set_option linter.unusedVariables false

/-- The cells of a list of counts. -/
def zeroC : Array Value := madeCells (Value.cells (.int .i64 0)) 21600
theorem zeroC_at (j : Nat) (h : j < 21600) : zeroC[j]? = some (.int .i64 0) := by
  unfold zeroC madeCells
  simp [Value.cells, h, Nat.mod_one]
theorem zeroC_size : zeroC.size = 21600 := size_madeCells _ _
/-- How many places there are. -/
def theC : Nat := 21600
theorem theC_eq : theC = 21600 := rfl
theorem make_zeroC (W : World) : (Instr.makeSlice 64 (.int .i64 21600) (.int .i64 21600)).run Tryz.prog W = .ok (.slice (some ⟨W.heap.size, 0, none⟩) theC theC) (W.alloc (.cells zeroC 3)) := by
  obtain ⟨i0, hi0, hi1, hi2, hi3⟩ := info_parts info_int
  have := run_make (P := Tryz.prog) W 64 3 i0 (.int .i64 0) Tryz.underlying64 hi0 hi1 .i64 .i64 21600 21600 (by omega) (by omega) (by rw [hi3]; omega) (by omega)
  rw [hi2] at this
  exact this
/-- Block B holds how many of some speeds come to each place. -/
def Many (w : World) (B : Nat) (f : Int → Nat) : Prop :=
  ∃ cs : Array Value, Row w B 3 cs ∧ cs.size = 21600 ∧ ∀ j : Nat, j < 21600 → cs[j]? = some (.int .i64 (f (j : Int)))
theorem Many.ext {w w1 : World} {B : Nat} {f : Int → Nat} (h : Many w B f) (he : Ext w w1) : Many w1 B f := by
  obtain ⟨cs, hR, h1, h2⟩ := h
  exact ⟨cs, hR.ext he, h1, h2⟩
theorem Many.cell {w : World} {B : Nat} {f : Int → Nat} (h : Many w B f) {j : Nat} (hj : j < 21600) : w.cell? ⟨B, j, none⟩ = some (.int .i64 (f (j : Int))) := by
  obtain ⟨cs, hR, h1, h2⟩ := h
  exact (hR.cell j).trans (h2 j hj)
theorem winN_slide (start : Int) (l : List Int) (day : Int) (n k : Nat) : winN start l day (n + 1) k + cntP start l day ((n % 21600 : Nat) : Int) = winN start l day n k + cntP start l day (((n + k) % 21600 : Nat) : Int) := by
  have a := befN_win start l day (n + 1) k
  have b := befN_win start l day n (k + 1)
  have c := befN_win start l day n k
  rw [show n + 1 + k = n + (k + 1) by omega] at a
  have d : befN start l day (n + 1) = befN start l day n + cntP start l day ((n % 21600 : Nat) : Int) := rfl
  have e : winN start l day n (k + 1) = winN start l day n k + cntP start l day (((n + k) % 21600 : Nat) : Int) := rfl
  omega
theorem winN_le (start : Int) (l : List Int) (day : Int) (n k : Nat) (hk : k ≤ 21600) : winN start l day n k ≤ l.length := by
  rw [win_hits _ _ _ _ _ hk]
  exact hits_le _ _ _ _ _
def mostW (start : Int) (l : List Int) (day : Int) (wide : Nat) : Nat → Nat := Sp.maxN fun n => winN start l day n wide
theorem mostW_left (start : Int) (l : List Int) (day off : Int) (W : Nat) (h : (W : Int) = 2 * off + 1) (hW : W ≤ 21600) : mostW start l day W 21600 = Sp.left start l day off := by
  unfold mostW Sp.left
  refine maxN_congr _ _ _ fun n _ => ?_
  rw [win_hits _ _ _ _ _ hW, h]
def RLeft1 (w : World) (B : Nat) (start day : Int) (l : List Int) (i : Value) (wr : World) : Prop :=
  ∃ k : Nat, k ≤ l.length ∧ i = .int .i64 k ∧ Many wr B (cntP start (l.take k) day) ∧ Ext w wr
def RLeft2 (start day : Int) (l : List Int) (W : Nat) (now p : Value) : Prop :=
  ∃ n : Nat, n ≤ W ∧ p = .int .i64 n ∧ now = .int .i64 (winN start l day 0 n)
def RLeft3 (w : World) (B : Nat) (start day : Int) (l : List Int) (W : Nat) (now most p : Value) (wr : World) : Prop :=
  ∃ n : Nat, n ≤ 21600 ∧ p = .int .i64 n ∧ now = .int .i64 (winN start l day n W) ∧ most = .int .i64 (mostW start l day W n) ∧ Many wr B (cntP start l day) ∧ Ext w wr

set_option maxRecDepth 100000 in
set_option maxHeartbeats 2000000 in
theorem r_Left_any (start day off : Int) (A : Option Addr) (c : Nat) (l : List Int) (w : World) (hm : Ints w A l) (hl : l.length ≤ 5001) (hv : ∀ v ∈ l, 0 ≤ v ∧ v ≤ 1000000)
    (s1 : 0 ≤ start) (s2 : start ≤ 21599) (d1 : 0 ≤ day) (d2 : day ≤ 20000) (o1 : 0 ≤ off) (o2 : off ≤ 10800) :
    Calls Tryz.prog 112 #[.int .i64 start, .slice A l.length c, .int .i64 day, .int .i64 off] w fun e w' => e = .returned (.int .i64 (Sp.left start l day off)) ∧ Ext w w' := by
  have HM := Lib.hid hm
  have HV := Lib.hid hv
  clear hm hv
  have HALL : Hid (21600 ≤ 2 * off + 1 → Sp.left start l day off = l.length) := Lib.hid (left_all start l day off)
  rcases Int.lt_or_le (2 * off + 1) 21600 with hof | hof
  · obtain ⟨W, hW⟩ : ∃ W : Nat, (W : Int) = (2 * off + 1) := ⟨((2 * off + 1) : Int).toNat, by omega⟩
    have HLEFT := Lib.hid (mostW_left start l day off W hW (by omega))
    have HW := Lib.hid (And.intro hW (show W ≤ 21600 by omega))
    have hof' : ¬ (21600 ≤ 2 * off + 1) := by omega
    have HOF := Lib.hid hof
    have hmk := make_zeroC
    have rZ := Row.new w 3 zeroC
    clear hW hof
    go_enter Tryz.func112, Tryz.ntmps112
    go_wp2_with fail
    go_loopw [10] (fun i wr => RLeft1 w w.heap.size start day l i wr) (fun i _ => l.length - (intOf i).toNat)
    case atStart => exact ⟨0, Nat.zero_le _, rfl, ⟨zeroC, rZ, zeroC_size, fun j hj => by rw [zeroC_at j hj]; rfl⟩, (Ext.refl w).alloc _⟩
    case round =>
      obtain ⟨k, hk, rfl, hC, hE⟩ := hrel
      by_cases hlt : k < l.length
      · obtain ⟨b, o, rfl, hc⟩ := (HM.out.ext hE) (by omega)
        have c0 := hc k hlt
        obtain ⟨v1, v2⟩ := HV.out (rd l k) (by unfold rd; rw [List.getD_eq_getElem?_getD, List.getElem?_eq_getElem hlt]; exact List.getElem_mem hlt)
        have HT := Lib.hid (take_snoc_rd l k hlt)
        obtain ⟨v, hv⟩ : ∃ v, rd l k = v := ⟨_, rfl⟩
        rw [hv] at c0 v1 v2 HT
        have HC := Lib.hid hC
        have HE := Lib.hid hE
        clear hc hv hC hE rZ hmk
        go_wp2_with fail
        refine (r_at_any start v day _ s1 s2 v1 v2 d1 d2).mono ?_
        rintro e w1 ⟨rfl, rfl⟩
        have hab := at_bounds start v day
        obtain ⟨p, hp⟩ : ∃ p, Sp.at_ start v day = p := ⟨_, rfl⟩
        have HP := Lib.hid hp
        rw [hp] at hab ⊢
        obtain ⟨n, rfl⟩ := Int.eq_ofNat_of_zero_le hab.1
        have hn : n < 21600 := by omega
        obtain ⟨cs, hR, hsz, hcs⟩ := HC.out
        have hcl := cntP_le start (l.take k) day (n : Int)
        have htl : (l.take k).length ≤ 5001 := by rw [List.length_take]; omega
        have hcn := hcs n hn
        obtain ⟨q, hq⟩ : ∃ q, cntP start (l.take k) day (n : Int) = q := ⟨_, rfl⟩
        rw [hq] at hcl hcn
        have HQ := Lib.hid hq
        have cN := (hR.cell n).trans hcn
        have fN := hR.free n
        have HR := Lib.hid hR
        have HCS := Lib.hid hcs
        have HSZ := Lib.hid hsz
        have i1 : (n : Int) < (theC : Int) := by have := theC_eq; omega
        have HNN := Lib.hid hn
        have hw0 : w.heap.size ≤ wr.heap.size := HE.out.size
        clear hcs hsz hR hcn hq hp c0 hn hab
        go_wp2_with fail
        go_roundw
        case rel =>
          refine ⟨k + 1, by omega, by go_num, ⟨_, HR.out.set_ n (.int .i64 ((q : Int) + 1)), by simp [HSZ.out], fun j hj => ?_⟩, HE.out.setCell (by simp) _⟩
          rw [HT.out, cntP_snoc, HP.out, Array.getElem?_setIfInBounds]
          by_cases e : n = j
          · subst e
            rw [if_pos rfl, if_pos (by rw [HSZ.out]; omega), HQ.out, if_pos rfl]
            simp
          · rw [if_neg e, if_neg (by omega), HCS.out j hj]
            simp
        case measure => simp [intOf]; omega
      · obtain rfl : k = l.length := by omega
        obtain ⟨wo, rfl⟩ : ∃ wo : World, wo = wr := ⟨_, rfl⟩
        rw [List.take_length] at hC
        have HC := Lib.hid hC
        have HE := Lib.hid hE
        clear hC hE hlt rZ hmk
        go_wp2_with fail
        go_loop [12, 14] (fun now p => RLeft2 start day l W now p) (fun _ p => W - (intOf p).toNat)
        case atStart => exact ⟨0, Nat.zero_le _, rfl, rfl⟩
        case round =>
          obtain ⟨n, hn, rfl, rfl⟩ := hrel
          obtain ⟨hW, hW2⟩ := HW.out
          by_cases hlt : n < W
          · have hle : (n : Int) ≤ 2 * off := by omega
            have cN := HC.out.cell (show n < 21600 by omega)
            have hcl := cntP_le start l day (n : Int)
            have hwl := winN_le start l day 0 n (by omega)
            have HSTEP : Hid (winN start l day 0 (n + 1) = winN start l day 0 n + cntP start l day (n : Int)) := Lib.hid (by
              show winN start l day 0 n + cntP start l day (((0 + n) % 21600 : Nat) : Int) = _
              rw [show (0 + n) % 21600 = n by omega])
            obtain ⟨x, hx⟩ : ∃ x, winN start l day 0 n = x := ⟨_, rfl⟩
            obtain ⟨y, hy⟩ : ∃ y, cntP start l day (n : Int) = y := ⟨_, rfl⟩
            rw [hx] at hwl HSTEP ⊢
            rw [hy] at hcl HSTEP cN
            have i1 : (n : Int) < (theC : Int) := by have := theC_eq; omega
            have HLT := Lib.hid hlt
            have hn9 : (n : Int) < 21600 := by omega
            clear hW hW2 hx hy hlt hn
            go_wp2_with fail
            go_round
            case rel => exact ⟨n + 1, by have := HLT.out; omega, by go_num, by rw [HSTEP.out]; go_num⟩
            case measure => have := HLT.out; simp [intOf]; omega
          · obtain rfl : n = W := by omega
            have hle : ¬ ((n : Int) ≤ 2 * off) := by omega
            have HN := Lib.hid hW
            clear hW hW2 hlt hn
            go_wp2_with fail
            go_loopw [12, 13, 15] (fun now most p wr => RLeft3 w w.heap.size start day l n now most p wr) (fun _ _ p _ => 21600 - (intOf p).toNat)
            case atStart => exact ⟨0, Nat.zero_le _, rfl, rfl, rfl, HC.out, HE.out⟩
            case round =>
              obtain ⟨m, hm, rfl, rfl, rfl, hC, hE⟩ := hrel
              have hWn := HN.out
              by_cases hlt : m < 21600
              · obtain ⟨g, hg⟩ : ∃ g : Nat, (m + n) % 21600 = g := ⟨_, rfl⟩
                have hgl : g < 21600 := by omega
                have cA := hC.cell hlt
                have cB := hC.cell hgl
                have hsl := winN_slide start l day m n
                rw [show m % 21600 = m by omega, hg] at hsl
                have hla := cntP_le start l day (m : Int)
                have hlb := cntP_le start l day (g : Int)
                have hlw := winN_le start l day m n (by omega)
                have hlw2 := winN_le start l day (m + 1) n (by omega)
                have hlm : mostW start l day n m ≤ l.length := maxN_le _ _ _ fun k hk => winN_le start l day k n (by omega)
                have HSTEP : Hid (mostW start l day n (m + 1) = max (mostW start l day n m) (winN start l day m n)) := Lib.hid rfl
                obtain ⟨x, hx⟩ : ∃ x, winN start l day m n = x := ⟨_, rfl⟩
                obtain ⟨x', hx'⟩ : ∃ x, winN start l day (m + 1) n = x := ⟨_, rfl⟩
                obtain ⟨u, hu⟩ : ∃ u, cntP start l day (m : Int) = u := ⟨_, rfl⟩
                obtain ⟨v, hv⟩ : ∃ v, cntP start l day (g : Int) = v := ⟨_, rfl⟩
                obtain ⟨M, hM⟩ : ∃ M, mostW start l day n m = M := ⟨_, rfl⟩
                rw [hx] at hsl hlw HSTEP ⊢
                rw [hx'] at hsl hlw2
                rw [hu] at hsl hla cA
                rw [hv] at hsl hlb cB
                rw [hM] at hlm HSTEP ⊢
                have HX' := Lib.hid hx'
                have HSL := Lib.hid hsl
                have HC3 := Lib.hid hC
                have HE3 := Lib.hid hE
                have s0 : IntKind.i64.wrap ((x : Int) - (u : Int)) = (x : Int) - (u : Int) := IntWalk.i64_in _ (by omega)
                have s1' : IntKind.i64.wrap ((x : Int) - (u : Int) + (v : Int)) = (x : Int) - (u : Int) + (v : Int) := IntWalk.i64_in _ (by omega)
                have s2' : IntKind.i64.wrap (2 * off) = 2 * off := IntWalk.i64_in _ (by omega)
                have s3 : IntKind.i64.wrap ((m : Int) + 2 * off) = (m : Int) + 2 * off := IntWalk.i64_in _ (by omega)
                have s4 : IntKind.i64.wrap ((m : Int) + 2 * off + 1) = (m : Int) + 2 * off + 1 := IntWalk.i64_in _ (by omega)
                have t1 : ((m : Int) + 2 * off + 1).tmod 21600 = (g : Int) := by rw [Int.tmod_eq_emod_of_nonneg (by omega)]; omega
                have t2 : ((m : Int) + 2 * off + 1) % 21600 = (g : Int) := by omega
                have i1 : (m : Int) < (theC : Int) := by have := theC_eq; omega
                have i2 : (g : Int) < (theC : Int) := by have := theC_eq; omega
                have i3 : (0 : Int) ≤ (m : Int) := by omega
                have i4 : (0 : Int) ≤ (g : Int) := by omega
                have hM9 : (M : Int) ≤ 5001 := by omega
                have hx9 : (x : Int) ≤ 5001 := by omega
                have HLT := Lib.hid hlt
                have hm9 : (m : Int) < 21600 := by omega
                have CA := Lib.hid cA
                have CB := Lib.hid cB
                clear hC hE hx hx' hu hv hM hsl hla hlb hlw hlw2 hlm hg hgl hlt hm hWn cA cB
                go_wp2_with fail
                refine wp_region_later (by kernel_rfl) (by kernel_rfl) (fun WW hW => ?_)
                subst hW
                have q1 : ∀ X : Later WW, X.world.cell? ⟨w.heap.size, m, none⟩ = some (.int .i64 u) := fun X => X.ext.cell CA.out
                have q2 : ∀ X : Later WW, X.world.cell? ⟨w.heap.size, g, none⟩ = some (.int .i64 v) := fun X => X.ext.cell CB.out
                repeat (go_big_quiet_step (fail))
                refine wpQuiet_nil ?_
                rintro ⟨W1, hE1⟩
                clear q1 q2 s0 s1' s2' s3 s4 t1 t2
                have HE1 := Lib.hid hE1
                dsimp only
                clear hE1
                go_wp2_with fail
                go_roundw
                case rel =>
                  refine ⟨m + 1, by have := HLT.out; omega, by go_num, ?_, ?_, HC3.out.ext HE1.out, HE3.out.trans HE1.out⟩
                  · rw [HX'.out]
                    have := HSL.out
                    refine congrArg (Value.int .i64) ?_
                    omega
                  · rw [HSTEP.out]
                    refine congrArg (Value.int .i64) ?_
                    first | omega | (split <;> omega)
                case measure => have := HLT.out; simp [intOf]; omega
              · obtain rfl : m = 21600 := by omega
                have HE3 := Lib.hid hE
                clear hC hE hlt hm
                rw [HLEFT.out]
                go_wp2_with fail
                go_ret
                exact ⟨rfl, HE3.out⟩
  · have HX := Lib.hid (HALL.out hof)
    have hof' : (21600 : Int) ≤ 2 * off + 1 := hof
    rw [HX.out]
    clear HALL
    go_enter Tryz.func112, Tryz.ntmps112
    go_wp2_with fail
    go_ret
    exact ⟨rfl, Ext.refl _⟩

/-- The best of the first days. -/
def bestW (start : Int) (l days : List Int) (off : Int) : Nat → Nat × Nat
  | 0 => (0, 0)
  | k + 1 => if k = 0 ∨ Sp.left start l (rd days k) off < (bestW start l days off k).2 then (k, Sp.left start l (rd days k) off) else bestW start l days off k
theorem bestW_watch (start : Int) (l days : List Int) (off : Int) (k : Nat) : bestW start l days off (k + 1) = (Sp.watchN start l days off k, Sp.left start l (rd days (Sp.watchN start l days off k)) off) := by
  induction k with
  | zero => rfl
  | succ k ih =>
    rw [bestW, ih, Sp.watchN]
    by_cases h : Sp.left start l (rd days (k + 1)) off < Sp.left start l (rd days (Sp.watchN start l days off k)) off
    · rw [if_pos (.inr h), if_pos h]
    · rw [if_neg (by simp only [Nat.succ_ne_zero, false_or]; exact h), if_neg h]
attribute [local irreducible] Sp.left Sp.maxN

set_option maxRecDepth 100000 in
set_option maxHeartbeats 2000000 in
theorem r_Watch_any (start off : Int) (A B : Option Addr) (c c2 : Nat) (l days : List Int) (w : World) (hm : Ints w A l) (hd : Ints w B days) (hl : l.length ≤ 5001) (hv : ∀ v ∈ l, 0 ≤ v ∧ v ≤ 1000000)
    (hdl : Sp.daysOk days = true) (s1 : 0 ≤ start) (s2 : start ≤ 21599) (o1 : 0 ≤ off) (o2 : off ≤ 10800) :
    Calls Tryz.prog 51 #[.int .i64 start, .slice A l.length c, .slice B days.length c2, .int .i64 off] w fun e w' => e = .returned (.tuple #[.int .i64 (Sp.watchI start l days off : Int), .int .i64 (Sp.left start l (rd days (Sp.watchI start l days off)) off : Int)]) ∧ Ext w w' := by
  have HM := Lib.hid hm
  have HD := Lib.hid hd
  have HV := Lib.hid hv
  simp only [Sp.daysOk, Bool.and_eq_true] at hdl
  obtain ⟨n1, n2⟩ := inR_iff.1 hdl.1
  have HDY := Lib.hid hdl.2
  clear hm hd hv hdl
  go_enter Tryz.func51, Tryz.ntmps51
  go_wp2_with fail
  go_loopw [10, 11, 12] (fun at_ least i wr => ∃ k : Nat, k ≤ days.length ∧ i = .int .i64 k ∧ at_ = .int .i64 ((bestW start l days off k).1 : Int) ∧ least = .int .i64 ((bestW start l days off k).2 : Int) ∧ Ext w wr) (fun _ _ i _ => days.length - (intOf i).toNat)
  case atStart => exact ⟨0, Nat.zero_le _, rfl, rfl, rfl, Ext.refl _⟩
  case round =>
    obtain ⟨k, hk, rfl, rfl, rfl, hE⟩ := hrel
    by_cases hlt : k < days.length
    · obtain ⟨b, o, rfl, hc⟩ := (HD.out.ext hE) (by omega)
      have c0 := hc k hlt
      have hday : Sp.isDay (rd days k) = true := by
        have := HDY.out
        rw [List.all_eq_true] at this
        have hm := this (days[k]) (List.getElem_mem hlt)
        unfold rd
        rw [List.getD_eq_getElem?_getD, List.getElem?_eq_getElem hlt]
        exact hm
      obtain ⟨d1, d2⟩ := inR_iff.1 (show Sp.inR (rd days k) 0 20000 = true from hday)
      have HSUCC : Hid (bestW start l days off (k + 1) = if k = 0 ∨ Sp.left start l (rd days k) off < (bestW start l days off k).2 then (k, Sp.left start l (rd days k) off) else bestW start l days off k) := Lib.hid rfl
      have hll := left_le start l (rd days k) off
      obtain ⟨d, hd⟩ : ∃ d, rd days k = d := ⟨_, rfl⟩
      rw [hd] at c0 d1 d2 HSUCC hll
      obtain ⟨p, hp⟩ : ∃ p, bestW start l days off k = p := ⟨_, rfl⟩
      rw [hp] at HSUCC ⊢
      obtain ⟨p1, p2⟩ := p
      have HE := Lib.hid hE
      have HLT := Lib.hid hlt
      have hlt' : (k : Int) < (days.length : Int) := by omega
      dsimp only at HSUCC ⊢
      clear hc hday hd hE hp hlt
      go_wp2_with fail
      refine (r_Left_any start d off A c l _ (HM.out.ext HE.out) hl HV.out s1 s2 d1 d2 o1 o2).mono ?_
      rintro e w3 ⟨rfl, hE3⟩
      have HX3 := Lib.hid (HE.out.trans hE3)
      obtain ⟨q, hq⟩ : ∃ q, Sp.left start l d off = q := ⟨_, rfl⟩
      rw [hq] at HSUCC hll ⊢
      clear c0 hE3 hq
      by_cases hk0 : k = 0
      · subst hk0
        go_wp2_with fail
        go_roundw
        case rel => exact ⟨1, HLT.out, rfl, by rw [HSUCC.out]; rfl, by rw [HSUCC.out]; rfl, HX3.out⟩
        case measure => have := HLT.out; simp [intOf]; omega
      · have hk1 : ((k : Int) == 0) = false := by simpa using hk0
        have hk2 : ¬ ((k : Int) = 0) := by omega
        have HK0 := Lib.hid hk0
        by_cases hqp : q < p2
        · have HN : Hid (bestW start l days off (k + 1) = (k, q)) := Lib.hid (by rw [HSUCC.out, if_pos (.inr hqp)])
          have hqp' : (q : Int) < (p2 : Int) := by omega
          have HQP := Lib.hid hqp
          clear HSUCC hk0 hqp
          go_wp2_with fail
          go_roundw
          case rel => exact ⟨k + 1, HLT.out, by go_num, by rw [HN.out], by rw [HN.out], HX3.out⟩
          case measure => have := HLT.out; simp [intOf]; omega
        · have HN : Hid (bestW start l days off (k + 1) = (p1, p2)) := Lib.hid (by rw [HSUCC.out, if_neg (by omega)])
          have hqp' : ¬ ((q : Int) < (p2 : Int)) := by omega
          clear HSUCC hk0 hqp
          go_wp2_with fail
          go_roundw
          case rel => exact ⟨k + 1, HLT.out, by go_num, by rw [HN.out], by rw [HN.out], HX3.out⟩
          case measure => have := HLT.out; simp [intOf]; omega
    · obtain rfl : k = days.length := by omega
      have HI : Hid (bestW start l days off days.length = (Sp.watchI start l days off, Sp.left start l (rd days (Sp.watchI start l days off)) off)) := Lib.hid (by
        obtain ⟨m, hm⟩ : ∃ m, days.length = m + 1 := ⟨days.length - 1, by omega⟩
        have hb := bestW_watch start l days off m
        rw [← hm] at hb
        rw [hb]
        unfold Sp.watchI
        rw [show days.length - 1 = m by omega])
      have HE := Lib.hid hE
      rw [HI.out]
      dsimp only
      clear hE
      go_wp2_with fail
      go_ret2
      exact ⟨rfl, HE.out⟩
end Go.Proofs.YtlcddcnmoajpjaaGreatDoor
