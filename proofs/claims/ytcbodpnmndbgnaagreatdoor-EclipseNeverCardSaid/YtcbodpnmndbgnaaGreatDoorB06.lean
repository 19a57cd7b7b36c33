/- Volume 6 of the texts that the laws of this seat use: EcText EcRefA EcKept EcNever EcNever2 EcOff EcMore EcSets EcSets2 EcCmp EcFore: walks of the program's functions, and plain laws. -/
import Derived.Lib.ItoaLen
import Derived.Carry
import Derived.Test.YtcbodpnmndbgnaaGreatDoorB01
import Derived.Test.YtcbodpnmndbgnaaGreatDoorB02
import Derived.Test.YtcbodpnmndbgnaaGreatDoorB04
import Derived.Test.YtcbodpnmndbgnaaGreatDoorB05
namespace Go.Proofs.YtcbodpnmndbgnaaGreatDoor
open Sp (rd)
set_option linter.unusedSimpArgs false
set_option linter.unusedVariables false
namespace Ec
def wEcl : Bs := [101, 99, 108, 105, 112, 115, 101, 115]
def wNew : Bs := [110, 101, 119]
def wFull : Bs := [102, 117, 108, 108]
def eWord (full : Bool) : Bs := if full then wFull else wNew
def eLine (e : Sp.Ecl) : Bs := lineL (eWord e.full) [e.day, e.far]
/-- The lines of a table, without the last one. -/
def tabE (l : List Sp.Ecl) : List Bs := lineL wEcl [(l.length : Int)] :: l.map eLine
def checkE (L : List Bs) : Nat := checkN L L.length % 139
def textE (l : List Sp.Ecl) : Bs := Lib.join (tabE l) [10] ++ [10] ++ endL (checkE (tabE l)) ++ [10]
/-- The number that a word says. -/
def numFineE (w : Bs) : Bool := w.all isDig && decide (w.length ≤ 5) && !w.isEmpty && (Lib.itoa (digV w : Int) == w)
def numE (w : Bs) : Option Int := if numFineE w = true then some (digV w : Int) else none
def eclP (r : Bs) : Option Sp.Ecl :=
  match sp1 32 r with
  | [w, d, f] => if w = wFull ∨ w = wNew then (numE d).bind fun day => (numE f).bind fun far => some ⟨day, decide (w = wFull), far⟩ else none
  | _ => none
/-- The rows between the first one and the last two. -/
def midE (s : Bs) : List Bs := ((sp1 10 s).drop 1).take ((sp1 10 s).length - 3)
/-- The program's way, and the document's. -/
def parseE (s : Bs) : Option (List Sp.Ecl) := if (sp1 10 s).length < 3 then none else ((midE s).mapM eclP).bind fun l => if textE l = s then some l else none
structure EclNum (l : List Sp.Ecl) : Prop where
  day : ∀ e ∈ l, 0 ≤ e.day ∧ e.day ≤ 99999
  far : ∀ e ∈ l, 0 ≤ e.far ∧ e.far ≤ 99999
theorem numE_itoa (n : Int) (h0 : 0 ≤ n) (h1 : n ≤ 99999) : numE (Lib.itoa n) = some n := by
  obtain ⟨u, rfl⟩ := Int.eq_ofNat_of_zero_le h0
  obtain ⟨a, b, c⟩ := dec_all u
  have hl := dec_len5 u (by omega)
  have e : Lib.itoa (u : Int) = Lib.decDigits u := Lib.itoa_nonneg u
  unfold numE numFineE
  rw [e, a, b]
  have hne : (Lib.decDigits u).isEmpty = false := by simpa using c
  rw [hne, e]
  simp [hl]
theorem numE_some {w : Bs} {n : Int} (h : numE w = some n) : w = Lib.itoa n ∧ 0 ≤ n ∧ n ≤ 99999 := by
  unfold numE at h
  split at h
  · rename_i hf
    simp only [numFineE, Bool.and_eq_true, decide_eq_true_eq, beq_iff_eq] at hf
    obtain rfl := Option.some.inj h
    have hlt := digN_lt w hf.1.1.1 w.length (Nat.le_refl _)
    have : 10 ^ w.length ≤ 10 ^ 5 := Nat.pow_le_pow_right (by omega) hf.1.1.2
    refine ⟨hf.2.symm, by omega, ?_⟩
    unfold digV
    omega
  · cases h
theorem eWord_no (b : Bool) : (32 : UInt8) ∉ eWord b ∧ (10 : UInt8) ∉ eWord b := by cases b <;> decide
theorem eWord_full (b : Bool) : decide (eWord b = wFull) = b := by cases b <;> decide
theorem eWord_is (b : Bool) : eWord b = wFull ∨ eWord b = wNew := by cases b <;> decide
theorem sp1_eLine (e : Sp.Ecl) : sp1 32 (eLine e) = [eWord e.full, Lib.itoa e.day, Lib.itoa e.far] := sp1_line _ _ (eWord_no e.full).1
theorem eclP_line {e : Sp.Ecl} (h1 : 0 ≤ e.day ∧ e.day ≤ 99999) (h2 : 0 ≤ e.far ∧ e.far ≤ 99999) : eclP (eLine e) = some e := by
  unfold eclP
  rw [sp1_eLine]
  simp only []
  rw [if_pos (eWord_is e.full), numE_itoa _ h1.1 h1.2, numE_itoa _ h2.1 h2.2]
  simp only [Option.bind_some, eWord_full]
theorem eclP_num {r : Bs} {e : Sp.Ecl} (h : eclP r = some e) : (0 ≤ e.day ∧ e.day ≤ 99999) ∧ (0 ≤ e.far ∧ e.far ≤ 99999) := by
  unfold eclP at h
  split at h
  · split at h
    · rename_i w d f _ _
      cases hd : numE d with
      | none => rw [hd] at h; cases h
      | some n =>
        cases hf : numE f with
        | none => rw [hd, hf] at h; cases h
        | some m =>
          rw [hd, hf] at h
          obtain rfl := Option.some.inj h
          exact ⟨(numE_some hd).2, (numE_some hf).2⟩
    · cases h
  · cases h
theorem tabE_no (l : List Sp.Ecl) : ∀ x ∈ tabE l, (10 : UInt8) ∉ x := by
  intro x hx
  unfold tabE at hx
  rcases List.mem_cons.1 hx with rfl | hx
  · exact line_no _ _ 10 (by decide) (by decide) (by decide) (by decide)
  · obtain ⟨e, _, rfl⟩ := List.mem_map.1 hx
    exact line_no _ _ 10 (by decide) (by decide) (by decide) (eWord_no e.full).2
theorem textE_join (l : List Sp.Ecl) : textE l = Lib.join (tabE l ++ [endL (checkE (tabE l)), []]) [10] := by
  unfold textE
  have e : ∃ x r, tabE l = x :: r := ⟨_, _, rfl⟩
  obtain ⟨x, r, e⟩ := e
  rw [e, List.cons_append, Lib.join_cons, Lib.join_cons, joinTail_app]
  simp [Lib.joinTail]
theorem sp1_textE (l : List Sp.Ecl) : sp1 10 (textE l) = tabE l ++ [endL (checkE (tabE l)), []] := by
  rw [textE_join]
  refine sp1_join 10 _ (by simp) fun x hx => ?_
  rcases List.mem_append.1 hx with hx | hx
  · exact tabE_no l x hx
  · simp only [List.mem_cons, List.not_mem_nil, or_false] at hx
    rcases hx with rfl | rfl
    · exact endL_no _
    · simp
theorem tabE_length (l : List Sp.Ecl) : (tabE l).length = l.length + 1 := by simp [tabE]
theorem midE_text (l : List Sp.Ecl) : midE (textE l) = l.map eLine := by
  unfold midE
  rw [sp1_textE]
  have e : (tabE l ++ [endL (checkE (tabE l)), []]).drop 1 = l.map eLine ++ [endL (checkE (tabE l)), []] := by simp [tabE]
  rw [e]
  exact List.take_left' (by simp [tabE])
theorem mapM_lines {f : Bs → Option Sp.Ecl} {l : List Sp.Ecl} (h : ∀ e ∈ l, f (eLine e) = some e) : (l.map eLine).mapM f = some l := by
  rw [mapM_some, List.map_map]
  exact List.map_congr_left fun e he => h e he
theorem parse_textE (l : List Sp.Ecl) (h : EclNum l) : parseE (textE l) = some l := by
  unfold parseE
  rw [midE_text, sp1_textE, if_neg (by simp [tabE]), mapM_lines fun e he => eclP_line (h.day e he) (h.far e he)]
  simp
theorem parse_someE {s : Bs} {l : List Sp.Ecl} (h : parseE s = some l) : textE l = s ∧ EclNum l := by
  unfold parseE at h
  split at h
  · cases h
  · cases hm : (midE s).mapM eclP with
    | none => rw [hm] at h; cases h
    | some r =>
      rw [hm] at h
      simp only [Option.bind_some] at h
      split at h
      · rename_i ht
        obtain rfl := Option.some.inj h
        exact ⟨ht, fun e he => by obtain ⟨a, _, ha⟩ := mapM_mem hm e he; exact (eclP_num ha).1, fun e he => by obtain ⟨a, _, ha⟩ := mapM_mem hm e he; exact (eclP_num ha).2⟩
      · cases h
theorem parse_iffE (s : Bs) (l : List Sp.Ecl) : parseE s = some l ↔ textE l = s ∧ EclNum l :=
  ⟨parse_someE, fun ⟨e, h⟩ => by rw [← e]; exact parse_textE l h⟩
def before (a b : Sp.Ecl) : Bool := decide (a.day < b.day) || (decide (a.day = b.day) && (!a.full && b.full))
end Ec
end Go.Proofs.YtcbodpnmndbgnaaGreatDoor
namespace Go.Proofs.YtcbodpnmndbgnaaGreatDoor
open Go.RowKit
open Sp (rd)
theorem r_in_any (x lo hi : Int) (w : World) : Calls Tryz.prog 101 #[.int .i64 x, .int .i64 lo, .int .i64 hi] w fun e w' => e = .returned (.bool (Sp.inR x lo hi)) ∧ w = w' := by
  go_enter Tryz.func101, Tryz.ntmps101
  go_wp2
  all_goals
    go_ret
    exact ⟨ret_bool (by simp [Sp.inR, *] <;> omega), rfl⟩
theorem r_Spot_any (n : Int) (w : World) : Calls Tryz.prog 79 #[.int .i64 n] w fun e w' => e = .returned (.bool (Sp.spot n)) ∧ w = w' := by
  go_enter Tryz.func79, Tryz.ntmps79
  go_wp2_with (go_at_call 101; refine (r_in_any _ _ _ _).mono ?_; rintro e w' ⟨rfl, rfl⟩)
  go_ret
  exact ⟨rfl, rfl⟩
theorem r_Limit_any (n : Int) (w : World) : Calls Tryz.prog 45 #[.int .i64 n] w fun e w' => e = .returned (.bool (Sp.isLimit n)) ∧ w = w' := by
  go_enter Tryz.func45, Tryz.ntmps45
  go_wp2_with (go_at_call 101; refine (r_in_any _ _ _ _).mono ?_; rintro e w' ⟨rfl, rfl⟩)
  go_ret
  exact ⟨rfl, rfl⟩
theorem r_period_any (num den : Int) (w : World) : Calls Tryz.prog 112 #[.agg #[.int .i64 num, .int .i64 den]] w fun e w' => e = .returned (.bool (Sp.period num den)) ∧ Ext w w' := by
  by_cases hn : 1 ≤ num ∧ num ≤ 10000
  · obtain ⟨n1, n2⟩ := hn
    have hn' : Sp.inR num 1 10000 = true := inR_iff.2 ⟨n1, n2⟩
    by_cases hd : 1 ≤ den ∧ den ≤ 10000
    · obtain ⟨d1, d2⟩ := hd
      have hd' : Sp.inR den 1 10000 = true := inR_iff.2 ⟨d1, d2⟩
      go_enter Tryz.func112, Tryz.ntmps112
      go_wp2_with (go_at_call 101; refine (r_in_any _ _ _ _).mono ?_; rintro e w' ⟨rfl, rfl⟩)
      all_goals
        go_ret
        exact ⟨ret_bool (by simp_all [Sp.period]), (Ext.refl _).alloc _⟩
    · have hd' : Sp.inR den 1 10000 = false := inR_no.2 hd
      clear hd
      go_enter Tryz.func112, Tryz.ntmps112
      go_wp2_with (go_at_call 101; refine (r_in_any _ _ _ _).mono ?_; rintro e w' ⟨rfl, rfl⟩)
      all_goals
        go_ret
        exact ⟨ret_bool (by simp_all [Sp.period]), (Ext.refl _).alloc _⟩
  · have hn' : Sp.inR num 1 10000 = false := inR_no.2 hn
    clear hn
    go_enter Tryz.func112, Tryz.ntmps112
    go_wp2_with (go_at_call 101; refine (r_in_any _ _ _ _).mono ?_; rintro e w' ⟨rfl, rfl⟩)
    all_goals
      go_ret
      exact ⟨ret_bool (by simp_all [Sp.period]), (Ext.refl _).alloc _⟩
end Go.Proofs.YtcbodpnmndbgnaaGreatDoor
namespace Go.Proofs.YtcbodpnmndbgnaaGreatDoor
open Go.RowKit
open Sp (rd)
end Go.Proofs.YtcbodpnmndbgnaaGreatDoor
namespace Go.Proofs.YtcbodpnmndbgnaaGreatDoor
open Go.RowKit
open Sp (rd)
end Go.Proofs.YtcbodpnmndbgnaaGreatDoor
namespace Go.Proofs.YtcbodpnmndbgnaaGreatDoor
open Go.RowKit
open Sp (rd)
end Go.Proofs.YtcbodpnmndbgnaaGreatDoor
namespace Go.Proofs.YtcbodpnmndbgnaaGreatDoor
open Sp (rd)
set_option linter.unusedSimpArgs false
set_option linter.unusedVariables false
namespace Ec
/-- By how many minutes a hand is off after some turns, times a denominator. -/
def offN (l : List Pair) (num den turns : Int) : Int := (turnsN l * den - num * turnsD l) * turns * 21600
def within (l : List Pair) (num den limit turns : Int) : Bool := decide (max (offN l num den turns) (-offN l num den turns) ≤ limit * (turnsD l * den))
def prevF (feasts set : List Int) (k : Nat) : Int := if k = 0 then 0 else feastOf feasts set (k - 1)
/-- Is a hand kept, from a setting on? -/
def keepsGo (l : List Pair) (num den limit : Int) (feasts set : List Int) (until_ : Int) (k : Nat) : Nat → Bool
  | 0 => within l num den limit (until_ - prevF feasts set k)
  | n + 1 => if feastOf feasts set k < until_ then within l num den limit (feastOf feasts set k - prevF feasts set k) && keepsGo l num den limit feasts set until_ (k + 1) n else within l num den limit (until_ - prevF feasts set k)
def keeps (l : List Pair) (num den limit : Int) (feasts set : List Int) (until_ : Int) : Bool := keepsGo l num den limit feasts set until_ 0 set.length
theorem rising_lt {l : List Int} {lo hi : Int} {n : Nat} (h : risingN l lo hi n = true) {i j : Nat} (hij : i < j) (hj : j < n) : rd l i < rd l j := by
  induction j with
  | zero => omega
  | succ j ih =>
    have h1 := (rising_at h (j + 1) hj).2 (by omega)
    simp only [Nat.add_sub_cancel] at h1
    rcases Nat.lt_or_ge i j with h2 | h2
    · have := ih h2 (by omega); omega
    · obtain rfl : i = j := by omega
      exact h1
theorem set_at {feasts set : List Int} (h : setOk feasts set = true) {k : Nat} (hk : k < set.length) : 0 ≤ rd set k ∧ (rd set k).toNat < feasts.length := by
  have := (rising_at h k hk).1
  omega
theorem feastOf_lt {feasts set : List Int} (hf : feastsOk feasts = true) (hs : setOk feasts set = true) {i j : Nat} (hij : i < j) (hj : j < set.length) : feastOf feasts set i < feastOf feasts set j := by
  simp only [feastsOk, Bool.and_eq_true] at hf
  have a := set_at hs (show i < set.length by omega)
  have b := set_at hs hj
  have c := rising_lt hs hij hj
  exact rising_lt hf.1 (show (rd set i).toNat < (rd set j).toNat by omega) b.2
theorem lastN_stop {feasts set : List Int} {turn : Int} {j n : Nat} (hjn : j ≤ n) (h : ∀ i, j ≤ i → i < n → turn < feastOf feasts set i) : lastN feasts set turn n = lastN feasts set turn j := by
  induction n with
  | zero => obtain rfl : j = 0 := by omega
            rfl
  | succ n ih =>
    rcases Nat.lt_or_ge n j with h1 | h1
    · obtain rfl : j = n + 1 := by omega
      rfl
    · rw [lastN, if_neg (by have := h n h1 (by omega); omega)]
      exact ih h1 (fun i a b => h i a (by omega))
theorem last_at {feasts set : List Int} (hf : feastsOk feasts = true) (hs : setOk feasts set = true) {k : Nat} (hk : k < set.length) : last feasts set (feastOf feasts set k) = feastOf feasts set k := by
  unfold last
  rw [lastN_stop (j := k + 1) (by omega) (fun i a b => feastOf_lt hf hs (by omega) b), lastN, if_pos (Int.le_refl _)]
theorem last_prev {feasts set : List Int} {turn : Int} {k : Nat} (h : ∀ i, i < k → feastOf feasts set i ≤ turn) : lastN feasts set turn k = prevF feasts set k := by
  cases k with
  | zero => rfl
  | succ k => rw [lastN, if_pos (h k (by omega))]; rfl
theorem within_zero {l : List Pair} {num den limit : Int} (h0 : 0 ≤ limit) (hw : 0 < turnsD l * den) : within l num den limit 0 = true := by
  unfold within offN
  rw [decide_eq_true_eq]
  have := Int.mul_nonneg h0 (Int.le_of_lt hw)
  simp only [Int.mul_zero, Int.zero_mul]
  omega
/-- A hand that is kept is within the limit since it was set. -/
theorem keeps_within {l : List Pair} {num den limit : Int} {feasts set : List Int} {until_ : Int} (hf : feastsOk feasts = true) (hs : setOk feasts set = true) (h0 : 0 ≤ limit) (hw : 0 < turnsD l * den) (h : keeps l num den limit feasts set until_ = true) :
    within l num den limit (until_ - last feasts set until_) = true := by
  have key : ∀ n k, k + n = set.length → (∀ i, i < k → feastOf feasts set i < until_) → keepsGo l num den limit feasts set until_ k n = true → within l num den limit (until_ - last feasts set until_) = true := by
    intro n
    induction n with
    | zero =>
      intro k hk hi hg
      have : last feasts set until_ = prevF feasts set k := by
        unfold last
        rw [show set.length = k by omega]
        exact last_prev fun i hi' => by have := hi i hi'; omega
      rw [this]
      exact hg
    | succ n ih =>
      intro k hk hi hg
      unfold keepsGo at hg
      split at hg
      · rename_i hlt
        simp only [Bool.and_eq_true] at hg
        exact ih (k + 1) (by omega) (fun i hi' => by
          rcases Nat.lt_or_ge i k with h1 | h1
          · exact hi i h1
          · obtain rfl : i = k := by omega
            exact hlt) hg.2
      · rename_i hge
        rcases Int.lt_or_le until_ (feastOf feasts set k) with h1 | h1
        · have : last feasts set until_ = prevF feasts set k := by
            unfold last
            rw [lastN_stop (j := k) (by omega) (fun i a b => by
              rcases Nat.lt_or_ge k i with c | c
              · have := feastOf_lt hf hs c b; omega
              · obtain rfl : i = k := by omega
                exact h1)]
            exact last_prev fun i hi' => by have := hi i hi'; omega
          rw [this]
          exact hg
        · have : feastOf feasts set k = until_ := by omega
          rw [← this, last_at hf hs (by omega), Int.sub_self]
          exact within_zero h0 hw
  exact key set.length 0 (by omega) (fun i hi => by omega) h
/-- Where a hand is told to be, and where it should be, in whole minutes from the start on. -/
theorem shown_far (l : List Pair) (num den limit turn la : Int) (hd : 0 < den) (hD : 0 < turnsD l) (h : within l num den limit (turn - la) = true) :
    ∃ n : Int, -limit ≤ n ∧ n ≤ limit ∧ ((num * la * turnsD l + turnsN l * (turn - la) * den) % (turnsD l * den) * 21600 / (turnsD l * den) - turn * 21600 * num / den - n) % 21600 = 0 := by
  obtain ⟨W, hW⟩ : ∃ W, turnsD l * den = W := ⟨_, rfl⟩
  obtain ⟨A, hA⟩ : ∃ A, num * la * turnsD l + turnsN l * (turn - la) * den = A := ⟨_, rfl⟩
  have hW0 : 0 < W := by rw [← hW]; exact Int.mul_pos hD hd
  simp only [within, decide_eq_true_eq] at h
  rw [hW] at h
  have hoff : offN l num den (turn - la) = A * 21600 - turn * 21600 * num * turnsD l := by
    unfold offN; rw [← hA]; grind
  rw [hoff] at h
  have e1 : A % W * 21600 / W = A * 21600 / W - 21600 * (A / W) := by
    have := Int.emod_add_mul_ediv A W
    have e : A * 21600 = A % W * 21600 + W * (21600 * (A / W)) := by
      have e0 : A * 21600 = (A % W + W * (A / W)) * 21600 := by rw [this]
      rw [e0]; grind
    rw [e, Int.add_mul_ediv_left _ _ (by omega)]
    omega
  have e2 : turn * 21600 * num / den = turn * 21600 * num * turnsD l / W := by
    rw [← hW, Int.mul_comm (turn * 21600 * num) (turnsD l), Int.mul_ediv_mul_of_pos _ _ hD]
  obtain ⟨Q, hQ⟩ : ∃ Q, turn * 21600 * num * turnsD l = Q := ⟨_, rfl⟩
  rw [hW, hA, e1, e2, hQ]
  rw [hQ] at h
  refine ⟨A * 21600 / W - Q / W, ?_, ?_, by omega⟩
  · have h1 : Q ≤ A * 21600 + limit * W := by omega
    have h2 := Int.ediv_le_ediv hW0 h1
    rw [Int.add_mul_ediv_right _ _ (by omega)] at h2
    omega
  · have h1 : A * 21600 ≤ Q + limit * W := by omega
    have h2 := Int.ediv_le_ediv hW0 h1
    rw [Int.add_mul_ediv_right _ _ (by omega)] at h2
    omega
theorem near_of {x n limit : Int} (h1 : -limit ≤ n) (h2 : n ≤ limit) (hl : limit ≤ 10800) (h : (x - n) % 21600 = 0) : -limit ≤ near x ∧ near x ≤ limit := by
  unfold near; omega
/-- By how much hands are off. -/
def sunOff (e : Engine) (set : List Int) (day : Int) : Int := near (sunAt e set day - Sp.mean (Sp.body e.sky 0) day % 21600)
def moonOff (e : Engine) (set : List Int) (day : Int) : Int := near (moonAt e set day - Sp.mean (Sp.body e.sky 1) day % 21600)
def nodeOff (e : Engine) (set : List Int) (day : Int) : Int := near (nodeAt e set day - Sp.node e.sky day)
theorem body_off {l : List Pair} {b : Sp.Body} {limit day : Int} {feasts set : List Int} (hb : 0 < b.num) (hD : 0 < turnsD l) (hl : limit ≤ 10800) (h : within l b.den b.num limit (day - last feasts set day) = true) :
    -limit ≤ near ((b.start + shown l b.den b.num feasts set day) % 21600 - Sp.mean b day % 21600) ∧ near ((b.start + shown l b.den b.num feasts set day) % 21600 - Sp.mean b day % 21600) ≤ limit := by
  obtain ⟨n, h1, h2, h3⟩ := shown_far l b.den b.num limit day _ hb hD h
  refine near_of h1 h2 hl ?_
  unfold shown Sp.mean Sp.gone
  omega
theorem node_off {l : List Pair} {s : Sp.Sky} {limit day : Int} {feasts set : List Int} (hb : 0 < s.nnum) (hD : 0 < turnsD l) (hl : limit ≤ 10800) (h : within l s.nden s.nnum limit (day - last feasts set day) = true) :
    -limit ≤ near ((s.nstart - shown l s.nden s.nnum feasts set day) % 21600 - Sp.node s day) ∧ near ((s.nstart - shown l s.nden s.nnum feasts set day) % 21600 - Sp.node s day) ≤ limit := by
  obtain ⟨n, h1, h2, h3⟩ := shown_far l s.nden s.nnum limit day _ hb hD h
  refine near_of (n := -n) (by omega) (by omega) hl ?_
  unfold shown Sp.node Sp.gone
  omega
end Ec
end Go.Proofs.YtcbodpnmndbgnaaGreatDoor
namespace Go.Proofs.YtcbodpnmndbgnaaGreatDoor
open Sp (rd)
set_option linter.unusedSimpArgs false
set_option linter.unusedVariables false
namespace Ec
theorem within_mono {l : List Pair} {num den limit t t' : Int} (h0 : 0 ≤ t) (h1 : t ≤ t') (h : within l num den limit t' = true) : within l num den limit t = true := by
  unfold within offN at *
  rw [decide_eq_true_eq] at h ⊢
  generalize turnsN l * den - num * turnsD l = c at h ⊢
  generalize limit * (turnsD l * den) = w at h ⊢
  rcases Int.le_total 0 c with hc | hc
  · have a := Int.mul_le_mul_of_nonneg_left h1 hc
    have b := Int.mul_nonneg hc h0
    omega
  · have a := Int.mul_le_mul_of_nonneg_left h1 (show 0 ≤ -c by omega)
    have b := Int.mul_nonneg (show 0 ≤ -c by omega) h0
    rw [Int.neg_mul, Int.neg_mul] at a
    rw [Int.neg_mul] at b
    omega
/-- A hand that is kept up to a day is kept up to each day before it. -/
theorem keeps_mono {l : List Pair} {num den limit : Int} {feasts set : List Int} {until_ d : Int} (h0 : 0 ≤ d) (h1 : d ≤ until_) (h : keeps l num den limit feasts set until_ = true) : keeps l num den limit feasts set d = true := by
  have key : ∀ n k, prevF feasts set k ≤ d → keepsGo l num den limit feasts set until_ k n = true → keepsGo l num den limit feasts set d k n = true := by
    intro n
    induction n with
    | zero => intro k hk hg; exact within_mono (by omega) (by omega) hg
    | succ n ih =>
      intro k hk hg
      unfold keepsGo at hg ⊢
      split at hg
      · rw [Bool.and_eq_true] at hg
        split
        · rename_i a b
          rw [Bool.and_eq_true]
          refine ⟨hg.1, ih (k + 1) ?_ hg.2⟩
          unfold prevF
          rw [if_neg (by omega), Nat.add_sub_cancel]
          omega
        · rename_i a b
          exact within_mono (by omega) (by omega) hg.1
      · rename_i a
        rw [if_neg (by omega)]
        exact within_mono (by omega) (by omega) hg
  exact key set.length 0 (by unfold prevF; rw [if_pos rfl]; exact h0) h
/-- By how many minutes the lead grows in a day, rounded down. -/
def leadStep (s : Sp.Sky) : Int := 21600 * ((Sp.body s 1).den * (Sp.body s 0).num - (Sp.body s 0).den * (Sp.body s 1).num) / ((Sp.body s 1).num * (Sp.body s 0).num)
def goesStep (s : Sp.Sky) : Int := 21600 * (Sp.body s 1).den / (Sp.body s 1).num + 21600 * s.nden / s.nnum + 2
theorem gone_lt {num den a b : Int} (h : 1 ≤ num) : num * (Sp.gone num den b - Sp.gone num den a) < (b - a) * 21600 * den + num ∧ (b - a) * 21600 * den - num < num * (Sp.gone num den b - Sp.gone num den a) := by
  unfold Sp.gone
  have e : (b - a) * 21600 * den = b * 21600 * den - a * 21600 * den := by grind
  rw [e, Int.mul_sub]
  have h1 := Int.mul_ediv_add_emod (a * 21600 * den) num
  have h2 := Int.mul_ediv_add_emod (b * 21600 * den) num
  have := Int.emod_nonneg (a * 21600 * den) (show num ≠ 0 by omega)
  have := Int.emod_nonneg (b * 21600 * den) (show num ≠ 0 by omega)
  have := Int.emod_lt_of_pos (a * 21600 * den) (show 0 < num by omega)
  have := Int.emod_lt_of_pos (b * 21600 * den) (show 0 < num by omega)
  constructor <;> omega
/-- How far a body goes in some days. -/
theorem gone_days {num den a b : Int} (h : 1 ≤ num) (hab : a ≤ b) : Sp.gone num den b - Sp.gone num den a ≤ (b - a) * (21600 * den / num + 1) + 1 ∧ (0 ≤ den → -1 ≤ Sp.gone num den b - Sp.gone num den a) := by
  obtain ⟨h1, h2⟩ := gone_lt (den := den) (a := a) (b := b) h
  generalize Sp.gone num den b - Sp.gone num den a = g at *
  have h3 := Int.mul_ediv_add_emod (21600 * den) num
  have h4 := Int.emod_lt_of_pos (21600 * den) (show 0 < num by omega)
  constructor
  · have h5 : (b - a) * (21600 * den) ≤ (b - a) * (num * (21600 * den / num + 1)) := Int.mul_le_mul_of_nonneg_left (by rw [Int.mul_add]; omega) (by omega)
    have h6 : (b - a) * (num * (21600 * den / num + 1)) = num * ((b - a) * (21600 * den / num + 1)) := by grind
    have h7 : num * g < num * ((b - a) * (21600 * den / num + 1) + 1) := by
      rw [Int.mul_add num, ← h6, Int.mul_one]
      have : (b - a) * 21600 * den = (b - a) * (21600 * den) := Int.mul_assoc ..
      omega
    have := Int.lt_of_mul_lt_mul_left h7 (by omega)
    omega
  · intro hd
    have h5 : 0 ≤ (b - a) * 21600 * den := Int.mul_nonneg (Int.mul_nonneg (by omega) (by omega)) hd
    have h7 : num * (-1) < num * g + 1 := by omega
    have h8 : num * (-2) < num * g := by omega
    have := Int.lt_of_mul_lt_mul_left h8 (by omega)
    omega
theorem lead_days {nm dm ns ds a b : Int} (h1 : 1 ≤ nm) (h2 : 1 ≤ ns) (hab : a ≤ b) :
    (b - a) * (21600 * (dm * ns - ds * nm) / (nm * ns)) - 1 ≤ (Sp.gone nm dm b - Sp.gone ns ds b) - (Sp.gone nm dm a - Sp.gone ns ds a) := by
  obtain ⟨_, hm⟩ := gone_lt (den := dm) (a := a) (b := b) h1
  obtain ⟨hs, _⟩ := gone_lt (den := ds) (a := a) (b := b) h2
  have e : (Sp.gone nm dm b - Sp.gone ns ds b) - (Sp.gone nm dm a - Sp.gone ns ds a) = (Sp.gone nm dm b - Sp.gone nm dm a) - (Sp.gone ns ds b - Sp.gone ns ds a) := by omega
  rw [e]
  generalize Sp.gone nm dm b - Sp.gone nm dm a = x at *
  generalize Sp.gone ns ds b - Sp.gone ns ds a = y at *
  have hW : 0 < nm * ns := Int.mul_pos (by omega) (by omega)
  obtain ⟨W, hWe⟩ : ∃ W, nm * ns = W := ⟨_, rfl⟩
  have h3 := Int.mul_ediv_add_emod (21600 * (dm * ns - ds * nm)) (nm * ns)
  have h4 := Int.emod_nonneg (21600 * (dm * ns - ds * nm)) (show nm * ns ≠ 0 by omega)
  rw [hWe] at h3 h4 hW ⊢
  generalize hL : 21600 * (dm * ns - ds * nm) / W = L at *
  have h5 : (b - a) * (W * L) ≤ (b - a) * (21600 * (dm * ns - ds * nm)) := Int.mul_le_mul_of_nonneg_left (by omega) (by omega)
  have m1 := Int.mul_lt_mul_of_pos_left hm (show 0 < ns by omega)
  have m2 := Int.mul_lt_mul_of_pos_left hs (show 0 < nm by omega)
  have key : W * ((b - a) * L - 2) < W * (x - y) := by
    have e1 : ns * ((b - a) * 21600 * dm - nm) - nm * ((b - a) * 21600 * ds + ns) = (b - a) * (21600 * (dm * ns - ds * nm)) - 2 * W := by rw [← hWe]; grind
    have e2 : ns * (nm * x) - nm * (ns * y) = W * (x - y) := by rw [← hWe]; grind
    have e3 : W * ((b - a) * L - 2) = (b - a) * (W * L) - 2 * W := by grind
    omega
  have := Int.lt_of_mul_lt_mul_left key (by omega)
  omega
theorem first_over (f : Int → Int) (K a : Int) (n : Nat) (h1 : f a < K) (h2 : K ≤ f (a + n)) : ∃ d, a < d ∧ d ≤ a + n ∧ f (d - 1) < K ∧ K ≤ f d := by
  induction n with
  | zero => simp at h2; omega
  | succ n ih =>
    rcases Int.lt_or_le (f (a + n)) K with h | h
    · exact ⟨a + (n + 1 : Nat), by omega, by omega, by rw [show a + ((n + 1 : Nat) : Int) - 1 = a + n by omega]; exact h, h2⟩
    · obtain ⟨d, x, y, z⟩ := ih h
      exact ⟨d, x, by omega, z⟩
def evenB (s : Sp.Sky) : Bool := ((Sp.body s 0).road.all fun n => n == 0) && ((Sp.body s 1).road.all fun n => n == 0)
theorem rd_zero {l : List Int} (h : (l.all fun n => n == 0) = true) (i : Nat) : rd l i = 0 := by
  unfold Sp.rd
  rw [List.getD_eq_getElem?_getD]
  cases hi : l[i]? with
  | none => rfl
  | some x =>
    have := List.all_eq_true.1 h x (List.mem_of_getElem? hi)
    simpa using this
theorem way_even {b : Sp.Body} (h : (b.road.all fun n => n == 0) = true) (d : Int) : Sp.way b d = Sp.mean b d := by
  unfold Sp.way Sp.errOf
  simp only [rd_zero h]
  simp
/-- A lead that crosses. -/
theorem cross_of {a b K : Int} {full : Bool} (h1 : a < K) (h2 : K ≤ b) (h3 : b - a < 10800) (hK : (K - Sp.halfOf full) % 21600 = 0) : crossB (a % 21600) (b % 21600) full = true := by
  have hn : near (b % 21600 - a % 21600) = b - a := by unfold near; omega
  unfold crossB
  rw [hn, Bool.and_eq_true, decide_eq_true_eq, decide_eq_true_eq]
  generalize Sp.halfOf full = H at *
  omega
theorem far_step {x y w : Int} (h1 : -w ≤ y - x) (h2 : y - x ≤ w) : min (y % 10800) (10800 - y % 10800) ≤ min (x % 10800) (10800 - x % 10800) + w := by
  omega
/-- The engine's lead, and the way of its moon from its node, not wrapped. -/
def leadOn (e : Engine) (set : List Int) (d : Int) : Int := Sp.mean (Sp.body e.sky 1) d + moonOff e set d - (Sp.mean (Sp.body e.sky 0) d + sunOff e set d)
theorem near_mod (x : Int) : (x - near x) % 21600 = 0 := by unfold near; omega
theorem leadAt_on (e : Engine) (set : List Int) (d : Int) : leadAt e set d = leadOn e set d % 21600 := by
  have h1 := near_mod (moonAt e set d - Sp.mean (Sp.body e.sky 1) d % 21600)
  have h2 := near_mod (sunAt e set d - Sp.mean (Sp.body e.sky 0) d % 21600)
  unfold leadAt leadOn moonOff sunOff
  omega
def nodeOn (e : Engine) (set : List Int) (d : Int) : Int := Sp.mean (Sp.body e.sky 1) d + moonOff e set d - (e.sky.nstart - Sp.gone e.sky.nnum e.sky.nden d + nodeOff e set d)
theorem farAt_on (e : Engine) (set : List Int) (d : Int) : farAt e set d = min (nodeOn e set d % 10800) (10800 - nodeOn e set d % 10800) := by
  have h1 := near_mod (moonAt e set d - Sp.mean (Sp.body e.sky 1) d % 21600)
  have h2 := near_mod (nodeAt e set d - Sp.node e.sky d)
  have : (moonAt e set d - nodeAt e set d) % 21600 % 10800 = nodeOn e set d % 10800 := by
    unfold nodeOn moonOff nodeOff
    have h3 : (Sp.node e.sky d - (e.sky.nstart - Sp.gone e.sky.nnum e.sky.nden d)) % 21600 = 0 := by unfold Sp.node; omega
    omega
  unfold farAt
  dsimp only
  rw [this]
theorem far_on (s : Sp.Sky) (h : ((Sp.body s 1).road.all fun n => n == 0) = true) (d : Int) : Sp.far s d = min ((Sp.mean (Sp.body s 1) d - (s.nstart - Sp.gone s.nnum s.nden d)) % 10800) (10800 - (Sp.mean (Sp.body s 1) d - (s.nstart - Sp.gone s.nnum s.nden d)) % 10800) := by
  unfold Sp.far
  dsimp only
  rw [way_even h]
  have : (Sp.mean (Sp.body s 1) d - Sp.node s d) % 10800 = (Sp.mean (Sp.body s 1) d - (s.nstart - Sp.gone s.nnum s.nden d)) % 10800 := by unfold Sp.node; omega
  rw [this]
/-- If all three hands are within a limit on all days that are looked at, nothing is missed. -/
theorem told_kept {e : Engine} {set : List Int} {late limit : Int} {x : Sp.Ecl}
    (n0 : 1 ≤ (Sp.body e.sky 0).num) (d0 : 1 ≤ (Sp.body e.sky 0).den) (n1 : 1 ≤ (Sp.body e.sky 1).num) (d1 : 1 ≤ (Sp.body e.sky 1).den) (q1 : 4 * (Sp.body e.sky 1).den ≤ (Sp.body e.sky 1).num) (n2 : 1 ≤ e.sky.nnum) (d2 : 1 ≤ e.sky.nden)
    (hm : Sp.isMonth e.sky = true) (hev : evenB e.sky = true) (hl0 : 0 ≤ late) (h0 : 0 ≤ limit) (h1 : limit ≤ 1000) (hx0 : late < x.day)
    (hlead : 2 * limit + 4 ≤ (late - 1) * leadStep e.sky) (hwide : late * goesStep e.sky + 2 * limit + 6 ≤ e.wide ∨ 5400 ≤ limitOf e x.full + e.wide)
    (hoff : ∀ d, x.day - late ≤ d → d ≤ x.day + late → (-limit ≤ sunOff e set d ∧ sunOff e set d ≤ limit) ∧ (-limit ≤ moonOff e set d ∧ moonOff e set d ≤ limit) ∧ (-limit ≤ nodeOff e set d ∧ nodeOff e set d ≤ limit))
    (hmoon : Sp.moonB e.sky x.day x.full = true) (hfar : Sp.far e.sky x.day ≤ limitOf e x.full) : toldB e set x late = true := by
  rw [evenB, Bool.and_eq_true] at hev
  -- the lead of the sky
  have hlead0 : 0 ≤ leadStep e.sky := by
    unfold leadStep
    refine Int.ediv_nonneg ?_ (Int.mul_nonneg (by omega) (by omega))
    unfold Sp.isMonth Sp.monthDen at hm
    rw [decide_eq_true_eq] at hm
    exact Int.mul_nonneg (by omega) (Int.le_of_lt hm)
  have hlate : 2 ≤ late := by
    rcases Int.lt_or_le late 2 with h | h
    · have : (late - 1) * leadStep e.sky ≤ 0 := by
        rcases Int.lt_or_le late 1 with c | c
        · have := Int.mul_nonneg (show 0 ≤ -(late - 1) by omega) hlead0
          rw [Int.neg_mul] at this
          omega
        · have : late - 1 = 0 := by omega
          rw [this, Int.zero_mul]
          omega
      omega
    · exact h
  have hL : ∀ a b, a ≤ b → (b - a) * leadStep e.sky - 1 ≤ (Sp.mean (Sp.body e.sky 1) b - Sp.mean (Sp.body e.sky 0) b) - (Sp.mean (Sp.body e.sky 1) a - Sp.mean (Sp.body e.sky 0) a) := fun a b hab => by
    have := lead_days (nm := (Sp.body e.sky 1).num) (dm := (Sp.body e.sky 1).den) (ns := (Sp.body e.sky 0).num) (ds := (Sp.body e.sky 0).den) n1 n0 hab
    unfold Sp.mean leadStep
    omega
  unfold Sp.moonB Sp.passes Sp.ahead at hmoon
  rw [decide_eq_true_eq, way_even hev.1, way_even hev.2, way_even hev.1, way_even hev.2] at hmoon
  -- the lead that is crossed
  obtain ⟨K, hK, k1, k2⟩ : ∃ K : Int, (K - Sp.halfOf x.full) % 21600 = 0 ∧ Sp.mean (Sp.body e.sky 1) (x.day - 1) - Sp.mean (Sp.body e.sky 0) (x.day - 1) < K ∧ K ≤ Sp.mean (Sp.body e.sky 1) x.day - Sp.mean (Sp.body e.sky 0) x.day := by
    generalize Sp.mean (Sp.body e.sky 1) (x.day - 1) - Sp.mean (Sp.body e.sky 0) (x.day - 1) = a at *
    generalize Sp.mean (Sp.body e.sky 1) x.day - Sp.mean (Sp.body e.sky 0) x.day = b at *
    generalize Sp.halfOf x.full = H at *
    exact ⟨(b - H) / 21600 * 21600 + H, by omega, by omega, by omega⟩
  have hE : ∀ d, x.day - late ≤ d → d ≤ x.day + late → -(2 * limit) ≤ leadOn e set d - (Sp.mean (Sp.body e.sky 1) d - Sp.mean (Sp.body e.sky 0) d) ∧ leadOn e set d - (Sp.mean (Sp.body e.sky 1) d - Sp.mean (Sp.body e.sky 0) d) ≤ 2 * limit := fun d a b => by
    obtain ⟨⟨o1, o2⟩, ⟨o3, o4⟩, _⟩ := hoff d a b
    unfold leadOn
    omega
  have hlo : leadOn e set (x.day - late) < K := by
    have a := hL (x.day - late) (x.day - 1) (by omega)
    have b := hE (x.day - late) (by omega) (by omega)
    rw [show x.day - 1 - (x.day - late) = late - 1 by omega] at a
    omega
  have hhi : K ≤ leadOn e set (x.day - late + (2 * late - 1).toNat) := by
    have e1 : x.day - late + ((2 * late - 1).toNat : Int) = x.day + (late - 1) := by omega
    rw [e1]
    have a := hL x.day (x.day + (late - 1)) (by omega)
    have b := hE (x.day + (late - 1)) (by omega) (by omega)
    rw [show x.day + (late - 1) - x.day = late - 1 by omega] at a
    omega
  obtain ⟨d, hd1, hd2, hd3, hd4⟩ := first_over (leadOn e set) K (x.day - late) _ hlo hhi
  rw [told_iff]
  refine ⟨d, by omega, by omega, by omega, ?_⟩
  unfold foreB hasB
  rw [Bool.and_eq_true, leadAt_on, leadAt_on, decide_eq_true_eq]
  refine ⟨cross_of hd3 hd4 ?_ hK, ?_⟩
  · have a := hE (d - 1) (by omega) (by omega)
    have b := hE d (by omega) (by omega)
    have c := gone_step (Sp.body e.sky 1).num (Sp.body e.sky 1).den (d - 1) n1 d1 q1
    rw [Int.sub_add_cancel] at c
    have f := (gone_days (den := (Sp.body e.sky 0).den) n0 (show d - 1 ≤ d by omega)).2 (by omega)
    unfold Sp.mean at a b
    omega
  · rcases hwide with hw | hw
    · have hf := far_on e.sky hev.2 x.day
      rw [farAt_on]
      obtain ⟨_, ⟨o3, o4⟩, ⟨o5, o6⟩⟩ := hoff d (by omega) (by omega)
      have hg : ∀ a b, a ≤ b → b - a ≤ late → (Sp.gone (Sp.body e.sky 1).num (Sp.body e.sky 1).den b - Sp.gone (Sp.body e.sky 1).num (Sp.body e.sky 1).den a) + (Sp.gone e.sky.nnum e.sky.nden b - Sp.gone e.sky.nnum e.sky.nden a) ≤ late * goesStep e.sky + 2 ∧ -2 ≤ (Sp.gone (Sp.body e.sky 1).num (Sp.body e.sky 1).den b - Sp.gone (Sp.body e.sky 1).num (Sp.body e.sky 1).den a) + (Sp.gone e.sky.nnum e.sky.nden b - Sp.gone e.sky.nnum e.sky.nden a) := fun a b hab hb => by
        have g1 := gone_days (den := (Sp.body e.sky 1).den) n1 hab
        have g2 := gone_days (den := e.sky.nden) n2 hab
        have g3 := g1.2 (by omega)
        have g4 := g2.2 (by omega)
        have z1 : 0 ≤ 21600 * (Sp.body e.sky 1).den / (Sp.body e.sky 1).num := Int.ediv_nonneg (by omega) (by omega)
        have z2 : 0 ≤ 21600 * e.sky.nden / e.sky.nnum := Int.ediv_nonneg (by omega) (by omega)
        have g5 : (b - a) * goesStep e.sky ≤ late * goesStep e.sky := Int.mul_le_mul_of_nonneg_right hb (by unfold goesStep; omega)
        have g6 : (b - a) * goesStep e.sky = (b - a) * (21600 * (Sp.body e.sky 1).den / (Sp.body e.sky 1).num + 1) + (b - a) * (21600 * e.sky.nden / e.sky.nnum + 1) := by unfold goesStep; rw [← Int.mul_add]; congr 1; omega
        omega
      have hgoes : 0 ≤ late * goesStep e.sky := Int.mul_nonneg hl0 (by
        have z1 : 0 ≤ 21600 * (Sp.body e.sky 1).den / (Sp.body e.sky 1).num := Int.ediv_nonneg (by omega) (by omega)
        have z2 : 0 ≤ 21600 * e.sky.nden / e.sky.nnum := Int.ediv_nonneg (by omega) (by omega)
        unfold goesStep; omega)
      have hst := far_step (x := Sp.mean (Sp.body e.sky 1) x.day - (e.sky.nstart - Sp.gone e.sky.nnum e.sky.nden x.day)) (y := nodeOn e set d) (w := late * goesStep e.sky + 2 * limit + 6) (by
        unfold nodeOn Sp.mean
        rcases Int.le_total d x.day with c | c
        · have := hg d x.day c (by omega); omega
        · have := hg x.day d c (by omega); omega) (by
        unfold nodeOn Sp.mean
        rcases Int.le_total d x.day with c | c
        · have := hg d x.day c (by omega); omega
        · have := hg x.day d c (by omega); omega)
      omega
    · rw [farAt_on]; omega
end Ec
end Go.Proofs.YtcbodpnmndbgnaaGreatDoor
namespace Go.Proofs.YtcbodpnmndbgnaaGreatDoor
open Sp (rd)
set_option linter.unusedSimpArgs false
set_option linter.unusedVariables false
namespace Ec
theorem pair_pos {p : Pair} (h : pairOk p = true) : 1 ≤ p.drives ∧ 1 ≤ p.driven := by
  simp only [pairOk, isTeeth, Sp.inR, Bool.and_eq_true, decide_eq_true_eq] at h
  omega
theorem driven_pos {l : List Pair} (h : (l.all pairOk) = true) : 1 ≤ drivenP l := by
  have : ∀ (l : List Pair) (n : Int), 1 ≤ n → (l.all pairOk) = true → 1 ≤ l.foldl (fun n p => n * p.driven) n := fun l => by
    induction l with
    | nil => intro n hn _; exact hn
    | cons p l ih =>
      intro n hn h
      rw [List.all_cons, Bool.and_eq_true] at h
      rw [List.foldl_cons]
      have := pair_pos h.1
      have := Int.mul_pos (show 0 < n by omega) (show 0 < p.driven by omega)
      exact ih _ (by omega) h.2
  exact this l 1 (Int.le_refl _) h
theorem turns_pos {l : List Pair} (h : trainOk l = true) : 0 < turnsD l := by
  rw [trainOk, Bool.and_eq_true] at h
  have h1 := driven_pos h.2
  unfold turnsD turnsG
  have hd : ((Int.gcd (drivesP l) (drivenP l) : Nat) : Int) ∣ drivenP l := Int.gcd_dvd_right ..
  have hg : 0 < ((Int.gcd (drivesP l) (drivenP l) : Nat) : Int) := by
    have := Int.gcd_pos_of_ne_zero_right (drivesP l) (show drivenP l ≠ 0 by omega)
    omega
  exact Int.ediv_pos_of_pos_of_dvd (by omega) (by omega) hd
theorem off_day {l : List Pair} {num den limit : Int} {feasts set : List Int} {until_ d : Int} (hf : feastsOk feasts = true) (hs : setOk feasts set = true) (h0 : 0 ≤ limit) (hw : 0 < turnsD l * den) (h : keeps l num den limit feasts set until_ = true) (d0 : 0 ≤ d) (d1 : d ≤ until_) :
    within l num den limit (d - last feasts set d) = true := keeps_within hf hs h0 hw (keeps_mono d0 d1 h)
/-- A kept engine with limits that are wide enough misses nothing. -/
theorem never_missed {e : Engine} {set : List Int} {lo hi late limit : Int} (he : engineOk e = true) (hs : setOk e.feasts set = true) (hl : isLate late = true) (h0 : 0 ≤ limit) (h1 : limit ≤ 1000) (hlo : late < lo)
    (hev : evenB e.sky = true) (hlead : 2 * limit + 4 ≤ (late - 1) * leadStep e.sky) (hwide : late * goesStep e.sky + 2 * limit + 6 ≤ e.wide ∨ 5400 ≤ min e.nw e.fl + e.wide)
    (k0 : keeps e.sun (Sp.body e.sky 0).den (Sp.body e.sky 0).num limit e.feasts set (hi + late) = true) (k1 : keeps e.moon (Sp.body e.sky 1).den (Sp.body e.sky 1).num limit e.feasts set (hi + late) = true) (k2 : keeps e.node e.sky.nden e.sky.nnum limit e.feasts set (hi + late) = true) : (missedL e set lo hi late).length = 0 := by
  rw [List.length_eq_zero_iff, List.eq_nil_iff_forall_not_mem]; intro x hx
  have hx' := (missed_mem ..).1 hx
  obtain ⟨a1, a2, a3, a4, a5⟩ := (ecls_mem ..).1 hx'.1
  simp only [engineOk, Bool.and_eq_true] at he
  obtain ⟨⟨t0, t1, t2⟩, ⟨hsky, hm⟩, hf, b1, b2, b3⟩ := he
  simp only [Sp.isLimit, Sp.inR, Bool.and_eq_true, decide_eq_true_eq] at b1 b2 b3
  simp only [isLate, Sp.inR, Bool.and_eq_true, decide_eq_true_eq] at hl
  have hk := skyOk_iff.1 hsky
  have hb0 := hk.body (i := 0) (by omega) (by have := hk.n2; omega)
  have hb1 := hk.body (i := 1) (by omega) (by have := hk.n2; omega)
  have p0 := turns_pos t0
  have p1 := turns_pos t1
  have p2 := turns_pos t2
  have n0 : 1 ≤ (Sp.body e.sky 0).num := hb0.num1
  have n1 : 1 ≤ (Sp.body e.sky 1).num := hb1.num1
  have n2 : 1 ≤ e.sky.nnum := hk.num1
  have ht := told_kept (e := e) (set := set) (late := late) (limit := limit) (x := x) n0 hb0.den1 n1 hb1.den1 hb1.four n2 hk.den1 hm hev hl.1 h0 h1 (by omega) hlead
    (by
      rcases hwide with h | h
      · exact .inl h
      · right
        unfold limitOf
        split <;> omega)
    (fun d c1 c2 => ⟨body_off (by omega) p0 (by omega) (off_day hf hs h0 (Int.mul_pos p0 (by omega)) k0 (by omega) (by omega)),
      body_off (by omega) p1 (by omega) (off_day hf hs h0 (Int.mul_pos p1 (by omega)) k1 (by omega) (by omega)),
      node_off (by omega) p2 (by omega) (off_day hf hs h0 (Int.mul_pos p2 (by omega)) k2 (by omega) (by omega))⟩)
    a3 (by unfold limitOf; exact a5)
  rw [hx'.2] at ht
  cases ht
end Ec
end Go.Proofs.YtcbodpnmndbgnaaGreatDoor
namespace Go.Proofs.YtcbodpnmndbgnaaGreatDoor
open Sp (rd)
set_option linter.unusedSimpArgs false
set_option linter.unusedVariables false
namespace Ec
/-- What an engine as defined grants. -/
structure EngOk (e : Engine) : Prop where
  sun : 0 < turnsD e.sun
  moon : 0 < turnsD e.moon
  node : 0 < turnsD e.node
  feasts : feastsOk e.feasts = true
  n0 : 1 ≤ (Sp.body e.sky 0).num
  n1 : 1 ≤ (Sp.body e.sky 1).num
  n2 : 1 ≤ e.sky.nnum
theorem engine_ok {e : Engine} (he : engineOk e = true) : EngOk e := by
  simp only [engineOk, Bool.and_eq_true] at he
  obtain ⟨⟨t0, t1, t2⟩, ⟨hsky, hm⟩, hf, b1, b2, b3⟩ := he
  have hk := skyOk_iff.1 hsky
  have hb0 := hk.body (i := 0) (by omega) (by have := hk.n2; omega)
  have hb1 := hk.body (i := 1) (by omega) (by have := hk.n2; omega)
  exact ⟨turns_pos t0, turns_pos t1, turns_pos t2, hf, hb0.num1, hb1.num1, hk.num1⟩
theorem sun_kept {e : Engine} (he : engineOk e = true) {set : List Int} (hs : setOk e.feasts set = true) {limit day : Int} (h0 : 0 ≤ limit) (h1 : limit ≤ 10800) (h : keeps e.sun (Sp.body e.sky 0).den (Sp.body e.sky 0).num limit e.feasts set day = true) : -limit ≤ sunOff e set day ∧ sunOff e set day ≤ limit := by
  have k := engine_ok he
  have := k.n0
  exact body_off (by omega) k.sun h1 (keeps_within k.feasts hs h0 (Int.mul_pos k.sun (by omega)) h)
theorem moon_kept {e : Engine} (he : engineOk e = true) {set : List Int} (hs : setOk e.feasts set = true) {limit day : Int} (h0 : 0 ≤ limit) (h1 : limit ≤ 10800) (h : keeps e.moon (Sp.body e.sky 1).den (Sp.body e.sky 1).num limit e.feasts set day = true) : -limit ≤ moonOff e set day ∧ moonOff e set day ≤ limit := by
  have k := engine_ok he
  have := k.n1
  exact body_off (by omega) k.moon h1 (keeps_within k.feasts hs h0 (Int.mul_pos k.moon (by omega)) h)
theorem node_kept {e : Engine} (he : engineOk e = true) {set : List Int} (hs : setOk e.feasts set = true) {limit day : Int} (h0 : 0 ≤ limit) (h1 : limit ≤ 10800) (h : keeps e.node e.sky.nden e.sky.nnum limit e.feasts set day = true) : -limit ≤ nodeOff e set day ∧ nodeOff e set day ≤ limit := by
  have k := engine_ok he
  have := k.n2
  exact node_off (by omega) k.node h1 (keeps_within k.feasts hs h0 (Int.mul_pos k.node (by omega)) h)
/-- On the day on which the hands were set, none is off. -/
theorem off_set {e : Engine} (he : engineOk e = true) {set : List Int} (hs : setOk e.feasts set = true) {k : Nat} (hk : k < set.length) :
    sunOff e set (feastOf e.feasts set k) = 0 ∧ moonOff e set (feastOf e.feasts set k) = 0 ∧ nodeOff e set (feastOf e.feasts set k) = 0 := by
  have q := engine_ok he
  have hl := last_at q.feasts hs hk
  have m0 := q.n0
  have m1 := q.n1
  have m2 := q.n2
  have w : ∀ {l : List Pair} {num den : Int}, 0 < turnsD l → 0 < den → within l num den 0 (feastOf e.feasts set k - last e.feasts set (feastOf e.feasts set k)) = true := fun a b => by
    rw [hl, Int.sub_self]
    exact within_zero (Int.le_refl _) (Int.mul_pos a b)
  have a := body_off (b := Sp.body e.sky 0) (limit := 0) (by omega) q.sun (by omega) (w q.sun (by omega))
  have b := body_off (b := Sp.body e.sky 1) (limit := 0) (by omega) q.moon (by omega) (w q.moon (by omega))
  have c := node_off (s := e.sky) (limit := 0) (by omega) q.node (by omega) (w q.node (by omega))
  unfold sunOff moonOff nodeOff sunAt moonAt nodeAt
  omega
end Ec
end Go.Proofs.YtcbodpnmndbgnaaGreatDoor
namespace Go.Proofs.YtcbodpnmndbgnaaGreatDoor
open Sp (rd)
set_option linter.unusedSimpArgs false
set_option linter.unusedVariables false
namespace Ec
/-- The least number of days, among k from n on. -/
def withinN (e : Engine) (set : List Int) (lo hi : Int) (n : Int) : Nat → Option Int
  | 0 => none
  | k + 1 => if (missedL e set lo hi n).length = 0 then some n else withinN e set lo hi (n + 1) k
def withinO (e : Engine) (set : List Int) (lo hi : Int) : Option Int := withinN e set lo hi 0 31
def noEcl : Sp.Ecl := ⟨0, false, 0⟩
/-- The last day of a span up to which none is missed; the day before the span, if there is none. -/
def untilI (e : Engine) (set : List Int) (lo hi late : Int) : Int :=
  if (missedL e set lo hi late).length = 0 then hi else ((missedL e set lo hi late).headD noEcl).day - 1
/-- Eclipses are listed by days. -/
def Later (a b : Sp.Ecl) : Prop := a.day ≤ b.day
theorem missed_is (e : Engine) (set : List Int) (lo hi late : Int) (x : Sp.Ecl) : x ∈ missedL e set lo hi late ↔ (lo ≤ x.day ∧ x.day ≤ hi) ∧ (Sp.moonB e.sky x.day x.full = true ∧ x.far = Sp.far e.sky x.day ∧ Sp.far e.sky x.day ≤ (if x.full then e.fl else e.nw)) ∧ toldB e set x late = false := by
  rw [missed_mem]
  unfold realL
  rw [ecls_mem]
  constructor
  · rintro ⟨⟨a, b, c⟩, d⟩; exact ⟨⟨a, b⟩, c, d⟩
  · rintro ⟨⟨a, b⟩, c, d⟩; exact ⟨⟨a, b, c⟩, d⟩
/-- The least that Wide must be for a moon, among the first days of a window. -/
def leastN (e : Engine) (set : List Int) (full : Bool) (lo : Int) : Nat → Int
  | 0 => 10800
  | k + 1 => if hasB e set (lo + k) full then min (leastN e set full lo k) (max 0 (farAt e set (lo + k) - limitOf e full)) else leastN e set full lo k
def leastOf (e : Engine) (set : List Int) (late : Int) (x : Sp.Ecl) : Int := leastN e set x.full (max 1 (x.day - late)) (x.day + late + 1 - max 1 (x.day - late)).toNat
/-- The greatest of these, among the first eclipses. -/
def wideN (e : Engine) (set : List Int) (late : Int) : List Sp.Ecl → Int
  | [] => 0
  | x :: l => max (leastOf e set late x) (wideN e set late l)
def widens (e : Engine) (set : List Int) (lo hi late : Int) : Int := wideN e set late (realL e lo hi)
end Ec
end Go.Proofs.YtcbodpnmndbgnaaGreatDoor
namespace Go.Proofs.YtcbodpnmndbgnaaGreatDoor
open Sp (rd)
set_option linter.unusedSimpArgs false
set_option linter.unusedVariables false
namespace Ec
/-- As slices.Compare. -/
def cmpL : List Int → List Int → Int
  | [], [] => 0
  | [], _ :: _ => -1
  | _ :: _, [] => 1
  | a :: l, b :: m => if a < b then -1 else if b < a then 1 else cmpL l m
def setCmp (a b : List Int) : Int := if a.length < b.length then -1 else if b.length < a.length then 1 else cmpL a b
theorem cmpL_swap (a b : List Int) : cmpL b a = -cmpL a b := by
  induction a generalizing b with
  | nil => cases b <;> simp [cmpL]
  | cons x l ih =>
    cases b with
    | nil => simp [cmpL]
    | cons y m =>
      simp only [cmpL]
      by_cases h1 : x < y
      · rw [if_pos h1, if_neg (by omega), if_pos h1]; rfl
      · by_cases h2 : y < x
        · rw [if_pos h2, if_neg h1, if_pos h2]
        · rw [if_neg h1, if_neg h2, if_neg h2, if_neg h1]; exact ih m
theorem cmpL_eq {a b : List Int} (h : cmpL a b = 0) : a = b := by
  induction a generalizing b with
  | nil => cases b with
    | nil => rfl
    | cons y m => simp [cmpL] at h
  | cons x l ih =>
    cases b with
    | nil => simp [cmpL] at h
    | cons y m =>
      unfold cmpL at h
      split at h
      · omega
      · split at h
        · omega
        · have : x = y := by omega
          rw [this, ih h]
theorem cmpL_trans {a b c : List Int} (h : cmpL a b ≤ 0) (k : cmpL b c ≤ 0) : cmpL a c ≤ 0 := by
  induction a generalizing b c with
  | nil => cases c <;> simp [cmpL]
  | cons x l ih =>
    cases b with
    | nil => simp [cmpL] at h
    | cons y m =>
      cases c with
      | nil => simp [cmpL] at k
      | cons z n =>
        unfold cmpL at h k ⊢
        by_cases h1 : x < z
        · rw [if_pos h1]; omega
        · split at h
          · split at k
            · omega
            · split at k
              · omega
              · omega
          · split at h
            · omega
            · split at k
              · omega
              · split at k
                · omega
                · rw [if_neg h1, if_neg (by omega)]
                  exact ih h k
theorem setCmp_swap (a b : List Int) : setCmp b a = -setCmp a b := by
  unfold setCmp
  by_cases h1 : a.length < b.length
  · rw [if_pos h1, if_neg (by omega), if_pos h1]; rfl
  · by_cases h2 : b.length < a.length
    · rw [if_pos h2, if_neg h1, if_pos h2]
    · rw [if_neg h1, if_neg h2, if_neg h2, if_neg h1]; exact cmpL_swap a b
theorem setCmp_eq {a b : List Int} (h : setCmp a b = 0) : a = b := by
  unfold setCmp at h
  split at h
  · omega
  · split at h
    · omega
    · exact cmpL_eq h
theorem setCmp_trans {a b c : List Int} (h : setCmp a b ≤ 0) (k : setCmp b c ≤ 0) : setCmp a c ≤ 0 := by
  unfold setCmp at h k ⊢
  by_cases h1 : a.length < c.length
  · rw [if_pos h1]; omega
  · split at h
    · split at k
      · omega
      · split at k
        · omega
        · omega
    · split at h
      · omega
      · split at k
        · omega
        · split at k
          · omega
          · rw [if_neg h1, if_neg (by omega)]
            exact cmpL_trans h k
/-- The first of some lists than which none is better. -/
def bestL (out : List Int) : List (List Int) → List Int
  | [] => out
  | x :: l => bestL (if setCmp x out < 0 then x else out) l
theorem bestL_is (out : List Int) (l : List (List Int)) : (bestL out l = out ∨ bestL out l ∈ l) ∧ setCmp (bestL out l) out ≤ 0 ∧ ∀ x ∈ l, setCmp (bestL out l) x ≤ 0 := by
  induction l generalizing out with
  | nil => exact ⟨.inl rfl, by unfold bestL; have := setCmp_swap out out; omega, fun x hx => by cases hx⟩
  | cons x l ih =>
    unfold bestL
    obtain ⟨h1, h2, h3⟩ := ih (if setCmp x out < 0 then x else out)
    have hx : setCmp (if setCmp x out < 0 then x else out) x ≤ 0 ∧ setCmp (if setCmp x out < 0 then x else out) out ≤ 0 := by
      have s1 := setCmp_swap x x
      have s2 := setCmp_swap out out
      have s3 := setCmp_swap x out
      split <;> exact ⟨by omega, by omega⟩
    refine ⟨?_, setCmp_trans h2 hx.2, fun y hy => ?_⟩
    · rcases h1 with h1 | h1
      · rw [h1]
        split
        · exact .inr (by simp)
        · exact .inl rfl
      · exact .inr (List.mem_cons_of_mem _ h1)
    · rcases List.mem_cons.1 hy with rfl | hy
      · exact setCmp_trans h2 hx.1
      · exact h3 y hy
/-- All increasing lists of numbers from k on, below n, as the program comes to them. -/
def subs (n : Nat) (k : Nat) : List (List Int) := if k < n then (subs n (k + 1)).map (fun l => (k : Int) :: l) ++ subs n (k + 1) else [[]]
termination_by n - k
/-- Numbers from k on, below n, that increase. -/
def Incr (n : Int) : Int → List Int → Prop
  | _, [] => True
  | k, x :: l => k ≤ x ∧ x < n ∧ Incr n (x + 1) l
theorem Incr.mono {n k k' : Int} {l : List Int} (h : k' ≤ k) (hi : Incr n k l) : Incr n k' l := by
  cases l with
  | nil => trivial
  | cons x l => exact ⟨by have := hi.1; omega, hi.2⟩
theorem subs_mem (n k : Nat) (l : List Int) : l ∈ subs n k ↔ Incr n k l := by
  induction hm : n - k generalizing k l with
  | zero =>
    unfold subs
    rw [if_neg (by omega)]
    cases l with
    | nil => simp [Incr]
    | cons x l => simp only [List.mem_singleton, Incr]; constructor
                  · intro h; cases h
                  · rintro ⟨h1, h2, _⟩; omega
  | succ m ih =>
    unfold subs
    rw [if_pos (by omega), List.mem_append, List.mem_map]
    have hi := fun l => ih (k + 1) l (by omega)
    constructor
    · rintro (⟨l', hl, rfl⟩ | hl)
      · exact ⟨Int.le_refl _, by omega, (hi l').1 hl⟩
      · exact Incr.mono (by omega) ((hi l).1 hl)
    · intro h
      cases l with
      | nil => exact .inr ((hi []).2 trivial)
      | cons x l =>
        obtain ⟨h1, h2, h3⟩ := h
        rcases Int.lt_or_le k x with h4 | h4
        · exact .inr ((hi (x :: l)).2 ⟨by omega, h2, h3⟩)
        · obtain rfl : x = (k : Int) := by omega
          exact .inl ⟨l, (hi l).2 h3, rfl⟩
/-- The document's lists of some length: n numbers are tried from the first on. -/
def listsN (below : Int) : Nat → Int → List (List Int)
  | 0, _ => [[]]
  | m + 1, k => ((List.range (below - k).toNat).map fun i => (listsN below m (k + (i : Nat) + 1)).map fun l => (k + (i : Nat)) :: l).flatten
theorem listsN_mem (n : Int) (m : Nat) (k : Int) (l : List Int) : l ∈ listsN n m k ↔ l.length = m ∧ Incr n k l := by
  induction m generalizing k l with
  | zero =>
    simp only [listsN, List.mem_singleton]
    constructor
    · rintro rfl; exact ⟨rfl, trivial⟩
    · rintro ⟨h, _⟩; exact List.eq_nil_of_length_eq_zero h
  | succ m ih =>
    simp only [listsN, List.mem_flatten, List.mem_map, List.mem_range]
    constructor
    · rintro ⟨_, ⟨i, hi, rfl⟩, hl⟩
      obtain ⟨l', hl', rfl⟩ := List.mem_map.1 hl
      obtain ⟨a, b⟩ := (ih _ _).1 hl'
      exact ⟨by simp [a], by omega, by omega, b⟩
    · rintro ⟨h, hi⟩
      cases l with
      | nil => simp at h
      | cons x l =>
        obtain ⟨h1, h2, h3⟩ := hi
        refine ⟨_, ⟨(x - k).toNat, by omega, rfl⟩, List.mem_map.2 ⟨l, (ih _ _).2 ⟨by simpa using h, ?_⟩, ?_⟩⟩
        · have : k + ((x - k).toNat : Nat) + 1 = x + 1 := by omega
          rw [this]; exact h3
        · have : k + ((x - k).toNat : Nat) = x := by omega
          rw [this]
/-- In order. -/
theorem listsN_sorted (n : Int) (m : Nat) (k : Int) : List.Pairwise (fun a b => cmpL a b < 0) (listsN n m k) := by
  induction m generalizing k with
  | zero => simp [listsN]
  | succ m ih =>
    simp only [listsN]
    rw [List.pairwise_flatten]
    refine ⟨fun L hL => ?_, ?_⟩
    · obtain ⟨i, _, rfl⟩ := List.mem_map.1 hL
      rw [List.pairwise_map]
      exact (ih _).imp fun {a b} h => by
        show cmpL _ _ < 0
        rw [cmpL, if_neg (by omega), if_neg (by omega)]
        exact h
    · rw [List.pairwise_map]
      refine List.pairwise_lt_range.imp fun {i j} hij a ha b hb => ?_
      obtain ⟨a', _, rfl⟩ := List.mem_map.1 ha
      obtain ⟨b', _, rfl⟩ := List.mem_map.1 hb
      show cmpL _ _ < 0
      rw [cmpL, if_pos (by omega)]
      omega
end Ec
end Go.Proofs.YtcbodpnmndbgnaaGreatDoor
namespace Go.Proofs.YtcbodpnmndbgnaaGreatDoor
open Sp (rd)
set_option linter.unusedSimpArgs false
set_option linter.unusedVariables false
namespace Ec
theorem Incr.len {n : Int} : ∀ {l : List Int} {k : Int}, Incr n k l → l.length ≤ (n - k).toNat
  | [], _, _ => Nat.zero_le _
  | x :: l, k, ⟨h1, h2, h3⟩ => by
    have := Incr.len h3
    simp only [List.length_cons]
    omega
/-- All lists in the document's order: the shorter ones first. -/
def allN (n : Nat) : List (List Int) := ((List.range (n + 1)).map fun m => listsN n m 0).flatten
theorem allN_mem (n : Nat) (l : List Int) : l ∈ allN n ↔ Incr n 0 l := by
  unfold allN
  simp only [List.mem_flatten, List.mem_map, List.mem_range]
  constructor
  · rintro ⟨_, ⟨m, _, rfl⟩, h⟩; exact ((listsN_mem ..).1 h).2
  · intro h
    have := h.len
    exact ⟨_, ⟨l.length, by omega, rfl⟩, (listsN_mem ..).2 ⟨rfl, h⟩⟩
theorem allN_sorted (n : Nat) : List.Pairwise (fun a b => setCmp a b < 0) (allN n) := by
  unfold allN
  rw [List.pairwise_flatten]
  refine ⟨fun L hL => ?_, ?_⟩
  · obtain ⟨m, _, rfl⟩ := List.mem_map.1 hL
    refine (List.Pairwise.and_mem.1 (listsN_sorted n m 0)).imp fun {a b} h => ?_
    obtain ⟨ha, hb, h⟩ := h
    have h1 := ((listsN_mem ..).1 ha).1
    have h2 := ((listsN_mem ..).1 hb).1
    show setCmp a b < 0
    unfold setCmp
    rw [if_neg (by omega), if_neg (by omega)]
    exact h
  · rw [List.pairwise_map]
    refine List.pairwise_lt_range.imp fun {i j} hij a ha b hb => ?_
    have h1 := ((listsN_mem ..).1 ha).1
    have h2 := ((listsN_mem ..).1 hb).1
    show setCmp a b < 0
    unfold setCmp
    rw [if_pos (by omega)]
    omega
/-- The document's. -/
def docSet (good : List Int → Bool) (n : Nat) : Option (List Int) := (allN n).find? good
/-- The program's: the best of all that are good. -/
def progSet (good : List Int → Bool) (n : Nat) : Option (List Int) :=
  match (subs n 0).filter good with
  | [] => none
  | x :: l => some (bestL x l)
theorem find_least {good : List Int → Bool} : ∀ {L : List (List Int)} {y : List Int}, List.Pairwise (fun a b => setCmp a b < 0) L → L.find? good = some y →
    good y = true ∧ y ∈ L ∧ ∀ z ∈ L, good z = true → setCmp y z ≤ 0
  | [], _, _, h => by cases h
  | x :: L, y, hs, h => by
    obtain ⟨h1, h2⟩ := List.pairwise_cons.1 hs
    rw [List.find?_cons] at h
    split at h
    · rename_i hg
      obtain rfl : x = y := by simpa using h
      refine ⟨hg, by simp, fun z hz _ => ?_⟩
      rcases List.mem_cons.1 hz with rfl | hz
      · have := setCmp_swap z z; omega
      · have := h1 z hz; omega
    · rename_i hg
      obtain ⟨a, b, c⟩ := find_least h2 h
      refine ⟨a, List.mem_cons_of_mem _ b, fun z hz hgz => ?_⟩
      rcases List.mem_cons.1 hz with rfl | hz
      · rw [hgz] at hg; cases hg
      · exact c z hz hgz
theorem prog_doc (good : List Int → Bool) (n : Nat) : progSet good n = docSet good n := by
  have hm : ∀ l, l ∈ (subs n 0).filter good ↔ l ∈ allN n ∧ good l = true := fun l => by
    rw [List.mem_filter, subs_mem, allN_mem]; rfl
  unfold progSet docSet
  cases hG : (subs n 0).filter good with
  | nil =>
    dsimp only
    rw [eq_comm, List.find?_eq_none]
    intro x hx hg
    have := (hm x).2 ⟨hx, hg⟩
    rw [hG] at this
    cases this
  | cons x l =>
    dsimp only
    rw [hG] at hm
    obtain ⟨b1, b2, b3⟩ := bestL_is x l
    have hb : bestL x l ∈ x :: l := by
      rcases b1 with b1 | b1
      · rw [b1]; simp
      · exact List.mem_cons_of_mem _ b1
    cases hf : (allN n).find? good with
    | none =>
      rw [List.find?_eq_none] at hf
      have := (hm _).1 hb
      exact absurd this.2 (hf _ this.1)
    | some y =>
      obtain ⟨c1, c2, c3⟩ := find_least (allN_sorted n) hf
      have hb' := (hm _).1 hb
      have h1 := c3 _ hb'.1 hb'.2
      have hy := (hm y).2 ⟨c2, c1⟩
      have h2 : setCmp (bestL x l) y ≤ 0 := by
        rcases List.mem_cons.1 hy with rfl | hy
        · exact b2
        · exact b3 y hy
      have h3 := setCmp_swap (bestL x l) y
      rw [setCmp_eq (show setCmp (bestL x l) y = 0 by omega)]
end Ec
end Go.Proofs.YtcbodpnmndbgnaaGreatDoor
namespace Go.Proofs.YtcbodpnmndbgnaaGreatDoor
open Go.RowKit
open Sp (rd)
set_option maxRecDepth 100000
set_option maxHeartbeats 1000000
def cmpI (a b : Int) : Int := if a < b then -1 else if b < a then 1 else 0
theorem c_isNaN_any (x : Int) (w : World) : Calls Tryz.prog 138 #[.int .i64 x] w fun e w' => e = .returned (.bool false) ∧ w = w' := by
  go_enter Tryz.func138, Tryz.ntmps138
  go_wp2_with fail
  go_ret
  exact ⟨by simp, rfl⟩
theorem c_Compare_any (a b : Int) (w : World) : Calls Tryz.prog 97 #[.int .i64 a, .int .i64 b] w fun e w' => e = .returned (.int .i64 (cmpI a b)) ∧ w = w' := by
  rcases (show a < b ∨ a = b ∨ b < a by omega) with h | rfl | h
  · have hc : cmpI a b = -1 := by unfold cmpI; rw [if_pos h]
    rw [hc]
    clear hc
    go_enter Tryz.func97, Tryz.ntmps97
    go_wp2_with fail
    refine (c_isNaN_any _ _).mono ?_
    rintro e w1 ⟨rfl, rfl⟩
    go_wp2_with fail
    refine (c_isNaN_any _ _).mono ?_
    rintro e w1 ⟨rfl, rfl⟩
    go_wp2_with fail
    go_ret
    exact ⟨rfl, rfl⟩
  · have hc : cmpI a a = 0 := by unfold cmpI; simp
    rw [hc]
    clear hc
    go_enter Tryz.func97, Tryz.ntmps97
    go_wp2_with fail
    refine (c_isNaN_any _ _).mono ?_
    rintro e w1 ⟨rfl, rfl⟩
    go_wp2_with fail
    refine (c_isNaN_any _ _).mono ?_
    rintro e w1 ⟨rfl, rfl⟩
    go_wp2_with fail
    go_ret
    exact ⟨rfl, rfl⟩
  · have hc : cmpI a b = 1 := by unfold cmpI; rw [if_neg (by omega), if_pos h]
    rw [hc]
    clear hc
    go_enter Tryz.func97, Tryz.ntmps97
    go_wp2_with fail
    refine (c_isNaN_any _ _).mono ?_
    rintro e w1 ⟨rfl, rfl⟩
    go_wp2_with fail
    refine (c_isNaN_any _ _).mono ?_
    rintro e w1 ⟨rfl, rfl⟩
    go_wp2_with fail
    go_ret
    exact ⟨rfl, rfl⟩
theorem rd_at {l : List Int} {k : Nat} (h : k < l.length) : rd l k = l[k] := by simp [rd, List.getElem?_eq_getElem h]
theorem cmpL_at (l m : List Int) (k : Nat) (h1 : k < l.length) (h2 : k < m.length) :
    Ec.cmpL (l.drop k) (m.drop k) = if cmpI (rd l k) (rd m k) = 0 then Ec.cmpL (l.drop (k + 1)) (m.drop (k + 1)) else cmpI (rd l k) (rd m k) := by
  rw [List.drop_eq_getElem_cons h1, List.drop_eq_getElem_cons h2, rd_at h1, rd_at h2]
  unfold cmpI
  rw [Ec.cmpL]
  by_cases a : l[k] < m[k]
  · simp [a]
  · by_cases b : m[k] < l[k]
    · simp [a, b]
    · simp [a, b]
theorem cmpL_end1 (l m : List Int) (h : l.length ≤ m.length) : Ec.cmpL (l.drop l.length) (m.drop l.length) = if l.length < m.length then -1 else 0 := by
  rw [List.drop_length]
  by_cases h1 : l.length < m.length
  · rw [if_pos h1, List.drop_eq_getElem_cons h1]; rfl
  · rw [if_neg h1, List.drop_eq_nil_of_le (by omega)]; rfl
theorem cmpL_end2 (l m : List Int) (h : m.length < l.length) : Ec.cmpL (l.drop m.length) (m.drop m.length) = 1 := by
  rw [List.drop_length, List.drop_eq_getElem_cons h]; rfl
theorem sl_Compare_any (A B : Option Addr) (c d : Nat) (l m : List Int) (w : World) (hA : Ints w A l) (hB : Ints w B m) (h1 : l.length ≤ 100000) (h2 : m.length ≤ 100000) :
    Calls Tryz.prog 98 #[.slice A l.length c, .slice B m.length d] w fun e w' => e = .returned (.int .i64 (Ec.cmpL l m)) ∧ w = w' := by
  have HA := Lib.hid hA
  have HB := Lib.hid hB
  clear hA hB
  go_enter Tryz.func98, Tryz.ntmps98
  go_wp2_with fail
  go_loopw [11] (fun i wr => ∃ k : Nat, k ≤ l.length ∧ i = .int .i64 k ∧ k ≤ m.length ∧ Hid (Ec.cmpL l m = Ec.cmpL (l.drop k) (m.drop k)) ∧ w = wr) (fun i _ => l.length - (intOf i).toNat)
  case atStart => exact ⟨0, Nat.zero_le _, rfl, Nat.zero_le _, Lib.hid rfl, rfl⟩
  case round =>
    obtain ⟨k, hk, rfl, hkm, HQ, rfl⟩ := hrel
    by_cases hlt : k < l.length
    · obtain ⟨b, o, rfl, hc⟩ := HA.out (by omega)
      have q := hc k hlt
      clear hc
      by_cases hlm : k < m.length
      · obtain ⟨b', o', rfl, hc'⟩ := HB.out (by omega)
        have q' := hc' k hlm
        have HS := Lib.hid (cmpL_at l m k hlt hlm)
        clear hc'
        obtain ⟨x, hx⟩ : ∃ x, rd l k = x := ⟨_, rfl⟩
        obtain ⟨y, hy⟩ : ∃ y, rd m k = y := ⟨_, rfl⟩
        rw [hx] at q HS
        rw [hy] at q' HS
        clear hx hy
        go_wp2_with fail
        refine (c_Compare_any x y _).mono ?_
        rintro e w1 ⟨rfl, rfl⟩
        obtain ⟨z, hz⟩ : ∃ z, cmpI x y = z := ⟨_, rfl⟩
        rw [hz] at HS ⊢
        clear hz
        by_cases hz0 : z = 0
        · subst hz0
          go_wp2_with fail
          go_roundw
          case rel => exact ⟨k + 1, by omega, by go_num, by omega, Lib.hid (by rw [HQ.out, HS.out]; simp), by simp⟩
          case measure => simp [intOf]; omega
        · have e1 : (z == 0) = false := by simpa using hz0
          have e2 : (z != 0) = true := by simpa using hz0
          go_wp2_with fail
          go_ret
          exact ⟨by rw [HQ.out, HS.out, if_neg hz0] <;> rfl, rfl⟩
      · obtain rfl : k = m.length := by omega
        have HS := Lib.hid (cmpL_end2 l m hlt)
        go_wp2_with fail
        go_ret
        exact ⟨by rw [HQ.out, HS.out] <;> rfl, rfl⟩
    · obtain rfl : k = l.length := by omega
      have HS := Lib.hid (cmpL_end1 l m hkm)
      by_cases hlm : l.length < m.length
      · go_wp2_with fail
        go_ret
        exact ⟨by rw [HQ.out, HS.out, if_pos (by omega)] <;> rfl, rfl⟩
      · go_wp2_with fail
        go_ret
        exact ⟨by rw [HQ.out, HS.out, if_neg (by omega)] <;> rfl, rfl⟩
theorem c_Or_any (g : Nat) (a b : Int) (w : World) (hr : Row w g 3 #[.int .i64 a, .int .i64 b]) :
    Calls Tryz.prog 96 #[.slice (some ⟨g, 0, none⟩) 2 2] w fun e w' => e = .returned (.int .i64 (if a = 0 then b else a)) ∧ w = w' := by
  have q := hr.cell
  clear hr
  go_enter Tryz.func96, Tryz.ntmps96
  go_wp2_with fail
  go_loopw [8] (fun i wr => (i = .int .i64 0 ∨ (i = .int .i64 1 ∧ a = 0) ∨ (i = .int .i64 2 ∧ a = 0 ∧ b = 0)) ∧ w = wr) (fun i _ => 2 - (intOf i).toNat)
  case atStart => exact ⟨.inl rfl, rfl⟩
  case round =>
    obtain ⟨rfl | ⟨rfl, rfl⟩ | ⟨rfl, rfl, rfl⟩, rfl⟩ := hrel
    · by_cases h0 : a = 0
      · subst h0
        go_wp2_with fail
        go_roundw
        case rel => simp
        case measure => simp [intOf]
      · have e1 : (a == 0) = false := by simpa using h0
        have e2 : (a != 0) = true := by simpa using h0
        have HH := Lib.hid h0
        clear h0
        go_wp2_with fail
        go_ret
        exact ⟨by first | rfl | (rw [if_neg HH.out] <;> rfl), rfl⟩
    · by_cases h0 : b = 0
      · subst h0
        go_wp2_with fail
        go_roundw
        case rel => simp
        case measure => simp [intOf]
      · have e1 : (b == 0) = false := by simpa using h0
        have e2 : (b != 0) = true := by simpa using h0
        go_wp2_with fail
        go_ret
        exact ⟨by simp, rfl⟩
    · go_wp2_with fail
      go_ret
      exact ⟨by simp, rfl⟩
theorem setCmp_or (l m : List Int) : Ec.setCmp l m = if cmpI l.length m.length = 0 then Ec.cmpL l m else cmpI l.length m.length := by
  unfold Ec.setCmp cmpI
  rcases Nat.lt_trichotomy l.length m.length with h | h | h
  · rw [if_pos h, if_pos (show (l.length : Int) < (m.length : Int) by omega)]; rfl
  · rw [if_neg (by omega), if_neg (by omega), if_neg (show ¬ (l.length : Int) < (m.length : Int) by omega), if_neg (show ¬ (m.length : Int) < (l.length : Int) by omega)]; rfl
  · rw [if_neg (by omega), if_pos h, if_neg (show ¬ (l.length : Int) < (m.length : Int) by omega), if_pos (show (m.length : Int) < (l.length : Int) by omega)]; rfl
theorem better_any (A B : Option Addr) (c d : Nat) (l m : List Int) (w : World) (hA : Ints w A l) (hB : Ints w B m) (h1 : l.length ≤ 100000) (h2 : m.length ≤ 100000) :
    Calls Tryz.prog 95 #[.slice A l.length c, .slice B m.length d] w fun e w' => e = .returned (.bool (decide (Ec.setCmp l m < 0))) ∧ Ext w w' := by
  have HA := Lib.hid hA
  have HB := Lib.hid hB
  have HS := Lib.hid (setCmp_or l m)
  clear hA hB
  go_enter Tryz.func95, Tryz.ntmps95
  go_wp2_with fail
  refine (c_Compare_any _ _ _).mono ?_
  rintro e w1 ⟨rfl, rfl⟩
  obtain ⟨x, hx⟩ : ∃ x, cmpI (l.length : Int) (m.length : Int) = x := ⟨_, rfl⟩
  rw [hx] at HS ⊢
  clear hx
  go_wp2_with fail
  refine (sl_Compare_any A B c d l m _ HA.out HB.out h1 h2).mono ?_
  rintro e w1 ⟨rfl, rfl⟩
  obtain ⟨y, hy⟩ : ∃ y, Ec.cmpL l m = y := ⟨_, rfl⟩
  rw [hy] at HS ⊢
  clear hy
  go_wp2_with fail
  refine (c_Or_any _ x y _ (Row.new _ _ _)).mono ?_
  rintro e w1 ⟨rfl, rfl⟩
  have HS2 : Hid ((if x = 0 then y else x) = Ec.setCmp l m) := Lib.hid HS.out.symm
  obtain ⟨z, hz⟩ : ∃ z, (if x = 0 then y else x) = z := ⟨_, rfl⟩
  rw [hz] at HS2 ⊢
  clear hz
  go_wp2_with fail
  go_ret
  exact ⟨by rw [← HS2.out] <;> rfl, (Ext.refl _).alloc _⟩
/-- A slice value that holds lists of integers. -/
def ListsAt (w : World) (A : Option Addr) (ls : List (List Int)) : Prop := 0 < ls.length → ∃ b o, A = some ⟨b, o, none⟩ ∧ ∀ k, (hk : k < ls.length) → ∃ B d, w.cell? ⟨b, o + k, none⟩ = some (.slice B (ls[k]).length d) ∧ Ints w B ls[k]
theorem ListsAt.ext {w w' : World} {A : Option Addr} {ls : List (List Int)} (h : ListsAt w A ls) (he : Ext w w') : ListsAt w' A ls := fun h0 =>
  let ⟨b, o, e, hk⟩ := h h0
  ⟨b, o, e, fun k hk' => let ⟨B, d, h1, h2⟩ := hk k hk'; ⟨B, d, he.cell h1, h2.ext he⟩⟩
def bestO : List (List Int) → List Int
  | [] => []
  | x :: l => Ec.bestL x l
theorem bestL_snoc (out : List Int) (l : List (List Int)) (x : List Int) : Ec.bestL out (l ++ [x]) = if Ec.setCmp x (Ec.bestL out l) < 0 then x else Ec.bestL out l := by
  induction l generalizing out with
  | nil => rfl
  | cons y l ih => simp only [List.cons_append, Ec.bestL]; exact ih _
theorem bestO_succ (ls : List (List Int)) (k : Nat) (h : k < ls.length) (h0 : 0 < k) : bestO (ls.take (k + 1)) = if Ec.setCmp ls[k] (bestO (ls.take k)) < 0 then ls[k] else bestO (ls.take k) := by
  cases ls with
  | nil => cases h
  | cons x l =>
    obtain ⟨k, rfl⟩ : ∃ j, k = j + 1 := ⟨k - 1, by omega⟩
    have h' : k < l.length := by simpa using h
    simp only [List.take_succ_cons, bestO, List.getElem_cons_succ]
    rw [List.take_succ_eq_append_getElem h', bestL_snoc]
    rfl
theorem bestO_mem (ls : List (List Int)) : ∀ n, (∀ x ∈ ls, x.length ≤ n) → (bestO ls).length ≤ n := by
  intro n h
  cases ls with
  | nil => simp [bestO]
  | cons x l =>
    rcases (Ec.bestL_is x l).1 with e | e
    · simp only [bestO, e]; exact h x (by simp)
    · exact h _ (List.mem_cons_of_mem _ e)
def BestRel (w : World) (ls : List (List Int)) (v i : Value) (wr : World) : Prop :=
  ∃ k : Nat, k ≤ ls.length ∧ i = .int .i64 k ∧ Ext w wr ∧ ∃ B d, v = .slice B (bestO (ls.take k)).length d ∧ Ints wr B (bestO (ls.take k))
theorem best_sets (A : Option Addr) (c : Nat) (ls : List (List Int)) (w : World) (hA : ListsAt w A ls) (h1 : ls.length ≤ 100000) (h2 : ∀ x ∈ ls, x.length ≤ 100000) :
    Calls Tryz.prog 94 #[.slice A ls.length c, .func (.func 95) #[] #[]] w fun e w' => ∃ B d, e = .returned (.tuple #[.slice B (bestO ls).length d, .bool (decide (0 < ls.length))]) ∧ Ints w' B (bestO ls) ∧ Ext w w' := by
  have HA := Lib.hid hA
  have HH := Lib.hid h2
  clear hA h2
  go_enter Tryz.func94, Tryz.ntmps94
  go_wp2_with fail
  go_loopw [6, 11] (fun v i wr => BestRel w ls v i wr) (fun _ i _ => ls.length - (intOf i).toNat)
  case atStart => exact ⟨0, Nat.zero_le _, rfl, Ext.refl _, none, 0, rfl, fun h => by simp [bestO] at h⟩
  case round =>
    obtain ⟨k, hk, rfl, hE, B, d, rfl, hI⟩ := hrel
    by_cases hlt : k < ls.length
    · obtain ⟨b, o, rfl, hc⟩ := (HA.out.ext hE) (by omega)
      obtain ⟨B2, d2, q, hI2⟩ := hc k hlt
      have hb1 := HH.out ls[k] (List.getElem_mem hlt)
      have hb2 := bestO_mem (ls.take k) 100000 (fun x hx => HH.out x (List.mem_of_mem_take hx))
      have HE := Lib.hid hE
      have HI := Lib.hid hI
      have HI2 := Lib.hid hI2
      rcases Nat.eq_zero_or_pos k with rfl | hp
      · have hb0 : bestO (ls.take (0 + 1)) = ls[0] := by
          cases ls with
          | nil => cases hlt
          | cons x l => rfl
        have HB0 := Lib.hid hb0
        simp only [Nat.add_zero] at q
        clear hc hI hI2 hE hb0
        go_wp2_with fail
        go_roundw
        case rel => exact ⟨0 + 1, by omega, rfl, HE.out, B2, d2, by rw [HB0.out], by rw [HB0.out]; exact HI2.out⟩
        case measure => simp [intOf]; omega
      · have hk0 : ((k : Int) == 0) = false := by simp; omega
        have HS := Lib.hid (bestO_succ ls k hlt hp)
        obtain ⟨out, hout⟩ : ∃ out, bestO (ls.take k) = out := ⟨_, rfl⟩
        rw [hout] at HS HI hb2 ⊢
        obtain ⟨x, hx⟩ : ∃ x, ls[k] = x := ⟨_, rfl⟩
        rw [hx] at q HS HI2 hb1
        clear hc hI hI2 hE hout hx
        go_wp2_with fail
        refine (better_any B2 B d2 d x out _ HI2.out HI.out hb1 hb2).mono ?_
        rintro e w3 ⟨rfl, hE3⟩
        have HE3 := Lib.hid (HE.out.trans hE3)
        have HI3 := Lib.hid (HI.out.ext hE3)
        have HI4 := Lib.hid (HI2.out.ext hE3)
        clear hE3 q
        by_cases hs : Ec.setCmp x out < 0
        · have hd : decide (Ec.setCmp x out < 0) = true := by simpa using hs
          rw [hd]
          have HSS := Lib.hid (HS.out.trans (if_pos hs))
          clear hs hd
          go_wp2_with fail
          go_roundw
          case rel => exact ⟨k + 1, by omega, by go_num, HE3.out, B2, d2, by rw [HSS.out], by rw [HSS.out]; exact HI4.out⟩
          case measure => simp [intOf]; omega
        · have hd : decide (Ec.setCmp x out < 0) = false := by simpa using hs
          rw [hd]
          have HSS := Lib.hid (HS.out.trans (if_neg hs))
          clear hs hd
          go_wp2_with fail
          go_roundw
          case rel => exact ⟨k + 1, by omega, by go_num, HE3.out, B, d, by rw [HSS.out], by rw [HSS.out]; exact HI3.out⟩
          case measure => simp [intOf]; omega
    · obtain rfl : k = ls.length := by omega
      rw [List.take_length] at hI ⊢
      have HE := Lib.hid hE
      have HI := Lib.hid hI
      clear hE hI
      go_wp2_with fail
      go_ret2
      exact ⟨B, d, by simp, HI.out, HE.out⟩
end Go.Proofs.YtcbodpnmndbgnaaGreatDoor
namespace Go.Proofs.YtcbodpnmndbgnaaGreatDoor
open Go.RowKit Go.Shelf
open Sp (rd)
attribute [local go_sem] Oper.semAt_some
set_option maxRecDepth 100000
set_option maxHeartbeats 1000000
/-- An eclipse that can be foretold. -/
abbrev Ecl1 := { x : Sp.Ecl // (1 ≤ x.day ∧ x.day ≤ 9030) ∧ (0 ≤ x.far ∧ x.far ≤ 5400) }
def eclV (x : Sp.Ecl) : Value := .agg #[.int .i64 x.day, .bool x.full, .int .i64 x.far]
/-- What a round must keep. -/
def KeepsEng (n0 bT bX M : Nat) (W W' : World) : Prop := Below n0 W W' ∧ W'.heap[bT]? = W.heap[bT]? ∧ W'.heap[bX]? = W.heap[bX]? ∧ W'.heap[M]? = W.heap[M]?
theorem keepsEng_t {n0 bT bX M : Nat} {A B C : World} (h : KeepsEng n0 bT bX M A B) (k : KeepsEng n0 bT bX M B C) : KeepsEng n0 bT bX M A C :=
  ⟨h.1.trans k.1, k.2.1.trans h.2.1, k.2.2.1.trans h.2.2.1, k.2.2.2.trans h.2.2.2⟩
theorem keepsEng_b {n0 bT bX M B : Nat} (h0 : n0 ≤ B) (h1 : bT < B) (h2 : bX < B) (h3 : M < B) (W : World) (l : Nat) (o o' : Obj) (hl : B ≤ l) (hW : W.heap[l]? = some o) (_ : o.isCells = false) (_ : o.isWalk = false) : KeepsEng n0 bT bX M W (W.putObj l o') :=
  ⟨(Below.refl n0 W).grown (grownBy_putObj' W l o') (by have := (Array.getElem?_eq_some_iff.1 hW).1; omega) (fun k e => by cases e; omega), World.putObj_heap_other (by omega), World.putObj_heap_other (by omega), World.putObj_heap_other (by omega)⟩
/-- What the iterator finds in every round. -/
structure ForeIn (w0 : World) (p : EP) (e : Ec.Engine) (set : List Int) (M bT bX : Nat) (hi : Int) (W : World) : Prop where
  ext : Ext w0 W
  cache : Seen e set M W
  to : Row W bT 3 #[.int .i64 hi]
  x : Row W bX 100 #[.slice p.Ab e.sky.bodies.length p.cb, .int .i64 e.sky.nnum, .int .i64 e.sky.nden, .int .i64 e.sky.nstart, .slice p.As e.sun.length p.cs, .slice p.Am e.moon.length p.cm, .slice p.An e.node.length p.cn, .slice p.Af e.feasts.length p.cf, .int .i64 e.nw, .int .i64 e.fl, .int .i64 e.wide, .slice p.At set.length p.ct, .map (some M)]
theorem ForeIn.move {w0 : World} {p : EP} {e : Ec.Engine} {set : List Int} {M bT bX : Nat} {hi : Int} {W W' : World} (h : ForeIn w0 p e set M bT bX hi W) (hM : w0.heap.size ≤ M) (hm : Move e set M W W') : ForeIn w0 p e set M bT bX hi W' :=
  ⟨h.ext.trans' (hm.below hM h.ext.size), hm.cache, hm.row h.cache h.to, hm.row h.cache h.x⟩
theorem ForeIn.keep {w0 : World} {p : EP} {e : Ec.Engine} {set : List Int} {M bT bX : Nat} {hi : Int} {W W' : World} (h : ForeIn w0 p e set M bT bX hi W) (hk : KeepsEng w0.heap.size bT bX M W W') : ForeIn w0 p e set M bT bX hi W' :=
  ⟨h.ext.trans' hk.1, h.cache.of_block hk.2.2.2, hk.2.1.trans h.to, hk.2.2.1.trans h.x⟩
def ForeAll (e : Ec.Engine) (set : List Int) (lo hi : Int) (xs : List Ecl1) : Prop := xs.map Subtype.val = Ec.foreL e set (max 1 lo) hi
def ForeSome (e : Ec.Engine) (set : List Int) (lo hi : Int) (pre : List Ecl1) : Prop := ∃ rest, pre.map Subtype.val ++ rest = Ec.foreL e set (max 1 lo) hi
/-- What has been foretold when k days and j kinds of the next one are over. -/
def forePart (e : Ec.Engine) (set : List Int) (d : Int) : Nat → List Sp.Ecl
  | 0 => []
  | 1 => if Ec.foreB e set d false then [⟨d, false, Ec.farAt e set d⟩] else []
  | _ => Ec.foreD e set d
theorem foreL_split (e : Ec.Engine) (set : List Int) (lo hi : Int) (k : Nat) (hk : k < (hi + 1 - lo).toNat) (j : Nat) (hj : j ≤ 2) : ∃ rest, Ec.foreN e set lo k ++ forePart e set (lo + (k : Nat)) j ++ rest = Ec.foreL e set lo hi := by
  have h1 : ∀ n, k + 1 ≤ n → ∃ rest, Ec.foreN e set lo (k + 1) ++ rest = Ec.foreN e set lo n := by
    intro n
    induction n with
    | zero => intro h; omega
    | succ n ih =>
      intro h
      rcases Nat.eq_or_lt_of_le h with h' | h'
      · exact ⟨[], by rw [List.append_nil, h']⟩
      · obtain ⟨r, hr⟩ := ih (by omega)
        exact ⟨r ++ Ec.foreD e set (lo + (n : Nat)), by rw [← List.append_assoc, hr]; rfl⟩
  obtain ⟨r, hr⟩ := h1 _ hk
  have h2 : ∃ r2, forePart e set (lo + (k : Nat)) j ++ r2 = Ec.foreD e set (lo + (k : Nat)) := by
    rcases (show j = 0 ∨ j = 1 ∨ j = 2 by omega) with rfl | rfl | rfl
    · exact ⟨_, rfl⟩
    · exact ⟨_, rfl⟩
    · exact ⟨[], List.append_nil _⟩
  obtain ⟨r2, hr2⟩ := h2
  refine ⟨r2 ++ r, ?_⟩
  rw [List.append_assoc, ← List.append_assoc _ r2, hr2, ← List.append_assoc]
  exact hr
/-- The world behind the call of foretold. -/
def foreW (p : EP) (e : Ec.Engine) (set : List Int) (M : Nat) (lo hi : Int) (w : World) : World :=
  ((w.alloc (.cells #[.slice p.Ab e.sky.bodies.length p.cb, .int .i64 e.sky.nnum, .int .i64 e.sky.nden, .int .i64 e.sky.nstart, .slice p.As e.sun.length p.cs, .slice p.Am e.moon.length p.cm, .slice p.An e.node.length p.cn, .slice p.Af e.feasts.length p.cf, .int .i64 e.nw, .int .i64 e.fl, .int .i64 e.wide, .slice p.At set.length p.ct, .map (some M)] 100)).alloc (.cells #[.int .i64 lo] 3)).alloc (.cells #[.int .i64 hi] 3)
theorem foreW_size (p : EP) (e : Ec.Engine) (set : List Int) (M : Nat) (lo hi : Int) (w : World) : (foreW p e set M lo hi w).heap.size = w.heap.size + 3 := by simp [foreW]
theorem foreW_ext (p : EP) (e : Ec.Engine) (set : List Int) (M : Nat) (lo hi : Int) (w : World) : Ext w (foreW p e set M lo hi w) := (((Ext.refl w).alloc _).alloc _).alloc _
theorem foreW_X (p : EP) (e : Ec.Engine) (set : List Int) (M : Nat) (lo hi : Int) (w : World) : Row (foreW p e set M lo hi w) w.heap.size 100 #[.slice p.Ab e.sky.bodies.length p.cb, .int .i64 e.sky.nnum, .int .i64 e.sky.nden, .int .i64 e.sky.nstart, .slice p.As e.sun.length p.cs, .slice p.Am e.moon.length p.cm, .slice p.An e.node.length p.cn, .slice p.Af e.feasts.length p.cf, .int .i64 e.nw, .int .i64 e.fl, .int .i64 e.wide, .slice p.At set.length p.ct, .map (some M)] := (blocks3 w _ _ _).1
theorem foreW_F (p : EP) (e : Ec.Engine) (set : List Int) (M : Nat) (lo hi : Int) (w : World) : Row (foreW p e set M lo hi w) (w.heap.size + 1) 3 #[.int .i64 lo] := (blocks3 w _ _ _).2.1
theorem foreW_T (p : EP) (e : Ec.Engine) (set : List Int) (M : Nat) (lo hi : Int) (w : World) : Row (foreW p e set M lo hi w) (w.heap.size + 2) 3 #[.int .i64 hi] := (blocks3 w _ _ _).2.2
attribute [irreducible] foreW
def foreV (b : Nat) : Value := .func (.func 133) #[] #[.pointer (some ⟨b + 1, 0, none⟩), .pointer (some ⟨b + 2, 0, none⟩), .pointer (some ⟨b, 0, none⟩)]
theorem e_foretold_any (p : EP) (e : Ec.Engine) (set : List Int) (M : Nat) (lo hi : Int) (w : World) :
    Calls Tryz.prog 77 #[.agg #[.slice p.Ab e.sky.bodies.length p.cb, .int .i64 e.sky.nnum, .int .i64 e.sky.nden, .int .i64 e.sky.nstart, .slice p.As e.sun.length p.cs, .slice p.Am e.moon.length p.cm, .slice p.An e.node.length p.cn, .slice p.Af e.feasts.length p.cf, .int .i64 e.nw, .int .i64 e.fl, .int .i64 e.wide, .slice p.At set.length p.ct, .map (some M)], .int .i64 lo, .int .i64 hi] w fun r w' => r = .returned (foreV w.heap.size) ∧ w' = foreW p e set M lo hi w := by
  have hmf : ∀ (fn : Fn) (first cap : Array Value) (w : World), (Instr.makeFunc fn first cap).run Tryz.prog w = .ok (.func fn first cap) w := fun _ _ _ _ => rfl
  go_enter Tryz.func77, Tryz.ntmps77
  go_wp2_with fail
  go_ret
  exact ⟨rfl, by unfold foreW; rfl⟩
theorem pickP0 (x0 x1 : Value) (w : World) : (Instr.index 163 (.agg #[x0, x1]) (.int .i64 0)).run Tryz.prog w = .ok x0 w := by kernel_rfl
theorem pickP1 (x0 x1 : Value) (w : World) : (Instr.index 163 (.agg #[x0, x1]) (.int .i64 1)).run Tryz.prog w = .ok x1 w := by kernel_rfl
end Go.Proofs.YtcbodpnmndbgnaaGreatDoor
