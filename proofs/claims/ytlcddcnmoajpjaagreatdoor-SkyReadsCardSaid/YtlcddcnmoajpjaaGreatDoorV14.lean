/- ParseSpec: Plain laws of tables that are read: the program's way and the document's way come to the same. -/
import Derived.Test.YtlcddcnmoajpjaaGreatDoorV12
namespace Go.Proofs.YtlcddcnmoajpjaaGreatDoor

/-- The numbers of a line that begins with a word. -/
def numsP (name : Bs) (least : Nat) (s : Bs) : Option (List Int) :=
  if (sp1 32 s).headD [] = name ∧ least < (sp1 32 s).length then (sp1 32 s).tail.mapM numP else none
def bodyOf (x : List Int) : Sp.Body := ⟨x.getD 0 0, x.getD 1 0, x.getD 2 0, x.drop 3⟩
def skyOf (bs : List (List Int)) (x : List Int) : Sp.Sky := ⟨bs.map bodyOf, x.getD 0 0, x.getD 1 0, x.getD 2 0⟩
/-- What the program reads. -/
def parseP (s : Bs) : Option Sp.Sky :=
  (numsP wSky 1 ((sp1 10 s).getD 0 [])).bind fun ns =>
    if 0 ≤ ns.getD 0 0 ∧ ((sp1 10 s).length : Int) = ns.getD 0 0 + 4 then
      ((((sp1 10 s).drop 1).take (ns.getD 0 0).toNat).mapM (numsP wBody 3)).bind fun bs =>
        (numsP wNode 3 ((sp1 10 s).getD ((ns.getD 0 0).toNat + 1) [])).bind fun x =>
          if textL (skyOf bs x) = s then some (skyOf bs x) else none
    else none

/-! ### mapM over Option -/
theorem mapM_some {α β : Type} {f : α → Option β} {l : List α} {r : List β} : l.mapM f = some r ↔ l.map f = r.map some := by
  induction l generalizing r with
  | nil => cases r <;> simp
  | cons a l ih =>
    rw [List.mapM_cons]
    cases h : f a with
    | none => cases r <;> simp [h]
    | some b =>
      cases h2 : l.mapM f with
      | none =>
        simp only [Option.bind_eq_bind, Option.bind_some, Option.bind_none, List.map_cons, h]
        constructor
        · intro e; cases e
        · intro e
          cases r with
          | nil => cases e
          | cons c r =>
            simp only [List.map_cons, List.cons.injEq] at e
            rw [ih.2 e.2] at h2
            cases h2
      | some t =>
        have ht := ih.1 h2
        cases r with
        | nil => simp [h]
        | cons c r => simp [h, ht, List.map_inj_right (f := (some : β → Option β)) (fun _ _ e => Option.some.inj e)]
theorem mapM_take_succ {α β : Type} {f : α → Option β} {l : List α} {d : α} (k : Nat) (hk : k < l.length) {r : List β} {b : β} (h : (l.take k).mapM f = some r) (hb : f (l.getD k d) = some b) :
    (l.take (k + 1)).mapM f = some (r ++ [b]) := by
  rw [mapM_some] at h ⊢
  rw [List.take_succ_eq_append_getElem hk, List.map_append, List.map_append, h]
  have e : l.getD k d = l[k] := by rw [List.getD_eq_getElem?_getD, List.getElem?_eq_getElem hk]; rfl
  rw [e] at hb
  simp [hb]
theorem mapM_none_at {α β : Type} {f : α → Option β} {l : List α} {d : α} (k : Nat) (hk : k < l.length) (hb : f (l.getD k d) = none) : l.mapM f = none := by
  cases h : l.mapM f with
  | none => rfl
  | some r =>
    rw [mapM_some] at h
    have e : l.getD k d = l[k] := by rw [List.getD_eq_getElem?_getD, List.getElem?_eq_getElem hk]; rfl
    rw [e] at hb
    have h1 : (l.map f)[k]? = some (f l[k]) := by simp [hk]
    rw [h, hb] at h1
    simp only [List.getElem?_map, Option.map_eq_some_iff] at h1
    obtain ⟨a, _, ha⟩ := h1
    cases ha

/-! ### Numerals are read as what they say -/
theorem isDig_digit (u : Nat) (h : u < 10) : isDig (UInt8.ofNat (48 + u)) = true := by
  have : (UInt8.ofNat (48 + u)).toNat = 48 + u := by simp [UInt8.toNat_ofNat']; omega
  unfold isDig
  rw [this]
  simp
  omega
theorem digN_app (l : Bs) (c : UInt8) (k : Nat) (hk : k ≤ l.length) : digN (l ++ [c]) k = digN l k := by
  induction k with
  | zero => rfl
  | succ k ih =>
    rw [digN, digN, ih (by omega)]
    congr 3
    rw [List.getD_eq_getElem?_getD, List.getD_eq_getElem?_getD, List.getElem?_append_left (by omega)]
theorem digV_snoc (l : Bs) (c : UInt8) : digV (l ++ [c]) = 10 * digV l + (c.toNat - 48) := by
  unfold digV
  rw [List.length_append, List.length_singleton, digN, digN_app l c _ (Nat.le_refl _)]
  congr 3
  rw [List.getD_eq_getElem?_getD, List.getElem?_append_right (Nat.le_refl _)]
  simp
theorem dec_all (u : Nat) : (Lib.decDigits u).all isDig = true ∧ digV (Lib.decDigits u) = u ∧ Lib.decDigits u ≠ [] := by
  induction u using Nat.strongRecOn with
  | _ u ih =>
    rw [Lib.decDigits]
    by_cases h : u < 10
    · rw [dif_pos h]
      have : (UInt8.ofNat (48 + u)).toNat = 48 + u := by simp [UInt8.toNat_ofNat']; omega
      refine ⟨by rw [List.all_cons, isDig_digit u h]; rfl, ?_, by simp⟩
      show 10 * 0 + ((UInt8.ofNat (48 + u)).toNat - 48) = u
      rw [this]
      omega
    · rw [dif_neg h]
      obtain ⟨a, b, _⟩ := ih (u / 10) (by omega)
      have : (UInt8.ofNat (48 + u % 10)).toNat = 48 + u % 10 := by simp [UInt8.toNat_ofNat']; omega
      refine ⟨by rw [List.all_append, a, List.all_cons, isDig_digit (u % 10) (by omega)]; rfl, ?_, by simp⟩
      rw [digV_snoc, b, this]
      omega
theorem nDigits_le (k u : Nat) (h : u < 10 ^ (k + 1)) : Lib.nDigits u ≤ k + 1 := by
  induction k generalizing u with
  | zero => rw [Lib.nDigits_small (by simpa using h)]; omega
  | succ k ih =>
    by_cases h1 : u < 10
    · rw [Lib.nDigits_small h1]; omega
    · rw [Lib.nDigits_big h1]
      have := ih (u / 10) (by rw [Nat.pow_succ] at h; omega)
      omega
theorem dec_len5 (u : Nat) (h : u ≤ 99999) : (Lib.decDigits u).length ≤ 5 := by
  rw [Lib.decDigits_length]
  exact nDigits_le 4 u (by omega)
theorem isDig_ne {c d : UInt8} (h : isDig c = true) (hd : isDig d = false) : c ≠ d := by
  rintro rfl; rw [h] at hd; cases hd
theorem dec_no (u : Nat) (c : UInt8) (hc : isDig c = false) : c ∉ Lib.decDigits u := by
  intro hm
  have := (dec_all u).1
  rw [List.all_eq_true] at this
  have := this c hm
  rw [hc] at this; cases this
theorem itoa_no (n : Int) (c : UInt8) (hc : isDig c = false) (h : c ≠ 45) : c ∉ Lib.itoa n := by
  unfold Lib.itoa
  split
  · rw [List.mem_cons, not_or]; exact ⟨h, dec_no _ c hc⟩
  · exact dec_no _ c hc
theorem digN_lt (l : Bs) (h : l.all isDig = true) (k : Nat) (hk : k ≤ l.length) : digN l k < 10 ^ k := by
  induction k with
  | zero => simp [digN]
  | succ k ih =>
    have := ih (by omega)
    rw [List.all_eq_true] at h
    have hm := h (l[k]'(by omega)) (List.getElem_mem _)
    have e : l.getD k 0 = l[k]'(by omega) := by rw [List.getD_eq_getElem?_getD, List.getElem?_eq_getElem (by omega)]; rfl
    rw [digN, e, Nat.pow_succ]
    simp only [isDig, Bool.and_eq_true, decide_eq_true_eq] at hm
    omega

def numOk (n : Int) : Prop := -99999 ≤ n ∧ n ≤ 99999
theorem trim_dec (u : Nat) : Lib.trimPrefix (Lib.decDigits u) [45] = Lib.decDigits u := by
  unfold Lib.trimPrefix Lib.hasPrefix
  have hne := (dec_all u).2.2
  have h45 := dec_no u 45 (by decide)
  cases h : Lib.decDigits u with
  | nil => exact absurd h hne
  | cons c t =>
    rw [h] at h45
    have : ([45] : Bs).isPrefixOf (c :: t) = false := by
      simp only [List.isPrefixOf, Bool.and_true, beq_eq_false_iff_ne]
      intro e; exact h45 (by simp [← e])
    rw [this]; rfl
theorem numP_itoa (n : Int) (h : numOk n) : numP (Lib.itoa n) = some n := by
  obtain ⟨h1, h2⟩ := h
  have key : numDig (Lib.itoa n) = Lib.decDigits n.natAbs ∧ numVal (Lib.itoa n) = n := by
    by_cases hn : n < 0
    · have e : Lib.itoa n = 45 :: Lib.decDigits n.natAbs := by rw [Lib.itoa, if_pos hn]
      have et : numDig (45 :: Lib.decDigits n.natAbs) = Lib.decDigits n.natAbs := by
        unfold numDig Lib.trimPrefix Lib.hasPrefix
        simp [List.isPrefixOf]
      refine ⟨by rw [e, et], ?_⟩
      rw [e]
      unfold numVal
      rw [et, if_pos (by simp), (dec_all n.natAbs).2.1]
      omega
    · have e : Lib.itoa n = Lib.decDigits n.natAbs := by rw [Lib.itoa, if_neg hn]; congr 1; omega
      have et : numDig (Lib.decDigits n.natAbs) = Lib.decDigits n.natAbs := trim_dec _
      refine ⟨by rw [e, et], ?_⟩
      rw [e]
      unfold numVal
      rw [et, if_neg (by omega), (dec_all n.natAbs).2.1]
      omega
  obtain ⟨a, _, c⟩ := dec_all n.natAbs
  have hf : numFine (Lib.itoa n) = true := by
    unfold numFine
    have l5 := dec_len5 n.natAbs (by omega)
    have hemp : (Lib.decDigits n.natAbs).isEmpty = false := by simpa using c
    rw [key.1, key.2, a, hemp, decide_eq_true l5]
    simp
  unfold numP
  rw [if_pos hf, key.2]
theorem numP_some {w : Bs} {n : Int} (h : numP w = some n) : w = Lib.itoa n ∧ numOk n := by
  unfold numP at h
  by_cases hc : numFine w = true
  · rw [if_pos hc] at h
    obtain rfl := Option.some.inj h
    unfold numFine at hc
    simp only [Bool.and_eq_true, decide_eq_true_eq, beq_iff_eq] at hc
    obtain ⟨⟨⟨ha, h5⟩, _⟩, he⟩ := hc
    have hlt := digN_lt _ ha _ (Nat.le_refl _)
    have h10 : 10 ^ (numDig w).length ≤ 10 ^ 5 := Nat.pow_le_pow_right (by omega) h5
    have hv : digV (numDig w) < 100000 := by unfold digV; omega
    exact ⟨he.symm, by unfold numOk numVal; split <;> omega⟩
  · rw [if_neg hc] at h; cases h

/-! ### Lines are read as what they say -/
theorem lineL_tail (name : Bs) (l : List Int) : lineL name l = name ++ Lib.joinTail [32] (l.map Lib.itoa) := by
  unfold lineL Lib.joinTail
  rw [List.map_map]
  rfl
theorem sp1_line (name : Bs) (l : List Int) (h : (32 : UInt8) ∉ name) : sp1 32 (lineL name l) = name :: l.map Lib.itoa := by
  rw [lineL_tail]
  exact sp1_tail 32 _ (fun x hx => by
    obtain ⟨n, _, rfl⟩ := List.mem_map.1 hx
    exact itoa_no n 32 (by decide) (by decide)) name h
theorem numsP_line (name : Bs) (least : Nat) (l : List Int) (h : (32 : UInt8) ∉ name) (hl : least ≤ l.length) (hn : ∀ n ∈ l, numOk n) : numsP name least (lineL name l) = some l := by
  unfold numsP
  rw [sp1_line name l h, if_pos ⟨rfl, by simp; omega⟩, mapM_some, List.tail_cons, List.map_map]
  exact List.map_congr_left fun n hm => numP_itoa n (hn n hm)
theorem words_line {s : Bs} {l : List Int} (h : (sp1 32 s).tail.mapM numP = some l) : s = lineL ((sp1 32 s).headD []) l ∧ ∀ n ∈ l, numOk n := by
  rw [mapM_some] at h
  have ht : (sp1 32 s).tail = l.map Lib.itoa ∧ ∀ n ∈ l, numOk n := by
    generalize (sp1 32 s).tail = t at h
    induction t generalizing l with
    | nil =>
      cases l with
      | nil => exact ⟨rfl, by simp⟩
      | cons _ _ => cases h
    | cons w t ih =>
      cases l with
      | nil => cases h
      | cons n l =>
        simp only [List.map_cons, List.cons.injEq] at h
        obtain ⟨e1, e2⟩ := numP_some h.1
        obtain ⟨e3, e4⟩ := ih h.2
        refine ⟨by rw [e3, List.map_cons, ← e1], fun x hx => ?_⟩
        rcases List.mem_cons.1 hx with rfl | hx
        · exact e2
        · exact e4 x hx
  refine ⟨?_, ht.2⟩
  rw [lineL_tail, ← ht.1, ← Lib.join_cons]
  have hne := sp1_ne 32 s
  have e : (sp1 32 s).headD [] :: (sp1 32 s).tail = sp1 32 s := by
    cases hs : sp1 32 s with
    | nil => exact absurd hs hne
    | cons a t => rfl
  rw [e, join_sp1]
theorem numsP_some {name : Bs} {least : Nat} {s : Bs} {l : List Int} (h : numsP name least s = some l) : s = lineL name l ∧ least ≤ l.length ∧ ∀ n ∈ l, numOk n := by
  unfold numsP at h
  split at h
  · rename_i hc
    obtain ⟨e1, e2⟩ := words_line h
    have hlen := congrArg List.length (mapM_some.1 h)
    simp only [List.length_map, List.length_tail] at hlen
    rw [hc.1] at e1
    exact ⟨e1, by omega, e2⟩
  · cases h

/-! ### Tables -/
structure SkyNum (s : Sp.Sky) : Prop where
  len : s.bodies.length ≤ 99999
  body : ∀ b ∈ s.bodies, ∀ n ∈ bodyNums b, numOk n
  num : numOk s.nnum
  den : numOk s.nden
  start : numOk s.nstart

theorem line_no (name : Bs) (l : List Int) (c : UInt8) (hc : isDig c = false) (h1 : c ≠ 45) (h2 : c ≠ 32) (hn : c ∉ name) : c ∉ lineL name l := by
  unfold lineL
  rw [List.mem_append, not_or]
  refine ⟨hn, fun hm => ?_⟩
  obtain ⟨x, hx, hc'⟩ := List.mem_flatten.1 hm
  obtain ⟨n, _, rfl⟩ := List.mem_map.1 hx
  rcases List.mem_cons.1 hc' with e | e
  · exact h2 e
  · exact itoa_no n c hc h1 e
theorem tabLines_no (s : Sp.Sky) : ∀ x ∈ tabLines s, (10 : UInt8) ∉ x := by
  intro x hx
  unfold tabLines at hx
  rcases List.mem_cons.1 hx with rfl | hx
  · exact line_no _ _ 10 (by decide) (by decide) (by decide) (by decide)
  · rcases List.mem_append.1 hx with hx | hx
    · obtain ⟨b, _, rfl⟩ := List.mem_map.1 hx
      exact line_no _ _ 10 (by decide) (by decide) (by decide) (by decide)
    · obtain rfl : x = _ := by simpa using hx
      exact line_no _ _ 10 (by decide) (by decide) (by decide) (by decide)
theorem endL_no (c : Nat) : (10 : UInt8) ∉ endL c := by
  unfold endL
  simp only [List.mem_append, not_or]
  exact ⟨⟨⟨by decide, itoa_no _ 10 (by decide) (by decide)⟩, itoa_no _ 10 (by decide) (by decide)⟩, itoa_no _ 10 (by decide) (by decide)⟩
theorem joinTail_app (sep : Bs) (a b : List Bs) : Lib.joinTail sep (a ++ b) = Lib.joinTail sep a ++ Lib.joinTail sep b := by
  simp [Lib.joinTail]
theorem textL_join (s : Sp.Sky) : textL s = Lib.join (tabLines s ++ [endL (checkL (tabLines s)), []]) [10] := by
  unfold textL
  have e : ∃ x r, tabLines s = x :: r := ⟨_, _, rfl⟩
  obtain ⟨x, r, e⟩ := e
  rw [e, List.cons_append, Lib.join_cons, Lib.join_cons, joinTail_app]
  simp [Lib.joinTail]
theorem sp1_text (s : Sp.Sky) : sp1 10 (textL s) = tabLines s ++ [endL (checkL (tabLines s)), []] := by
  rw [textL_join]
  refine sp1_join 10 _ (by simp) fun x hx => ?_
  rcases List.mem_append.1 hx with hx | hx
  · exact tabLines_no s x hx
  · simp only [List.mem_cons, List.not_mem_nil, or_false] at hx
    rcases hx with rfl | rfl
    · exact endL_no _
    · simp
theorem tabLines_length (s : Sp.Sky) : (tabLines s).length = s.bodies.length + 2 := by simp [tabLines]
theorem bodyOf_nums (b : Sp.Body) : bodyOf (bodyNums b) = b := by
  obtain ⟨a, b, c, r⟩ := b
  rfl
theorem bodyNums_of {x : List Int} (h : 3 ≤ x.length) : bodyNums (bodyOf x) = x := by
  match x, h with
  | a :: b :: c :: r, _ => rfl

theorem parse_text (s : Sp.Sky) (h : SkyNum s) : parseP (textL s) = some s := by
  unfold parseP
  rw [sp1_text]
  have hlen := tabLines_length s
  have e0 : (tabLines s ++ [endL (checkL (tabLines s)), []]).getD 0 [] = lineL wSky [(s.bodies.length : Int)] := rfl
  rw [e0, numsP_line wSky 1 _ (by decide) (by simp) (by intro n hn; obtain rfl : n = _ := List.mem_singleton.1 hn; exact ⟨by omega, by have := h.len; omega⟩)]
  simp only [Option.bind_some, List.getD_cons_zero]
  rw [if_pos ⟨by omega, by simp [hlen]; omega⟩]
  have e1 : ((tabLines s ++ [endL (checkL (tabLines s)), []]).drop 1).take (s.bodies.length : Int).toNat = s.bodies.map bodyLine := by
    rw [Int.toNat_natCast]
    have : (tabLines s ++ [endL (checkL (tabLines s)), []]).drop 1 = s.bodies.map bodyLine ++ ([lineL wNode [s.nnum, s.nden, s.nstart]] ++ [endL (checkL (tabLines s)), []]) := by simp [tabLines]
    rw [this]
    exact List.take_left' (by simp)
  have e2 : (s.bodies.map bodyLine).mapM (numsP wBody 3) = some (s.bodies.map bodyNums) := by
    rw [mapM_some, List.map_map, List.map_map]
    exact List.map_congr_left fun b hb => numsP_line wBody 3 (bodyNums b) (by decide) (by simp [bodyNums]) (h.body b hb)
  have e3 : (tabLines s ++ [endL (checkL (tabLines s)), []]).getD ((s.bodies.length : Int).toNat + 1) [] = lineL wNode [s.nnum, s.nden, s.nstart] := by
    rw [Int.toNat_natCast]
    have : tabLines s ++ [endL (checkL (tabLines s)), []] = (lineL wSky [(s.bodies.length : Int)] :: s.bodies.map bodyLine) ++ (lineL wNode [s.nnum, s.nden, s.nstart] :: [endL (checkL (tabLines s)), []]) := by simp [tabLines]
    rw [this, List.getD_eq_getElem?_getD, List.getElem?_append_right (by simp)]
    simp
  rw [e1, e2, Option.bind_some, e3, numsP_line wNode 3 _ (by decide) (by simp) (by
    intro n hn
    simp only [List.mem_cons, List.not_mem_nil, or_false] at hn
    rcases hn with rfl | rfl | rfl
    · exact h.num
    · exact h.den
    · exact h.start), Option.bind_some]
  have e4 : skyOf (s.bodies.map bodyNums) [s.nnum, s.nden, s.nstart] = s := by
    obtain ⟨bs, a, b, c⟩ := s
    unfold skyOf
    simp only [List.map_map, List.getD_cons_zero, List.getD_cons_succ, Sp.Sky.mk.injEq, and_true]
    rw [show (bodyOf ∘ bodyNums) = id from funext bodyOf_nums, List.map_id]
  rw [e4, if_pos rfl]
theorem mapM_mem {α β : Type} {f : α → Option β} {l : List α} {r : List β} (h : l.mapM f = some r) (b : β) (hb : b ∈ r) : ∃ a ∈ l, f a = some b := by
  rw [mapM_some] at h
  have : some b ∈ l.map f := by rw [h]; exact List.mem_map.2 ⟨b, hb, rfl⟩
  obtain ⟨a, ha, e⟩ := List.mem_map.1 this
  exact ⟨a, ha, e⟩
theorem parse_some {s : Bs} {x : Sp.Sky} (h : parseP s = some x) : textL x = s ∧ SkyNum x := by
  unfold parseP at h
  cases h1 : numsP wSky 1 ((sp1 10 s).getD 0 []) with
  | none => rw [h1] at h; cases h
  | some ns =>
    rw [h1] at h
    simp only [Option.bind_some] at h
    split at h
    · rename_i hc
      cases h2 : ((((sp1 10 s).drop 1).take (ns.getD 0 0).toNat).mapM (numsP wBody 3)) with
      | none => rw [h2] at h; cases h
      | some bs =>
        cases h3 : numsP wNode 3 ((sp1 10 s).getD ((ns.getD 0 0).toNat + 1) []) with
        | none => rw [h2, h3] at h; cases h
        | some y =>
          rw [h2, h3] at h
          simp only [Option.bind_some] at h
          split at h
          · rename_i ht
            obtain rfl := Option.some.inj h
            obtain ⟨_, hns, hok⟩ := numsP_some h1
            obtain ⟨_, hy, hyok⟩ := numsP_some h3
            have hn0 : numOk (ns.getD 0 0) := by
              match ns, hns with
              | a :: _, _ => exact hok a (by simp)
            have hbl : bs.length = (ns.getD 0 0).toNat := by
              have := congrArg List.length (mapM_some.1 h2)
              simp only [List.length_map, List.length_take, List.length_drop] at this
              omega
            match y, hy with
            | a :: b :: c :: r, _ =>
              refine ⟨ht, ⟨by simp only [skyOf, List.length_map, hbl]; have := hn0.2; omega, fun b' hb' n hn => ?_, hyok a (by simp), hyok b (by simp), hyok c (by simp)⟩⟩
              obtain ⟨z, hz, rfl⟩ := List.mem_map.1 hb'
              obtain ⟨w, _, hw⟩ := mapM_mem h2 z hz
              obtain ⟨_, h3', hz'⟩ := numsP_some hw
              rw [bodyNums_of h3'] at hn
              exact hz' n hn
          · cases h
    · cases h
theorem parse_iff (s : Bs) (x : Sp.Sky) : parseP s = some x ↔ textL x = s ∧ SkyNum x :=
  ⟨parse_some, fun ⟨e, h⟩ => by rw [← e]; exact parse_text x h⟩

/-! ### The document's way -/
def noSky : Sp.Sky := ⟨[], 0, 0, 0⟩
def stepR (s : Sp.Sky) (w : Bs) (n : List Int) : Sp.Sky :=
  let s1 : Sp.Sky := if w = wBody then { s with bodies := s.bodies ++ [bodyOf n] } else s
  if w = wNode then { s1 with nnum := n.getD 0 0, nden := n.getD 1 0, nstart := n.getD 2 0 } else s1
def rowR (s : Sp.Sky) (r : Bs) : Option Sp.Sky :=
  ((sp1 32 r).tail.mapM numP).bind fun n => if n.length < 3 then none else some (stepR s ((sp1 32 r).headD []) n)
def rowsR (rows : List Bs) : Nat → Option Sp.Sky
  | 0 => some noSky
  | k + 1 => (rowsR rows k).bind fun s => rowR s (rows.getD (k + 1) [])
def readR (s : Bs) : Option Sp.Sky :=
  (rowsR (sp1 10 s) ((sp1 10 s).length - 3)).bind fun x => if (sp1 10 s).length < 4 ∨ textL x ≠ s then none else some x

theorem rowR_line (s : Sp.Sky) (name : Bs) (l : List Int) (h : (32 : UInt8) ∉ name) (hl : 3 ≤ l.length) (hn : ∀ n ∈ l, numOk n) : rowR s (lineL name l) = some (stepR s name l) := by
  unfold rowR
  rw [sp1_line name l h]
  have : (l.map Lib.itoa).mapM numP = some l := by
    rw [mapM_some, List.map_map]
    exact List.map_congr_left fun n hm => numP_itoa n (hn n hm)
  simp only [List.tail_cons, List.headD_cons, this, Option.bind_some]
  rw [if_neg (by omega)]
theorem rowR_num {s x : Sp.Sky} {r : Bs} (h : rowR s r = some x) (hs : (∀ b ∈ s.bodies, ∀ n ∈ bodyNums b, numOk n) ∧ numOk s.nnum ∧ numOk s.nden ∧ numOk s.nstart) :
    ((∀ b ∈ x.bodies, ∀ n ∈ bodyNums b, numOk n) ∧ numOk x.nnum ∧ numOk x.nden ∧ numOk x.nstart) ∧ x.bodies.length ≤ s.bodies.length + 1 := by
  unfold rowR at h
  cases hm : (sp1 32 r).tail.mapM numP with
  | none => rw [hm] at h; cases h
  | some n =>
    rw [hm] at h
    simp only [Option.bind_some] at h
    split at h
    · cases h
    · rename_i h3
      obtain rfl := Option.some.inj h
      obtain ⟨_, hok⟩ := words_line hm
      obtain ⟨g1, g2, g3, g4⟩ := hs
      match n, h3, hok with
      | a :: b :: c :: t, _, hok =>
        have ka := hok a (by simp)
        have kb := hok b (by simp)
        have kc := hok c (by simp)
        have gb : ∀ z ∈ s.bodies ++ [bodyOf (a :: b :: c :: t)], ∀ n ∈ bodyNums z, numOk n := by
          intro z hz
          rcases List.mem_append.1 hz with hz | hz
          · exact g1 z hz
          · obtain rfl : z = _ := by simpa using hz
            rw [bodyNums_of (by simp)]
            exact hok
        unfold stepR
        dsimp only
        by_cases h1 : (sp1 32 r).headD [] = wBody
        · by_cases h2 : (sp1 32 r).headD [] = wNode
          · rw [if_pos h1, if_pos h2]; exact ⟨⟨gb, ka, kb, kc⟩, by simp⟩
          · rw [if_pos h1, if_neg h2]; exact ⟨⟨gb, g2, g3, g4⟩, by simp⟩
        · by_cases h2 : (sp1 32 r).headD [] = wNode
          · rw [if_neg h1, if_pos h2]; exact ⟨⟨g1, ka, kb, kc⟩, by simp⟩
          · rw [if_neg h1, if_neg h2]; exact ⟨⟨g1, g2, g3, g4⟩, by simp⟩
      | [], h3, _ => exact absurd (by simp) h3
      | [_], h3, _ => exact absurd (by simp) h3
      | [_, _], h3, _ => exact absurd (by simp) h3
theorem rowsR_num (rows : List Bs) (k : Nat) (x : Sp.Sky) (h : rowsR rows k = some x) : ((∀ b ∈ x.bodies, ∀ n ∈ bodyNums b, numOk n) ∧ numOk x.nnum ∧ numOk x.nden ∧ numOk x.nstart) ∧ x.bodies.length ≤ k := by
  induction k generalizing x with
  | zero =>
    obtain rfl := Option.some.inj h
    exact ⟨⟨by simp [noSky], by simp [noSky, numOk], by simp [noSky, numOk], by simp [noSky, numOk]⟩, by simp [noSky]⟩
  | succ k ih =>
    rw [rowsR] at h
    cases hr : rowsR rows k with
    | none => rw [hr] at h; cases h
    | some s =>
      rw [hr] at h
      simp only [Option.bind_some] at h
      obtain ⟨a, b⟩ := ih s hr
      obtain ⟨c, d⟩ := rowR_num h a
      exact ⟨c, by omega⟩
theorem read_some {s : Bs} {x : Sp.Sky} (hl : s.length ≤ 90000) (h : readR s = some x) : textL x = s ∧ SkyNum x := by
  unfold readR at h
  cases hr : rowsR (sp1 10 s) ((sp1 10 s).length - 3) with
  | none => rw [hr] at h; cases h
  | some y =>
    rw [hr] at h
    simp only [Option.bind_some] at h
    split at h
    · cases h
    · rename_i hc
      obtain rfl := Option.some.inj h
      obtain ⟨⟨a, b, c, d⟩, e⟩ := rowsR_num _ _ _ hr
      have h1 := sp1_length 10 s
      have h2 : s.count 10 ≤ s.length := List.count_le_length
      simp only [not_or, Decidable.not_not] at hc
      exact ⟨hc.2, ⟨by omega, a, b, c, d⟩⟩
theorem rowsR_text (s : Sp.Sky) (h : SkyNum s) (k : Nat) (hk : k ≤ s.bodies.length) : rowsR (tabLines s ++ [endL (checkL (tabLines s)), []]) k = some ⟨s.bodies.take k, 0, 0, 0⟩ := by
  induction k with
  | zero => rfl
  | succ k ih =>
    have hk' : k < s.bodies.length := by omega
    rw [rowsR, ih (by omega), Option.bind_some]
    have e : (tabLines s ++ [endL (checkL (tabLines s)), []]).getD (k + 1) [] = bodyLine s.bodies[k] := by
      have : tabLines s ++ [endL (checkL (tabLines s)), []] = lineL wSky [(s.bodies.length : Int)] :: (s.bodies.map bodyLine ++ (lineL wNode [s.nnum, s.nden, s.nstart] :: [endL (checkL (tabLines s)), []])) := by simp [tabLines]
      rw [this, List.getD_cons_succ, List.getD_eq_getElem?_getD, List.getElem?_append_left (by simpa using hk')]
      simp [hk']
    rw [e]
    unfold bodyLine
    rw [rowR_line _ wBody _ (by decide) (by simp [bodyNums]) (h.body _ (List.getElem_mem hk'))]
    unfold stepR
    dsimp only
    rw [if_pos rfl, if_neg (by decide), bodyOf_nums, List.take_succ_eq_append_getElem hk']
theorem read_text (s : Sp.Sky) (h : SkyNum s) : readR (textL s) = some s := by
  unfold readR
  rw [sp1_text]
  have hlen : (tabLines s ++ [endL (checkL (tabLines s)), []]).length = s.bodies.length + 4 := by simp [tabLines_length]
  rw [hlen, show s.bodies.length + 4 - 3 = s.bodies.length + 1 by omega, rowsR, rowsR_text s h _ (Nat.le_refl _), Option.bind_some]
  have e3 : (tabLines s ++ [endL (checkL (tabLines s)), []]).getD (s.bodies.length + 1) [] = lineL wNode [s.nnum, s.nden, s.nstart] := by
    have : tabLines s ++ [endL (checkL (tabLines s)), []] = (lineL wSky [(s.bodies.length : Int)] :: s.bodies.map bodyLine) ++ (lineL wNode [s.nnum, s.nden, s.nstart] :: [endL (checkL (tabLines s)), []]) := by simp [tabLines]
    rw [this, List.getD_eq_getElem?_getD, List.getElem?_append_right (by simp)]
    simp
  rw [e3, rowR_line _ wNode _ (by decide) (by simp) (by
    intro n hn
    simp only [List.mem_cons, List.not_mem_nil, or_false] at hn
    rcases hn with rfl | rfl | rfl
    · exact h.num
    · exact h.den
    · exact h.start)]
  unfold stepR
  dsimp only
  rw [if_neg (show ¬ wNode = wBody by decide), if_pos rfl, Option.bind_some, List.take_length]
  simp only [List.getD_cons_zero, List.getD_cons_succ]
  rw [if_neg (by simp)]
/-- Both ways read the same. -/
theorem read_parse (s : Bs) (hl : s.length ≤ 90000) : readR s = parseP s := by
  cases h : readR s with
  | some x =>
    obtain ⟨e, k⟩ := read_some hl h
    exact (by rw [← e]; exact (parse_text x k).symm)
  | none =>
    cases h2 : parseP s with
    | none => rfl
    | some x =>
      obtain ⟨e, k⟩ := parse_some h2
      rw [← e, read_text x k] at h
      cases h
end Go.Proofs.YtlcddcnmoajpjaaGreatDoor
