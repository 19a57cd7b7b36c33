/- Num: The walks of layer 5: Print; sure; the number that a word says.
Num2: The walk of sky.number. (Printed by wip/mknum.py.)
Nums: The walks of layer 5: what strings.Split gives; the numbers of a line.
Mix2: 'x.F = append(x.F, ..)' with x in a box: as Mix, with two first operations (the field's address, its load) that may come up behind the laying of the new element. -/
import Derived.Laws.RangeAny
import Derived.Test.YtlcddcnmoajpjaaGreatDoorV15
import Derived.Test.YtlcddcnmoajpjaaGreatDoorV04
namespace Go.Proofs.YtlcddcnmoajpjaaGreatDoor
open Go.RowKit
open Sp (rd)

theorem skyText_of_ok {s : Sp.Sky} (h : SkyOk s) : SkyText s := by
  have hb : ∀ b ∈ s.bodies, BodyOk b := fun b hb => by
    obtain ⟨k, hk, rfl⟩ := List.mem_iff_getElem.1 hb
    have := h.all k hk
    unfold bd at this
    rwa [List.getD_eq_getElem?_getD, List.getElem?_eq_getElem hk] at this
  refine ⟨⟨by have := h.n4; omega, fun b hm n hn => ?_, ?_, ?_, ?_⟩, by have := h.n4; omega, fun b hm => by have := (hb b hm).len2; omega⟩
  · have k := hb b hm
    simp only [bodyNums, List.cons_append, List.nil_append, List.mem_cons] at hn
    rcases hn with rfl | rfl | rfl | hn
    · exact ⟨by have := k.num1; omega, by have := k.num2; omega⟩
    · exact ⟨by have := k.den1; omega, by have := k.den2; omega⟩
    · exact ⟨by have := k.start1; omega, by have := k.start2; omega⟩
    · have hr := k.road
      unfold Sp.roadOk at hr
      rw [List.all_eq_true] at hr
      have := inR_iff.1 (hr n hn)
      exact ⟨by omega, by omega⟩
  · exact ⟨by have := h.num1; omega, by have := h.num2; omega⟩
  · exact ⟨by have := h.den1; omega, by have := h.den2; omega⟩
  · exact ⟨by have := h.start1; omega, by have := h.start2; omega⟩
theorem roadsIn_of_ok {s : Sp.Sky} (h : SkyOk s) (w : World) (A : Option Addr) : RoadsIn w A s.bodies := fun b o _ k hk hr => by
  have := (h.all k hk).len1
  rw [hr] at this
  simp at this

theorem Print_err (s : Sp.Sky) (A : Option Addr) (c : Nat) (w : World) (hm : Bodies w A s.bodies) (hl : Short s.bodies) (h : Sp.skyOk s = false) :
    Calls Tryz.prog 59 #[.agg #[.slice A s.bodies.length c, .int .i64 s.nnum, .int .i64 s.nden, .int .i64 s.nstart]] w fun e w' => e = .returned (.tuple #[.string ⟨#[]⟩, .int .i64 2]) ∧ Ext w w' := by
  have HL := Lib.hid hl
  have HM := Lib.hid hm
  clear hm hl
  go_enter Tryz.func59, Tryz.ntmps59
  go_wp2_with fail
  refine (isSky_any s A c _ (HM.out.ext ((Ext.refl w).alloc _)) HL.out).mono ?_
  rintro e w1 ⟨rfl, hE1⟩
  have hE := ((Ext.refl w).alloc _).trans hE1
  rw [h]
  go_wp2_with fail
  go_ret2
  exact ⟨rfl, hE⟩
theorem Print_ok (s : Sp.Sky) (A : Option Addr) (c : Nat) (w : World) (hV : Env w) (hm : Bodies w A s.bodies) (hl : Short s.bodies) (h : Sp.skyOk s = true) :
    Calls Tryz.prog 59 #[.agg #[.slice A s.bodies.length c, .int .i64 s.nnum, .int .i64 s.nden, .int .i64 s.nstart]] w fun e w' => e = .returned (.tuple #[.string (bs (textL s)), .int .i64 0]) ∧ Ext w w' := by
  have HL := Lib.hid hl
  have HM := Lib.hid hm
  have HV := Lib.hid hV
  clear hm hl hV
  go_enter Tryz.func59, Tryz.ntmps59
  go_wp2_with fail
  refine (isSky_any s A c _ (HM.out.ext ((Ext.refl w).alloc _)) HL.out).mono ?_
  rintro e w1 ⟨rfl, hE1⟩
  have hE := ((Ext.refl w).alloc _).trans hE1
  have b0 := (Row.ext (blocks1 w _) hE1 : Row w1 w.heap.size 28 _).cell
  rw [h]
  have HK := Lib.hid (skyOk_iff.1 h)
  have HE := Lib.hid hE
  clear hE hE1
  go_wp2_with fail
  refine (text_any s A c _ (HV.out.ext HE.out) (HM.out.ext HE.out) (roadsIn_of_ok HK.out _ _) (skyText_of_ok HK.out)).mono ?_
  rintro e w2 ⟨rfl, hE2⟩
  go_wp2_with fail
  go_ret2
  exact ⟨rfl, HE.out.trans hE2⟩

theorem sure_ok (s : ByteArray) (w : World) : Calls Tryz.prog 165 #[.bool true, .string s] w fun e w' => e = .returned (.tuple #[]) ∧ w = w' := by
  go_enter Tryz.func165, Tryz.ntmps165
  go_wp2
  go_end0
  exact ⟨rfl, rfl⟩
theorem sure_no (s : ByteArray) (w : World) : Calls Tryz.prog 165 #[.bool false, .string s] w fun e w' => e = .panicked [{ v := .iface 137 (.agg #[.string s]), recovered := false }] ∧ w = w' := by
  go_enter Tryz.func165, Tryz.ntmps165
  go_wp2
  exact ⟨rfl, rfl, rfl⟩
end Go.Proofs.YtlcddcnmoajpjaaGreatDoor

namespace Go.Proofs.YtlcddcnmoajpjaaGreatDoor
open Go.RowKit
open Sp (rd)

/-- What reading a number comes to. -/
def NumPost (w : World) (x : Bs) (e : Ending) (w' : World) : Prop := Ext w w' ∧
  ((∃ n, numP x = some n ∧ e = .returned (.int .i64 n)) ∨ (numP x = none ∧ ∃ y, e = .panicked [{ v := .iface 137 (.agg #[.string y]), recovered := false }]))
theorem numP_no {x : Bs} (h : (numDig x).all isDig = false ∨ ¬ (numDig x).length ≤ 5 ∨ numDig x = [] ∨ Lib.itoa (numVal x) ≠ x) : numP x = none := by
  unfold numP numFine
  rw [if_neg]
  intro hf
  simp only [Bool.and_eq_true, decide_eq_true_eq, beq_iff_eq] at hf
  obtain ⟨⟨⟨h1, h2⟩, h3⟩, h4⟩ := hf
  rcases h with h | h | h | h
  · rw [h1] at h; cases h
  · exact h h2
  · rw [h] at h3; cases h3
  · exact h h4
theorem numP_yes {x : Bs} (h1 : (numDig x).all isDig = true) (h2 : (numDig x).length ≤ 5) (h3 : numDig x ≠ []) (h4 : Lib.itoa (numVal x) = x) : numP x = some (numVal x) := by
  unfold numP numFine
  rw [if_pos]
  rw [h1, h4]
  have : (numDig x).isEmpty = false := by simpa using h3
  simp [h2, this]
theorem trim_bs (x : Bs) (w : World) : Calls Tryz.prog 182 #[.string (bs x), .string ⟨#[45]⟩] w fun e w' => e = .returned (.string (bs (numDig x))) ∧ w = w' :=
  (Tryz.strings_TrimPrefix (bs x) ⟨#[45]⟩ w).mono fun _ _ ⟨he, hw⟩ => ⟨he, hw.symm⟩
theorem all_take_succ {l : Bs} {k : Nat} (hk : k < l.length) (h : (l.take k).all isDig = true) (hd : isDig (l.getD k 0) = true) : (l.take (k + 1)).all isDig = true := by
  rw [List.take_succ_eq_append_getElem hk, List.all_append, h]
  rw [List.getD_eq_getElem?_getD, List.getElem?_eq_getElem hk] at hd
  simpa using hd
theorem all_no_at {l : Bs} {k : Nat} (hk : k < l.length) (hd : isDig (l.getD k 0) = false) : l.all isDig = false := by
  refine Bool.eq_false_iff.2 fun h => ?_
  rw [List.all_eq_true] at h
  have := h _ (List.getElem_mem hk)
  rw [List.getD_eq_getElem?_getD, List.getElem?_eq_getElem hk] at hd
  simp only [Option.getD_some] at hd
  rw [this] at hd; cases hd
theorem dec_bs (D : Bs) (pos : Nat) (h : pos < D.length) : ((D.getD pos 0).toNat < 128 → Utf8.decode (bs D) pos = ((D.getD pos 0).toNat, 1)) ∧ (128 ≤ (D.getD pos 0).toNat → 128 ≤ (Utf8.decode (bs D) pos).1) := by
  have hs : pos < (bs D).size := by rw [bs_size]; exact h
  have e := bs_get D pos hs
  constructor
  · intro h1
    have := decode_ascii (bs D) pos hs (by rw [e]; exact h1)
    rw [e] at this
    exact this
  · intro h1
    exact (decode_high (bs D) pos hs (by rw [e]; exact h1)).1
theorem digN_take (l : Bs) (n k : Nat) (h : k ≤ n) : digN (l.take n) k = digN l k := by
  induction k with
  | zero => rfl
  | succ k ih =>
    rw [digN, digN, ih (by omega)]
    congr 3
    rw [List.getD_eq_getElem?_getD, List.getD_eq_getElem?_getD, List.getElem?_take, if_pos (by omega)]
theorem toList_bs (a : Bs) : (bs a).toList = a := Lib.toList_data (bs a)

set_option maxRecDepth 100000 in
set_option maxHeartbeats 1000000 in
theorem number_any (x : Bs) (w : World) (hV : Env w) (hx : x.length ≤ 100000) : Calls Tryz.prog 175 #[.string (bs x)] w (NumPost w x) := by
  have HV := Lib.hid hV
  clear hV
  obtain ⟨D, hD⟩ : ∃ D, numDig x = D := ⟨_, rfl⟩
  have hDl : D.length ≤ x.length := by
    rw [← hD]; unfold numDig Lib.trimPrefix; split
    · rw [List.length_drop]; omega
    · exact Nat.le_refl _
  have HD := Lib.hid hD
  have hsD : (bs D).size = D.length := bs_size D
  have hsx : (bs x).size = x.length := bs_size x
  have hT := trim_bs x w
  rw [hD] at hT
  have HT := Lib.hid hT
  have HVAL : Hid (numVal x = if D.length < x.length then -(digV D : Int) else digV D) := Lib.hid (by unfold numVal; rw [hD])
  clear hD hT
  go_enter Tryz.func175, Tryz.ntmps175
  go_wp2_with fail
  refine HT.out.mono ?_
  rintro e w1 ⟨rfl, rfl⟩
  go_wp2_with fail
  go_loopw [3] (fun v wr => ∃ pos : Nat, pos ≤ D.length ∧ wr = w.iter (bs D) pos ∧ v = .int .i64 ((digN D pos : Nat) : Int) ∧ (D.take pos).all isDig = true ∧ (0 < pos → D.length ≤ 5)) (fun _ wr => D.length - wr.iterPos w.heap.size)
  case atStart => exact ⟨0, Nat.zero_le _, rfl, rfl, by simp, fun h => by omega⟩
  case round =>
    obtain ⟨pos, hp, rfl, rfl, hall, h5⟩ := hrel
    have HALL := Lib.hid hall
    have H5 := Lib.hid h5
    clear hall h5
    by_cases hlt : pos < D.length
    · have hdec := dec_bs D pos hlt
      have hnx : ∀ ty, (Instr.next (.pointer (some ⟨w.heap.size, 0, none⟩)) true ty).run Tryz.prog (w.iter (bs D) pos) = _ := fun ty => run_next_any w (bs D) pos ty (by rw [bs_size]; exact hlt)
      cases hd : isDig (D.getD pos 0)
      · have HNO : Hid (numP x = none) := Lib.hid (numP_no (.inl (by rw [HD.out]; exact all_no_at hlt hd)))
        have hr : ((Utf8.decode (bs D) pos).1 : Int) < 48 ∨ 57 < ((Utf8.decode (bs D) pos).1 : Int) := by
          rcases Nat.lt_or_ge (D.getD pos 0).toNat 128 with h1 | h1
          · rw [hdec.1 h1]
            unfold isDig at hd
            simp only [Bool.and_eq_false_iff, decide_eq_false_iff_not] at hd
            show (((D.getD pos 0).toNat : Nat) : Int) < 48 ∨ _
            omega
          · have := hdec.2 h1; omega
        generalize (Utf8.decode (bs D) pos).1 = r at *
        generalize (Utf8.decode (bs D) pos).2 = wd at *
        clear hdec hd
        rcases hr with hr | hr
        · go_wp2_with fail
          refine (sure_no _ _).mono ?_
          rintro e w1 ⟨rfl, rfl⟩
          exact ⟨rfl, (Ext.refl w).alloc _, .inr ⟨HNO.out, _, rfl⟩⟩
        · have hr2 : (48 : Int) ≤ (r : Int) := by omega
          have hr3 : ¬ ((r : Int) ≤ 57) := by omega
          have hr4 : ¬ ((r : Int) < 48) := by omega
          clear hr
          go_wp2_with fail
          refine (sure_no _ _).mono ?_
          rintro e w1 ⟨rfl, rfl⟩
          exact ⟨rfl, (Ext.refl w).alloc _, .inr ⟨HNO.out, _, rfl⟩⟩
      · have hdd : 48 ≤ (D.getD pos 0).toNat ∧ (D.getD pos 0).toNat ≤ 57 := by
          unfold isDig at hd
          simpa using hd
        rw [hdec.1 (by omega)] at hnx
        have HDIG := Lib.hid hd
        have HSTEP : Hid (digN D (pos + 1) = 10 * digN D pos + ((D.getD pos 0).toNat - 48)) := Lib.hid rfl
        obtain ⟨r, hr⟩ : ∃ r, (D.getD pos 0).toNat = r := ⟨_, rfl⟩
        rw [hr] at hnx hdd HSTEP
        have hr1 : (48 : Int) ≤ (r : Int) := by omega
        have hr2 : (r : Int) ≤ 57 := by omega
        have hr3 : ¬ ((r : Int) < 48) := by omega
        by_cases h5 : D.length ≤ 5
        · have hlt10 := digN_lt (D.take pos) HALL.out pos (by rw [List.length_take]; omega)
          have hpos5 : 10 ^ pos ≤ 10 ^ 5 := Nat.pow_le_pow_right (by omega) (by omega)
          have hdt : digN (D.take pos) pos = digN D pos := digN_take D pos pos (Nat.le_refl _)
          rw [hdt] at hlt10
          have h5' : (D.length : Int) ≤ 5 := by omega
          have hn9 : ((digN D pos : Nat) : Int) ≤ 100000 := by omega
          obtain ⟨n, hn⟩ : ∃ n, digN D pos = n := ⟨_, rfl⟩
          rw [hn] at hn9 HSTEP ⊢
          have HLT := Lib.hid hlt
          have HH5 := Lib.hid h5
          have HDD := Lib.hid hdd
          clear hdec hr hn hlt10 hpos5 hdt hlt hd hdd h5 hp
          go_wp2_with fail
          refine (sure_ok _ _).mono ?_
          rintro e w1 ⟨rfl, rfl⟩
          go_wp2_with fail
          go_roundw
          case rel =>
            refine ⟨pos + 1, HLT.out, rfl, ?_, all_take_succ HLT.out HALL.out HDIG.out, fun _ => HH5.out⟩
            rw [HSTEP.out]
            refine congrArg (Value.int .i64) ?_
            have := HDD.out
            omega
          case measure => have := HLT.out; simp; omega
        · have HNO : Hid (numP x = none) := Lib.hid (numP_no (.inr (.inl (by rw [HD.out]; exact h5))))
          have h5' : ¬ ((D.length : Int) ≤ 5) := by omega
          clear hdec hr hlt hd h5 hdd
          go_wp2_with fail
          refine (sure_no _ _).mono ?_
          rintro e w1 ⟨rfl, rfl⟩
          exact ⟨rfl, (Ext.refl w).alloc _, .inr ⟨HNO.out, _, rfl⟩⟩
    · obtain rfl : pos = D.length := by omega
      have hnx : ∀ ty, (Instr.next (.pointer (some ⟨w.heap.size, 0, none⟩)) true ty).run Tryz.prog (w.iter (bs D) D.length) = _ := fun ty => run_next_end w (bs D) D.length ty (by rw [bs_size]; omega)
      have hall := HALL.out
      rw [List.take_length] at hall
      have hEi : Ext w (w.iter (bs D) D.length) := (Ext.refl w).alloc _
      by_cases hne : D = []
      · have HNO : Hid (numP x = none) := Lib.hid (numP_no (.inr (.inr (.inl (by rw [HD.out]; exact hne)))))
        have e1 : (bs D).toList.isEmpty = true := by rw [toList_bs, hne]; rfl
        have e2 : ((bs D).toList == []) = true := by rw [toList_bs, hne]; rfl
        have e3 : (bs D).toList = [] := by rw [toList_bs, hne]
        clear hlt hp HALL H5 hall hne
        by_cases hlx : D.length < x.length
        all_goals
          go_wp2_with fail
          refine (sure_no _ _).mono ?_
          rintro e w1 ⟨rfl, rfl⟩
          exact ⟨rfl, hEi, .inr ⟨HNO.out, _, rfl⟩⟩
      · have h5 : D.length ≤ 5 := H5.out (List.length_pos_iff.2 hne)
        have hlt10 := digN_lt D hall D.length (Nat.le_refl _)
        have hpos5 : 10 ^ D.length ≤ 10 ^ 5 := Nat.pow_le_pow_right (by omega) h5
        have hn9 : ((digN D D.length : Nat) : Int) ≤ 100000 := by omega
        have hnum : numVal x ≤ 100000 ∧ -100000 ≤ numVal x := by
          rw [HVAL.out]; unfold digV; split <;> omega
        have e1 : (bs D).toList.isEmpty = false := by rw [toList_bs]; simpa using hne
        have e2 : ((bs D).toList == []) = false := by rw [toList_bs]; simpa using hne
        have HNE := Lib.hid hne
        have HA := Lib.hid hall
        have H55 := Lib.hid h5
        have hV2 := HVAL.out
        unfold digV at hV2
        clear hlt hp HALL H5 hall hne hlt10 hpos5 h5
        by_cases hlx : D.length < x.length
        · rw [if_pos hlx] at hV2
          have HV2 := Lib.hid hV2
          obtain ⟨n, hn⟩ : ∃ n, digN D D.length = n := ⟨_, rfl⟩
          rw [hn] at hn9 HV2 ⊢
          have hV3 := HV2.out
          obtain ⟨I, hI⟩ : ∃ I, Lib.itoa (-(n : Int)) = I := ⟨_, rfl⟩
          have HI := Lib.hid hI
          clear hV2 hn hV3 hI
          go_wp2_with fail
          refine (itoa_as _ I _ HI.out (HV.out.ext hEi) (by omega) (by omega)).mono ?_
          rintro e w1 ⟨rfl, hE1⟩
          have HE1 := Lib.hid (hEi.trans hE1)
          clear hE1
          by_cases hIx : I = x
          · have hq : ((bs I).toList == (bs x).toList) = true := by rw [hIx]; simp
            have HYES : Hid (numP x = some (-(n : Int))) := Lib.hid (by
              rw [numP_yes (by rw [HD.out]; exact HA.out) (by rw [HD.out]; exact H55.out) (by rw [HD.out]; exact HNE.out) (by rw [HV2.out, HI.out]; exact hIx), HV2.out])
            clear hIx
            go_wp2_with fail
            refine (sure_ok _ _).mono ?_
            rintro e w2 ⟨rfl, rfl⟩
            go_wp2_with fail
            go_ret
            exact ⟨HE1.out, .inl ⟨_, HYES.out, rfl⟩⟩
          · have hq : ((bs I).toList == (bs x).toList) = false := by rw [toList_bs, toList_bs]; simpa using hIx
            have HNO : Hid (numP x = none) := Lib.hid (numP_no (.inr (.inr (.inr (by rw [HV2.out, HI.out]; exact hIx)))))
            clear hIx
            go_wp2_with fail
            refine (sure_no _ _).mono ?_
            rintro e w2 ⟨rfl, rfl⟩
            exact ⟨rfl, HE1.out, .inr ⟨HNO.out, _, rfl⟩⟩
        · rw [if_neg hlx] at hV2
          have HV2 := Lib.hid hV2
          obtain ⟨n, hn⟩ : ∃ n, digN D D.length = n := ⟨_, rfl⟩
          rw [hn] at hn9 HV2 ⊢
          have hV3 := HV2.out
          obtain ⟨I, hI⟩ : ∃ I, Lib.itoa ((n : Int)) = I := ⟨_, rfl⟩
          have HI := Lib.hid hI
          clear hV2 hn hV3 hI
          go_wp2_with fail
          refine (itoa_as _ I _ HI.out (HV.out.ext hEi) (by omega) (by omega)).mono ?_
          rintro e w1 ⟨rfl, hE1⟩
          have HE1 := Lib.hid (hEi.trans hE1)
          clear hE1
          by_cases hIx : I = x
          · have hq : ((bs I).toList == (bs x).toList) = true := by rw [hIx]; simp
            have HYES : Hid (numP x = some ((n : Int))) := Lib.hid (by
              rw [numP_yes (by rw [HD.out]; exact HA.out) (by rw [HD.out]; exact H55.out) (by rw [HD.out]; exact HNE.out) (by rw [HV2.out, HI.out]; exact hIx), HV2.out])
            clear hIx
            go_wp2_with fail
            refine (sure_ok _ _).mono ?_
            rintro e w2 ⟨rfl, rfl⟩
            go_wp2_with fail
            go_ret
            exact ⟨HE1.out, .inl ⟨_, HYES.out, rfl⟩⟩
          · have hq : ((bs I).toList == (bs x).toList) = false := by rw [toList_bs, toList_bs]; simpa using hIx
            have HNO : Hid (numP x = none) := Lib.hid (numP_no (.inr (.inr (.inr (by rw [HV2.out, HI.out]; exact hIx)))))
            clear hIx
            go_wp2_with fail
            refine (sure_no _ _).mono ?_
            rintro e w2 ⟨rfl, rfl⟩
            exact ⟨rfl, HE1.out, .inr ⟨HNO.out, _, rfl⟩⟩
end Go.Proofs.YtlcddcnmoajpjaaGreatDoor

namespace Go.Proofs.YtlcddcnmoajpjaaGreatDoor
open Go.RowKit
open Sp (rd)

theorem of_data {l : List ByteArray} {m : List Bs} (h : l.map (·.data.toList) = m) : l = m.map bs := by
  subst h
  rw [List.map_map]
  exact (List.map_id l).symm
theorem split_any (c : UInt8) (x : Bs) (w : World) (hV : Env w) (hx : x.length ≤ 100000) :
    Calls Tryz.prog 163 #[.string (bs x), .string ⟨#[c]⟩] w fun e w' => e = .returned (.slice (some ⟨w.heap.size, 0, none⟩) (sp1 c x).length (sp1 c x).length) ∧ w' = w.alloc (.cells (strCells1 (sp1 c x)).toArray 9) := by
  obtain ⟨m, hm⟩ := hV.max
  have hn : Lib.countB (bs x) ⟨#[c]⟩ + 1 = (sp1 c x).length := by
    rw [sp1_length]
    show Lib.count x [c] + 1 = _
    rw [Lib.count_one]
  have hl : Lib.splitB ⟨#[c]⟩ 0 (Lib.countB (bs x) ⟨#[c]⟩) (bs x) = (sp1 c x).map bs := by
    refine of_data ?_
    rw [Lib.splitB_data]
    exact splitK_sp1 c x
  have := Tryz.strings_Split (bs x) ⟨#[c]⟩ m w (by rw [bs_size]; omega) hm (by simp [ByteArray.size])
  rw [hn, hl] at this
  rw [List.map_map] at this
  exact this

theorem sp1_le (c : UInt8) (x : Bs) : ∀ y ∈ sp1 c x, y.length ≤ x.length := by
  induction x with
  | nil => simp [sp1]
  | cons b x ih =>
    intro y hy
    unfold sp1 at hy
    split at hy
    · rcases List.mem_cons.1 hy with rfl | hy
      · simp
      · have := ih y hy; simp; omega
    · rcases List.mem_cons.1 hy with rfl | hy
      · have hne := sp1_ne c x
        cases hs : sp1 c x with
        | nil => exact absurd hs hne
        | cons a t =>
          have := ih a (by rw [hs]; simp)
          simpa using this
      · have := ih y (List.mem_of_mem_tail hy); simp; omega
theorem numsP_yes {name : Bs} {least : Nat} {x H : Bs} {T : List Bs} (hs : sp1 32 x = H :: T) (h1 : H = name) (h2 : least < T.length + 1) : numsP name least x = T.mapM numP := by
  unfold numsP
  rw [hs, if_pos ⟨h1, h2⟩]
  rfl
theorem numsP_no {name : Bs} {least : Nat} {x H : Bs} {T : List Bs} (hs : sp1 32 x = H :: T) (h : ¬ (H = name ∧ least < T.length + 1)) : numsP name least x = none := by
  unfold numsP
  rw [hs]
  exact if_neg h
/-- What reading the numbers of a line comes to. -/
def NumsPost (w : World) (name : Bs) (least : Nat) (x : Bs) (e : Ending) (w' : World) : Prop := Ext w w' ∧
  ((∃ l g cap, numsP name least x = some l ∧ e = .returned (.slice (some ⟨g, 0, none⟩) l.length cap) ∧ l.length ≤ cap ∧ w.heap.size ≤ g ∧ Ints w' (some ⟨g, 0, none⟩) l) ∨
   (numsP name least x = none ∧ ∃ y, e = .panicked [{ v := .iface 137 (.agg #[.string y]), recovered := false }]))
def NumsRel (w : World) (T : List Bs) (v i : Value) (wr : World) : Prop :=
  ∃ (k : Nat) (r : List Int), k ≤ T.length ∧ i = .int .i64 k ∧ (T.take k).mapM numP = some r ∧ r.length = k ∧ wr.ownsRow w.heap.size 3 1 v r.length (intCells r) ∧ Ext w wr

set_option maxRecDepth 100000 in
set_option maxHeartbeats 1000000 in
theorem numbers_any (name : Bs) (least : Nat) (x : Bs) (w : World) (hV : Env w) (hx : x.length ≤ 100000) (h1 : 1 ≤ least) (h3 : least ≤ 3) :
    Calls Tryz.prog 164 #[.string (bs x), .string (bs name), .int .i64 (least : Int)] w (NumsPost w name least x) := by
  have HV := Lib.hid hV
  clear hV
  go_enter Tryz.func164, Tryz.ntmps164
  go_wp2_with fail
  refine (split_any 32 x w HV.out hx).mono ?_
  rintro e w1 ⟨rfl, rfl⟩
  have hlx := sp1_length 32 x
  have hcx : x.count 32 ≤ x.length := List.count_le_length
  have hrow : Row (w.alloc (.cells (strCells1 (sp1 32 x)).toArray 9)) w.heap.size 9 (strCells1 (sp1 32 x)).toArray := Row.new w _ _
  have hsub : ∀ y ∈ sp1 32 x, y.length ≤ 100000 := fun y hy => by
    have := sp1_le 32 x y hy; omega
  obtain ⟨L, hL⟩ : ∃ L, sp1 32 x = L := ⟨_, rfl⟩
  have HLQ := Lib.hid hL
  rw [hL] at hlx hrow hsub ⊢
  have hL1 : 1 ≤ L.length := by omega
  have hL2 : L.length ≤ 100001 := by omega
  have HR := Lib.hid hrow
  have HSUB := Lib.hid hsub
  clear hL hlx hcx hrow hsub
  cases L with
  | nil => simp at hL1
  | cons H T =>
    have c0 : (w.alloc (.cells (strCells1 (H :: T)).toArray 9)).cell? ⟨w.heap.size, 0, none⟩ = some (.string (bs H)) := HR.out.cell 0
    have hE1 : Ext w (w.alloc (.cells (strCells1 (H :: T)).toArray 9)) := (Ext.refl w).alloc _
    generalize w.alloc (.cells (strCells1 (H :: T)).toArray 9) = w1 at *
    simp only [List.length_cons] at hL1 hL2 ⊢
    have i0 : (0 : Int) < ((T.length + 1 : Nat) : Int) := by omega
    have hsz1 := hE1.size
    by_cases hH : H = name
    · have q1 : ((bs H).toList == (bs name).toList) = true := by rw [hH]; simp
      by_cases hlen : least < T.length + 1
      · have HP : Hid (numsP name least x = T.mapM numP) := Lib.hid (numsP_yes HLQ.out hH hlen)
        have hlen' : (least : Int) < (T.length : Int) + 1 := by omega
        have hT1 : 1 ≤ T.length := by omega
        have HLE := Lib.hid hlen
        clear hH hlen
        go_wp2_with fail
        refine (sure_ok _ _).mono ?_
        rintro e w2 ⟨rfl, rfl⟩
        clear c0 q1
        have hTne : ¬ T = [] := by rintro rfl; simp at hT1
        obtain ⟨i0', hi0, hz0, hz1, hz2⟩ := info_parts info_int
        go_wp2_with fail
        go_loopw [8, 30] (fun v i wr => NumsRel w1 T v i wr) (fun _ i _ => T.length - (intOf i).toNat)
        case atStart => exact ⟨0, [], Nat.zero_le _, rfl, rfl, rfl, World.ownsRow_nil _ _ _ _, Ext.refl _⟩
        case round =>
          obtain ⟨k, r, hk, rfl, hmap, hrl, hown, hX⟩ := hrel
          have hszX := hX.size
          by_cases hlt : k < T.length
          · have hc1 : wr.cell? ⟨w.heap.size, 1 + k, none⟩ = some (.string (bs (T.getD k []))) := by
              have := (HR.out.ext hX).cell (1 + k)
              rw [this]
              simp [strCells1, Nat.add_comm 1 k, hlt]
            have hyl := HSUB.out (T.getD k []) (by rw [List.getD_eq_getElem?_getD, List.getElem?_eq_getElem hlt]; exact List.mem_cons_of_mem _ (List.getElem_mem hlt))
            have HMAP := Lib.hid hmap
            have HRL := Lib.hid hrl
            have hrl9 : r.length ≤ 100001 := by omega
            have HX := Lib.hid hX
            have HOW := Lib.hid hown
            have HLT := Lib.hid hlt
            obtain ⟨y, hy⟩ : ∃ y, T.getD k [] = y := ⟨_, rfl⟩
            have HY := Lib.hid hy
            rw [hy] at hc1 hyl
            have hlt' : (k : Int) < (T.length : Int) := by omega
            clear hmap hrl hX hown hy
            go_wp2_with fail
            refine (number_any y wr (HV.out.ext (hE1.trans HX.out)) hyl).mono ?_
            rintro e w3 ⟨hE3, ⟨n, hn, rfl⟩ | ⟨hn, z, rfl⟩⟩
            · have HNN : Hid ((T.take (k + 1)).mapM numP = some (r ++ [n])) := Lib.hid (mapM_take_succ (d := []) k hlt HMAP.out (by rw [HY.out]; exact hn))
              have hown3 := ownsRow_of_block HOW.out (fun q hq' => hE3.block q (HOW.out.lt q hq').2)
              have hsz3 := hE3.size
              have HX3 := Lib.hid (HX.out.trans hE3)
              clear hn hE3 hc1
              go_wp2_with (at_builtin; refine wpList_append_own_at _ rfl _ _ 64 rfl w1.heap.size 3 i0' _ 1 8 Tryz.underlying64 hi0 hz0 hz1 hz2 rfl (by decide) _ r.length (intCells r) rfl (hown3.alloc (.cells #[.int .i64 n] 3)) ⟨w3.heap.size, 0, none⟩ 1 1 [.int .i64 n] rfl rfl (World.news_of_block (cs := #[.int .i64 n]) (t := 3) (fr := (0, 0)) (heap_alloc_new _ _)) (by simp [Value.oneCell']) (by simp only [maxLen]; omega) (by omega) (by simp; omega) ?_; intro v' w4 hown5 hgrow _ _; have HO5 := Lib.hid hown5; have HG5 := Lib.hid hgrow; clear hown5 hgrow)
              go_roundw
              case measure => simp [intOf]; omega
              case rel =>
                refine ⟨k + 1, r ++ [n], by omega, by go_num, HNN.out, by rw [List.length_append, HRL.out]; rfl, ?_, (HX3.out.alloc _).grown HG5.out (fun q hq' => (hown3.lt q hq').1)⟩
                simpa [intCells] using HO5.out
            · have HNO : Hid (numsP name least x = none) := Lib.hid (by rw [HP.out]; exact mapM_none_at (d := []) k hlt (by rw [HY.out]; exact hn))
              exact ⟨rfl, hE1.trans (HX.out.trans hE3), .inr ⟨HNO.out, _, rfl⟩⟩
          · obtain rfl : k = T.length := by omega
            rw [List.take_length] at hmap
            have HQ : Hid (numsP name least x = some r) := Lib.hid (by rw [HP.out, hmap])
            have HX := Lib.hid (hE1.trans hX)
            have hI := IntsVal.of_own hown
            rcases hown.2 with ⟨rfl, h0⟩ | ⟨g, cap, cur, rfl, hg, _, hncap, _⟩
            · omega
            · obtain ⟨A2, c2, hA, hI2⟩ := hI
              injection hA with hA1 hA2 hA3
              subst hA1
              have HI2 := Lib.hid hI2
              have HF := Lib.hid (And.intro hg hncap)
              clear hown hmap hX hI2 hrl hg hncap hA2 hA3 hlt hk
              go_wp2_with fail
              go_ret
              exact ⟨HX.out, .inl ⟨r, g, cap, HQ.out, rfl, HF.out.2, by have := HF.out.1; omega, HI2.out⟩⟩
      · have HNO : Hid (numsP name least x = none) := Lib.hid (numsP_no HLQ.out (fun h => hlen h.2))
        have hlen' : ¬ ((least : Int) < (T.length : Int) + 1) := by omega
        clear hH hlen
        go_wp2_with fail
        refine (sure_no _ _).mono ?_
        rintro e w2 ⟨rfl, rfl⟩
        exact ⟨rfl, hE1, .inr ⟨HNO.out, _, rfl⟩⟩
    · have q1 : ((bs H).toList == (bs name).toList) = false := by rw [toList_bs, toList_bs]; simpa using hH
      have HNO : Hid (numsP name least x = none) := Lib.hid (numsP_no HLQ.out (fun h => hH h.1))
      clear hH
      go_wp2_with fail
      refine (sure_no _ _).mono ?_
      rintro e w2 ⟨rfl, rfl⟩
      exact ⟨rfl, hE1, .inr ⟨HNO.out, _, rfl⟩⟩
end Go.Proofs.YtlcddcnmoajpjaaGreatDoor

namespace Go.Proofs.YtlcddcnmoajpjaaGreatDoor
open Go.RowKit

section
variable {P : Program} {C : World → Prop} {Q : Exit → Act → World → Prop}

def mixB2 (ops : Array Oper) (m : Nat) : Bool :=
  Region.noSelect ops && decide (1 < m) && decide (m + 1 < ops.size) && Region.sinkB .any ops (m + 1) && Region.chainB .any ops (m + 1) && sinkFrom .any ops 2 m && Region.chainB .any ops m &&
    (Region.ready .any ops (Array.replicate ops.size false)).contains 0 && Region.free .any ops (Array.replicate ops.size false) 0 &&
    (Region.ready .any ops ((Array.replicate ops.size false).setIfInBounds 0 true)).contains 1 && Region.free .any ops ((Array.replicate ops.size false).setIfInBounds 0 true) 1 &&
    Region.lexHead .any ops (ops.size - m) (m - 2) 2 (((Array.replicate ops.size false).setIfInBounds 0 true).setIfInBounds 1 true)

theorem any_mix2 {a : Act} {w : World} {o0 o1 om : Oper} {v0 v1 : Value} {l : List Oper} (m : Nat) (hB : mixB2 l.toArray m = true)
    (h0 : l[0]? = some o0) (h1 : l[1]? = some o1) (hom : l[m]? = some om) (hC : C { w with drawn := w.drawn + 1 }) (hy0 : YieldsIf P l.toArray C o0 v0 a) (hy1 : YieldsIf P l.toArray C o1 v1 (a.put o0.dst v0))
    (h : wpQuiet P l.toArray C (fun a' => ∀ w', C w' → wpList P l.toArray (midPost P l.toArray Q C (l.drop (m + 1))) [om] a' w') ((l.take m).drop 2) ((a.put o0.dst v0).put o1.dst v1)) :
    wpAny P .any l.toArray (NoPanic Q) l.toArray.size (Array.replicate l.toArray.size false) a { w with drawn := w.drawn + 1 } := by
  simp only [mixB2, Bool.and_eq_true, decide_eq_true_eq] at hB
  obtain ⟨⟨⟨⟨⟨⟨⟨⟨⟨⟨⟨hsel, hm0⟩, hn⟩, hs⟩, hc⟩, hs'⟩, hc'⟩, hr⟩, hf⟩, hr1⟩, hf1⟩, hlex⟩ := hB
  have hn' : m + 1 < l.length := by simpa using hn
  have hr' : 0 ∈ Region.ready .any l.toArray (Array.replicate l.toArray.size false) := by simpa using hr
  have hr1' : 1 ∈ Region.ready .any l.toArray ((Array.replicate l.toArray.size false).setIfInBounds 0 true) := by simpa using hr1
  have inv0 : ∀ n, HeadInv .any l.toArray n (Array.replicate l.toArray.size false) := fun n =>
    ⟨by simp, fun j oj _ hl => (by rw [getD_replicate_false] at hl; cases hl), fun t _ ht => getD_in (by simpa using ht) (getD_replicate_false _ _)⟩
  have inv1 : ∀ n, 0 < n → HeadInv .any l.toArray n ((Array.replicate l.toArray.size false).setIfInBounds 0 true) := fun n hn => (inv0 n).set hr' hn
  have inv2 : HeadFrom .any l.toArray 2 m (((Array.replicate l.toArray.size false).setIfInBounds 0 true).setIfInBounds 1 true) :=
    ⟨(inv1 m (by omega)).set hr1' hm0, fun i hi => by
      rcases (show i = 0 ∨ i = 1 by omega) with rfl | rfl
      · rw [getD_set_ne true (by omega)]
        simp [show 0 < l.length by omega]
      · simp [show 1 < l.length by omega]⟩
  have hlen : ((l.take m).drop 2).length = m - 2 := by simp; omega
  have hfin : ∀ listed a' w', C w' → (Region.seqB .any l.toArray (l.toArray.size - m) m listed = true ∧ ∀ w', C w' → wpList P l.toArray (midPost P l.toArray Q C (l.drop (m + 1))) [om] a' w') →
      midH P .any l.toArray (NoPanic Q) C (m + 1) (fun listed' a'' w'' => Region.seqB .any l.toArray (l.toArray.size - (m + 1)) (m + 1) listed' = true ∧ wpList P l.toArray (NoPanic Q) (l.drop (m + 1)) a'' w'') 1 listed a' w' := by
    intro listed a' w' hw' ⟨hseq, hK⟩
    rw [show l.toArray.size - m = (l.toArray.size - (m + 1)) + 1 by simp; omega] at hseq
    simp only [Region.seqB, Bool.and_eq_true, decide_eq_true_eq] at hseq
    refine ⟨by rw [hseq.1]; simp, fun i hi => ?_⟩
    rw [hseq.1] at hi
    obtain rfl : i = m := by simpa using hi
    refine ⟨by omega, wpOp_mono (fun a'' w'' hh => ⟨hh.1, hseq.2, hh.2⟩) (wp_single (by simpa using hom) (hK w' hw'))⟩
  have H1 := headQ_lex_from (md := .any) (g := l.toArray.size - m) hsel hs' hc' (by simp; omega) ((l.take m).drop 2) 2 _ ((a.put o0.dst v0).put o1.dst v1) (fun j hj => by
    rw [hlen] at hj
    simp [show j + 2 < m by omega, Nat.add_comm 2 j]) (by rw [hlen]; omega) inv2 (by rw [hlen]; exact hlex) h
  have H2 := midH_of_headQ (md := .any) (Q := NoPanic Q) (n := m) (m := m + 1) (by omega) hfin _ _ _ _ hC H1
  rw [hlen, show m - 2 + 1 = m - 1 by omega] at H2
  have H3 := midH_first (md := .any) (Q := NoPanic Q) (n := m + 1) (i := 1) (by simpa using h1) (Region.noSelect_spec hsel) hs hc (by simpa using hn') (by omega) (fun c a w hh => hh)
    (fun listed a' w' hL => seqB_ready hL.1) (m - 1) _ (a.put o0.dst v0) _ (inv1 _ (by omega)) (Region.free_spec (by simpa using h1) hf1) hr1' hy1 hC H2
  rw [show m - 1 + 1 = m by omega] at H3
  have H3' := midH_first (md := .any) (Q := NoPanic Q) (n := m + 1) (i := 0) (by simpa using h0) (Region.noSelect_spec hsel) hs hc (by simpa using hn') (by omega) (fun c a w hh => hh)
    (fun listed a' w' hL => seqB_ready hL.1) m _ a _ (inv0 _) (Region.free_spec (by simpa using h0) hf) hr' hy0 hC H3
  have H4 := any_of_midH (g := l.toArray.size - (m + 1)) (fun listed a' w' hL => by
    have := wpAny_of_seq (md := .any) (Q' := NoPanic Q) (l.drop (m + 1)) (m + 1) listed a' w' (fun j => by simp [List.getElem?_drop]) (by rw [List.length_drop]; simpa using hL.1) hL.2
    rw [List.length_drop] at this
    simpa using this) _ _ _ _ H3'
  rw [show m + 1 + (l.toArray.size - (m + 1)) = l.toArray.size by simp; omega] at H4
  exact H4

/-- The class: the later worlds. The world gets a name. -/
theorem wp_region_later_mix2 {w : World} {id : Nat} {a : Act} {o0 o1 om : Oper} {v0 v1 : Value} {l : List Oper} (m : Nat) (hm : P.follows .mixedOrders = true) (hB : mixB2 l.toArray m = true)
    (h0 : l[0]? = some o0) (h1 : l[1]? = some o1) (hom : l[m]? = some om) (hw0 : Region.wanted o0 (yielded l.toArray a.tmps) = true) (hw1 : Region.wanted o1 (yielded l.toArray (a.put o0.dst v0).tmps) = true)
    (hy0 : ∀ x : Later w, (execOp a.eval o0).run P x.world = .ok (.value v0) x.world) (hy1 : ∀ x : Later w, (execOp (a.put o0.dst v0).eval o1).run P x.world = .ok (.value v1) x.world)
    (h : ∀ W, W = w → wpQuiet P l.toArray (fun w' => ∃ x : Later W, w' = x.world) (fun a' => ∀ x : Later W, wpList P l.toArray (midPost P l.toArray Q (fun w' => ∃ x : Later W, w' = x.world) (l.drop (m + 1))) [om] a' x.world) ((l.take m).drop 2) ((a.put o0.dst v0).put o1.dst v1)) :
    (Code.region id l.toArray true).wp P Q a w :=
  wp_region_noPanic (wp_region_any hm (any_mix2 (C := fun w' => ∃ x : Later w, w' = x.world) m hB h0 h1 hom ⟨⟨w.drew, (Ext.refl w).drew⟩, rfl⟩ (.inl ⟨hw0, by rintro _ ⟨x, rfl⟩; exact hy0 x⟩) (.inl ⟨hw1, by rintro _ ⟨x, rfl⟩; exact hy1 x⟩) (by
    have := h w rfl
    simpa using this)))
end
end Go.Proofs.YtlcddcnmoajpjaaGreatDoor
