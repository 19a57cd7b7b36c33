/- Volume 11 of the texts that the laws of this seat use: EcRead EcIsList EcRead2 EcRefS EcR7Text EcRPrint EcR7Read EcRef1 EcR7List: walks of the program's functions, and plain laws. -/
import Derived.Carry
import Derived.BigQuiet
import Derived.Laws.StructEq
import Derived.Laws.IdiomStrings
import Derived.Test.YtfkcbgehcbhjnaaGreatDoorH01
import Derived.Test.YtfkcbgehcbhjnaaGreatDoorH02
import Derived.Test.YtfkcbgehcbhjnaaGreatDoorH03
import Derived.Test.YtfkcbgehcbhjnaaGreatDoorH04
import Derived.Test.YtfkcbgehcbhjnaaGreatDoorH10
namespace Go.Proofs.YtfkcbgehcbhjnaaGreatDoor
open Go.RowKit
open Sp (rd)
open Ec (wEcl wNew wFull eWord eLine tabE checkE textE numE numFineE parseE midE eclP EclNum)
set_option maxRecDepth 100000
set_option maxHeartbeats 1000000
theorem e_isList_one (A : Option Addr) (c : Nat) (d f : Int) (b : Bool) (w : World) (hm : EclAt w A [⟨d, b, f⟩]) (h1 : 1 ≤ d ∧ d ≤ 20000) (h2 : 0 ≤ f ∧ f ≤ 5400) :
  Calls Tryz.prog 44 #[.slice A 1 c] w fun e w' => e = .returned (.bool true) ∧ Ext w w' := by
 obtain ⟨b0, o, rfl, hk⟩ := hm (by simp)
 obtain ⟨q1, q2, q3⟩ := hk 0 (by simp)
 simp only [Nat.zero_mul, Nat.add_zero, List.getElem_cons_zero] at q1 q2 q3
 have HQ := Lib.hid (And.intro q1 (And.intro q2 q3))
 clear hk hm q1 q2 q3
 go_enter Tryz.func44, Tryz.ntmps44
 go_wp2_with fail
 go_loopw [7] (fun i wr => (i = .int .i64 0 ∨ i = .int .i64 1) ∧ Ext w wr) (fun i _ => 1 - (intOf i).toNat)
 case atStart => exact ⟨.inl rfl, Ext.refl _⟩
 case round =>
  obtain ⟨rfl | rfl, hE⟩ := hrel
  ·obtain ⟨q1, q2, q3⟩ := HQ.out
   replace q1 := hE.cell q1
   replace q2 := hE.cell q2
   replace q3 := hE.cell q3
   have HE := Lib.hid hE
   have z1 := lts (lt_of_cell q1)
   simp only at z1
   clear hE
   have c1 : Sp.inR d 1 20000 = true := inR_iff.2 h1
   have c2 : Sp.isLimit f = true := inR_iff.2 h2
   go_wp2_with fail
   refine (e_in_any _ _ _ _).mono ?_
   rintro e w1 ⟨rfl, rfl⟩
   rw [c1]
   go_wp2_with fail
   refine (e_isLimit_any _ _).mono ?_
   rintro e w1 ⟨rfl, rfl⟩
   rw [c2]
   go_wp2_with fail
   clear q1 q2 q3
   go_quiet (fail)
   go_wp2
   go_roundw
   case rel => exact ⟨.inr rfl, (HE.out.alloc _).drewN _⟩
   case measure => simp [intOf]
  ·have HE := Lib.hid hE
   clear hE
   go_wp2_with fail
   go_ret
   exact ⟨rfl, HE.out⟩
theorem e_catch_idle (p q : Value) (w : World) :
  CallsD Tryz.prog 48 #[p, q] .returning w fun e u' w' => e = .returned (.tuple #[]) ∧ u' = .returning ∧ w' = w := by
 refine callsD_of_wpS Tryz.func48 rfl fun c₀ cs hu => ?_
 have he : ∀ w, (binOp .eql 20 .nilIface .nilIface).run Tryz.prog w = .ok (.bool true) w := fun _ => by kernel_rfl
 simp only [Tryz.ntmps48, List.size_toArray, List.length_cons, List.length_nil, Nat.reduceAdd, Nat.reduceSub, Array.replicate_succ, Array.replicate_zero, List.push_toArray, List.append_toArray, List.nil_append, List.cons_append]
 apply wpS_seq
 apply wpS_region
 simp [wpOpsS, go_sem, recoverD, hu, Exit.thenS]
 refine wpS_of_wp ?_
 generalize hQ : (fun (e : Exit) (a' : Act) (w' : World) => bodyPostS Tryz.prog Tryz.f48 c₀ cs _ e a' _ w') = Q
 go_wp2
 subst hQ
 cases c₀
 simp_all [bodyPostS, results, Tryz.results48]
theorem cell_keep {W : World} {g b i : Nat} {u : Value} (hb : b ≠ g) : (W.setCell ⟨g, 0, none⟩ u).cell? ⟨b, i, none⟩ = W.cell? ⟨b, i, none⟩ := World.cell?_setCell_other _ _ _ _ (fun h => hb (congrArg Addr.block h).symm)
theorem EclAt.far {W : World} {A : Option Addr} {l : List Sp.Ecl} (h : EclAt W A l) {g : Nat} {t : TypeId} {v : Value} (hr : Row W g t #[v]) (u : Value) : EclAt (W.setCell ⟨g, 0, none⟩ u) A l := fun h0 =>
 let ⟨b, o, e, hk⟩ := h h0
 have hb : b ≠ g := by
  rintro rfl
  have h1 := (hk 0 h0).2.1
  rw [hr.cell] at h1
  simp at h1
 have keep : ∀ (i : Nat) (x : Value), W.cell? ⟨b, i, none⟩ = some x → (W.setCell ⟨g, 0, none⟩ u).cell? ⟨b, i, none⟩ = some x := fun i x hx => by
  exact (cell_keep hb).trans hx
 ⟨b, o, e, fun k hk' => ⟨keep _ _ (hk k hk').1, keep _ _ (hk k hk').2.1, keep _ _ (hk k hk').2.2⟩⟩
theorem e_read_results (tmps : Array Value) (W : World) (p q : Nat) (x0 : Value) (code : Int) (h2 : tmps.getD 2 undef = .pointer (some ⟨p, 0, none⟩)) (h3 : tmps.getD 3 undef = .pointer (some ⟨q, 0, none⟩)) (hr : Row W p 22 #[x0])
  (he : Row W q 24 #[.int .i64 code]) : (results Tryz.f13 tmps).run Tryz.prog W = .ok (.tuple #[x0, .int .i64 code]) W := by
 have h2' : tmps[2]?.getD undef = .pointer (some ⟨p, 0, none⟩) := by simpa using h2
 have h3' : tmps[3]?.getD undef = .pointer (some ⟨q, 0, none⟩) := by simpa using h3
 have c0 : W.cell? ⟨q, 0, none⟩ = some (.int .i64 code) := he.cell 0
 have r0 : W.cell? ⟨p, 0, none⟩ = some x0 := hr.cell 0
 simp [results, Tryz.results13, h2', h3', asAddr, go_sem, c0, r0]
theorem e_Read_ok (x : Bs) (l : List Sp.Ecl) (w : World) (hV : Env w) (hx : x.length ≤ 400) (hp : parseE x = some l)
  (hL : ∀ A c W, EclAt W A l → Calls Tryz.prog 44 #[.slice A l.length c] W fun e w' => e = .returned (.bool true) ∧ Ext W w') :
  Calls Tryz.prog 13 #[.string (bs x)] w fun e w' => ∃ v, e = .returned (.tuple #[v, .int .i64 0]) ∧ EclVal w' v l ∧ Ext w w' := by
 have HV := Lib.hid hV
 have HP := Lib.hid hp
 have HL := Lib.hid hL
 have hsx := bs_size x
 have hmf : ∀ (fn : Fn) (first cap : Array Value) (w : World), (Instr.makeFunc fn first cap).run Tryz.prog w = .ok (.func fn first cap) w := fun _ _ _ _ => rfl
 clear hV hp hL
 have HE0 : Hid (Ext w ((w.alloc (.cells #[.slice none 0 0] 22)).alloc (.cells #[.int .i64 0] 24))) := Lib.hid (((Ext.refl w).alloc _).alloc _)
 have HRO : Hid (Row ((w.alloc (.cells #[.slice none 0 0] 22)).alloc (.cells #[.int .i64 0] 24)) w.heap.size 22 #[.slice none 0 0]) := Lib.hid (blocks2 w _ _).1
 have HRE : Hid (Row ((w.alloc (.cells #[.slice none 0 0] 22)).alloc (.cells #[.int .i64 0] 24)) (w.heap.size + 1) 24 #[.int .i64 0]) := Lib.hid (blocks2 w _ _).2
 have hlen' : ¬ ((400 : Int) < (x.length : Int)) := by omega
 go_enter_defers Tryz.func13, Tryz.ntmps13
 go_wp2_with fail
 refine (e_parsed_ok x l _ (HV.out.ext HE0.out) (by omega) HP.out).mono ?_
 rintro e W1 ⟨v, rfl, hv, hE1⟩
 have HO1 := Lib.hid (HRO.out.ext hE1)
 have HR1 := Lib.hid (HRE.out.ext hE1)
 have HE1 := Lib.hid (HE0.out.trans hE1)
 have r0 : W1.cell? ⟨w.heap.size, 0, none⟩ = some (.slice none 0 0) := HO1.out.cell 0
 have f0 := HO1.out.free 0
 obtain ⟨A, c, rfl, hA⟩ := hv
 have HA1 := Lib.hid (show EclAt W1 A l from hA)
 clear hE1 hA
 go_wp2_with fail
 have HO2 : Hid (Row (W1.setCell ⟨w.heap.size, 0, none⟩ (.slice A l.length c)) w.heap.size 22 #[.slice A l.length c]) := Lib.hid (by simpa using HO1.out.set_ 0 (.slice A l.length c))
 have HR2 := Lib.hid (HR1.out.far (p := ⟨w.heap.size, 0, none⟩) (by simp) (.slice A l.length c))
 have HE2 := Lib.hid (HE1.out.setCell (p := ⟨w.heap.size, 0, none⟩) (Nat.le_refl _) (.slice A l.length c))
 have HA2 := Lib.hid (EclAt.far HA1.out HO1.out (.slice A l.length c))
 obtain ⟨W2, hW2⟩ : ∃ W2, W1.setCell ⟨w.heap.size, 0, none⟩ (.slice A l.length c) = W2 := ⟨_, rfl⟩
 rw [hW2] at HO2 HR2 HE2 HA2 ⊢
 clear hW2 r0 f0
 refine (HL.out A c W2 HA2.out).mono ?_
 rintro e W3 ⟨rfl, hE3⟩
 have HO3 := Lib.hid (HO2.out.ext hE3)
 have HR3 := Lib.hid (HR2.out.ext hE3)
 have HE3 := Lib.hid (HE2.out.trans hE3)
 have HA3 := Lib.hid (HA2.out.ext hE3)
 have r0 : W3.cell? ⟨w.heap.size, 0, none⟩ = some (.slice A l.length c) := HO3.out.cell 0
 have f0 := HO3.out.free 0
 have e0 : W3.cell? ⟨w.heap.size + 1, 0, none⟩ = some (.int .i64 0) := HR3.out.cell 0
 have k0 := HR3.out.free 0
 clear hE3
 have HO5 : Hid (Row ((W3.setCell ⟨w.heap.size, 0, none⟩ (.slice A l.length c)).setCell ⟨w.heap.size + 1, 0, none⟩ (.int .i64 0)) w.heap.size 22 #[.slice A l.length c]) := Lib.hid (by simpa using (HO3.out.set_ 0 (.slice A l.length c)).far (p := ⟨w.heap.size + 1, 0, none⟩) (by simp) (.int .i64 0))
 have HR5 : Hid (Row ((W3.setCell ⟨w.heap.size, 0, none⟩ (.slice A l.length c)).setCell ⟨w.heap.size + 1, 0, none⟩ (.int .i64 0)) (w.heap.size + 1) 24 #[.int .i64 0]) := Lib.hid (by simpa using (HR3.out.far (p := ⟨w.heap.size, 0, none⟩) (by simp) (.slice A l.length c)).set_ 0 (.int .i64 0))
 have HE5 := Lib.hid ((HE3.out.setCell (p := ⟨w.heap.size, 0, none⟩) (Nat.le_refl _) (.slice A l.length c)).setCell (p := ⟨w.heap.size + 1, 0, none⟩) (Nat.le_succ _) (.int .i64 0))
 have HA5 := Lib.hid (EclAt.far (EclAt.far HA3.out HO3.out (.slice A l.length c)) (HR3.out.far (p := ⟨w.heap.size, 0, none⟩) (by simp) (.slice A l.length c)) (.int .i64 0))
 go_wp2_with fail
 refine leaves_cons (f := 48) (args := #[.pointer (some ⟨w.heap.size, 0, none⟩), .pointer (some ⟨w.heap.size + 1, 0, none⟩)]) (by simp) (by simp [go_sem]) ?_
 refine (e_catch_idle _ _ _).mono ?_
 rintro e u' w'' ⟨rfl, rfl, rfl⟩
 exact ⟨_, e_read_results _ _ w.heap.size (w.heap.size + 1) _ 0 rfl rfl HO5.out HR5.out, _, rfl, ⟨A, c, rfl, HA5.out⟩, HE5.out⟩
end Go.Proofs.YtfkcbgehcbhjnaaGreatDoor
namespace Go.Proofs.YtfkcbgehcbhjnaaGreatDoor
open Go.RowKit
open Sp (rd)
set_option maxRecDepth 100000
set_option maxHeartbeats 4000000
set_option linter.unusedVariables false
namespace Ec
theorem sortedE_iff : ∀ l : List Sp.Ecl, sortedE l = true ↔ ∀ k, (hk : k + 1 < l.length) → before l[k] l[k + 1] = true
 | [] => by simp [sortedE]
 | [a] => by simp [sortedE]
 | a :: b :: l => by
  rw [sortedE, Bool.and_eq_true, sortedE_iff (b :: l)]
  constructor
  ·rintro ⟨h1, h2⟩ k hk
   cases k with
   | zero => exact h1
   | succ k => exact h2 k (by simpa using hk)
  ·intro h
   exact ⟨h 0 (by simp), fun k hk => h (k + 1) (by simpa using hk)⟩
theorem listOk_iff (l : List Sp.Ecl) : listOk l = true ↔ (∀ k, (hk : k < l.length) → itemOk l[k] = true ∧ ∀ j, (hj : j + 1 = k) → before l[j] l[k] = true) ∧ l.length ≤ 20 := by
 unfold listOk
 rw [Bool.and_eq_true, Bool.and_eq_true, sortedE_iff, List.all_eq_true, decide_eq_true_eq]
 constructor
 ·rintro ⟨h1, h2, h3⟩
  refine ⟨fun k hk => ⟨h1 _ (List.getElem_mem hk), fun j hj => ?_⟩, h3⟩
  subst hj
  exact h2 j hk
 ·rintro ⟨h, h3⟩
  refine ⟨fun e he => ?_, fun k hk => (h (k + 1) hk).2 k rfl, h3⟩
  obtain ⟨k, hk, rfl⟩ := List.mem_iff_getElem.1 he
  exact (h k hk).1
theorem list_no {l : List Sp.Ecl} {k : Nat} (hk : k < l.length) (h : itemOk l[k] = false) : listOk l = false := by
 rw [← Bool.not_eq_true, listOk_iff]
 rintro ⟨h1, _⟩
 rw [(h1 k hk).1] at h
 cases h
theorem list_no2 {l : List Sp.Ecl} {k : Nat} (hk : k + 1 < l.length) (h : before l[k] l[k + 1] = false) : listOk l = false := by
 rw [← Bool.not_eq_true, listOk_iff]
 rintro ⟨h1, _⟩
 rw [(h1 (k + 1) hk).2 k rfl] at h
 cases h
end Ec
theorem e_isList_any (l : List Sp.Ecl) (A : Option Addr) (c : Nat) (w : World) (hm : EclAt w A l) (hl : l.length ≤ 100000) :
  Calls Tryz.prog 44 #[.slice A l.length c] w fun e w' => e = .returned (.bool (Ec.listOk l)) ∧ Ext w w' := by
 have HM := Lib.hid hm
 clear hm
 go_enter Tryz.func44, Tryz.ntmps44
 go_wp2_with fail
 go_loopw [7] (fun i wr => ∃ k : Nat, k ≤ l.length ∧ i = .int .i64 k ∧ (∀ j, (hj : j < k) → (hj' : j < l.length) → Ec.itemOk l[j] = true ∧ ∀ i, (hi : i + 1 = j) → Ec.before l[i] l[j] = true) ∧ Ext w wr) (fun i _ => l.length - (intOf i).toNat)
 case atStart => exact ⟨0, Nat.zero_le _, rfl, fun j hj => absurd hj (Nat.not_lt_zero _), Ext.refl _⟩
 case round =>
  obtain ⟨k, hk, rfl, hgo, hE⟩ := hrel
  have HGO := Lib.hid hgo
  have HE := Lib.hid hE
  clear hgo
  by_cases hlt : k < l.length
  ·obtain ⟨b, o, rfl, hcell⟩ := HM.out (by omega)
   have HC := Lib.hid hcell
   obtain ⟨q1, q2, q3⟩ := hcell k hlt
   replace q1 := hE.cell q1
   replace q2 := hE.cell q2
   replace q3 := hE.cell q3
   have HNO := Lib.hid (fun h => Ec.list_no (l := l) hlt h)
   have HIT : Hid (Ec.itemOk l[k] = (Sp.inR l[k].day 1 20000 && Sp.isLimit l[k].far)) := Lib.hid rfl
   have HNX : Hid (Ec.itemOk l[k] = true → (∀ i, (hi : i + 1 = k) → Ec.before l[i] l[k] = true) → ∀ j, (hj : j < k + 1) → (hj' : j < l.length) → Ec.itemOk l[j] = true ∧ ∀ i, (hi : i + 1 = j) → Ec.before l[i] l[j] = true) := Lib.hid (fun h1 h2 j hj hj' => by
    rcases Nat.lt_or_ge j k with h | h
    ·exact HGO.out j h hj'
    ·obtain rfl : j = k := by omega
     exact ⟨h1, h2⟩)
   have z1 := lts (lt_of_cell q1)
   simp only at z1
   obtain ⟨d, hd⟩ : ∃ d, l[k].day = d := ⟨_, rfl⟩
   obtain ⟨f, hf⟩ : ∃ f, l[k].far = f := ⟨_, rfl⟩
   obtain ⟨u, hu⟩ : ∃ u, l[k].full = u := ⟨_, rfl⟩
   have HBF : Hid (∀ j, (hj : j + 1 = k) → Ec.before l[j] l[k] = (decide (l[j].day < d) || (decide (l[j].day = d) && (!l[j].full && u)))) := Lib.hid (fun j hj => by rw [← hd, ← hu]; rfl)
   rw [hd] at q1 HIT
   rw [hu] at q2
   rw [hf] at q3 HIT
   clear hcell hd hf hu hE
   cases c1 : Sp.inR d 1 20000
   ·have HF := Lib.hid (HNO.out (by rw [HIT.out, c1]; rfl))
    go_wp2_with fail
    refine (e_in_any _ _ _ _).mono ?_
    rintro e w1 ⟨rfl, rfl⟩
    rw [c1]
    go_wp2_with fail
    go_ret
    exact ⟨by rw [HF.out]; rfl, HE.out.alloc _⟩
   ·cases c2 : Sp.isLimit f
    ·have HF := Lib.hid (HNO.out (by rw [HIT.out, c1, c2]; rfl))
     go_wp2_with fail
     refine (e_in_any _ _ _ _).mono ?_
     rintro e w1 ⟨rfl, rfl⟩
     rw [c1]
     go_wp2_with fail
     refine (e_isLimit_any _ _).mono ?_
     rintro e w1 ⟨rfl, rfl⟩
     rw [c2]
     go_wp2_with fail
     go_ret
     exact ⟨by rw [HF.out]; rfl, HE.out.alloc _⟩
    ·have HOK := Lib.hid (show Ec.itemOk l[k] = true by rw [HIT.out, c1, c2]; rfl)
     go_wp2_with fail
     refine (e_in_any _ _ _ _).mono ?_
     rintro e w1 ⟨rfl, rfl⟩
     rw [c1]
     go_wp2_with fail
     refine (e_isLimit_any _ _).mono ?_
     rintro e w1 ⟨rfl, rfl⟩
     rw [c2]
     go_wp2_with fail
     clear c1 c2 HIT HNO
     rcases Nat.eq_zero_or_pos k with hk0 | hk0
     ·have hkk : ¬ (0 : Int) < (k : Int) := by omega
      clear q1 q2 q3
      go_quiet (fail)
      go_wp2
      go_roundw
      case rel => exact ⟨k + 1, by omega, by go_num, HNX.out HOK.out (fun i hi => by omega), (HE.out.alloc _).drewN _⟩
      case measure => simp [intOf]; omega
     ·obtain ⟨j, rfl⟩ : ∃ j, k = j + 1 := ⟨k - 1, by omega⟩
      obtain ⟨p1, p2, _⟩ := HC.out j (by omega)
      replace p1 := HE.out.cell p1
      replace p2 := HE.out.cell p2
      have HB := Lib.hid (HBF.out j rfl)
      have HN2 := Lib.hid (fun h => Ec.list_no2 (l := l) hlt h)
      obtain ⟨pd, hpd⟩ : ∃ d, l[j].day = d := ⟨_, rfl⟩
      obtain ⟨pf, hpf⟩ : ∃ f, l[j].full = f := ⟨_, rfl⟩
      rw [hpd] at p1 HB
      rw [hpf] at p2 HB
      clear hpd hpf HBF HC q1 q2 q3
      rcases (show d < pd ∨ pd = d ∨ pd < d by omega) with hd | hd | hd
      ·have HF := Lib.hid (HN2.out (by rw [HB.out, decide_eq_false (by omega), decide_eq_false (by omega)]; rfl))
       go_quiet (fail)
       go_wp2
       go_ret
       exact ⟨by rw [HF.out]; rfl, (HE.out.alloc _).drewN _⟩
      ·subst hd
       cases pf with
       | true =>
        have HF := Lib.hid (HN2.out (by rw [HB.out, decide_eq_false (by omega)]; simp))
        go_quiet (fail)
        go_wp2
        go_ret
        exact ⟨by rw [HF.out]; rfl, (HE.out.alloc _).drewN _⟩
       | false =>
        cases u with
        | false =>
         have HF := Lib.hid (HN2.out (by rw [HB.out, decide_eq_false (by omega)]; simp))
         go_quiet (fail)
         go_wp2
         go_ret
         exact ⟨by rw [HF.out]; rfl, (HE.out.alloc _).drewN _⟩
        | true =>
         have HF := Lib.hid (show Ec.before l[j] l[j + 1] = true by rw [HB.out]; simp)
         go_quiet (fail)
         go_wp2
         go_roundw
         case rel => exact ⟨j + 1 + 1, by omega, by go_num, HNX.out HOK.out (fun i hi => by cases (show i = j by omega); exact HF.out), (HE.out.alloc _).drewN _⟩
         case measure => simp [intOf]; omega
      ·have HF := Lib.hid (show Ec.before l[j] l[j + 1] = true by rw [HB.out, decide_eq_true hd]; rfl)
       have hd2 : ¬ d < pd := by omega
       have hd3 : (d == pd) = false := by rw [beq_eq_false_iff_ne]; omega
       go_quiet (fail)
       go_wp2
       go_roundw
       case rel => exact ⟨j + 1 + 1, by omega, by go_num, HNX.out HOK.out (fun i hi => by cases (show i = j by omega); exact HF.out), (HE.out.alloc _).drewN _⟩
       case measure => simp [intOf]; omega
  ·obtain rfl : k = l.length := by omega
   have HLO : Hid (Ec.listOk l = decide ((l.length : Int) ≤ 20)) := Lib.hid (by
    rw [Bool.eq_iff_iff, Ec.listOk_iff, decide_eq_true_eq]
    exact ⟨fun h => by omega, fun h => ⟨fun k hk => HGO.out k hk hk, by omega⟩⟩)
   clear hE
   go_wp2_with fail
   go_ret
   exact ⟨by rw [HLO.out]; rfl, HE.out⟩
end Go.Proofs.YtfkcbgehcbhjnaaGreatDoor
namespace Go.Proofs.YtfkcbgehcbhjnaaGreatDoor
open Go.RowKit
open Sp (rd)
open Ec (tabE textE parseE)
set_option maxRecDepth 100000
set_option maxHeartbeats 2000000
set_option linter.unusedVariables false
def Ec.readCode (x : Bs) : Int := if 400 < x.length then 3 else match parseE x with | none => 4 | some l => if Ec.listOk l = true then 0 else 2
theorem parse_few {x : Bs} {l : List Sp.Ecl} (h : parseE x = some l) : l.length ≤ x.length := by
 have hF := parsFine_of h
 have h2 := Ec.tabE_length l
 have h3 : (tabE l).length ≤ (Lib.join (tabE l) [10]).length + 1 := join_ge (tabE l)
 have h4 : (Lib.join (tabE l) [10]).length ≤ (textE l).length := by unfold textE; simp only [List.length_append]; omega
 rw [hF.text] at h4
 omega
theorem ta_enone (s : ByteArray) (w : World) : (Instr.typeAssert (.iface 92 (.agg #[.string s])) 20 92 true).run Tryz.prog w = .ok (.tuple #[.agg #[.string s], .bool true]) w := by kernel_rfl
theorem e_catch_none (p q : Nat) (hpq : p ≠ q) (x : Value) (s : ByteArray) (older : List PanicEntry) (w : World) (hr : Row w p 22 #[.slice none 0 0]) (he : Row w q 24 #[x]) :
  CallsD Tryz.prog 48 #[.pointer (some ⟨p, 0, none⟩), .pointer (some ⟨q, 0, none⟩)] (.panicking ({ v := .iface 92 (.agg #[.string s]), recovered := false } :: older)) w fun e u' w' =>
   e = .returned (.tuple #[]) ∧ u' = .panicking ({ v := .iface 92 (.agg #[.string s]), recovered := true } :: older) ∧ Row w' p 22 #[.slice none 0 0] ∧ Row w' q 24 #[.int .i64 4] ∧ ∀ w0, Ext w0 w → w0.heap.size ≤ p → w0.heap.size ≤ q → Ext w0 w' := by
 refine callsD_of_wpS Tryz.func48 rfl fun c₀ cs' hu => ?_
 have hc := hr.cell
 have hf := hr.free
 have hc2 := he.cell
 have hf2 := he.free
 have j0 := lts hr.lt
 have j1 := lts he.lt
 have hT := ta_enone s
 have heq : ∀ w, (binOp .eql 20 (.iface 92 (.agg #[.string s])) .nilIface).run Tryz.prog w = .ok (.bool false) w := fun _ => by kernel_rfl
 simp only [Tryz.ntmps48, List.size_toArray, List.length_cons, List.length_nil, Nat.reduceAdd, Nat.reduceSub, Array.replicate_succ, Array.replicate_zero, List.push_toArray, List.append_toArray, List.nil_append, List.cons_append]
 apply wpS_seq
 apply wpS_region
 simp [wpOpsS, go_sem, recoverD, hu, Exit.thenS]
 refine wpS_of_wp ?_
 generalize hQ : (fun (e : Exit) (a' : Act) (w' : World) => bodyPostS Tryz.prog Tryz.f48 c₀ cs' _ e a' _ w') = Q
 go_wp2
 subst hQ
 have h1 : Row ((w.setCell ⟨p, 0, none⟩ (.slice none 0 0)).setCell ⟨q, 0, none⟩ (.int .i64 4)) p 22 #[.slice none 0 0] := (hr.set_ 0 (.slice none 0 0)).far hpq _
 have h2 : Row ((w.setCell ⟨p, 0, none⟩ (.slice none 0 0)).setCell ⟨q, 0, none⟩ (.int .i64 4)) q 24 #[.int .i64 4] := (he.far (p := ⟨p, 0, none⟩) hpq.symm (.slice none 0 0)).set_ 0 (.int .i64 4)
 have h3 : ∀ w0, Ext w0 w → w0.heap.size ≤ p → w0.heap.size ≤ q → Ext w0 (((w.setCell ⟨p, 0, none⟩ (.slice none 0 0)).setCell ⟨q, 0, none⟩ (.int .i64 4)).alloc (.cells #[.string s] 92)) :=
  fun w0 h a b => ((h.setCell a _).setCell b _).alloc _
 have h1' := h1.alloc (.cells #[.string s] 92)
 have h2' := h2.alloc (.cells #[.string s] 92)
 clear hc hf hc2 hf2 hr he
 simp [bodyPostS, results, Tryz.results48]
 exact ⟨h1', h2', h3⟩
def ReadPostE (w : World) (x : Bs) (e : Ending) (w' : World) : Prop := Ext w w' ∧
 ((Ec.readCode x ≠ 0 ∧ e = .returned (.tuple #[.slice none 0 0, .int .i64 (Ec.readCode x)])) ∨ (∃ l v, Ec.readCode x = 0 ∧ parseE x = some l ∧ Ec.listOk l = true ∧ e = .returned (.tuple #[v, .int .i64 0]) ∧ EclVal w' v l))
theorem e_Read_any (x : Bs) (w : World) (hV : Env w) (hx : x.length ≤ 100000) : Calls Tryz.prog 13 #[.string (bs x)] w (ReadPostE w x) := by
 have HV := Lib.hid hV
 have hsx := bs_size x
 have hmf : ∀ (fn : Fn) (first cap : Array Value) (w : World), (Instr.makeFunc fn first cap).run Tryz.prog w = .ok (.func fn first cap) w := fun _ _ _ _ => rfl
 clear hV
 have HE0 : Hid (Ext w ((w.alloc (.cells #[.slice none 0 0] 22)).alloc (.cells #[.int .i64 0] 24))) := Lib.hid (((Ext.refl w).alloc _).alloc _)
 have HRO : Hid (Row ((w.alloc (.cells #[.slice none 0 0] 22)).alloc (.cells #[.int .i64 0] 24)) w.heap.size 22 #[.slice none 0 0]) := Lib.hid (blocks2 w _ _).1
 have HRE : Hid (Row ((w.alloc (.cells #[.slice none 0 0] 22)).alloc (.cells #[.int .i64 0] 24)) (w.heap.size + 1) 24 #[.int .i64 0]) := Lib.hid (blocks2 w _ _).2
 by_cases hlen : 400 < x.length
 ·have hlen' : (400 : Int) < (x.length : Int) := by omega
  have HC : Hid (Ec.readCode x = 3) := Lib.hid (by unfold Ec.readCode; rw [if_pos hlen])
  clear hlen
  go_enter_defers Tryz.func13, Tryz.ntmps13
  go_wp2
  simp [bodyPostD, Leaves, results, Tryz.results13, go_sem]
  exact ⟨((Ext.refl w).alloc _).alloc _, .inl ⟨by rw [HC.out]; decide, by rw [HC.out]⟩⟩
 have hlen' : ¬ ((400 : Int) < (x.length : Int)) := by omega
 have HCD : Hid (Ec.readCode x = match parseE x with | none => 4 | some l => if Ec.listOk l = true then 0 else 2) := Lib.hid (by unfold Ec.readCode; rw [if_neg hlen])
 have hx9 : x.length ≤ 900 := by omega
 clear hlen
 go_enter_defers Tryz.func13, Tryz.ntmps13
 go_wp2_with fail
 refine (e_parsed_any x _ (HV.out.ext HE0.out) hx9).mono ?_
 rintro e W1 ⟨⟨l, v, hps, rfl, hv⟩ | ⟨hno, z, rfl⟩, hE1⟩
 ·have HO1 := Lib.hid (HRO.out.ext hE1)
  have HR1 := Lib.hid (HRE.out.ext hE1)
  have HE1 := Lib.hid (HE0.out.trans hE1)
  have hll : l.length ≤ 100000 := by have := parse_few hps; omega
  rw [hps] at HCD
  have HPS := Lib.hid hps
  have r0 : W1.cell? ⟨w.heap.size, 0, none⟩ = some (.slice none 0 0) := HO1.out.cell 0
  have f0 := HO1.out.free 0
  obtain ⟨A, c, rfl, hA⟩ := hv
  have HA1 := Lib.hid (show EclAt W1 A l from hA)
  clear hE1 hA hps
  go_wp2_with fail
  have HO2 : Hid (Row (W1.setCell ⟨w.heap.size, 0, none⟩ (.slice A l.length c)) w.heap.size 22 #[.slice A l.length c]) := Lib.hid (by simpa using HO1.out.set_ 0 (.slice A l.length c))
  have HR2 := Lib.hid (HR1.out.far (p := ⟨w.heap.size, 0, none⟩) (by simp) (.slice A l.length c))
  have HE2 := Lib.hid (HE1.out.setCell (p := ⟨w.heap.size, 0, none⟩) (Nat.le_refl _) (.slice A l.length c))
  have HA2 := Lib.hid (EclAt.far HA1.out HO1.out (.slice A l.length c))
  obtain ⟨W2, hW2⟩ : ∃ W2, W1.setCell ⟨w.heap.size, 0, none⟩ (.slice A l.length c) = W2 := ⟨_, rfl⟩
  rw [hW2] at HO2 HR2 HE2 HA2 ⊢
  clear hW2 r0 f0
  refine (e_isList_any l A c W2 HA2.out hll).mono ?_
  rintro e W3 ⟨rfl, hE3⟩
  have HO3 := Lib.hid (HO2.out.ext hE3)
  have HR3 := Lib.hid (HR2.out.ext hE3)
  have HE3 := Lib.hid (HE2.out.trans hE3)
  have HA3 := Lib.hid (HA2.out.ext hE3)
  have r0 : W3.cell? ⟨w.heap.size, 0, none⟩ = some (.slice A l.length c) := HO3.out.cell 0
  have f0 := HO3.out.free 0
  have e0 : W3.cell? ⟨w.heap.size + 1, 0, none⟩ = some (.int .i64 0) := HR3.out.cell 0
  have k0 := HR3.out.free 0
  clear hE3
  cases hk : Ec.listOk l
  ·rw [hk] at HCD
   have HC : Hid (Ec.readCode x = 2) := Lib.hid (HCD.out.trans rfl)
   have HO5 : Hid (Row ((W3.setCell ⟨w.heap.size, 0, none⟩ (.slice none 0 0)).setCell ⟨w.heap.size + 1, 0, none⟩ (.int .i64 2)) w.heap.size 22 #[.slice none 0 0]) := Lib.hid (by simpa using (HO3.out.set_ 0 (.slice none 0 0)).far (p := ⟨w.heap.size + 1, 0, none⟩) (by simp) (.int .i64 2))
   have HR5 : Hid (Row ((W3.setCell ⟨w.heap.size, 0, none⟩ (.slice none 0 0)).setCell ⟨w.heap.size + 1, 0, none⟩ (.int .i64 2)) (w.heap.size + 1) 24 #[.int .i64 2]) := Lib.hid (by simpa using (HR3.out.far (p := ⟨w.heap.size, 0, none⟩) (by simp) (.slice none 0 0)).set_ 0 (.int .i64 2))
   have HE5 := Lib.hid ((HE3.out.setCell (p := ⟨w.heap.size, 0, none⟩) (Nat.le_refl _) (.slice none 0 0)).setCell (p := ⟨w.heap.size + 1, 0, none⟩) (Nat.le_succ _) (.int .i64 2))
   clear hk
   go_wp2_with fail
   refine leaves_cons (f := 48) (args := #[.pointer (some ⟨w.heap.size, 0, none⟩), .pointer (some ⟨w.heap.size + 1, 0, none⟩)]) (by simp) (by simp [go_sem]) ?_
   refine (e_catch_idle _ _ _).mono ?_
   rintro e u' w'' ⟨rfl, rfl, rfl⟩
   exact ⟨_, e_read_results _ _ w.heap.size (w.heap.size + 1) _ 2 rfl rfl HO5.out HR5.out, HE5.out, .inl ⟨by rw [HC.out]; decide, by rw [HC.out]⟩⟩
  ·rw [hk] at HCD
   have HC : Hid (Ec.readCode x = 0) := Lib.hid (HCD.out.trans rfl)
   have HK := Lib.hid hk
   have HO5 : Hid (Row ((W3.setCell ⟨w.heap.size, 0, none⟩ (.slice A l.length c)).setCell ⟨w.heap.size + 1, 0, none⟩ (.int .i64 0)) w.heap.size 22 #[.slice A l.length c]) := Lib.hid (by simpa using (HO3.out.set_ 0 (.slice A l.length c)).far (p := ⟨w.heap.size + 1, 0, none⟩) (by simp) (.int .i64 0))
   have HR5 : Hid (Row ((W3.setCell ⟨w.heap.size, 0, none⟩ (.slice A l.length c)).setCell ⟨w.heap.size + 1, 0, none⟩ (.int .i64 0)) (w.heap.size + 1) 24 #[.int .i64 0]) := Lib.hid (by simpa using (HR3.out.far (p := ⟨w.heap.size, 0, none⟩) (by simp) (.slice A l.length c)).set_ 0 (.int .i64 0))
   have HE5 := Lib.hid ((HE3.out.setCell (p := ⟨w.heap.size, 0, none⟩) (Nat.le_refl _) (.slice A l.length c)).setCell (p := ⟨w.heap.size + 1, 0, none⟩) (Nat.le_succ _) (.int .i64 0))
   have HA5 := Lib.hid (EclAt.far (EclAt.far HA3.out HO3.out (.slice A l.length c)) (HR3.out.far (p := ⟨w.heap.size, 0, none⟩) (by simp) (.slice A l.length c)) (.int .i64 0))
   clear hk
   go_wp2_with fail
   refine leaves_cons (f := 48) (args := #[.pointer (some ⟨w.heap.size, 0, none⟩), .pointer (some ⟨w.heap.size + 1, 0, none⟩)]) (by simp) (by simp [go_sem]) ?_
   refine (e_catch_idle _ _ _).mono ?_
   rintro e u' w'' ⟨rfl, rfl, rfl⟩
   exact ⟨_, e_read_results _ _ w.heap.size (w.heap.size + 1) _ 0 rfl rfl HO5.out HR5.out, HE5.out, .inr ⟨l, _, HC.out, HPS.out, HK.out, rfl, A, c, rfl, HA5.out⟩⟩
 ·rw [hno] at HCD
  have HC : Hid (Ec.readCode x = 4) := Lib.hid HCD.out
  refine leaves_cons (f := 48) (args := #[.pointer (some ⟨w.heap.size, 0, none⟩), .pointer (some ⟨w.heap.size + 1, 0, none⟩)]) (by simp) (by simp [go_sem]) ?_
  refine (e_catch_none w.heap.size (w.heap.size + 1) (by omega) _ z [] W1 (HRO.out.ext hE1) (HRE.out.ext hE1)).mono ?_
  rintro e u' w' ⟨rfl, rfl, r1, r2, hEE⟩
  exact ⟨_, e_read_results _ w' w.heap.size (w.heap.size + 1) _ 4 rfl rfl r1 r2, hEE w (HE0.out.trans hE1) (Nat.le_refl _) (Nat.le_succ _), .inl ⟨by rw [HC.out]; decide, by rw [HC.out]⟩⟩
end Go.Proofs.YtfkcbgehcbhjnaaGreatDoor
namespace Go.Proofs.YtfkcbgehcbhjnaaGreatDoor
open Go.RowKit
open Sp (rd)
def IntsVal (w : World) (v : Value) (l : List Int) : Prop := ∃ A c, v = .slice A l.length c ∧ Ints w A l
theorem IntsVal.ext {w w' : World} {v : Value} {l : List Int} (h : IntsVal w v l) (he : Ext w w') : IntsVal w' v l := let ⟨A, c, e, hc⟩ := h; ⟨A, c, e, hc.ext he⟩
def intCells (l : List Int) : List Value := l.map fun d => .int .i64 d
theorem IntsVal.of_own {w : World} {base : Nat} {v : Value} {l : List Int} (h : w.ownsRow base 3 1 v l.length (intCells l)) : IntsVal w v l := by
 rcases h.2 with ⟨rfl, h0⟩ | ⟨g, cap, cur, hv, _⟩
 ·exact ⟨none, 0, by rw [h0], fun hh => by omega⟩
 ·refine ⟨some ⟨g, 0, none⟩, cap, hv, fun _ => ⟨g, 0, rfl, fun k hk => ?_⟩⟩
  have hc := h.cells (g := g) (by rw [hv]; rfl)
  have h1 := hc k (.int .i64 (rd l k)) (by simp [intCells, rd, hk])
  rw [add0] at h1
  simpa using h1
theorem map_one {α β : Type} {g : α → β} {l : List α} {a : β} (h : l.map g = [a]) : ∃ x, l = [x] ∧ g x = a := by
 cases l with
 | nil => simp at h
 | cons x l =>
  simp only [List.map_cons, List.cons.injEq, List.map_eq_nil_iff] at h
  exact ⟨x, by rw [h.2], h.1⟩
theorem map_two {α β : Type} {g : α → β} {l : List α} {a b : β} (h : l.map g = [a, b]) : ∃ x y, l = [x, y] ∧ g x = a ∧ g y = b := by
 cases l with
 | nil => simp at h
 | cons x l =>
  simp only [List.map_cons, List.cons.injEq] at h
  obtain ⟨y, rfl, hy⟩ := map_one h.2
  exact ⟨x, y, rfl, h.1, hy⟩
theorem map_three {α β : Type} {g : α → β} {l : List α} {a b c : β} (h : l.map g = [a, b, c]) : ∃ x y z, l = [x, y, z] ∧ g x = a ∧ g y = b ∧ g z = c := by
 cases l with
 | nil => simp at h
 | cons x l =>
  simp only [List.map_cons, List.cons.injEq] at h
  obtain ⟨y, z, rfl, hy, hz⟩ := map_two h.2
  exact ⟨x, y, z, rfl, h.1, hy, hz⟩
theorem field_parts {f : Field} {a : String} {b : TypeId} {c : Nat} (h : (fun f : Field => (f.name, f.type, f.offset)) f = (a, b, c)) : f.name = a ∧ f.type = b ∧ f.offset = c := by
 simpa using h
theorem neq_ecl (a b c d : Int) (x y : Bool) (w : World) : (binOp .neq 87 (.agg #[.int .i64 a, .bool x, .int .i64 c]) (.agg #[.int .i64 b, .bool y, .int .i64 d])).run Tryz.prog w = .ok (.bool (!((a == b) && (x == y) && (c == d)))) w := by
 have hf : (Tryz.prog.fieldsOf 87).toList.map (fun f => (f.name, f.type, f.offset)) = [("Day", 3, 0), ("Full", 4, 1), ("Far", 3, 2)] := by kernel_rfl
 obtain ⟨f1, f2, f3, hfs, p1, p2, p3⟩ := map_three hf
 obtain ⟨n1, t1, o1⟩ := field_parts p1
 obtain ⟨n2, t2, o2⟩ := field_parts p2
 obtain ⟨n3, t3, o3⟩ := field_parts p3
 rw [run_neq_struct, run_equalIn_agg w 9999 _ _ _ (by kernel_rfl) (by kernel_rfl), hfs]
 simp [Op.eqFields, n1, t1, o1, n2, t2, o2, n3, t3, o3, part, go_sem]
 by_cases h : a = b <;> by_cases h2 : x = y <;> by_cases h3 : c = d <;> simp [h, h2, h3]
deriving instance DecidableEq for Sp.Ecl
theorem take_eq_succ {α : Type} {l m : List α} {k : Nat} (h : l.take k = m.take k) (h1 : k < l.length) (h2 : k < m.length) (he : l[k] = m[k]) : l.take (k + 1) = m.take (k + 1) := by
 rw [List.take_succ_eq_append_getElem h1, List.take_succ_eq_append_getElem h2, h, he]
theorem getrd {l : List Int} {k : Nat} (h : k < l.length) : l[k] = rd l k := by
 unfold Sp.rd
 rw [List.getD_eq_getElem?_getD, List.getElem?_eq_getElem h]
 rfl
set_option maxRecDepth 100000 in
theorem r_SameEclipses_any (v1 v2 : Value) (l1 l2 : List Sp.Ecl) (w : World) (h1 : EclVal w v1 l1) (h2 : EclVal w v2 l2) (n1 : l1.length ≤ 100000) (n2 : l2.length ≤ 100000) :
  Calls Tryz.prog 15 #[v1, v2] w fun e w' => e = .returned (.bool (decide (l1 = l2))) ∧ Ext w w' := by
 obtain ⟨A1, c1, rfl, q1⟩ := h1
 obtain ⟨A2, c2, rfl, q2⟩ := h2
 by_cases hl : l1.length = l2.length
 ·have HQ1 := Lib.hid q1
  have HQ2 := Lib.hid q2
  clear q1 q2
  rw [← hl]
  go_enter Tryz.func15, Tryz.ntmps15
  go_wp2_with fail
  go_loopw [5] (fun i wr => ∃ k : Nat, k ≤ l1.length ∧ i = .int .i64 k ∧ l1.take k = l2.take k ∧ Ext w wr) (fun i _ => l1.length - (intOf i).toNat)
  case atStart => exact ⟨0, Nat.zero_le _, rfl, rfl, Ext.refl _⟩
  case round =>
   obtain ⟨k, hk, rfl, htk, hE⟩ := hrel
   by_cases hlt : k < l1.length
   ·obtain ⟨b1, o1, rfl, p1⟩ := HQ1.out (by omega)
    obtain ⟨b2, o2, rfl, p2⟩ := HQ2.out (by omega)
    have hlt2 : k < l2.length := by omega
    have a0 := hE.cell (p1 k hlt).1
    have d0 := hE.cell (p2 k hlt2).1
    have a1 := hE.cell (p1 k hlt).2.1
    have d1 := hE.cell (p2 k hlt2).2.1
    have a2 := hE.cell (p1 k hlt).2.2
    have d2 := hE.cell (p2 k hlt2).2.2
    have HNX := Lib.hid (fun he => take_eq_succ htk hlt hlt2 he)
    have HNE := Lib.hid (fun (he : ¬ l1[k] = l2[k]) (hh : l1 = l2) => he (by subst hh; rfl))
    clear p1 p2 htk
    by_cases he : l1[k] = l2[k]
    ·have HX := Lib.hid (HNX.out he)
     generalize l1[k] = m1 at *
     generalize l2[k] = m2 at *
     subst he
     have hcmp : ∀ w, (binOp .neq 87 (.agg #[.int .i64 m1.day, .bool m1.full, .int .i64 m1.far]) (.agg #[.int .i64 m1.day, .bool m1.full, .int .i64 m1.far])).run Tryz.prog w = .ok (.bool false) w := fun w => by rw [neq_ecl]; simp
     clear HNX HNE
     go_wp2_with fail
     go_quiet (fail)
     go_wp2_with fail
     refine ⟨⟨k + 1, by omega, by go_num, HX.out, hE.drewN _⟩, by simp [intOf]; omega⟩
    ·have HN2 : Hid (¬ l1 = l2) := Lib.hid (HNE.out he)
     generalize l1[k] = m1 at *
     generalize l2[k] = m2 at *
     have hcmp : ∀ w, (binOp .neq 87 (.agg #[.int .i64 m1.day, .bool m1.full, .int .i64 m1.far]) (.agg #[.int .i64 m2.day, .bool m2.full, .int .i64 m2.far])).run Tryz.prog w = .ok (.bool true) w := fun w => by
      rw [neq_ecl]
      cases m1
      cases m2
      simp at he
      simp
      grind
     clear HNX HNE he
     go_wp2_with fail
     go_quiet (fail)
     go_wp2_with fail
     go_ret
     exact ⟨ret_bool (by simp [HN2.out]), hE.drewN _⟩
   ·obtain rfl : k = l1.length := by omega
    have HE := Lib.hid hE
    have HEQ : Hid (l1 = l2) := Lib.hid (by rw [List.take_length] at htk; rw [htk, hl, List.take_length])
    clear htk hE hl
    go_wp2_with fail
    go_ret
    exact ⟨ret_bool (by simp [HEQ.out]), HE.out⟩
 ·have HNE : Hid (¬ l1 = l2) := Lib.hid (fun h => hl (by rw [h]))
  have hl' : ¬ ((l1.length : Int) = (l2.length : Int)) := by omega
  clear q1 q2 hl
  go_enter Tryz.func15, Tryz.ntmps15
  go_wp2_with fail
  go_ret
  exact ⟨ret_bool (by simp [HNE.out]), Ext.refl _⟩
set_option maxRecDepth 100000 in
theorem r_Same_any (v1 v2 : Value) (l1 l2 : List Int) (w : World) (h1 : IntsVal w v1 l1) (h2 : IntsVal w v2 l2) (n1 : l1.length ≤ 100000) (n2 : l2.length ≤ 100000) :
  Calls Tryz.prog 43 #[v1, v2] w fun e w' => e = .returned (.bool (decide (l1 = l2))) ∧ Ext w w' := by
 obtain ⟨A1, c1, rfl, q1⟩ := h1
 obtain ⟨A2, c2, rfl, q2⟩ := h2
 by_cases hl : l1.length = l2.length
 ·have HQ1 := Lib.hid q1
  have HQ2 := Lib.hid q2
  clear q1 q2
  rw [← hl]
  go_enter Tryz.func43, Tryz.ntmps43
  go_wp2_with fail
  go_loopw [5] (fun i wr => ∃ k : Nat, k ≤ l1.length ∧ i = .int .i64 k ∧ l1.take k = l2.take k ∧ Ext w wr) (fun i _ => l1.length - (intOf i).toNat)
  case atStart => exact ⟨0, Nat.zero_le _, rfl, rfl, Ext.refl _⟩
  case round =>
   obtain ⟨k, hk, rfl, htk, hE⟩ := hrel
   by_cases hlt : k < l1.length
   ·obtain ⟨b1, o1, rfl, p1⟩ := HQ1.out (by omega)
    obtain ⟨b2, o2, rfl, p2⟩ := HQ2.out (by omega)
    have hlt2 : k < l2.length := by omega
    have a0 := hE.cell (p1 k hlt)
    have d0 := hE.cell (p2 k hlt2)
    have HNX := Lib.hid (fun he => take_eq_succ htk hlt hlt2 he)
    have HNE := Lib.hid (fun (he : ¬ l1[k] = l2[k]) (hh : l1 = l2) => he (by subst hh; rfl))
    clear p1 p2 htk
    by_cases he : l1[k] = l2[k]
    ·have HX := Lib.hid (HNX.out he)
     rw [getrd hlt] at he HNE HNX
     rw [getrd hlt2] at he HNE HNX
     clear HNX HNE
     rw [he] at a0
     go_wp2_with fail
     go_quiet (fail)
     go_wp2_with fail
     refine ⟨⟨k + 1, by omega, by go_num, HX.out, hE.drewN _⟩, by simp [intOf]; omega⟩
    ·have HN2 : Hid (¬ l1 = l2) := Lib.hid (HNE.out he)
     rw [getrd hlt, getrd hlt2] at he
     clear HNX HNE
     go_wp2_with fail
     go_quiet (fail)
     go_wp2_with fail
     go_ret
     exact ⟨ret_bool (by simp [HN2.out]), hE.drewN _⟩
   ·obtain rfl : k = l1.length := by omega
    have HE := Lib.hid hE
    have HEQ : Hid (l1 = l2) := Lib.hid (by rw [List.take_length] at htk; rw [htk, hl, List.take_length])
    clear htk hE hl
    go_wp2_with fail
    go_ret
    exact ⟨ret_bool (by simp [HEQ.out]), HE.out⟩
 ·have HNE : Hid (¬ l1 = l2) := Lib.hid (fun h => hl (by rw [h]))
  have hl' : ¬ ((l1.length : Int) = (l2.length : Int)) := by omega
  clear q1 q2 hl
  go_enter Tryz.func43, Tryz.ntmps43
  go_wp2_with fail
  go_ret
  exact ⟨ret_bool (by simp [HNE.out]), Ext.refl _⟩
theorem conv1 (b : Nat) (k : Int) (h0 : 0 ≤ k) (h1 : k < 256) (w : World) (h : w.cell? ⟨b, 0, none⟩ = some (.int .u8 k)) : (convert 35 9 (.slice (some ⟨b, 0, none⟩) 1 1)).run Tryz.prog w = .ok (.string (bs [UInt8.ofNat k.toNat])) w :=
 run_convert_bytes_back (P := Tryz.prog) w 35 9 5 ⟨b, 0, none⟩ 1 [UInt8.ofNat k.toNat] Tryz.underlying35 Tryz.underlying5 Tryz.underlying9 (fun j hj => by
  have : j = 0 := by simpa using hj
  subst this
  rw [add0, h]
  simp
  omega)
def front (m : Nat) : Bs := if m < 10 then [] else Lib.decDigits (m / 10)
theorem front_dec (m : Nat) : Lib.decDigits m = front m ++ [UInt8.ofNat (48 + m % 10)] := by
 unfold front
 by_cases h : m < 10
 ·rw [Lib.decDigits, dif_pos h, if_pos h, Nat.mod_eq_of_lt h]
  rfl
 ·rw [Lib.decDigits, dif_neg h, if_neg h]
set_option maxRecDepth 100000 in
theorem r_Decimal_nat (n : Nat) (w : World) (hn : n ≤ 1000000000000000000) :
  Calls Tryz.prog 50 #[.int .i64 (n : Int)] w fun e w' => e = .returned (.string (bs (Lib.decDigits n))) ∧ Ext w w' := by
 obtain ⟨d, hd0⟩ : ∃ d : UInt8, UInt8.ofNat (48 + n % 10) = d := ⟨_, rfl⟩
 have hch : UInt8.ofNat (48 + (n : Int) % 10).toNat = d := by rw [← hd0]; congr 1
 have HD0 := Lib.hid hd0
 clear hd0
 have hcv := conv1 w.heap.size (48 + (n : Int) % 10) (by omega) (by omega) (w.alloc (.cells #[.int .u8 (48 + (n : Int) % 10)] 5)) (by simp)
 rw [hch] at hcv
 clear hch
 go_enter Tryz.func50, Tryz.ntmps50
 go_wp2_with fail
 clear hcv
 have hE1 : Ext w (w.alloc (.cells #[.int .u8 (48 + (n : Int) % 10)] 5)) := (Ext.refl w).alloc _
 generalize w.alloc (.cells #[.int .u8 (48 + (n : Int) % 10)] 5) = w1 at *
 go_loopw [0, 3] (fun m v wr => ∃ (k : Nat) (r : Bs), m = .int .i64 (k : Int) ∧ k ≤ n ∧ v = .string (bs r) ∧ Lib.decDigits n = front k ++ r ∧ Ext w1 wr) (fun m _ _ => (intOf m).toNat)
 case atStart => exact ⟨n, _, rfl, Nat.le_refl _, rfl, by rw [front_dec, HD0.out], Ext.refl _⟩
 case round =>
  obtain ⟨k, r, rfl, hk, rfl, hd, hE⟩ := hrel
  have HD := Lib.hid hd
  have HE := Lib.hid hE
  clear hd hE
  by_cases hlt : 10 ≤ k
  ·have hq : ((k : Int)).tdiv 10 = ((k / 10 : Nat) : Int) := by rw [Int.tdiv_eq_ediv_of_nonneg (by omega)]; omega
   obtain ⟨d2, hd2⟩ : ∃ d : UInt8, UInt8.ofNat (48 + k / 10 % 10) = d := ⟨_, rfl⟩
   have hch : UInt8.ofNat (48 + (k : Int) / 10 % 10).toNat = d2 := by rw [← hd2]; congr 1
   have HN : Hid (Lib.decDigits n = front (k / 10) ++ ([d2] ++ r)) := Lib.hid (by
    rw [HD.out, show front k = Lib.decDigits (k / 10) from if_neg (by omega), front_dec, List.append_assoc, hd2])
   clear hd2
   have hcv := conv1 wr.heap.size (48 + (k : Int) / 10 % 10) (by omega) (by omega) (wr.alloc (.cells #[.int .u8 (48 + (k : Int) / 10 % 10)] 5)) (by simp)
   rw [hch] at hcv
   clear hch
   have hrl : r.length ≤ 21 := by
    have h1 := Lib.itoa_length_le (n : Int) (by omega) (by omega)
    rw [Lib.itoa_nonneg, HD.out, List.length_append] at h1
    omega
   have hadd := add_str [d2] r (by simp; omega)
   go_wp2_with fail
   refine ⟨⟨k / 10, _, by go_num, by omega, rfl, HN.out, HE.out.alloc _⟩, by simp [intOf]; omega⟩
  ·have HN : Hid (Lib.decDigits n = r) := Lib.hid (by rw [HD.out, show front k = [] from if_pos (by omega)]; rfl)
   go_wp2_with fail
   go_ret
   exact ⟨by rw [HN.out]; rfl, hE1.trans HE.out⟩
theorem r_Decimal_any (n : Int) (w : World) (h1 : -1000000000000000000 ≤ n) (h2 : n ≤ 1000000000000000000) :
  Calls Tryz.prog 50 #[.int .i64 n] w fun e w' => e = .returned (.string (bs (Lib.itoa n))) ∧ Ext w w' := by
 by_cases h0 : 0 ≤ n
 ·obtain ⟨u, rfl⟩ := Int.eq_ofNat_of_zero_le h0
  rw [Lib.itoa_nonneg]
  exact r_Decimal_nat u w (by omega)
 ·obtain ⟨u, hu⟩ := Int.eq_ofNat_of_zero_le (show 0 ≤ -n by omega)
  have hn : n = -(u : Int) := by omega
  have hl := Lib.itoa_length_le (u : Int) (by omega) (by omega)
  rw [Lib.itoa_nonneg] at hl
  rw [hn, Lib.itoa_neg u (by omega)]
  have hadd : ∀ W : World, (Op.stringOp .add ⟨#[45]⟩ (bs (Lib.decDigits u))).run Tryz.prog W = .ok (.string (bs (45 :: Lib.decDigits u))) W := add_str [45] (Lib.decDigits u) (by simp; omega)
  have hu1 : 1 ≤ u := by omega
  have hu2 : u ≤ 1000000000000000000 := by omega
  clear hu hn h0 h1 h2
  go_enter Tryz.func50, Tryz.ntmps50
  go_wp2_with fail
  refine (r_Decimal_nat u _ (by omega)).mono ?_
  rintro e w1 ⟨rfl, hE⟩
  go_wp2_with fail
  go_ret
  exact ⟨rfl, hE⟩
def outL (L : List Bs) : Nat → Bs
 | 0 => []
 | k + 1 => outL L k ++ L.getD k [] ++ [10]
theorem outL_length (L : List Bs) (k : Nat) (h : ∀ x ∈ L, x.length ≤ 23000) (hk : k ≤ L.length) : (outL L k).length ≤ k * 23001 := by
 induction k with
 | zero => simp [outL]
 | succ k ih =>
  have h1 := ih (by omega)
  have h2 := h (L.getD k []) (by rw [List.getD_eq_getElem?_getD, List.getElem?_eq_getElem (by omega)]; exact List.getElem_mem _)
  simp only [outL, List.length_append, List.length_cons, List.length_nil]
  omega
theorem outL_flat (L : List Bs) (k : Nat) (hk : k ≤ L.length) : outL L k = ((L.take k).map (· ++ [10])).flatten := by
 induction k with
 | zero => simp [outL]
 | succ k ih =>
  rw [outL, ih (by omega), List.take_succ_eq_append_getElem (by omega), List.map_append, List.flatten_append, List.getD_eq_getElem?_getD, List.getElem?_eq_getElem (by omega), List.append_assoc]
  simp only [List.map_cons, List.map_nil, List.flatten_cons, List.flatten_nil, List.append_nil, Option.getD_some]
theorem flat_ends (r : List Bs) : (r.map ([10] ++ ·)).flatten ++ [10] = [10] ++ (r.map (· ++ [(10 : UInt8)])).flatten := by
 induction r with
 | nil => rfl
 | cons x r ih =>
  simp only [List.map_cons, List.flatten_cons, List.append_assoc] at ih ⊢
  rw [ih]
theorem outL_join (L : List Bs) (h : L ≠ []) : outL L L.length = Lib.join L [10] ++ [10] := by
 rw [outL_flat L _ (Nat.le_refl _), List.take_length]
 cases L with
 | nil => exact absurd rfl h
 | cons x r =>
  rw [Lib.join_cons, Lib.joinTail, List.append_assoc, flat_ends]
  simp
end Go.Proofs.YtfkcbgehcbhjnaaGreatDoor
namespace Go.Proofs.YtfkcbgehcbhjnaaGreatDoor
open Go.RowKit
open Sp (rd)
open Ec (numE numFineE)
set_option linter.unusedSimpArgs false
set_option linter.unusedVariables false
theorem bs_extract (x : Bs) (a b : Nat) (hb : b ≤ x.length) : (bs x).extract a b = bs ((x.take b).drop a) := by
 have h : ((bs x).extract a b).data.toList = (bs ((x.take b).drop a)).data.toList := by
  rw [bs_data]
  simp [bs, ByteArray.extract, ByteArray.copySlice, List.extract_eq_take_drop, List.drop_take]
 have e := bs_of ((bs x).extract a b)
 rw [h] at e
 exact e.symm
theorem sp1_snoc_eq (c : UInt8) (l : Bs) : sp1 c (l ++ [c]) = sp1 c l ++ [[]] := by
 induction l with
 | nil => simp [sp1]
 | cons b l ih =>
  rw [List.cons_append, sp1, sp1, ih]
  have hne := sp1_ne c l
  split
  ·rfl
  ·cases hs : sp1 c l with
   | nil => exact absurd hs hne
   | cons a t => rfl
theorem sp1_snoc_ne (c b : UInt8) (l : Bs) (h : b ≠ c) (i : List Bs) (z : Bs) (hs : sp1 c l = i ++ [z]) : sp1 c (l ++ [b]) = i ++ [z ++ [b]] := by
 induction l generalizing i z with
 | nil =>
  have : i = [] ∧ z = [] := by
   cases i with
   | nil => simpa [sp1, eq_comm] using hs
   | cons a t => simp [sp1] at hs
  obtain ⟨rfl, rfl⟩ := this
  simp [sp1, h]
 | cons d l ih =>
  rw [List.cons_append, sp1]
  rw [sp1] at hs
  have hne := sp1_ne c l
  have hl : ∃ i' z', sp1 c l = i' ++ [z'] := ⟨(sp1 c l).dropLast, (sp1 c l).getLast hne, (List.dropLast_concat_getLast hne).symm⟩
  obtain ⟨i', z', hl⟩ := hl
  rw [ih i' z' hl]
  rw [hl] at hs
  split
  ·rename_i hd
   rw [if_pos hd] at hs
   have : i = [] :: i' ∧ z = z' := by
    have e : [] :: (i' ++ [z']) = ([] :: i') ++ [z'] := rfl
    rw [e] at hs
    have := List.append_inj' hs rfl
    exact ⟨this.1.symm, by simpa using this.2.symm⟩
   obtain ⟨rfl, rfl⟩ := this
   rfl
  ·rename_i hd
   rw [if_neg hd] at hs
   cases i' with
   | nil =>
    simp only [List.nil_append, List.headD_cons, List.tail_cons] at hs ⊢
    have : i = [] ∧ z = d :: z' := by
     cases i with
     | nil => simpa [eq_comm] using hs
     | cons a t => simp at hs
    obtain ⟨rfl, rfl⟩ := this
    rfl
   | cons a t =>
    simp only [List.cons_append, List.headD_cons, List.tail_cons] at hs ⊢
    have e : (d :: a) :: (t ++ [z']) = ((d :: a) :: t) ++ [z'] := rfl
    rw [e] at hs
    have := List.append_inj' hs rfl
    obtain ⟨h1, h2⟩ := this
    have hz : z' = z := by simpa using h2
    subst hz
    rw [← h1]
    rfl
def SplitRel7 (w : World) (c : UInt8) (x : Bs) (v f i : Value) (wr : World) : Prop :=
 ∃ (k n : Nat) (r : List Bs), k ≤ x.length ∧ n ≤ k ∧ i = .int .i64 k ∧ f = .int .i64 n ∧ sp1 c (x.take k) = r ++ [(x.take k).drop n] ∧ r.length ≤ k ∧ wr.ownsRow w.heap.size 9 1 v r.length (strCells1 r) ∧ Ext w wr
theorem take_snoc_b (x : Bs) (k : Nat) (h : k < x.length) : x.take (k + 1) = x.take k ++ [x.getD k 0] := by
 rw [List.take_succ_eq_append_getElem h, List.getD_eq_getElem?_getD, List.getElem?_eq_getElem h]
 rfl
set_option maxRecDepth 100000 in
set_option maxHeartbeats 1000000 in
theorem r7_split_any (c : UInt8) (cn : Int) (hcn : cn = (c.toNat : Int)) (x : Bs) (w : World) (hx : x.length ≤ 100000) :
  Calls Tryz.prog 51 #[.string (bs x), .int .u8 cn] w fun e w' => ∃ A cap, e = .returned (.slice A (sp1 c x).length cap) ∧ (sp1 c x).length ≤ cap ∧ Strs w' A (sp1 c x) ∧ (∀ b o, A = some ⟨b, o, none⟩ → w.heap.size ≤ b) ∧ Ext w w' := by
 have hsx := bs_size x
 have HCN := Lib.hid hcn
 have hc0 : 0 ≤ cn ∧ cn < 256 := by have := c.toNat_lt; omega
 clear hcn
 obtain ⟨i0, hi0, hi1, hi2, hi3⟩ := info_parts info_string
 go_enter Tryz.func51, Tryz.ntmps51
 go_wp2_with fail
 go_loopw [5, 6, 7] (fun v f i wr => SplitRel7 w c x v f i wr) (fun _ _ i _ => x.length - (intOf i).toNat)
 case atStart => exact ⟨0, 0, [], Nat.zero_le _, Nat.le_refl _, rfl, rfl, by simp [sp1], Nat.le_refl _, World.ownsRow_nil _ _ _ _, Ext.refl _⟩
 case round =>
  obtain ⟨k, n, r, hk, hn, rfl, rfl, hs, hr, hown, hE⟩ := hrel
  have hz := hE.size
  have hex0 := bs_extract x n k hk
  by_cases hlt : k < x.length
  ·have hix := index_bs x k hlt
   have HSN := take_snoc_b x k hlt
   obtain ⟨b, hb⟩ : ∃ b, x.getD k 0 = b := ⟨_, rfl⟩
   rw [hb] at hix HSN
   have HO := Lib.hid hown
   have HE := Lib.hid hE
   have HS := Lib.hid hs
   have HTS := Lib.hid HSN
   have hlt' : (k : Int) < (x.length : Int) := by omega
   have HLT := Lib.hid hlt
   have hr9 : r.length ≤ 100000 := by omega
   clear hown hE hs HSN hb hlt
   by_cases hbc : b = c
   ·have HNEW : Hid (sp1 c (x.take (k + 1)) = (r ++ [(x.take k).drop n]) ++ [(x.take (k + 1)).drop (k + 1)]) := Lib.hid (by
     have e : (x.take (k + 1)).drop (k + 1) = [] := List.drop_of_length_le (List.length_take_le _ _)
     rw [e, HTS.out, hbc, sp1_snoc_eq, HS.out])
    have hq : ((b.toNat : Int) == cn) = true := by rw [HCN.out, hbc]; simp
    have hq2 : (b.toNat : Int) = cn := by rw [HCN.out, hbc]
    have HQ2 := Lib.hid hq2
    obtain ⟨y, hy⟩ : ∃ y, (x.take k).drop n = y := ⟨_, rfl⟩
    rw [hy] at hex0 HNEW
    have n1 : (n : Int) ≤ (k : Int) := by omega
    have n2 : (k : Int) ≤ (x.length : Int) := by omega
    clear hbc hq2 hy HS HTS
    go_wp2_with (at_builtin; refine wpList_append_own_at _ rfl _ _ 95 rfl w.heap.size 9 i0 _ 1 16 Tryz.underlying95 hi0 hi1 hi2 hi3 rfl (by decide) _ r.length (strCells1 r) rfl (HO.out.alloc (.cells #[.string (bs y)] 9)) ⟨wr.heap.size, 0, none⟩ 1 1 [.string (bs y)] rfl rfl (World.news_of_block (cs := #[.string (bs y)]) (t := 9) (fr := (0, 0)) (heap_alloc_new _ _)) (by simp [Value.oneCell']) (by simp only [maxLen]; omega) (by omega) (by simp; omega) ?_; intro v' w5 hown5 hgrow _ _; have HO5 := Lib.hid hown5; have HG5 := Lib.hid hgrow; clear hown5 hgrow)
    go_roundw
    case measure => have := HLT.out; simp [intOf]; omega
    case rel =>
     refine ⟨k + 1, k + 1, r ++ [y], HLT.out, Nat.le_refl _, by go_num, by go_num, HNEW.out, by simp; omega, ?_, (HE.out.alloc _).grown HG5.out (fun q hq => (HO.out.lt q hq).1)⟩
     simpa [strCells1] using HO5.out
   ·have HNEW : Hid (sp1 c (x.take (k + 1)) = r ++ [(x.take (k + 1)).drop n]) := Lib.hid (by
     rw [HTS.out, sp1_snoc_ne c b _ hbc r _ HS.out, List.drop_append_of_le_length (by rw [List.length_take]; have := HLT.out; omega)])
    have hq0 : ¬ (b.toNat : Int) = cn := by
     rw [HCN.out]
     intro e
     exact hbc (UInt8.toNat_inj.1 (by omega))
    have hq : ((b.toNat : Int) == cn) = false := by simpa using hq0
    clear hbc HS HTS hex0
    go_wp2_with fail
    go_roundw
    case measure => have := HLT.out; simp [intOf]; omega
    case rel => exact ⟨k + 1, n, r, HLT.out, by omega, by go_num, rfl, HNEW.out, by omega, HO.out, HE.out⟩
  ·obtain rfl : k = x.length := by omega
   rw [List.take_length] at hs hex0
   have HS := Lib.hid hs
   have HO := Lib.hid hown
   have HE := Lib.hid hE
   obtain ⟨y, hy⟩ : ∃ y, x.drop n = y := ⟨_, rfl⟩
   rw [hy] at hex0 HS
   have n1 : (n : Int) ≤ (x.length : Int) := by omega
   have hr9 : r.length ≤ 100000 := by omega
   clear hs hown hE hy hlt
   go_wp2_with (at_builtin; refine wpList_append_own_at _ rfl _ _ 95 rfl w.heap.size 9 i0 _ 1 16 Tryz.underlying95 hi0 hi1 hi2 hi3 rfl (by decide) _ r.length (strCells1 r) rfl (HO.out.alloc (.cells #[.string (bs y)] 9)) ⟨wr.heap.size, 0, none⟩ 1 1 [.string (bs y)] rfl rfl (World.news_of_block (cs := #[.string (bs y)]) (t := 9) (fr := (0, 0)) (heap_alloc_new _ _)) (by simp [Value.oneCell']) (by simp only [maxLen]; omega) (by omega) (by simp; omega) ?_; intro v' w5 hown5 hgrow _ _; have HO5 := Lib.hid hown5; have HG5 := Lib.hid hgrow; clear hown5 hgrow)
   go_ret
   have hO : w5.ownsRow w.heap.size 9 1 v' (sp1 c x).length (strCells1 (sp1 c x)) := by rw [HS.out]; simpa [strCells1] using HO5.out
   obtain ⟨A, cap, hv, hcap, hS⟩ := Strs.of_own hO
   exact ⟨A, cap, by rw [hv]; rfl, hcap, hS, fun b o e => (hO.lt b (by rw [hv, e]; rfl)).1, (HE.out.alloc _).grown HG5.out (fun q hq => (HO.out.lt q hq).1)⟩
set_option maxRecDepth 100000 in
set_option maxHeartbeats 2000000 in
theorem r7_number_any (x : Bs) (w : World) (hx : x.length ≤ 100000) : Calls Tryz.prog 52 #[.string (bs x)] w fun e w' => e = .returned (.int .i64 ((numE x).getD (-1))) ∧ Ext w w' := by
 have hsx := bs_size x
 go_enter Tryz.func52, Tryz.ntmps52
 by_cases hD0 : x.length = 0
 ·have HNO : Hid (numE x = none) := Lib.hid (numE_no (.inr (.inr (.inl (List.eq_nil_of_length_eq_zero hD0)))))
  have hD1 : ((x.length : Int) == 0) = true := by rw [hD0]; rfl
  go_wp2_with fail
  go_ret
  exact ⟨by rw [HNO.out]; rfl, Ext.refl _⟩
 have hD1 : ((x.length : Int) == 0) = false := beq_eq_false_iff_ne.2 (by omega)
 have hD2 : ¬ ((x.length : Int) = 0) := by omega
 by_cases hD5 : 5 < x.length
 ·have HNO : Hid (numE x = none) := Lib.hid (numE_no (.inr (.inl (by omega))))
  have hD6 : (5 : Int) < (x.length : Int) := by omega
  go_wp2_with fail
  go_ret
  exact ⟨by rw [HNO.out]; rfl, Ext.refl _⟩
 have hD6 : ¬ ((5 : Int) < (x.length : Int)) := by omega
 have hD7 : (x.length : Int) ≤ 5 := by omega
 have HNE : Hid (x ≠ []) := Lib.hid (by rintro rfl; exact hD0 rfl)
 have HD5 : Hid (x.length ≤ 5) := Lib.hid (by omega)
 clear hD0 hD5
 go_wp2_with fail
 go_loop [3, 4] (fun v i => ∃ pos : Nat, pos ≤ x.length ∧ i = .int .i64 pos ∧ v = .int .i64 ((digN x pos : Nat) : Int) ∧ (x.take pos).all isDig = true) (fun _ i => x.length - (intOf i).toNat)
 case atStart => exact ⟨0, Nat.zero_le _, rfl, rfl, by simp⟩
 case round =>
  obtain ⟨pos, hp, rfl, rfl, hall⟩ := hrel
  have HALL := Lib.hid hall
  clear hall
  by_cases hlt : pos < x.length
  ·have hix := index_bs x pos hlt
   have hlt' : (pos : Int) < (x.length : Int) := by omega
   cases hd : isDig (x.getD pos 0)
   ·have HNO : Hid (numE x = none) := Lib.hid (numE_no (.inl (by exact all_no_at hlt hd)))
    have hr : ((x.getD pos 0).toNat : Int) < 48 ∨ 57 < ((x.getD pos 0).toNat : Int) := by
     unfold isDig at hd
     simp only [Bool.and_eq_false_iff, decide_eq_false_iff_not] at hd
     omega
    generalize (x.getD pos 0).toNat = r at *
    clear hd
    rcases hr with hr | hr
    ·go_wp2_with fail
     go_ret
     exact ⟨by rw [HNO.out]; rfl, Ext.refl _⟩
    ·have hr2 : ¬ ((r : Int) < 48) := by omega
     go_wp2_with fail
     go_ret
     exact ⟨by rw [HNO.out]; rfl, Ext.refl _⟩
   ·have hdd : 48 ≤ (x.getD pos 0).toNat ∧ (x.getD pos 0).toNat ≤ 57 := by
     unfold isDig at hd
     simpa using hd
    have HDIG := Lib.hid hd
    have HSTEP : Hid (digN x (pos + 1) = 10 * digN x pos + ((x.getD pos 0).toNat - 48)) := Lib.hid rfl
    have hlt10 := digN_lt (x.take pos) HALL.out pos (by rw [List.length_take]; omega)
    have hpos5 : 10 ^ pos ≤ 10 ^ 5 := Nat.pow_le_pow_right (by omega) (by omega)
    rw [digN_take x pos pos (Nat.le_refl _)] at hlt10
    have hn9 : ((digN x pos : Nat) : Int) ≤ 100000 := by omega
    obtain ⟨r, hr⟩ : ∃ r, (x.getD pos 0).toNat = r := ⟨_, rfl⟩
    rw [hr] at hix hdd HSTEP
    have hr1 : (48 : Int) ≤ (r : Int) := by omega
    have hr2 : (r : Int) ≤ 57 := by omega
    have hr3 : ¬ ((r : Int) < 48) := by omega
    have hr4 : ¬ (57 < (r : Int)) := by omega
    obtain ⟨n, hn⟩ : ∃ n, digN x pos = n := ⟨_, rfl⟩
    rw [hn] at hn9 HSTEP ⊢
    have HLT := Lib.hid hlt
    have HDD := Lib.hid hdd
    clear hr hn hlt10 hpos5 hlt hd hdd hp
    go_wp2_with fail
    go_round
    case rel =>
     refine ⟨pos + 1, HLT.out, by go_num, ?_, all_take_succ HLT.out HALL.out HDIG.out⟩
     rw [HSTEP.out]
     refine congrArg (Value.int .i64) ?_
     have := HDD.out
     omega
    case measure => have := HLT.out; simp [intOf]; omega
  ·obtain rfl : pos = x.length := by omega
   have hall := HALL.out
   rw [List.take_length] at hall
   have hlt10 := digN_lt x hall x.length (Nat.le_refl _)
   have hpos5 : 10 ^ x.length ≤ 10 ^ 5 := Nat.pow_le_pow_right (by omega) HD5.out
   have hn9 : ((digN x x.length : Nat) : Int) ≤ 100000 := by omega
   have hV2 : (digV x : Int) = ((digN x x.length : Nat) : Int) := rfl
   have HA := Lib.hid hall
   obtain ⟨n, hn⟩ : ∃ n, digN x x.length = n := ⟨_, rfl⟩
   rw [hn] at hn9 hV2 ⊢
   have HV2 := Lib.hid hV2
   clear hlt10 hpos5 hall hlt hn hV2 HALL hp
   obtain ⟨I, hI⟩ : ∃ I, Lib.itoa (n : Int) = I := ⟨_, rfl⟩
   have HI := Lib.hid hI
   clear hI
   go_wp2_with fail
   have hdec := r_Decimal_any (n : Int) w (by omega) (by omega)
   rw [HI.out] at hdec
   refine hdec.mono ?_
   clear hdec
   rintro e w1 ⟨rfl, hE1⟩
   have HE1 := Lib.hid hE1
   clear hE1
   by_cases hIx : I = x
   ·have hq : ((bs I).toList == (bs x).toList) = true := by rw [hIx]; simp
    have HYES : Hid (numE x = some (n : Int)) := Lib.hid (by
     rw [numE_yes (by exact HA.out) (by exact HD5.out) (by exact HNE.out) (by rw [HV2.out, HI.out]; exact hIx), HV2.out])
    clear hIx
    go_wp2_with fail
    go_ret
    exact ⟨by rw [HYES.out]; rfl, HE1.out⟩
   ·have hq : ((bs I).toList == (bs x).toList) = false := by rw [toList_bs, toList_bs]; simpa using hIx
    have HNO : Hid (numE x = none) := Lib.hid (numE_no (.inr (.inr (.inr (by rw [HV2.out, HI.out]; exact hIx)))))
    clear hIx
    go_wp2_with fail
    go_ret
    exact ⟨by rw [HNO.out]; rfl, HE1.out⟩
end Go.Proofs.YtfkcbgehcbhjnaaGreatDoor
namespace Go.Proofs.YtfkcbgehcbhjnaaGreatDoor
open Go.RowKit
open Sp (rd)
open Ec (wEcl wNew wFull eWord eLine tabE checkE textE EclNum)
set_option maxRecDepth 100000 in
set_option maxHeartbeats 4000000 in
theorem r7_Print_any (l : List Sp.Ecl) (A : Option Addr) (c : Nat) (w : World) (hm : EclAt w A l) (h : EclNum l) (hfew : l.length ≤ 1000) :
  Calls Tryz.prog 14 #[.slice A l.length c] w fun e w' => e = .returned (.string (bs (textE l))) ∧ Ext w w' := by
 have HM := Lib.hid hm
 have HS := Lib.hid h
 clear hm h
 obtain ⟨i0, hi0, hz0, hz1, hz2⟩ := info_parts info_string
 have hil := itoa_small (n := (l.length : Int)) (by omega) (by omega)
 have HL0 : Hid (lineL wEcl [(l.length : Int)] = [101, 99, 108, 105, 112, 115, 101, 115, 32] ++ Lib.itoa (l.length : Int)) := Lib.hid (by simp [lineL, wEcl])
 have HD0 := Lib.hid (fun W => r_Decimal_any (l.length : Int) W (by omega) (by omega))
 obtain ⟨I0, hI0⟩ : ∃ I0, Lib.itoa (l.length : Int) = I0 := ⟨_, rfl⟩
 rw [hI0] at HL0 hil HD0
 have g0 : ∀ W : World, (Op.stringOp .add ⟨#[101, 99, 108, 105, 112, 115, 101, 115, 32]⟩ (bs I0)).run Tryz.prog W = .ok (.string (bs ([101, 99, 108, 105, 112, 115, 101, 115, 32] ++ I0))) W := add_str [101, 99, 108, 105, 112, 115, 101, 115, 32] I0 (by simp; omega)
 obtain ⟨L0, hL0⟩ : ∃ L0, [101, 99, 108, 105, 112, 115, 101, 115, 32] ++ I0 = L0 := ⟨_, rfl⟩
 rw [hL0] at g0 HL0
 clear hI0 hL0
 go_enter Tryz.func14, Tryz.ntmps14
 go_wp2_with fail
 refine (HD0.out _).mono ?_
 rintro e w1 ⟨rfl, hE1⟩
 have HE := Lib.hid hE1
 have hzz := hE1.size
 clear hE1
 go_wp2_with fail
 go_loopw [3, 4] (fun v i wr => TextRelE w1 l v i wr) (fun _ i _ => l.length - (intOf i).toNat)
 case atStart => exact ⟨0, Nat.zero_le _, rfl, by have := ownsRow_new w1 9 #[.string (bs L0)] 1 w1.heap.size rfl (by decide) (Nat.le_refl _); simpa [strCells1, linesE, HL0.out] using this, (Ext.refl w1).alloc _⟩
 case round =>
  obtain ⟨k, hk, rfl, hown, hX⟩ := hrel
  by_cases hlt : k < l.length
  ·obtain ⟨b, o, rfl, hc⟩ := (HM.out.ext (HE.out.trans hX)) (by omega)
   obtain ⟨q1, q2, q3⟩ := hc k hlt
   have hsz := hX.size
   have HSUCC := Lib.hid (linesE_succ l k hlt)
   have hmem := List.getElem_mem hlt
   have hn1 := HS.out.day _ hmem
   have hn2 := HS.out.far _ hmem
   have HX := Lib.hid hX
   have HOW := Lib.hid hown
   obtain ⟨m, hm⟩ : ∃ m, l[k] = m := ⟨_, rfl⟩
   rw [hm] at q1 q2 q3 HSUCC hn1 hn2
   have hli := eLine_is m
   have hw4 := eWord_len m.full
   have hd5 := itoa_small hn1.1 hn1.2
   have hf5 := itoa_small hn2.1 hn2.2
   obtain ⟨md, mf, mr⟩ := m
   simp only at q1 q2 q3 hli hw4 hd5 hf5 hn1 hn2
   have HD1 := Lib.hid (fun W => r_Decimal_any md W (by omega) (by omega))
   have HD2 := Lib.hid (fun W => r_Decimal_any mr W (by omega) (by omega))
   obtain ⟨I1, hI1⟩ : ∃ I1, Lib.itoa md = I1 := ⟨_, rfl⟩
   obtain ⟨I2, hI2⟩ : ∃ I2, Lib.itoa mr = I2 := ⟨_, rfl⟩
   rw [hI1] at hli hd5 HD1
   rw [hI2] at hli hf5 HD2
   cases mf
   ·have f1 : ∀ W : World, (Op.stringOp .add ⟨#[110, 101, 119]⟩ ⟨#[32]⟩).run Tryz.prog W = .ok (.string (bs (([110, 101, 119] : Bs) ++ [32]))) W := add_str ([110, 101, 119] : Bs) [32] (by decide)
    have f2 : ∀ W : World, (Op.stringOp .add (bs (([110, 101, 119] : Bs) ++ [32])) (bs I1)).run Tryz.prog W = .ok (.string (bs (([110, 101, 119] : Bs) ++ [32] ++ I1))) W := add_str _ _ (by simp; omega)
    have f3 : ∀ W : World, (Op.stringOp .add (bs (([110, 101, 119] : Bs) ++ [32] ++ I1)) ⟨#[32]⟩).run Tryz.prog W = .ok (.string (bs (([110, 101, 119] : Bs) ++ [32] ++ I1 ++ [32]))) W := add_str _ [32] (by simp; omega)
    have f4 : ∀ W : World, (Op.stringOp .add (bs (([110, 101, 119] : Bs) ++ [32] ++ I1 ++ [32])) (bs I2)).run Tryz.prog W = .ok (.string (bs (([110, 101, 119] : Bs) ++ [32] ++ I1 ++ [32] ++ I2))) W := add_str _ _ (by simp; omega)
    have hli2 : eLine ⟨md, false, mr⟩ = ([110, 101, 119] : Bs) ++ [32] ++ I1 ++ [32] ++ I2 := hli
    rw [← hli2] at f4
    obtain ⟨x, hx⟩ : ∃ x, eLine ⟨md, false, mr⟩ = x := ⟨_, rfl⟩
    rw [hx] at f4 HSUCC
    generalize ([110, 101, 119] : Bs) ++ [32] = T1 at f1 f2 f3 f4
    generalize T1 ++ I1 = T2 at f2 f3 f4
    generalize T2 ++ [32] = T3 at f3 f4
    clear hc hX hown hmem hm hli hli2 hI1 hI2 hx
    have q1c := q1
    have q3c := q3
    go_wp2_with fail
    clear q1 q2 q3
    refine wp_region_later_mix (v0 := u3) 18 (by kernel_rfl) (by kernel_rfl) rfl rfl (by kernel_rfl) ?_ (fun W hW => ?_)
    ·intro x
     rfl
    subst hW
    have y1 := fun X : Later W => X.ext.cell q1c
    have y3 := fun X : Later W => X.ext.cell q3c
    clear q1c q3c
    simp only [List.take_succ_cons, List.take_zero, List.drop_succ_cons, List.drop_zero, Act.put, List.setIfInBounds_toArray, List.set_cons_succ, List.set_cons_zero]
    repeat (go_big_quiet_step (fail))
    go_big_quiet_step ((go_at_call 50; exact Later.call (HD1.out _)))
    repeat (go_big_quiet_step (fail))
    go_big_quiet_step ((go_at_call 50; exact Later.call (HD2.out _)))
    repeat (go_big_quiet_step (fail))
    refine wpQuiet_nil ?_
    rintro ⟨w4, hE4⟩
    dsimp only
    go_wp2
    have hz4 := hE4.size
    refine ⟨⟨⟨_, hE4.alloc _⟩, rfl⟩, ?_⟩
    have hown4 := (ownsRow_of_block HOW.out (fun g hg => hE4.block g (HOW.out.lt g hg).2)).alloc (.cells #[.string (bs x)] 9)
    have HO4 := Lib.hid hown4
    clear hown4
    refine wpList_append_own_at _ rfl _ _ 95 rfl w1.heap.size 9 i0 _ 1 16 Tryz.underlying95 hi0 hz0 hz1 hz2 rfl (by decide) _ (k + 1) (strCells1 (linesE l k)) rfl HO4.out ⟨w4.heap.size, 0, none⟩ 1 1 [.string (bs x)] rfl rfl (World.news_of_block (cs := #[.string (bs x)]) (t := 9) (fr := (0, 0)) (heap_alloc_new _ _)) (by simp [Value.oneCell']) (by simp only [maxLen]; omega) (by omega) (by simp; omega) ?_
    intro v5 w5 hown6 hgrow6 _ _
    have HO6 := Lib.hid hown6
    have HX5 := Lib.hid (((HX.out.trans hE4).alloc _).grown hgrow6 (fun g hg => (HO4.out.lt g hg).1))
    clear hown6 hgrow6 hE4 y1 y3
    go_wp2
    refine NoPanic.normal ?_
    go_wp2_with fail
    go_roundw
    case measure => simp [intOf]; omega
    case rel =>
     refine ⟨k + 1, by omega, by go_num, ?_, HX5.out⟩
     rw [HSUCC.out]
     simpa [strCells1] using HO6.out
   ·have f1 : ∀ W : World, (Op.stringOp .add ⟨#[102, 117, 108, 108]⟩ ⟨#[32]⟩).run Tryz.prog W = .ok (.string (bs (([102, 117, 108, 108] : Bs) ++ [32]))) W := add_str ([102, 117, 108, 108] : Bs) [32] (by decide)
    have f2 : ∀ W : World, (Op.stringOp .add (bs (([102, 117, 108, 108] : Bs) ++ [32])) (bs I1)).run Tryz.prog W = .ok (.string (bs (([102, 117, 108, 108] : Bs) ++ [32] ++ I1))) W := add_str _ _ (by simp; omega)
    have f3 : ∀ W : World, (Op.stringOp .add (bs (([102, 117, 108, 108] : Bs) ++ [32] ++ I1)) ⟨#[32]⟩).run Tryz.prog W = .ok (.string (bs (([102, 117, 108, 108] : Bs) ++ [32] ++ I1 ++ [32]))) W := add_str _ [32] (by simp; omega)
    have f4 : ∀ W : World, (Op.stringOp .add (bs (([102, 117, 108, 108] : Bs) ++ [32] ++ I1 ++ [32])) (bs I2)).run Tryz.prog W = .ok (.string (bs (([102, 117, 108, 108] : Bs) ++ [32] ++ I1 ++ [32] ++ I2))) W := add_str _ _ (by simp; omega)
    have hli2 : eLine ⟨md, true, mr⟩ = ([102, 117, 108, 108] : Bs) ++ [32] ++ I1 ++ [32] ++ I2 := hli
    rw [← hli2] at f4
    obtain ⟨x, hx⟩ : ∃ x, eLine ⟨md, true, mr⟩ = x := ⟨_, rfl⟩
    rw [hx] at f4 HSUCC
    generalize ([102, 117, 108, 108] : Bs) ++ [32] = T1 at f1 f2 f3 f4
    generalize T1 ++ I1 = T2 at f2 f3 f4
    generalize T2 ++ [32] = T3 at f3 f4
    clear hc hX hown hmem hm hli hli2 hI1 hI2 hx
    have q1c := q1
    have q3c := q3
    go_wp2_with fail
    clear q1 q2 q3
    refine wp_region_later_mix (v0 := u3) 18 (by kernel_rfl) (by kernel_rfl) rfl rfl (by kernel_rfl) ?_ (fun W hW => ?_)
    ·intro x
     rfl
    subst hW
    have y1 := fun X : Later W => X.ext.cell q1c
    have y3 := fun X : Later W => X.ext.cell q3c
    clear q1c q3c
    simp only [List.take_succ_cons, List.take_zero, List.drop_succ_cons, List.drop_zero, Act.put, List.setIfInBounds_toArray, List.set_cons_succ, List.set_cons_zero]
    repeat (go_big_quiet_step (fail))
    go_big_quiet_step ((go_at_call 50; exact Later.call (HD1.out _)))
    repeat (go_big_quiet_step (fail))
    go_big_quiet_step ((go_at_call 50; exact Later.call (HD2.out _)))
    repeat (go_big_quiet_step (fail))
    refine wpQuiet_nil ?_
    rintro ⟨w4, hE4⟩
    dsimp only
    go_wp2
    have hz4 := hE4.size
    refine ⟨⟨⟨_, hE4.alloc _⟩, rfl⟩, ?_⟩
    have hown4 := (ownsRow_of_block HOW.out (fun g hg => hE4.block g (HOW.out.lt g hg).2)).alloc (.cells #[.string (bs x)] 9)
    have HO4 := Lib.hid hown4
    clear hown4
    refine wpList_append_own_at _ rfl _ _ 95 rfl w1.heap.size 9 i0 _ 1 16 Tryz.underlying95 hi0 hz0 hz1 hz2 rfl (by decide) _ (k + 1) (strCells1 (linesE l k)) rfl HO4.out ⟨w4.heap.size, 0, none⟩ 1 1 [.string (bs x)] rfl rfl (World.news_of_block (cs := #[.string (bs x)]) (t := 9) (fr := (0, 0)) (heap_alloc_new _ _)) (by simp [Value.oneCell']) (by simp only [maxLen]; omega) (by omega) (by simp; omega) ?_
    intro v5 w5 hown6 hgrow6 _ _
    have HO6 := Lib.hid hown6
    have HX5 := Lib.hid (((HX.out.trans hE4).alloc _).grown hgrow6 (fun g hg => (HO4.out.lt g hg).1))
    clear hown6 hgrow6 hE4 y1 y3
    go_wp2
    refine NoPanic.normal ?_
    go_wp2_with fail
    go_roundw
    case measure => simp [intOf]; omega
    case rel =>
     refine ⟨k + 1, by omega, by go_num, ?_, HX5.out⟩
     rw [HSUCC.out]
     simpa [strCells1] using HO6.out
  ·obtain rfl : k = l.length := by omega
   have hsz := hX.size
   have HEW := Lib.hid hX
   have hown7 : wr.ownsRow w1.heap.size 9 1 u3 (tabE l).length (strCells1 (tabE l)) := by
    rw [Ec.tabE_length, ← linesE_all]
    exact hown
   obtain ⟨A5, c5, rfl, hc5, hI5⟩ := Strs.of_own hown7
   have HI5 := Lib.hid hI5
   have hshort := tabE_short HS.out hfew
   have hlenL := Ec.tabE_length l
   have HTX : Hid (textE l = Lib.join (tabE l) [10] ++ [10] ++ endL (checkE (tabE l)) ++ [10]) := Lib.hid rfl
   clear hX hown hown7 hI5 hlt
   obtain ⟨L, hL⟩ : ∃ L, tabE l = L := ⟨_, rfl⟩
   rw [hL] at hshort hlenL HTX HI5 hc5 ⊢
   have hLl : L.length ≤ 1002 := by omega
   have hL1 : 1 ≤ L.length := by omega
   have HSH := Lib.hid hshort
   obtain ⟨w5, rfl⟩ : ∃ w5 : World, w5 = wr := ⟨_, rfl⟩
   clear hshort hlenL hL
   have hL64 : (L.length : Int) ≤ 1002 := by omega
   go_wp2_with fail
   go_loop [6, 7, 8] (fun o v i => ∃ k : Nat, k ≤ L.length ∧ i = .int .i64 k ∧ v = .int .i64 (checkN L k) ∧ o = .string (bs (outL L k))) (fun _ _ i => L.length - (intOf i).toNat)
   case atStart => exact ⟨0, Nat.zero_le _, rfl, rfl, rfl⟩
   case round =>
    obtain ⟨k, hk, rfl, rfl, rfl⟩ := hrel
    by_cases hlt : k < L.length
    ·obtain ⟨b, o, rfl, hc⟩ := HI5.out (by omega)
     have c0 := hc k hlt
     have hxs := HSH.out (L.getD k []) (by rw [List.getD_eq_getElem?_getD, List.getElem?_eq_getElem hlt]; exact List.getElem_mem hlt)
     have hcb := checkN_bound L k HSH.out hk hLl
     have HSTEP : Hid (checkN L (k + 1) = checkN L k + sumN (L.getD k []) k (L.getD k []).length) := Lib.hid rfl
     have HSB : Hid (∀ j, j ≤ (L.getD k []).length → sumN (L.getD k []) k j ≤ 136000000000000) := Lib.hid (fun j hj => sumN_bound _ k j hxs hj (by omega))
     have hol := outL_length L k HSH.out (by omega)
     have HOUT : Hid (outL L (k + 1) = outL L k ++ L.getD k [] ++ [10]) := Lib.hid rfl
     obtain ⟨y, hy⟩ : ∃ y, L.getD k [] = y := ⟨_, rfl⟩
     rw [hy] at c0 hxs HSTEP HSB HOUT
     obtain ⟨O, hO⟩ : ∃ O, outL L k = O := ⟨_, rfl⟩
     rw [hO] at hol HOUT ⊢
     have g1 := add_str O y (by omega)
     have g2 : ∀ W : World, (Op.stringOp .add (bs (O ++ y)) ⟨#[10]⟩).run Tryz.prog W = .ok (.string (bs (O ++ y ++ [10]))) W := add_str (O ++ y) [10] (by simp; omega)
     clear hO
     obtain ⟨C, hC⟩ : ∃ C, checkN L k = C := ⟨_, rfl⟩
     rw [hC] at hcb HSTEP ⊢
     have hC9 : (C : Int) ≤ 137000000000000000 := by omega
     have hlt' : (k : Int) < (L.length : Int) := by omega
     have hxs' : (y.length : Int) ≤ 23000 := by omega
     have hsz : (bs y).size = y.length := bs_size y
     clear hc hy hC hcb hxs hlt
     go_wp2_with fail
     go_loop [7, 9] (fun v i => ∃ j : Nat, j ≤ y.length ∧ i = .int .i64 j ∧ v = .int .i64 ((C + sumN y k j : Nat) : Int)) (fun _ i => y.length - (intOf i).toNat)
     case atStart => exact ⟨0, Nat.zero_le _, rfl, rfl⟩
     case round =>
      obtain ⟨j, hj, rfl, rfl⟩ := hrel
      by_cases hlt2 : j < y.length
      ·have hix := index_bs y j hlt2
       have hcc : ((y.getD j 0).toNat : Int) ≤ 255 := by have := (y.getD j 0).toNat_lt; omega
       have HST2 : Hid (sumN y k (j + 1) = sumN y k j + (y.getD j 0).toNat * (j + 1) * (k + 1)) := Lib.hid rfl
       have hsb := HSB.out j hj
       obtain ⟨q, hq⟩ : ∃ q, (y.getD j 0).toNat = q := ⟨_, rfl⟩
       rw [hq] at hix hcc HST2
       obtain ⟨D, hD⟩ : ∃ D, C + sumN y k j = D := ⟨_, rfl⟩
       have HD := Lib.hid hD
       rw [hD]
       have hD9 : (D : Int) ≤ 138000000000000000 := by omega
       have p1 : 0 ≤ (q : Int) * ((j : Int) + 1) := Int.mul_nonneg (by omega) (by omega)
       have p2 := mul_bounds (a := (q : Int)) (b := (j : Int) + 1) (A := 255) (B := 23000) (by omega) (by omega) (by omega) (by omega)
       have p3 : 0 ≤ (q : Int) * ((j : Int) + 1) * ((k : Int) + 1) := Int.mul_nonneg p1 (by omega)
       have p4 := mul_bounds (a := (q : Int) * ((j : Int) + 1)) (b := (k : Int) + 1) (A := 5865000) (B := 1003) (by omega) (by omega) (by omega) (by omega)
       have p5 : (q : Int) * ((j : Int) + 1) ≤ 5865000 := by omega
       have p6 : (q : Int) * ((j : Int) + 1) * ((k : Int) + 1) ≤ 5882595000 := by omega
       have hlt3 : (j : Int) < (y.length : Int) := by omega
       have HLT2 := Lib.hid hlt2
       clear hsb hq hD p2 p4 hlt2 hj
       go_wp2_with fail
       go_round
       case rel =>
        refine ⟨j + 1, by have := HLT2.out; omega, by go_num, congrArg (Value.int .i64) ?_⟩
        rw [HST2.out, ← Nat.add_assoc, HD.out]
        simp
       case measure => have := HLT2.out; simp [intOf]; omega
      ·obtain rfl : j = y.length := by omega
       rw [← HSTEP.out]
       clear hlt2 hj
       go_wp2_with fail
       go_round
       case rel => exact ⟨k + 1, by omega, by go_num, rfl, by rw [HOUT.out]; simp⟩
       case measure => simp [intOf]; omega
    ·obtain rfl : k = L.length := by omega
     clear hlt hk
     have hcb := checkN_bound L L.length HSH.out (Nat.le_refl _) hLl
     have hol := outL_length L L.length HSH.out (Nat.le_refl _)
     have hjl2 : L.length * (23000 + 1) ≤ 1002 * 23001 := Nat.mul_le_mul hLl (Nat.le_refl _)
     have hJ9 : (outL L L.length).length ≤ 23047002 := by omega
     have HOJ := Lib.hid (outL_join L (by intro h; rw [h] at hL1; simp at hL1))
     obtain ⟨ck, hck⟩ : ∃ ck : Nat, ((checkN L L.length : Nat) : Int) % 139 = (ck : Int) := ⟨checkN L L.length % 139, by omega⟩
     have hck2 : checkE L = ck := by unfold checkE; omega
     have HCK := Lib.hid hck2
     have hck9 : (ck : Int) < 139 := by omega
     have hck0 : (0 : Int) ≤ (ck : Int) := by omega
     have hcb9 : ((checkN L L.length : Nat) : Int) ≤ 137000000000000000 := by omega
     have ht9 : ((checkN L L.length : Nat) : Int).tmod 139 = (ck : Int) := by rw [Int.tmod_eq_emod_of_nonneg (by omega)]; exact hck
     clear hcb hjl2 hol hck2
     have hl1 := Lib.itoa_length_le ((ck : Int) / 100) (by omega) (by omega)
     have hl2 := Lib.itoa_length_le ((ck : Int) / 10 % 10) (by omega) (by omega)
     have hl3 := Lib.itoa_length_le ((ck : Int) % 10) (by omega) (by omega)
     have HJT : Hid (textE l = outL L L.length ++ [101, 110, 100, 32] ++ Lib.itoa ((ck : Int) / 100) ++ Lib.itoa ((ck : Int) / 10 % 10) ++ Lib.itoa ((ck : Int) % 10) ++ [10]) := Lib.hid (by
      rw [HTX.out, HCK.out, HOJ.out]
      unfold endL
      have e1 : ((ck / 100 : Nat) : Int) = (ck : Int) / 100 := by omega
      have e2 : ((ck / 10 % 10 : Nat) : Int) = (ck : Int) / 10 % 10 := by omega
      have e3 : ((ck % 10 : Nat) : Int) = (ck : Int) % 10 := by omega
      rw [e1, e2, e3]
      simp)
     have hI1 := fun W => r_Decimal_any ((ck : Int) / 100) W (by omega) (by omega)
     have hI2 := fun W => r_Decimal_any ((ck : Int) / 10 % 10) W (by omega) (by omega)
     have hI3 := fun W => r_Decimal_any ((ck : Int) % 10) W (by omega) (by omega)
     generalize outL L L.length = J at *
     generalize Lib.itoa ((ck : Int) / 100) = I1 at *
     generalize Lib.itoa ((ck : Int) / 10 % 10) = I2 at *
     generalize Lib.itoa ((ck : Int) % 10) = I3 at *
     have f1 : ∀ W : World, (Op.stringOp .add (bs J) ⟨#[101, 110, 100, 32]⟩).run Tryz.prog W = .ok (.string (bs (J ++ [101, 110, 100, 32]))) W := add_str J [101, 110, 100, 32] (by simp; omega)
     have f2 : ∀ W : World, (Op.stringOp .add (bs (J ++ [101, 110, 100, 32])) (bs I1)).run Tryz.prog W = .ok (.string (bs (J ++ [101, 110, 100, 32] ++ I1))) W := add_str _ _ (by simp; omega)
     have f3 : ∀ W : World, (Op.stringOp .add (bs (J ++ [101, 110, 100, 32] ++ I1)) (bs I2)).run Tryz.prog W = .ok (.string (bs (J ++ [101, 110, 100, 32] ++ I1 ++ I2))) W := add_str _ _ (by simp; omega)
     have f4 : ∀ W : World, (Op.stringOp .add (bs (J ++ [101, 110, 100, 32] ++ I1 ++ I2)) (bs I3)).run Tryz.prog W = .ok (.string (bs (J ++ [101, 110, 100, 32] ++ I1 ++ I2 ++ I3))) W := add_str _ _ (by simp; omega)
     have f5 : ∀ W : World, (Op.stringOp .add (bs (J ++ [101, 110, 100, 32] ++ I1 ++ I2 ++ I3)) ⟨#[10]⟩).run Tryz.prog W = .ok (.string (bs (J ++ [101, 110, 100, 32] ++ I1 ++ I2 ++ I3 ++ [10]))) W := add_str _ [10] (by simp; omega)
     generalize J ++ [101, 110, 100, 32] = T1 at *
     generalize T1 ++ I1 = T2 at *
     generalize T2 ++ I2 = T3 at *
     generalize T3 ++ I3 = T4 at *
     generalize T4 ++ [10] = T5 at *
     have K1 := Lib.hid hI1
     have K2 := Lib.hid hI2
     have K3 := Lib.hid hI3
     have HE6 := Lib.hid (HE.out.trans HEW.out)
     clear hI1 hI2 hI3 hJ9
     go_wp2_with fail
     refine (K1.out _).mono ?_
     rintro e w7 ⟨rfl, hE7⟩
     have HE7 := Lib.hid (HE6.out.trans hE7)
     clear hE7
     go_wp2_with fail
     refine (K2.out _).mono ?_
     rintro e w8 ⟨rfl, hE8⟩
     have HE8 := Lib.hid (HE7.out.trans hE8)
     clear hE8
     go_wp2_with fail
     refine (K3.out _).mono ?_
     rintro e w9 ⟨rfl, hE9⟩
     have HE9 := Lib.hid (HE8.out.trans hE9)
     clear hE9
     go_wp2_with fail
     go_ret
     exact ⟨by rw [HJT.out]; rfl, HE9.out⟩
end Go.Proofs.YtfkcbgehcbhjnaaGreatDoor
namespace Go.Proofs.YtfkcbgehcbhjnaaGreatDoor
open Go.RowKit
open Sp (rd)
open Ec (wEcl wNew wFull eWord eLine tabE checkE textE numE numFineE readE midE eclR EclNum)
set_option maxRecDepth 100000
set_option maxHeartbeats 4000000
set_option linter.unusedVariables false
theorem eclR_parts {y : Bs} {e : Sp.Ecl} (h : eclR y = some e) : ∃ t d f, sp1 32 y = [t, d, f] ∧ numE d = some e.day ∧ numE f = some e.far ∧ e.full = decide (t = wFull) := by
 unfold eclR at h
 split at h
 ·rename_i t d f hs
  obtain ⟨day, h1, h2⟩ := Option.bind_eq_some_iff.1 h
  obtain ⟨far, h3, h4⟩ := Option.bind_eq_some_iff.1 h2
  obtain rfl := Option.some.inj h4
  exact ⟨t, d, f, hs, h1, h3, rfl⟩
 ·cases h
theorem eclR_none {y : Bs} (h : eclR y = none) : (sp1 32 y).length ≠ 3 ∨ ∃ t d f, sp1 32 y = [t, d, f] ∧ (numE d = none ∨ ∃ n, numE d = some n ∧ numE f = none) := by
 unfold eclR at h
 split at h
 ·rename_i t d f hs
  refine .inr ⟨t, d, f, hs, ?_⟩
  cases hd : numE d with
  | none => exact .inl rfl
  | some n =>
   right
   refine ⟨n, rfl, ?_⟩
   rw [hd] at h
   cases hf : numE f with
   | none => rfl
   | some m => rw [hf] at h; cases h
 ·rename_i hs
  left
  intro h3
  match hL : sp1 32 y, h3 with
  | [t, d, f], _ => exact hs t d f hL
theorem read_no_row {x : Bs} {k : Nat} {y : Bs} (hy : (midE x)[k]? = some y) (h : eclR y = none) : readE x = none := by
 unfold readE
 cases hm : (midE x).mapM eclR with
 | none => rfl
 | some r =>
  have h4 := mapM_some.1 hm
  have h6 : ((midE x).map eclR)[k]? = (r.map some)[k]? := by rw [h4]
  simp only [List.getElem?_map, hy, Option.map_some, h] at h6
  cases hr : r[k]? with
  | none => rw [hr] at h6; cases h6
  | some e => rw [hr] at h6; cases h6
theorem read_all {x : Bs} {l : List Sp.Ecl} (h : (midE x).map eclR = l.map some) : readE x = if textE l = x then some l else none := by
 unfold readE
 rw [mapM_some.2 h]
 rfl
theorem num_of_rowsR {M : List Bs} {l : List Sp.Ecl} (h : M.map eclR = l.map some) : EclNum l := by
 have h1 : ∀ e ∈ l, (0 ≤ e.day ∧ e.day ≤ 99999) ∧ (0 ≤ e.far ∧ e.far ≤ 99999) := fun e he => by
  have : some e ∈ M.map eclR := by rw [h]; exact List.mem_map_of_mem he
  obtain ⟨y, _, hy⟩ := List.mem_map.1 this
  exact Ec.eclR_num hy
 exact ⟨fun e he => (h1 e he).1, fun e he => (h1 e he).2⟩
def ReadRel7 (M : List Bs) (w1 : World) (v i : Value) (wr : World) : Prop :=
 ∃ (k : Nat) (lp : List Sp.Ecl), k ≤ M.length ∧ i = .int .i64 ((k + 1 : Nat) : Int) ∧ lp.length = k ∧ (M.take k).map eclR = lp.map some ∧ wr.ownsRow w1.heap.size 87 3 v lp.length (eclCells lp) ∧ Ext w1 wr
def ReadPost7 (w : World) (x : Bs) (e : Ending) (w' : World) : Prop := Ext w w' ∧
 ((readE x = none ∧ e = .returned (.tuple #[.slice none 0 0, .bool false])) ∨ (∃ l v, readE x = some l ∧ EclNum l ∧ e = .returned (.tuple #[v, .bool true]) ∧ EclVal w' v l))
theorem r7_Read_any (x : Bs) (w : World) (hx : x.length ≤ 500) : Calls Tryz.prog 16 #[.string (bs x)] w (ReadPost7 w x) := by
 have HLE := Lib.hid (sp1_le 10 x)
 have hsx := bs_size x
 have HLC : Hid (1 ≤ (sp1 10 x).length ∧ (sp1 10 x).length ≤ 501) := Lib.hid (by rw [sp1_length]; have := List.count_le_length (a := (10 : UInt8)) (l := x); omega)
 have HROW := Lib.hid (fun k y hy h => read_no_row (x := x) (k := k) (y := y) hy h)
 have HALL := Lib.hid (fun l h => read_all (x := x) (l := l) h)
 have HMD : Hid (midE x = ((sp1 10 x).drop 1).take ((sp1 10 x).length - 3)) := Lib.hid rfl
 go_enter Tryz.func16, Tryz.ntmps16
 go_wp2_with fail
 refine (r7_split_any 10 10 rfl x _ (by omega)).mono ?_
 rintro e w1 ⟨A, cap, rfl, hcap, hS, _, hE1⟩
 have HE1 := Lib.hid hE1
 obtain ⟨L, hL⟩ : ∃ L, sp1 10 x = L := ⟨_, rfl⟩
 rw [hL] at hS HLE HLC HMD hcap ⊢
 have hl0 := HLC.out
 obtain ⟨b, o, rfl, hc⟩ := hS (by omega)
 have HC := Lib.hid hc
 obtain ⟨M, hM⟩ : ∃ M, midE x = M := ⟨_, rfl⟩
 rw [hM] at HROW HALL HMD
 have hML : M.length = L.length - 3 := by rw [HMD.out, List.length_take, List.length_drop]; omega
 have hM9 : M.length ≤ 500 := by omega
 have HIN : Hid (∀ k, k < M.length → ∃ y, M[k]? = some y ∧ y.length ≤ 500 ∧ w1.cell? ⟨b, o + (k + 1), none⟩ = some (.string (bs y))) := Lib.hid fun k hk => by
  have hk2 : k + 1 < L.length := by omega
  refine ⟨L[k + 1], ?_, ?_, ?_⟩
  ·rw [HMD.out, List.getElem?_take, if_pos (by omega), List.getElem?_drop, Nat.add_comm, List.getElem?_eq_getElem hk2]
  ·exact Nat.le_trans (HLE.out _ (List.getElem_mem hk2)) hx
  ·rw [HC.out (k + 1) hk2, List.getD_eq_getElem?_getD, List.getElem?_eq_getElem hk2]; rfl
 obtain ⟨i0, hi0, hi1, hi2, hi3⟩ := info_parts info_ecl
 have HL3 : Hid (M.length = L.length - 3 ∧ 1 ≤ L.length ∧ L.length ≤ 501) := Lib.hid ⟨hML, by omega, by omega⟩
 clear hS hcap hc hL hM hML hl0 HLE HLC hE1
 go_wp2_with fail
 go_loopw [4, 6] (fun v i wr => ReadRel7 M w1 v i wr) (fun _ i _ => L.length - (intOf i).toNat)
 case atStart => exact ⟨0, [], Nat.zero_le _, rfl, rfl, by simp, by simp [eclCells, World.ownsRow], Ext.refl _⟩
 case round =>
  obtain ⟨k, lp, hk, rfl, hlp, hmap, hown, hX⟩ := hrel
  have hszX := hX.size
  have hl3 := HL3.out
  by_cases hlt : k < M.length
  ·obtain ⟨y, hy, hyl, hc⟩ := HIN.out k hlt
   replace hc := hX.cell hc
   have hle := sp1_le 32 y
   have hle2 : lp.length ≤ 1000 := by omega
   have i1 : (k : Int) + 1 < (L.length : Int) - 2 := by omega
   have i2 : (k : Int) + 1 < (L.length : Int) := by omega
   have i3 : (L.length : Int) ≤ 501 := by omega
   have HLP := Lib.hid hlp
   have HX := Lib.hid hX
   have HOW := Lib.hid hown
   have HLT : Hid (k < M.length ∧ L.length ≤ 501) := Lib.hid ⟨hlt, by omega⟩
   have z1 := lts (lt_of_cell hc)
   simp only at z1
   clear hlp hk hl3
   cases hp : eclR y with
   | none =>
    have HNO := Lib.hid (HROW.out k y hy hp)
    clear hy hlt hown hX hmap
    rcases eclR_none hp with hn3 | ⟨t, d, f, hs, hcase⟩
    ·clear hp
     go_wp2_with fail
     refine (r7_split_any 32 32 rfl y wr (by omega)).mono ?_
     rintro e w3 ⟨A3, cap3, rfl, hcap3, hS3, hA3, hE3⟩
     have HE3 := Lib.hid (HE1.out.trans (HX.out.trans hE3))
     obtain ⟨n, hn⟩ : ∃ n, (sp1 32 y).length = n := ⟨_, rfl⟩
     rw [hn] at hn3 ⊢
     have hq : ((n : Int) == 3) = false := by rw [beq_eq_false_iff_ne]; omega
     have hq2 : ((n : Int) != 3) = true := by rw [bne, hq]; rfl
     clear hS3 hA3 hE3 hcap3 hn hc
     go_wp2_with fail
     go_ret2
     exact ⟨HE3.out, .inl ⟨HNO.out, rfl⟩⟩
    ·clear hp
     rw [hs] at hle
     have hdl := hle d (by simp)
     have hfl := hle f (by simp)
     have hsl := r7_split_any 32 32 rfl y wr (by omega)
     rw [hs] at hsl
     have HSL := Lib.hid hsl
     have HND := Lib.hid (fun W => r7_number_any d W (by omega))
     have HNF := Lib.hid (fun W => r7_number_any f W (by omega))
     have HCASE := Lib.hid hcase
     clear hle hs hsl hcase hdl hfl
     go_wp2_with fail
     refine HSL.out.mono ?_
     rintro e w3 ⟨A3, cap3, rfl, hcap3, hS3, hA3, hE3⟩
     have HE3 := Lib.hid (HE1.out.trans (HX.out.trans hE3))
     obtain ⟨b3, o3, rfl, hc3⟩ := hS3 (by simp)
     have d1 := hc3 1 (by simp)
     have d2 := hc3 2 (by simp)
     simp only [List.getD_cons_succ, List.getD_cons_zero] at d1 d2
     clear hS3 hA3 hE3 hcap3 hc3 hc
     simp only [List.length_cons, List.length_nil, Nat.reduceAdd]
     rcases HCASE.out with hn | ⟨n, hn, hn2⟩
     ·rw [hn] at HND
      go_wp2_with fail
      refine (HND.out _).mono ?_
      rintro e w4 ⟨rfl, hE4⟩
      simp only [Option.getD_none]
      clear d1 d2
      go_wp2_with fail
      go_ret2
      exact ⟨HE3.out.trans hE4, .inl ⟨HNO.out, rfl⟩⟩
     ·have hn0 : ¬ n < 0 := by have := (Ec.numE_some hn).2; omega
      rw [hn] at HND
      rw [hn2] at HNF
      go_wp2_with fail
      refine (HND.out _).mono ?_
      rintro e w4 ⟨rfl, hE4⟩
      simp only [Option.getD_some]
      replace d2 := hE4.cell d2
      clear d1
      go_wp2_with fail
      refine (HNF.out _).mono ?_
      rintro e w5 ⟨rfl, hE5⟩
      simp only [Option.getD_none]
      clear d2
      go_wp2_with fail
      go_ret2
      exact ⟨(HE3.out.trans hE4).trans hE5, .inl ⟨HNO.out, rfl⟩⟩
   | some e =>
    obtain ⟨t, d, f, hs, hd, hf, hfu⟩ := eclR_parts hp
    have HMP : Hid ((M.take (k + 1)).map eclR = (lp ++ [e]).map some) := Lib.hid (by
     obtain ⟨hk', rfl⟩ := List.getElem?_eq_some_iff.1 hy
     rw [List.take_succ_eq_append_getElem hk', List.map_append, hmap, List.map_append]
     simp [hp])
    rw [hs] at hle
    have hdl := hle d (by simp)
    have hfl := hle f (by simp)
    have htl := hle t (by simp)
    have hsl := r7_split_any 32 32 rfl y wr (by omega)
    rw [hs] at hsl
    have HSL := Lib.hid hsl
    have HND := Lib.hid (fun W => r7_number_any d W (by omega))
    have HNF := Lib.hid (fun W => r7_number_any f W (by omega))
    rw [hd] at HND
    rw [hf] at HNF
    have e1 := (Ec.numE_some hd).2
    have e2 := (Ec.numE_some hf).2
    obtain ⟨ed, eu, er⟩ := e
    simp only at e1 e2 hfu
    simp only [Option.getD_some] at HND HNF
    have hq : ((bs t).toList == [102, 117, 108, 108]) = eu := by
     rw [toList_bs, hfu, Bool.eq_iff_iff, beq_iff_eq, decide_eq_true_eq]
     rfl
    have HQ := Lib.hid hq
    have g1 : ¬ ed < 0 := by omega
    have g2 : ¬ er < 0 := by omega
    clear hy hle hs hd hf hX hown hsl hp hmap hlt hdl hfl htl hfu hq e1 e2
    go_wp2_with fail
    refine HSL.out.mono ?_
    rintro e w3 ⟨A3, cap3, rfl, hcap3, hS3, hA3, hE3⟩
    have HX3 := Lib.hid (HX.out.trans hE3)
    have HOW3 := Lib.hid (own_ext HOW.out hE3)
    obtain ⟨b3, o3, rfl, hc3⟩ := hS3 (by simp)
    have d0 := hc3 0 (by simp)
    have d1 := hc3 1 (by simp)
    have d2 := hc3 2 (by simp)
    simp only [List.getD_cons_succ, List.getD_cons_zero, Nat.add_zero] at d0 d1 d2
    clear hS3 hA3 hE3 hcap3 hc3 hc
    simp only [List.length_cons, List.length_nil, Nat.reduceAdd]
    go_wp2_with fail
    refine (HND.out _).mono ?_
    rintro e w4 ⟨rfl, hE4⟩
    replace d0 := hE4.cell d0
    replace d1 := hE4.cell d1
    replace d2 := hE4.cell d2
    have HX4 := Lib.hid (HX3.out.trans hE4)
    have HOW4 := Lib.hid (own_ext HOW3.out hE4)
    clear hE4
    go_wp2_with fail
    refine (HNF.out _).mono ?_
    rintro e w5 ⟨rfl, hE5⟩
    replace d0 := hE5.cell d0
    replace d1 := hE5.cell d1
    replace d2 := hE5.cell d2
    have HX5 := Lib.hid (HX4.out.trans hE5)
    have HOW5 := Lib.hid (own_ext HOW4.out hE5)
    have hz5 := lts (lt_of_cell d0)
    simp only at hz5
    clear hE5
    go_wp2_with fail
    refine wp_region_later_mix (v0 := u4) 14 (by kernel_rfl) (by kernel_rfl) rfl rfl (by kernel_rfl) ?_ (fun W hW => ?_)
    ·intro X
     rfl
    subst hW
    have y0 := fun X : Later W => X.ext.cell d0
    have y1 := fun X : Later W => X.ext.cell d1
    have y2 := fun X : Later W => X.ext.cell d2
    have hq := HQ.out
    clear d0 d1 d2
    simp only [List.take_succ_cons, List.take_zero, List.drop_succ_cons, List.drop_zero, Act.put, List.setIfInBounds_toArray, List.set_cons_succ, List.set_cons_zero]
    repeat (go_big_quiet_step (fail))
    go_big_quiet_step ((go_at_call 52; exact Later.call (HND.out _)))
    repeat (go_big_quiet_step (fail))
    go_big_quiet_step ((go_at_call 52; exact Later.call (HNF.out _)))
    repeat (go_big_quiet_step (fail))
    refine wpQuiet_nil ?_
    rintro ⟨w7, hE7⟩
    dsimp only
    go_wp2
    have hz7 := hE7.size
    have hz6 := HX5.out.size
    refine ⟨⟨⟨_, hE7.alloc _⟩, rfl⟩, ?_⟩
    have hown7 := (own_ext HOW5.out hE7).alloc (.cells #[.int .i64 ed, .bool eu, .int .i64 er] 87)
    have HO7 := Lib.hid hown7
    clear hown7
    refine wpList_append_lies _ rfl _ _ 22 rfl w1.heap.size 87 i0 _ 3 24 Tryz.underlying22 hi0 hi1 hi2 hi3 rfl (by decide) _ lp.length (eclCells lp) rfl HO7.out ⟨w7.heap.size, 0, none⟩ 1 1 [.int .i64 ed, .bool eu, .int .i64 er] rfl rfl (World.news_of_block (cs := #[.int .i64 ed, .bool eu, .int .i64 er]) (t := 87) (fr := (0, 0)) (heap_alloc_new _ _)) (by simp [Value.oneCell']) (by omega) (by simp only [maxLen]; omega) (by omega) (by simp; omega) _ rfl ?_
    intro gg cap w8 hown8 hgrow hat hlt4
    have HO8 := Lib.hid hown8
    have HX8 := Lib.hid (((HX5.out.trans hE7).alloc _).grown hgrow (fun g hg => (HO7.out.lt g hg).1))
    clear hown8 hgrow hat hE7 y0 y1 y2 hq
    go_wp2
    refine NoPanic.normal ?_
    go_wp2_with fail
    go_roundw
    case measure => have := HLT.out; simp [intOf]; omega
    case rel =>
     refine ⟨k + 1, lp ++ [⟨ed, eu, er⟩], by have := HLT.out; omega, by go_num, by have := HLP.out; simp; omega, HMP.out, ?_, HX8.out⟩
     simpa [eclCells_append, eclCells] using HO8.out
  ·obtain rfl : k = M.length := by omega
   rw [List.take_length] at hmap
   have HPA := Lib.hid (HALL.out lp hmap)
   have HNUM := Lib.hid (num_of_rowsR hmap)
   have hv := EclVal.of_own hown
   have HVL := Lib.hid hv
   have HX := Lib.hid hX
   obtain ⟨A5, c5, rfl, hA5⟩ := hv
   have HA5 := Lib.hid hA5
   have hll : lp.length ≤ 1000 := by omega
   have i1 : ¬ ((M.length : Int) + 1 < (L.length : Int) - 2) := by omega
   have i3 : (L.length : Int) ≤ 501 := by omega
   have i4 : (1 : Int) ≤ (L.length : Int) := by omega
   clear hown hX hA5 hmap hlp hl3
   go_wp2_with fail
   refine (r7_Print_any lp A5 c5 _ HA5.out HNUM.out hll).mono ?_
   rintro e w6 ⟨rfl, hE6⟩
   have HE6 := Lib.hid ((HE1.out.trans HX.out).trans hE6)
   have HVL6 := Lib.hid (HVL.out.ext hE6)
   clear hE6
   by_cases htx : textE lp = x
   ·rw [if_pos htx] at HPA
    rw [htx]
    have hq : ((bs x).toList == (bs x).toList) = true := by simp
    have hq2 : ((bs x).toList != (bs x).toList) = false := by simp
    go_wp2_with fail
    go_ret2
    exact ⟨HE6.out, .inr ⟨lp, _, HPA.out, HNUM.out, rfl, HVL6.out⟩⟩
   ·rw [if_neg htx] at HPA
    have hq : ((bs (textE lp)).toList == (bs x).toList) = false := by rw [toList_bs, toList_bs]; simpa using htx
    have hq2 : ((bs (textE lp)).toList != (bs x).toList) = true := by rw [bne, hq]; rfl
    clear htx
    go_wp2_with fail
    go_ret2
    exact ⟨HE6.out, .inl ⟨HPA.out, rfl⟩⟩
end Go.Proofs.YtfkcbgehcbhjnaaGreatDoor
namespace Go.Proofs.YtfkcbgehcbhjnaaGreatDoor
open Go.RowKit
open Sp (rd)
set_option maxRecDepth 100000
set_option maxHeartbeats 2000000
set_option linter.unusedVariables false
theorem r7_in_any (x lo hi : Int) (w : World) : Calls Tryz.prog 46 #[.int .i64 x, .int .i64 lo, .int .i64 hi] w fun e w' => e = .returned (.bool (Sp.inR x lo hi)) ∧ w = w' := by
 by_cases h1 : lo ≤ x <;> by_cases h2 : x ≤ hi <;>
 ·go_enter Tryz.func46, Tryz.ntmps46
  go_wp2_with fail
  all_goals
   go_ret
   exact ⟨ret_bool (by simp [Sp.inR, h1, h2]), rfl⟩
end Go.Proofs.YtfkcbgehcbhjnaaGreatDoor
namespace Go.Proofs.YtfkcbgehcbhjnaaGreatDoor
open Go.RowKit
open Sp (rd)
set_option maxRecDepth 100000
set_option maxHeartbeats 4000000
set_option linter.unusedVariables false
theorem r7_List_any (l : List Sp.Ecl) (A : Option Addr) (c : Nat) (w : World) (hm : EclAt w A l) (hl : l.length ≤ 100000) :
  Calls Tryz.prog 12 #[.slice A l.length c] w fun e w' => e = .returned (.bool (Ec.listOk l)) ∧ Ext w w' := by
 have HM := Lib.hid hm
 clear hm
 go_enter Tryz.func12, Tryz.ntmps12
 go_wp2_with fail
 go_loopw [3] (fun i wr => ∃ k : Nat, k ≤ l.length ∧ i = .int .i64 k ∧ (∀ j, (hj : j < k) → (hj' : j < l.length) → Ec.itemOk l[j] = true ∧ ∀ i, (hi : i + 1 = j) → Ec.before l[i] l[j] = true) ∧ Ext w wr) (fun i _ => l.length - (intOf i).toNat)
 case atStart => exact ⟨0, Nat.zero_le _, rfl, fun j hj => absurd hj (Nat.not_lt_zero _), Ext.refl _⟩
 case round =>
  obtain ⟨k, hk, rfl, hgo, hE⟩ := hrel
  have HGO := Lib.hid hgo
  have HE := Lib.hid hE
  clear hgo
  by_cases hlt : k < l.length
  ·obtain ⟨b, o, rfl, hcell⟩ := HM.out (by omega)
   have HC := Lib.hid hcell
   obtain ⟨q1, q2, q3⟩ := hcell k hlt
   replace q1 := hE.cell q1
   replace q2 := hE.cell q2
   replace q3 := hE.cell q3
   have HNO := Lib.hid (fun h => Ec.list_no (l := l) hlt h)
   have HIT : Hid (Ec.itemOk l[k] = (Sp.inR l[k].day 1 20000 && Sp.isLimit l[k].far)) := Lib.hid rfl
   have HNX : Hid (Ec.itemOk l[k] = true → (∀ i, (hi : i + 1 = k) → Ec.before l[i] l[k] = true) → ∀ j, (hj : j < k + 1) → (hj' : j < l.length) → Ec.itemOk l[j] = true ∧ ∀ i, (hi : i + 1 = j) → Ec.before l[i] l[j] = true) := Lib.hid (fun h1 h2 j hj hj' => by
    rcases Nat.lt_or_ge j k with h | h
    ·exact HGO.out j h hj'
    ·obtain rfl : j = k := by omega
     exact ⟨h1, h2⟩)
   have z1 := lts (lt_of_cell q1)
   simp only at z1
   obtain ⟨d, hd⟩ : ∃ d, l[k].day = d := ⟨_, rfl⟩
   obtain ⟨f, hf⟩ : ∃ f, l[k].far = f := ⟨_, rfl⟩
   obtain ⟨u, hu⟩ : ∃ u, l[k].full = u := ⟨_, rfl⟩
   have HBF : Hid (∀ j, (hj : j + 1 = k) → Ec.before l[j] l[k] = (decide (l[j].day < d) || (decide (l[j].day = d) && (!l[j].full && u)))) := Lib.hid (fun j hj => by rw [← hd, ← hu]; rfl)
   rw [hd] at q1 HIT
   rw [hu] at q2
   rw [hf] at q3 HIT
   clear hcell hd hf hu hE
   cases c1 : Sp.inR d 1 20000
   ·have HF := Lib.hid (HNO.out (by rw [HIT.out, c1]; rfl))
    go_wp2_with fail
    refine (r7_in_any _ _ _ _).mono ?_
    rintro e w1 ⟨rfl, rfl⟩
    rw [c1]
    go_wp2_with fail
    go_ret
    exact ⟨by rw [HF.out]; rfl, HE.out⟩
   ·cases c2 : Sp.isLimit f
    ·have HF := Lib.hid (HNO.out (by rw [HIT.out, c1, c2]; rfl))
     go_wp2_with fail
     refine (r7_in_any _ _ _ _).mono ?_
     rintro e w1 ⟨rfl, rfl⟩
     rw [c1]
     go_wp2_with fail
     refine (r_Limit_any _ _).mono ?_
     rintro e w1 ⟨rfl, rfl⟩
     rw [c2]
     go_wp2_with fail
     go_ret
     exact ⟨by rw [HF.out]; rfl, HE.out⟩
    ·have HOK := Lib.hid (show Ec.itemOk l[k] = true by rw [HIT.out, c1, c2]; rfl)
     go_wp2_with fail
     refine (r7_in_any _ _ _ _).mono ?_
     rintro e w1 ⟨rfl, rfl⟩
     rw [c1]
     go_wp2_with fail
     refine (r_Limit_any _ _).mono ?_
     rintro e w1 ⟨rfl, rfl⟩
     rw [c2]
     go_wp2_with fail
     clear c1 c2 HIT HNO
     rcases Nat.eq_zero_or_pos k with hk0 | hk0
     ·have hkk : ¬ (0 : Int) < (k : Int) := by omega
      clear q1 q2 q3
      go_quiet (fail)
      go_wp2
      go_roundw
      case rel => exact ⟨k + 1, by omega, by go_num, HNX.out HOK.out (fun i hi => by omega), HE.out.drewN _⟩
      case measure => simp [intOf]; omega
     ·obtain ⟨j, rfl⟩ : ∃ j, k = j + 1 := ⟨k - 1, by omega⟩
      obtain ⟨p1, p2, _⟩ := HC.out j (by omega)
      replace p1 := HE.out.cell p1
      replace p2 := HE.out.cell p2
      have HB := Lib.hid (HBF.out j rfl)
      have HN2 := Lib.hid (fun h => Ec.list_no2 (l := l) hlt h)
      obtain ⟨pd, hpd⟩ : ∃ d, l[j].day = d := ⟨_, rfl⟩
      obtain ⟨pf, hpf⟩ : ∃ f, l[j].full = f := ⟨_, rfl⟩
      rw [hpd] at p1 HB
      rw [hpf] at p2 HB
      clear hpd hpf HBF HC q3
      rcases (show d < pd ∨ pd = d ∨ pd < d by omega) with hd | hd | hd
      ·have HF := Lib.hid (HN2.out (by rw [HB.out, decide_eq_false (by omega), decide_eq_false (by omega)]; rfl))
       go_quiet (fail)
       go_wp2
       go_ret
       exact ⟨by rw [HF.out]; rfl, HE.out.drewN _⟩
      ·subst hd
       cases pf with
       | true =>
        have HF := Lib.hid (HN2.out (by rw [HB.out, decide_eq_false (by omega)]; simp))
        go_quiet (fail)
        go_wp2
        go_ret
        exact ⟨by rw [HF.out]; rfl, HE.out.drewN _⟩
       | false =>
        cases u with
        | false =>
         have HF := Lib.hid (HN2.out (by rw [HB.out, decide_eq_false (by omega)]; simp))
         go_quiet (fail)
         go_wp2
         go_ret
         exact ⟨by rw [HF.out]; rfl, HE.out.drewN _⟩
        | true =>
         have HF := Lib.hid (show Ec.before l[j] l[j + 1] = true by rw [HB.out]; simp)
         go_quiet (fail)
         go_wp2
         go_roundw
         case rel => exact ⟨j + 1 + 1, by omega, by go_num, HNX.out HOK.out (fun i hi => by cases (show i = j by omega); exact HF.out), HE.out.drewN _⟩
         case measure => simp [intOf]; omega
      ·have HF := Lib.hid (show Ec.before l[j] l[j + 1] = true by rw [HB.out, decide_eq_true hd]; rfl)
       have hd2 : ¬ d < pd := by omega
       have hd3 : (d == pd) = false := by rw [beq_eq_false_iff_ne]; omega
       go_quiet (fail)
       go_wp2
       go_roundw
       case rel => exact ⟨j + 1 + 1, by omega, by go_num, HNX.out HOK.out (fun i hi => by cases (show i = j by omega); exact HF.out), HE.out.drewN _⟩
       case measure => simp [intOf]; omega
  ·obtain rfl : k = l.length := by omega
   have HLO : Hid (Ec.listOk l = decide ((l.length : Int) ≤ 20)) := Lib.hid (by
    rw [Bool.eq_iff_iff, Ec.listOk_iff, decide_eq_true_eq]
    exact ⟨fun h => by omega, fun h => ⟨fun k hk => HGO.out k hk hk, by omega⟩⟩)
   clear hE
   go_wp2_with fail
   go_ret
   exact ⟨by rw [HLO.out]; rfl, HE.out⟩
end Go.Proofs.YtfkcbgehcbhjnaaGreatDoor
