/- Volume 8 of the texts that the laws of this seat use: TpRatios TpPlHas TpPlIs TpPlTry TpNearL: walks of the program's functions, and plain laws. -/
import Derived.Carry
import Derived.BigQuiet
import Derived.Recover
import Derived.Defers
import Derived.Test.YtimkmokomohgjaaGreatP05
import Derived.Test.YtimkmokomohgjaaGreatP07
namespace Go.Proofs.YtimkmokomohgjaaGreat
open Go.RowKit
open Sp (rd)
set_option maxRecDepth 100000
set_option maxHeartbeats 64000000
set_option linter.unusedVariables false
set_option linter.unusedSimpArgs false
theorem Tp.neq_turn (a b : Int) (w : World) : (binOp .neq 68 (.agg #[.int .i64 a, .int .i64 b]) (.agg #[.int .i64 a, .int .i64 b])).run Tryz.prog w = .ok (.bool false) w := by
  have hf : (Tryz.prog.fieldsOf 68).toList.map (fun f => (f.name, f.type, f.offset)) = [("Num", 3, 0), ("Den", 3, 1)] := by kernel_rfl
  obtain ⟨f1, f2, hfs, p1, p2⟩ := Tp.map_two hf
  obtain ⟨n1, t1, o1⟩ := Tp.field_parts p1
  obtain ⟨n2, t2, o2⟩ := Tp.field_parts p2
  rw [run_neq_struct, run_equalIn_agg w 9999 _ _ _ (by kernel_rfl) (by kernel_rfl), hfs]
  simp [Op.eqFields, n1, t1, o1, n2, t2, o2, part, go_sem]
/-- What the operations of 'by, is := l.joined(a, b, out[a])' yield. -/
def Tp.jnΦ (V O : Value) (H a k : Nat) (x1 x2 p1 p2 : Int) (is : Bool) (w0 : World) (i : Nat) (v : Value) (w : World) : Prop :=
  match i with
  | 0 => v = V
  | 1 => v = .int .i64 (a : Int)
  | 2 => v = .int .i64 (k : Int)
  | 3 => v = O
  | 4 => v = .int .i64 (a : Int)
  | 5 => v = .pointer (some ⟨H, a * 2, none⟩)
  | 6 => v = .agg #[.int .i64 x1, .int .i64 x2]
  | 7 => v = .tuple #[.agg #[.int .i64 p1, .int .i64 p2], .bool is]
  | 8 => v = .tuple #[.agg #[.int .i64 p1, .int .i64 p2], .bool is]
  | 9 => v = .agg #[.int .i64 p1, .int .i64 p2]
  | 10 => v = .bool is
  | _ => ∃ b, v = .pointer (some ⟨b, 0, none⟩) ∧ w0.heap.size ≤ b ∧ Row w b 68 #[.int .i64 0, .int .i64 0]
theorem Tp.jnΦ_mono {V O : Value} {H a k : Nat} {x1 x2 p1 p2 : Int} {is : Bool} {w0 : World} (i : Nat) (v : Value) (w w' : World) (h : Tp.jnΦ V O H a k x1 x2 p1 p2 is w0 i v w) (he : Ext w w') : Tp.jnΦ V O H a k x1 x2 p1 p2 is w0 i v w' := by
  unfold Tp.jnΦ at h ⊢
  split at h <;> first
    | exact h
    | exact (let ⟨b, h1, h2, h3⟩ := h; ⟨b, h1, h2, h3.ext he⟩)
theorem Tp.tail_run (b o m cap : Nat) (W : World) (h : m + 1 ≤ cap) : ∃ o' cap', (Instr.sliceAt 48 (.slice (some ⟨b, o, none⟩) (m + 1) cap) (some (.int .i64 1)) none none).run Tryz.prog W = .ok (.slice (some ⟨b, o', none⟩) m cap') W ∧ ((cap = 1 ∧ o' = o ∧ cap' = 0) ∨ (cap ≠ 1 ∧ o' = o + 1 ∧ cap' = cap - 1)) := by
  have h1 : (1 : Int) ≤ ((m + 1 : Nat) : Int) := by omega
  have h2 : ((m + 1 : Nat) : Int) ≤ (cap : Int) := by omega
  have h3 : (1 : Int) ≤ (m : Int) + 1 := by omega
  have h4 : (m : Int) + 1 ≤ (cap : Int) := by omega
  have hu := Tryz.underlying48
  by_cases hc : cap = 1
  · refine ⟨o, 0, ?_, .inl ⟨hc, rfl, rfl⟩⟩
    subst hc
    obtain rfl : m = 0 := by omega
    go_simp
  · refine ⟨o + 1, cap - 1, ?_, .inr ⟨hc, rfl, rfl⟩⟩
    go_simp
theorem Tp.setCells_one (w : World) (b i : Nat) (v : Value) : w.setCells b i [v] = w.setCell ⟨b, i, none⟩ v := rfl
theorem Tp.unset_init {m : Nat} {p : Ec.Pair} (hm : 0 < m) (hp : p.drives ≠ 0) : Tp.unset ((List.replicate m (⟨0, 1⟩ : Ec.Pair)).set 0 p) + 1 = m := by
  rw [Tp.unset_put (by simpa using hm) (by unfold Tp.at_; rw [List.getD_eq_getElem?_getD, List.getElem?_replicate]; split <;> rfl) hp]
  unfold Tp.unset
  rw [List.countP_replicate]
  simp
theorem Tp.info_i : (Tryz.prog.info? 3).map (fun i => (i.zero, i.size, i.bytes)) = some (some (.int .i64 0), 1, 8) := by kernel_rfl
theorem Tp.row_turn {w : World} {H : Nat} {out : List Ec.Pair} (h : Row w H 68 (Tp.pc out).toArray) {k : Nat} (hk : k < out.length) : w.cell? ⟨H, k * 2, none⟩ = some (.int .i64 (Tp.at_ out k).drives) ∧ w.cell? ⟨H, k * 2 + 1, none⟩ = some (.int .i64 (Tp.at_ out k).driven) := by
  have g := Tp.pc_get out k hk
  rw [Tp.at_pd hk] at g
  exact ⟨by rw [h.cell, List.getElem?_toArray]; exact g.1, by rw [h.cell, List.getElem?_toArray]; exact g.2⟩
theorem Tp.row_put {w : World} {H : Nat} {out : List Ec.Pair} (h : Row w H 68 (Tp.pc out).toArray) (k : Nat) (p : Ec.Pair) : Row ((w.setCell ⟨H, k * 2, none⟩ (.int .i64 p.drives)).setCell ⟨H, k * 2 + 1, none⟩ (.int .i64 p.driven)) H 68 (Tp.pc (out.set k p)).toArray := by
  have := (h.set_ (k * 2) (.int .i64 p.drives)).set_ (k * 2 + 1) (.int .i64 p.driven)
  rw [← Tp.pc_set]
  simpa using this
theorem pl_ratios_any (links : List (Int × Ec.Pair)) (hands : List Int) (n nc nw bC cC bW cW bM cM M : Nat) (w : World) (hpa : Tp.PieceAll links hands) (hp : Tp.LayAt w links bC bW bM M) (hn : links.length = n) (h1 : 1 ≤ n) (h4 : n ≤ 4) (hnw : 2 * n = nw) (ht : ∀ q, q < nw → Sp.inR (Tp.wt links q) 4 50 = true) :
    Calls Tryz.prog 64 #[.agg #[.int .i64 120, .int .i64 120, .int .i64 0, .int .i64 0, .int .i64 0, .slice (some ⟨bC, 0, none⟩) nc cC, .slice (some ⟨bW, 0, none⟩) nw cW, .slice (some ⟨bM, 0, none⟩) n cM, .map (some M), .slice none 0 0], .int .i64 0] w fun e w' => ∃ H out, e = .returned (.slice (some ⟨H, 0, none⟩) nw nw) ∧ Row w' H 68 (Tp.pc out).toArray ∧ Tp.WI nw (Tp.tvW links) (Tp.wadj links) out [] nw 0 ∧ Ext w w' := by
  have HP := Lib.hid hp
  have HPA := Lib.hid hpa
  have HN := Lib.hid hn
  have HNW := Lib.hid hnw
  have HTT := Lib.hid ht
  have hw8 : nw ≤ 8 := by omega
  have hw2 : 2 ≤ nw := by omega
  have HMSH : Hid (∀ (a k : Nat) W, Tp.LayAt W links bC bW bM M → a < nw → k < nw → Calls Tryz.prog 119 #[.agg #[.int .i64 120, .int .i64 120, .int .i64 0, .int .i64 0, .int .i64 0, .slice (some ⟨bC, 0, none⟩) nc cC, .slice (some ⟨bW, 0, none⟩) nw cW, .slice (some ⟨bM, 0, none⟩) n cM, .map (some M), .slice none 0 0], .int .i64 (a : Int), .int .i64 (k : Int)] W fun e w' => e = .returned (.bool (decide (Tp.wmesh a k))) ∧ Ext W w') := Lib.hid (fun a k W h ha hk => by have h9 := pl_mesh_any links nc nw bC cC bW cW bM cM M a k W h (by omega) (by omega) (by omega); rw [hn] at h9; exact h9)
  have HSLV : Hid (∀ (a k : Nat) W, Tp.LayAt W links bC bW bM M → a < nw → k < nw → Calls Tryz.prog 120 #[.agg #[.int .i64 120, .int .i64 120, .int .i64 0, .int .i64 0, .int .i64 0, .slice (some ⟨bC, 0, none⟩) nc cC, .slice (some ⟨bW, 0, none⟩) nw cW, .slice (some ⟨bM, 0, none⟩) n cM, .map (some M), .slice none 0 0], .int .i64 (a : Int), .int .i64 (k : Int)] W fun e w' => e = .returned (.bool ((Tp.wc links a : Int) == (Tp.wc links k : Int))) ∧ Ext W w') := Lib.hid (fun a k W h ha hk => by have h9 := pl_sleeved_any links nc nw bC cC bW cW bM cM M a k W h (by omega) ha hk (by omega); rw [hn] at h9; exact h9)
  have HJN : Hid (∀ (a k : Nat) W, Tp.LayAt W links bC bW bM M → a < nw → k < nw → k ≠ a → ∃ P : Ec.Pair, ∃ is : Bool, (is = true → P = Tp.tvW links k) ∧ (is = true ↔ Tp.wadj links a k) ∧ ∀ W', Ext W W' → Calls Tryz.prog 121 #[.agg #[.int .i64 120, .int .i64 120, .int .i64 0, .int .i64 0, .int .i64 0, .slice (some ⟨bC, 0, none⟩) nc cC, .slice (some ⟨bW, 0, none⟩) nw cW, .slice (some ⟨bM, 0, none⟩) n cM, .map (some M), .slice none 0 0], .int .i64 (a : Int), .int .i64 (k : Int), .agg #[.int .i64 (Tp.tvW links a).drives, .int .i64 (Tp.tvW links a).driven]] W' fun e w' => e = .returned (.tuple #[.agg #[.int .i64 P.drives, .int .i64 P.driven], .bool is]) ∧ Ext W' w') := Lib.hid (fun a k W h ha hk hne => by have h9 := pl_joined_turn links hands nc nw bC cC bW cW bM cM M a k W hpa h (by omega) ha hk hne (by omega) ht; rw [hn] at h9; exact h9)
  have HRP := Lib.hid (fun b W hr => pl_Repeat_any n nw b W h1 h4 hnw hr)
  have r0 := (Row.new w 133 #[.int .i64 120, .int .i64 120, .int .i64 0, .int .i64 0, .int .i64 0, .slice (some ⟨bC, 0, none⟩) nc cC, .slice (some ⟨bW, 0, none⟩) nw cW, .slice (some ⟨bM, 0, none⟩) n cM, .map (some M), .slice none 0 0])
  have HR0 := Lib.hid (r0.alloc (.cells #[.int .i64 0, .int .i64 1] 68))
  have r1 : Row ((w.alloc (.cells #[.int .i64 120, .int .i64 120, .int .i64 0, .int .i64 0, .int .i64 0, .slice (some ⟨bC, 0, none⟩) nc cC, .slice (some ⟨bW, 0, none⟩) nw cW, .slice (some ⟨bM, 0, none⟩) n cM, .map (some M), .slice none 0 0] 133)).alloc (.cells #[.int .i64 0, .int .i64 1] 68)) (w.heap.size + 1) 68 #[.int .i64 0, .int .i64 1] := by
    have h := Row.new (w.alloc (.cells #[.int .i64 120, .int .i64 120, .int .i64 0, .int .i64 0, .int .i64 0, .slice (some ⟨bC, 0, none⟩) nc cC, .slice (some ⟨bW, 0, none⟩) nw cW, .slice (some ⟨bM, 0, none⟩) n cM, .map (some M), .slice none 0 0] 133)) 68 #[.int .i64 0, .int .i64 1]
    rw [World.size_alloc] at h
    exact h
  have HR1 := Lib.hid r1
  have HX0 := Lib.hid (((Ext.refl w).alloc (.cells #[.int .i64 120, .int .i64 120, .int .i64 0, .int .i64 0, .int .i64 0, .slice (some ⟨bC, 0, none⟩) nc cC, .slice (some ⟨bW, 0, none⟩) nw cW, .slice (some ⟨bM, 0, none⟩) n cM, .map (some M), .slice none 0 0] 133)).alloc (.cells #[.int .i64 0, .int .i64 1] 68))
  have c0 := r0.cell
  have hz0 : ((w.alloc (.cells #[.int .i64 120, .int .i64 120, .int .i64 0, .int .i64 0, .int .i64 0, .slice (some ⟨bC, 0, none⟩) nc cC, .slice (some ⟨bW, 0, none⟩) nw cW, .slice (some ⟨bM, 0, none⟩) n cM, .map (some M), .slice none 0 0] 133)).alloc (.cells #[.int .i64 0, .int .i64 1] 68)).heap.size = w.heap.size + 1 + 1 := by simp
  have HZ0 := Lib.hid hz0
  clear hp hpa hn hnw ht r0 r1 hz0
  go_enter Tryz.func64, Tryz.ntmps64
  go_wp2_with fail
  refine (HRP.out _ _ HR1.out).mono ?_
  rw [HZ0.out]
  rintro e W1 ⟨rfl, hO, hE1⟩
  have HO := Lib.hid hO
  have HE1 := Lib.hid (HX0.out.trans hE1)
  have HR2 := Lib.hid (HR0.out.ext hE1)
  have hz1 := hE1.size
  rw [HZ0.out] at hz1
  have y := Tp.row_turn hO (k := 0) (by rw [List.length_replicate]; omega)
  simp only [Nat.zero_mul, Nat.zero_add] at y
  obtain ⟨y0, y1⟩ := y
  have HPT := Lib.hid (Tp.row_put hO 0 ⟨1, 1⟩)
  have HTZ := Lib.hid (Tp.tvW_zero (links := links) HPA.out.ok.from_)
  clear hO hE1 c0
  obtain ⟨H, hH⟩ : ∃ H, w.heap.size + 1 + 1 = H := ⟨_, rfl⟩
  have HHH := Lib.hid hH
  rw [hH] at HO y0 y1 HPT hz1 ⊢
  clear hH
  have f1 := HO.out.free
  have hnwi : (0 : Int) < (nw : Int) := by omega
  have hnwn : 0 < nw := by omega
  simp only [Nat.zero_mul, Nat.zero_add] at HPT
  go_wp2_with fail
  have hho := HHH.out
  have hE2 : Ext w (((W1.setCell ⟨H, 0, none⟩ (.int .i64 1)).setCell ⟨H, 1, none⟩ (.int .i64 1)).alloc (.cells #[.int .i64 0] 3)) := ((HE1.out.setCell (p := ⟨H, 0, none⟩) (by simp only []; omega) _).setCell (p := ⟨H, 1, none⟩) (by simp only []; omega) _).alloc _
  have hR2 : Row (((W1.setCell ⟨H, 0, none⟩ (.int .i64 1)).setCell ⟨H, 1, none⟩ (.int .i64 1)).alloc (.cells #[.int .i64 0] 3)) w.heap.size 133 #[.int .i64 120, .int .i64 120, .int .i64 0, .int .i64 0, .int .i64 0, .slice (some ⟨bC, 0, none⟩) nc cC, .slice (some ⟨bW, 0, none⟩) nw cW, .slice (some ⟨bM, 0, none⟩) n cM, .map (some M), .slice none 0 0] := ((HR2.out.far (p := ⟨H, 0, none⟩) (by simp only []; omega) _).far (p := ⟨H, 1, none⟩) (by simp only []; omega) _).alloc _
  have hO2 : Row (((W1.setCell ⟨H, 0, none⟩ (.int .i64 1)).setCell ⟨H, 1, none⟩ (.int .i64 1)).alloc (.cells #[.int .i64 0] 3)) H 68 (Tp.pc ((List.replicate nw (⟨0, 1⟩ : Ec.Pair)).set 0 (Tp.tvW links 0))).toArray := by rw [HTZ.out]; exact HPT.out.alloc _
  have hL2 : Tp.LeftAt (((W1.setCell ⟨H, 0, none⟩ (.int .i64 1)).setCell ⟨H, 1, none⟩ (.int .i64 1)).alloc (.cells #[.int .i64 0] 3)) w.heap.size W1.heap.size 0 1 [0] := ⟨⟨#[.int .i64 0], by
    have h := Row.new ((W1.setCell ⟨H, 0, none⟩ (.int .i64 1)).setCell ⟨H, 1, none⟩ (.int .i64 1)) 3 #[.int .i64 0]
    simpa using h, by simp, fun k hk => by
      obtain rfl : k = 0 := by simpa using hk
      simp⟩, by have := HE1.out.size; exact this, by simp⟩
  have HWI := Lib.hid (Tp.WI.init (m := nw) (tv := Tp.tvW links) (adj := Tp.wadj links) (by omega) (fun q hq => (Tp.tvW_lim HPA.out (by have := HN.out; have := HNW.out; omega)).1.1))
  have HUI : Hid (([0] : List Nat).length + Tp.unset ((List.replicate nw (⟨0, 1⟩ : Ec.Pair)).set 0 (Tp.tvW links 0)) ≤ nw) := Lib.hid (by have h7 := Tp.unset_init (m := nw) (p := Tp.tvW links 0) hnwn (by rw [HTZ.out]; decide); simp only [List.length_cons, List.length_nil]; omega)
  have HE2 := Lib.hid hE2
  have HR3 := Lib.hid hR2
  have HO2 := Lib.hid hO2
  have HL2 := Lib.hid hL2
  clear hE2 hR2 hO2 hL2 y0 y1 f1 HPT HO HR2 HR1 HR0 HX0 HZ0 HRP HTZ HE1
  obtain ⟨b0, hb0⟩ : ∃ b, W1.heap.size = b := ⟨_, rfl⟩
  rw [hb0] at HL2 ⊢
  clear hb0 hz1
  generalize ((W1.setCell ⟨H, 0, none⟩ (.int .i64 1)).setCell ⟨H, 1, none⟩ (.int .i64 1)).alloc (.cells #[.int .i64 0] 3) = W2 at *
  obtain ⟨g, hg⟩ : ∃ g, w.heap.size = g := ⟨_, rfl⟩
  have HGG := Lib.hid hg
  rw [hg] at HR3 HL2 ⊢
  rw [hg] at hho
  clear hg HHH
  go_loopw [6] (fun v wr => ∃ (out : List Ec.Pair) (left : List Nat) (b o cap : Nat), v = .slice (some ⟨b, o, none⟩) left.length cap ∧ Tp.WI nw (Tp.tvW links) (Tp.wadj links) out left nw 0 ∧ left.length + Tp.unset out ≤ nw ∧ Tp.LeftAt wr g b o cap left ∧ Row wr H 68 (Tp.pc out).toArray ∧ Row wr g 133 #[.int .i64 120, .int .i64 120, .int .i64 0, .int .i64 0, .int .i64 0, .slice (some ⟨bC, 0, none⟩) nc cC, .slice (some ⟨bW, 0, none⟩) nw cW, .slice (some ⟨bM, 0, none⟩) n cM, .map (some M), .slice none 0 0] ∧ Ext w wr) (fun v wr => Tp.lenS v + Tp.msOut H wr)
  case atStart => exact ⟨_, [0], b0, 0, 1, rfl, HWI.out, HUI.out, HL2.out, HO2.out, HR3.out, HE2.out⟩
  case round =>
    obtain ⟨out, left, b, o, cap, rfl, hW, hUB, hL, hO, hR, hE⟩ := hrel
    clear HWI HL2 HO2 HR3 HE2
    have HW := Lib.hid hW
    have HL := Lib.hid hL
    have HO := Lib.hid hO
    have HR := Lib.hid hR
    have HE := Lib.hid hE
    clear hW hL hO hR hE
    generalize wr = W3 at *
    cases left with
    | nil =>
      simp only [List.length_nil]
      go_wp2_with fail
      go_ret
      exact ⟨H, out, rfl, HO.out, HW.out, HE.out⟩
    | cons a rest =>
      have hle := HL.out.le
      have d0 := HL.out.first
      have HLR := Lib.hid HL.out.rest
      have hav := HW.out.lefts a (by simp)
      have HWP := Lib.hid HW.out.pop
      have HMS := Lib.hid (Tp.msOut_row HO.out)
      simp only [List.length_cons] at hle ⊢
      obtain ⟨m, hm⟩ : ∃ m, rest.length = m := ⟨_, rfl⟩
      rw [hm] at hle ⊢
      have HM := Lib.hid hm
      clear hm
      have HUB : Hid (m + 1 + Tp.unset out ≤ nw) := Lib.hid (by have := HM.out; simp only [List.length_cons] at hUB; omega)
      clear hUB
      have hm0 : (0 : Int) < ((m + 1 : Nat) : Int) := by omega
      have hm2 : 0 < m + 1 := by omega
      have hm4 : (0 : Int) < ((m : Nat) : Int) + 1 := by omega
      obtain ⟨o', cap', hsl, hoc⟩ := Tp.tail_run b o m cap W3 hle
      have HLQ : Hid (Tp.LeftAt W3 g b o' cap' rest) := Lib.hid (by
        rcases hoc with ⟨h1, rfl, rfl⟩ | ⟨_, rfl, rfl⟩
        · obtain ⟨⟨cs, a1, a2, _⟩, a4, _⟩ := HL.out
          have h0 : rest = [] := List.eq_nil_of_length_eq_zero (by rw [HM.out]; omega)
          subst h0
          exact ⟨⟨cs, a1, by omega, fun k hk => absurd hk (Nat.not_lt_zero _)⟩, a4, by simp⟩
        · exact HLR.out)
      clear hoc HLR
      have c3 := HR.out.cell
      go_wp2_with fail
      clear hsl d0 c3
      have hav2 := hav.2
      have ha1 := hav.1
      clear hav
      go_loopw [6, 36] (fun v i wr => ∃ k : Nat, k ≤ nw ∧ i = .int .i64 (k : Int) ∧ ∃ (out' : List Ec.Pair) (left' : List Nat) (b' o2 c2 : Nat), v = .slice (some ⟨b', o2, none⟩) left'.length c2 ∧ Tp.WI nw (Tp.tvW links) (Tp.wadj links) out' left' a k ∧ Tp.at_ out' a = Tp.tvW links a ∧ left'.length + Tp.unset out' = m + Tp.unset out ∧ Tp.LeftAt wr g b' o2 c2 left' ∧ Row wr H 68 (Tp.pc out').toArray ∧ Row wr g 133 #[.int .i64 120, .int .i64 120, .int .i64 0, .int .i64 0, .int .i64 0, .slice (some ⟨bC, 0, none⟩) nc cC, .slice (some ⟨bW, 0, none⟩) nw cW, .slice (some ⟨bM, 0, none⟩) n cM, .map (some M), .slice none 0 0] ∧ Ext w wr) (fun _ i _ => nw - (intOf i).toNat)
      case atStart => exact ⟨0, Nat.zero_le _, rfl, out, rest, b, o', cap', by rw [HM.out], HWP.out, hav2, by rw [HM.out], HLQ.out, HO.out, HR.out, HE.out⟩
      case round =>
        obtain ⟨k, hk, rfl, out', left', b', o2, c2, rfl, hW, hA, hMS, hL, hO, hR, hE⟩ := hrel
        have HW4 := Lib.hid hW
        have HA4 := Lib.hid hA
        have HMS4 := Lib.hid hMS
        have HL4 := Lib.hid hL
        have HO4 := Lib.hid hO
        have HR4 := Lib.hid hR
        have HE4 := Lib.hid hE
        have HLY := Lib.hid (HP.out.ext hE)
        clear hW hA hMS hL hO hR hE
        generalize wr = W4 at *
        rcases Nat.lt_or_eq_of_le hk with h9 | h9
        · have h9' : (k : Int) < (nw : Int) := by omega
          by_cases hka : k = a
          · subst hka
            go_wp2_with fail
            go_roundw
            case rel => exact ⟨k + 1, by omega, by go_num, out', left', b', o2, c2, rfl, HW4.out.none (fun h => h.1 rfl), HA4.out, HMS4.out, HL4.out, HO4.out, HR4.out, HE4.out⟩
            case measure => simp [intOf]; omega
          · have hkb : ((k : Int) == (a : Int)) = false := by rw [beq_eq_false_iff_ne]; omega
            have hkc : ¬ (k : Int) = (a : Int) := by omega
            have c4 := HR4.out.cell
            go_wp2_with fail
            refine (HMSH.out a k W4 HLY.out ha1 h9).mono ?_
            rintro e W5 ⟨rfl, hE5⟩
            have HE5 := Lib.hid (HE4.out.trans hE5)
            have HR5 := Lib.hid (HR4.out.ext hE5)
            have HO5 := Lib.hid (HO4.out.ext hE5)
            have HL5 := Lib.hid (HL4.out.ext hE5)
            have HLY5 := Lib.hid (HLY.out.ext hE5)
            clear hE5 c4
            have c5 := HR5.out.cell
            by_cases hms : Tp.wmesh a k
            · rw [decide_eq_true hms]
              have hap := Tp.mesh_apart HPA.out.ok.from_ hms
              have hsv : ((Tp.wc links a : Int) == (Tp.wc links k : Int)) = false := by rw [beq_eq_false_iff_ne]; omega
              go_wp2_with fail
              refine (HSLV.out a k W5 HLY5.out ha1 h9).mono ?_
              rw [hsv]
              rintro e W7 ⟨rfl, hE7⟩
              replace HE5 := Lib.hid (HE5.out.trans hE7)
              replace HR5 := Lib.hid (HR5.out.ext hE7)
              replace HO5 := Lib.hid (HO5.out.ext hE7)
              replace HL5 := Lib.hid (HL5.out.ext hE7)
              replace HLY5 := Lib.hid (HLY5.out.ext hE7)
              clear hE7 c5 hap hsv
              go_wp2_with fail
              have haw : (a : Int) < (nw : Int) := by omega
              obtain ⟨d1, d2⟩ := Tp.row_turn HO5.out (k := a) (by have := HW4.out.len; omega)
              rw [HA4.out] at d1 d2
              obtain ⟨P, is, hP1, hP2, hJ⟩ := HJN.out a k W7 HLY5.out ha1 h9 hka
              obtain ⟨x1, hx1⟩ : ∃ x, (Tp.tvW links a).drives = x := ⟨_, rfl⟩
              obtain ⟨x2, hx2⟩ : ∃ x, (Tp.tvW links a).driven = x := ⟨_, rfl⟩
              rw [hx1] at d1
              rw [hx2] at d2
              rw [hx1, hx2] at hJ
              have HJ := Lib.hid hJ
              have HP1 := Lib.hid hP1
              have HP2 := Lib.hid hP2
              have HD1 := Lib.hid d1
              have HD2 := Lib.hid d2
              clear hJ hx1 hx2 hP1 hP2 d1 d2
              obtain ⟨p1, hp1⟩ : ∃ x, P.drives = x := ⟨_, rfl⟩
              obtain ⟨p2, hp2⟩ : ∃ x, P.driven = x := ⟨_, rfl⟩
              rw [hp1, hp2] at HJ
              have HPP : Hid (P = ⟨p1, p2⟩) := Lib.hid (by rw [← hp1, ← hp2])
              clear hp1 hp2
              have HAW := Lib.hid haw
              apply Tp.wp_named
              intro a0 ha0
              refine Code.wp_mono (Q := fun e' a' w' => e' = .normal ∧ ∃ b9, W7.heap.size ≤ b9 ∧ Ext W7 w' ∧ Row w' b9 68 #[.int .i64 p1, .int .i64 p2] ∧ a' = (((((((((((((a0.put (some 57) (.agg #[.int .i64 120, .int .i64 120, .int .i64 0, .int .i64 0, .int .i64 0, .slice (some ⟨bC, 0, none⟩) nc cC, .slice (some ⟨bW, 0, none⟩) nw cW, .slice (some ⟨bM, 0, none⟩) n cM, .map (some M), .slice none 0 0])).put (some 58) (.int .i64 (a : Int))).put (some 59) (.int .i64 (k : Int))).put (some 60) (.slice (some ⟨H, 0, none⟩) nw nw)).put (some 61) (.int .i64 (a : Int))).put (some 62) (.pointer (some ⟨H, a * 2, none⟩))).put (some 63) (.agg #[.int .i64 x1, .int .i64 x2])).put (some 64) (.tuple #[.agg #[.int .i64 p1, .int .i64 p2], .bool is])).put (some 56) (.tuple #[.agg #[.int .i64 p1, .int .i64 p2], .bool is])).put (some 65) (.agg #[.int .i64 p1, .int .i64 p2])).put (some 66) (.bool is)).put (some 9) (.pointer (some ⟨b9, 0, none⟩))).put (some 10) (.bool is))) ?hq ?hr
              case hr =>
                refine wp_region_free_tail 12 10 (Tp.jnΦ (.agg #[.int .i64 120, .int .i64 120, .int .i64 0, .int .i64 0, .int .i64 0, .slice (some ⟨bC, 0, none⟩) nc cC, .slice (some ⟨bW, 0, none⟩) nw cW, .slice (some ⟨bM, 0, none⟩) n cM, .map (some M), .slice none 0 0]) (.slice (some ⟨H, 0, none⟩) nw nw) H a k x1 x2 p1 p2 is W7) (by kernel_rfl) (by simp) (by rw [ha0]; kernel_rfl) (by kernel_rfl) (by kernel_rfl) (by kernel_rfl) Tp.jnΦ_mono ?hob ?hQ ?hZ
                case hob =>
                  intro i o9 hin ho a' wa hE hF
                  match i, hin with
                  | 0, _ =>
                    obtain rfl := Option.some.inj ho
                    have h0 : a'.tmps[2]?.getD undef = .pointer (some ⟨g, 0, none⟩) := evalD ((hF.old 2 (by decide)).trans (by rw [ha0]; rfl))
                    have q := (Row.ext HR5.out hE).cell
                    refine Ran.value rfl (v := .agg #[.int .i64 120, .int .i64 120, .int .i64 0, .int .i64 0, .int .i64 0, .slice (some ⟨bC, 0, none⟩) nc cC, .slice (some ⟨bW, 0, none⟩) nw cW, .slice (some ⟨bM, 0, none⟩) n cM, .map (some M), .slice none 0 0]) (w1 := wa) ?_ ⟨rfl, Ext.refl _⟩
                    go_simp
                  | 1, _ =>
                    obtain rfl := Option.some.inj ho
                    have h0 : a'.tmps[7]?.getD undef = .int .i64 (a : Int) := evalD ((hF.old 7 (by decide)).trans (by rw [ha0]; rfl))
                    refine Ran.value rfl (v := .int .i64 (a : Int)) (w1 := wa) ?_ ⟨rfl, Ext.refl _⟩
                    go_simp
                  | 2, _ =>
                    obtain rfl := Option.some.inj ho
                    have h0 : a'.tmps[8]?.getD undef = .int .i64 (k : Int) := evalD ((hF.old 8 (by decide)).trans (by rw [ha0]; rfl))
                    refine Ran.value rfl (v := .int .i64 (k : Int)) (w1 := wa) ?_ ⟨rfl, Ext.refl _⟩
                    go_simp
                  | 3, _ =>
                    obtain rfl := Option.some.inj ho
                    have h0 : a'.tmps[5]?.getD undef = .slice (some ⟨H, 0, none⟩) nw nw := evalD ((hF.old 5 (by decide)).trans (by rw [ha0]; rfl))
                    refine Ran.value rfl (v := .slice (some ⟨H, 0, none⟩) nw nw) (w1 := wa) ?_ ⟨rfl, Ext.refl _⟩
                    go_simp
                  | 4, _ =>
                    obtain rfl := Option.some.inj ho
                    have h0 : a'.tmps[7]?.getD undef = .int .i64 (a : Int) := evalD ((hF.old 7 (by decide)).trans (by rw [ha0]; rfl))
                    refine Ran.value rfl (v := .int .i64 (a : Int)) (w1 := wa) ?_ ⟨rfl, Ext.refl _⟩
                    go_simp
                  | 5, _ =>
                    obtain rfl := Option.some.inj ho
                    have h0 : a'.tmps[60]?.getD undef = .slice (some ⟨H, 0, none⟩) nw nw := evalD (hF.from_ 3 60 rfl (by decide))
                    have h1 : a'.tmps[61]?.getD undef = .int .i64 (a : Int) := evalD (hF.from_ 4 61 rfl (by decide))
                    have hq1 := HAW.out
                    refine Ran.value rfl (v := .pointer (some ⟨H, a * 2, none⟩)) (w1 := wa) ?_ ⟨rfl, Ext.refl _⟩
                    go_simp
                  | 6, _ =>
                    obtain rfl := Option.some.inj ho
                    have h0 : a'.tmps[62]?.getD undef = .pointer (some ⟨H, a * 2, none⟩) := evalD (hF.from_ 5 62 rfl (by decide))
                    have q0 := hE.cell HD1.out
                    have q1 := hE.cell HD2.out
                    refine Ran.value rfl (v := .agg #[.int .i64 x1, .int .i64 x2]) (w1 := wa) ?_ ⟨rfl, Ext.refl _⟩
                    go_simp
                  | 7, _ =>
                    obtain rfl := Option.some.inj ho
                    have h0 : a'.tmps[57]?.getD undef = .agg #[.int .i64 120, .int .i64 120, .int .i64 0, .int .i64 0, .int .i64 0, .slice (some ⟨bC, 0, none⟩) nc cC, .slice (some ⟨bW, 0, none⟩) nw cW, .slice (some ⟨bM, 0, none⟩) n cM, .map (some M), .slice none 0 0] := evalD (hF.from_ 0 57 rfl (by decide))
                    have h1 : a'.tmps[58]?.getD undef = .int .i64 (a : Int) := evalD (hF.from_ 1 58 rfl (by decide))
                    have h2 : a'.tmps[59]?.getD undef = .int .i64 (k : Int) := evalD (hF.from_ 2 59 rfl (by decide))
                    have h3 : a'.tmps[63]?.getD undef = .agg #[.int .i64 x1, .int .i64 x2] := evalD (hF.from_ 6 63 rfl (by decide))
                    refine Ran.enter rfl (f := 121) (args := #[.agg #[.int .i64 120, .int .i64 120, .int .i64 0, .int .i64 0, .int .i64 0, .slice (some ⟨bC, 0, none⟩) nc cC, .slice (some ⟨bW, 0, none⟩) nw cW, .slice (some ⟨bM, 0, none⟩) n cM, .map (some M), .slice none 0 0], .int .i64 (a : Int), .int .i64 (k : Int), .agg #[.int .i64 x1, .int .i64 x2]]) (w1 := wa) ?_ ?_
                    · go_simp
                    · refine (HJ.out wa hE).mono ?_
                      rintro r w9 ⟨rfl, hX1⟩
                      exact ⟨_, rfl, rfl, hX1⟩
                  | 8, _ =>
                    obtain rfl := Option.some.inj ho
                    have h0 : a'.tmps[64]?.getD undef = .tuple #[.agg #[.int .i64 p1, .int .i64 p2], .bool is] := evalD (hF.from_ 7 64 rfl (by decide))
                    refine Ran.value rfl (v := .tuple #[.agg #[.int .i64 p1, .int .i64 p2], .bool is]) (w1 := wa) ?_ ⟨rfl, Ext.refl _⟩
                    go_simp
                  | 9, _ =>
                    obtain rfl := Option.some.inj ho
                    have h0 : a'.tmps[56]?.getD undef = .tuple #[.agg #[.int .i64 p1, .int .i64 p2], .bool is] := evalD (hF.from_ 8 56 rfl (by decide))
                    refine Ran.value rfl (v := .agg #[.int .i64 p1, .int .i64 p2]) (w1 := wa) ?_ ⟨rfl, Ext.refl _⟩
                    go_simp
                  | 10, _ =>
                    obtain rfl := Option.some.inj ho
                    have h0 : a'.tmps[56]?.getD undef = .tuple #[.agg #[.int .i64 p1, .int .i64 p2], .bool is] := evalD (hF.from_ 8 56 rfl (by decide))
                    refine Ran.value rfl (v := .bool is) (w1 := wa) ?_ ⟨rfl, Ext.refl _⟩
                    go_simp
                  | 11, _ =>
                    obtain rfl := Option.some.inj ho
                    refine Ran.value rfl (w1 := wa.alloc (.cells #[.int .i64 0, .int .i64 0] 68)) (v := .pointer (some ⟨wa.heap.size, 0, none⟩)) (by kernel_rfl) ⟨⟨wa.heap.size, rfl, hE.size, Row.new _ _ _⟩, (Ext.refl _).alloc _⟩
                  | k + 12, hin => omega
                case hQ =>
                  intro vs w2 hE hΦ
                  have f0 : vs 0 = .agg #[.int .i64 120, .int .i64 120, .int .i64 0, .int .i64 0, .int .i64 0, .slice (some ⟨bC, 0, none⟩) nc cC, .slice (some ⟨bW, 0, none⟩) nw cW, .slice (some ⟨bM, 0, none⟩) n cM, .map (some M), .slice none 0 0] := hΦ 0 (by omega)
                  have f1 : vs 1 = .int .i64 (a : Int) := hΦ 1 (by omega)
                  have f2 : vs 2 = .int .i64 (k : Int) := hΦ 2 (by omega)
                  have f3 : vs 3 = .slice (some ⟨H, 0, none⟩) nw nw := hΦ 3 (by omega)
                  have f4 : vs 4 = .int .i64 (a : Int) := hΦ 4 (by omega)
                  have f5 : vs 5 = .pointer (some ⟨H, a * 2, none⟩) := hΦ 5 (by omega)
                  have f6 : vs 6 = .agg #[.int .i64 x1, .int .i64 x2] := hΦ 6 (by omega)
                  have f7 : vs 7 = .tuple #[.agg #[.int .i64 p1, .int .i64 p2], .bool is] := hΦ 7 (by omega)
                  have f8 : vs 8 = .tuple #[.agg #[.int .i64 p1, .int .i64 p2], .bool is] := hΦ 8 (by omega)
                  have f9 : vs 9 = .agg #[.int .i64 p1, .int .i64 p2] := hΦ 9 (by omega)
                  have f10 : vs 10 = .bool is := hΦ 10 (by omega)
                  obtain ⟨b9, f11, hb9, hr9⟩ : ∃ b, vs 11 = .pointer (some ⟨b, 0, none⟩) ∧ W7.heap.size ≤ b ∧ Row w2 b 68 #[.int .i64 0, .int .i64 0] := hΦ 11 (by omega)
                  have hrg : List.range 12 = [0, 1, 2, 3, 4, 5, 6, 7, 8, 9, 10, 11] := rfl
                  unfold putAll putS
                  simp only [List.length_cons, List.length_nil, List.take_succ_cons, List.take_zero, List.drop_succ_cons, List.drop_zero, Nat.reduceAdd, hrg, List.foldl_cons, List.foldl_nil, dstOf, List.getElem?_cons_succ, List.getElem?_cons_zero, Option.bind_some]
                  clear hrg
                  rw [f0, f1, f2, f3, f4, f5, f6, f7, f8, f9, f10, f11]
                  rw [ha0]
                  simp only [Act.put, List.setIfInBounds_toArray, List.set_cons_succ, List.set_cons_zero]
                  have c9 := hr9.cell
                  have z9 := hr9.free
                  go_wp2
                  exact ⟨b9, hb9, (hE.setCell (p := ⟨b9, 0, none⟩) hb9 _).setCell (p := ⟨b9, 1, none⟩) hb9 _, (hr9.set_ 0 (.int .i64 p1)).set_ 1 (.int .i64 p2), rfl⟩
                case hZ =>
                  intro _ vs w2 hE hΦ on oz hon hoz
                  obtain rfl := Option.some.inj hon
                  obtain rfl := Option.some.inj hoz
                  have f0 : vs 0 = .agg #[.int .i64 120, .int .i64 120, .int .i64 0, .int .i64 0, .int .i64 0, .slice (some ⟨bC, 0, none⟩) nc cC, .slice (some ⟨bW, 0, none⟩) nw cW, .slice (some ⟨bM, 0, none⟩) n cM, .map (some M), .slice none 0 0] := hΦ 0 (by omega) (by omega)
                  have f1 : vs 1 = .int .i64 (a : Int) := hΦ 1 (by omega) (by omega)
                  have f2 : vs 2 = .int .i64 (k : Int) := hΦ 2 (by omega) (by omega)
                  have f3 : vs 3 = .slice (some ⟨H, 0, none⟩) nw nw := hΦ 3 (by omega) (by omega)
                  have f4 : vs 4 = .int .i64 (a : Int) := hΦ 4 (by omega) (by omega)
                  have f5 : vs 5 = .pointer (some ⟨H, a * 2, none⟩) := hΦ 5 (by omega) (by omega)
                  have f6 : vs 6 = .agg #[.int .i64 x1, .int .i64 x2] := hΦ 6 (by omega) (by omega)
                  have f7 : vs 7 = .tuple #[.agg #[.int .i64 p1, .int .i64 p2], .bool is] := hΦ 7 (by omega) (by omega)
                  have f8 : vs 8 = .tuple #[.agg #[.int .i64 p1, .int .i64 p2], .bool is] := hΦ 8 (by omega) (by omega)
                  have f9 : vs 9 = .agg #[.int .i64 p1, .int .i64 p2] := hΦ 9 (by omega) (by omega)
                  obtain ⟨b9, f11, hb9, hr9⟩ : ∃ b, vs 11 = .pointer (some ⟨b, 0, none⟩) ∧ W7.heap.size ≤ b ∧ Row w2 b 68 #[.int .i64 0, .int .i64 0] := hΦ 11 (by omega) (by omega)
                  have hrg : (List.range 12).filter (· ≠ 10) = [0, 1, 2, 3, 4, 5, 6, 7, 8, 9, 11] := by decide
                  rw [hrg]
                  unfold putS
                  simp only [List.take_succ_cons, List.take_zero, List.drop_succ_cons, List.drop_zero, Nat.reduceAdd, List.foldl_cons, List.foldl_nil, dstOf, List.getElem?_cons_succ, List.getElem?_cons_zero, Option.bind_some]
                  clear hrg
                  rw [f0, f1, f2, f3, f4, f5, f6, f7, f8, f9, f11]
                  rw [ha0]
                  simp only [Act.put, List.setIfInBounds_toArray, List.set_cons_succ, List.set_cons_zero]
                  have c9 := hr9.cell
                  have z9 := hr9.free
                  go_wp2
                  exact ⟨b9, hb9, (hE.setCell (p := ⟨b9, 0, none⟩) hb9 _).setCell (p := ⟨b9, 1, none⟩) hb9 _, (hr9.set_ 0 (.int .i64 p1)).set_ 1 (.int .i64 p2), rfl⟩
              case hq =>
                rintro e' a' W6 ⟨rfl, b9, hb9, hE6, hr9, rfl⟩
                rw [ha0]
                simp only [Act.put, List.setIfInBounds_toArray, List.set_cons_succ, List.set_cons_zero]
                have HE6 := Lib.hid (HE5.out.trans hE6)
                have HR6 := Lib.hid (HR5.out.ext hE6)
                have HO6 := Lib.hid (HO5.out.ext hE6)
                have HL6 := Lib.hid (HL5.out.ext hE6)
                have HR9 := Lib.hid hr9
                clear hE6 hr9 ha0 a0
                have hlk := HW4.out.len
                obtain ⟨d3, d4⟩ := Tp.row_turn HO6.out (k := k) (by omega)
                have c9 := HR9.out.cell
                cases is with
                | false =>
                  have hna : ¬ Tp.wadj links a k := fun h => absurd (HP2.out.2 h) (by decide)
                  go_wp2_with fail
                  go_roundw
                  case rel => exact ⟨k + 1, by omega, by go_num, out', left', b', o2, c2, rfl, HW4.out.none hna, HA4.out, HMS4.out, HL6.out, HO6.out, HR6.out, HE6.out⟩
                  case measure => simp [intOf]; omega
                | true =>
                  have hPt := HP1.out rfl
                  rw [HPP.out] at hPt
                  by_cases hd0 : (Tp.at_ out' k).drives = 0
                  · have HD00 := Lib.hid hd0
                    rw [hd0] at d3
                    clear hd0
                    have hf := HO6.out.free
                    have z9 := HR9.out.free
                    have hnb := HL6.out.not_row HO6.out (by decide)
                    have hnb2 := HL6.out.not_row HR6.out (by decide)
                    have HE8 := Lib.hid (((HE6.out.setCell (p := ⟨H, k * 2, none⟩) (by have := HGG.out; simp only []; omega) (.int .i64 p1)).setCell (p := ⟨H, k * 2 + 1, none⟩) (by have := HGG.out; simp only []; omega) (.int .i64 p2)).alloc (.cells #[.int .i64 (k : Int)] 3))
                    have HL7 := Lib.hid ((HL6.out.off (p := ⟨H, k * 2, none⟩) (Ne.symm hnb) (.int .i64 p1)).off (p := ⟨H, k * 2 + 1, none⟩) (Ne.symm hnb) (.int .i64 p2))
                    have HL8 := Lib.hid (HL7.out.ext ((Ext.refl _).alloc (.cells #[.int .i64 (k : Int)] 3)))
                    have HO8 := Lib.hid ((Tp.row_put HO6.out k ⟨p1, p2⟩).alloc (.cells #[.int .i64 (k : Int)] 3))
                    have HR8 := Lib.hid (((HR6.out.far (p := ⟨H, k * 2, none⟩) (by simp only []; omega) (.int .i64 p1)).far (p := ⟨H, k * 2 + 1, none⟩) (by simp only []; omega) (.int .i64 p2)).alloc (.cells #[.int .i64 (k : Int)] 3))
                    have HNB : Hid (∀ j u, [(.int .i64 (k : Int) : Value)][j]? = some u → (((W6.setCell ⟨H, k * 2, none⟩ (.int .i64 p1)).setCell ⟨H, k * 2 + 1, none⟩ (.int .i64 p2)).alloc (.cells #[.int .i64 (k : Int)] 3)).cell? ((⟨W6.heap.size, 0, none⟩ : Addr).add j) = some u) := Lib.hid (World.news_of_block (cs := #[.int .i64 (k : Int)]) (t := 3) (fr := (0, 0)) (by have h8 := heap_alloc_new ((W6.setCell ⟨H, k * 2, none⟩ (.int .i64 p1)).setCell ⟨H, k * 2 + 1, none⟩ (.int .i64 p2)) (.cells #[.int .i64 (k : Int)] 3); simpa using h8))
                    have hl8 : left'.length ≤ 100 := by have h7 := HMS4.out; have h6 := HUB.out; omega
                    have hlk9 : k < out'.length := by omega
                    have HLK9 := Lib.hid hlk9
                    clear hlk9
                    have HPN : Hid ((⟨p1, p2⟩ : Ec.Pair).drives ≠ 0) := Lib.hid (by rw [hPt]; exact (Tp.tvW_lim HPA.out (by have := HN.out; have := HNW.out; omega)).1.1)
                    obtain ⟨i0, hi0, hi1, hi2, hi3⟩ := info_parts Tp.info_i
                    have HPT2 := Lib.hid hPt
                    have HLK := Lib.hid hlk
                    clear hPt hlk
                    by_cases hrm : left'.length + 1 ≤ c2
                    · go_wp2_with (at_builtin; refine wpList_append_arg _ rfl (Operand.tmp 81) (Operand.tmp 83) 48 rfl 3 i0 (.int .i64 0) 1 8 Tryz.underlying48 hi0 hi1 hi2 hi3 rfl (by decide) b' o2 left'.length c2 (left'.map fun k : Nat => (.int .i64 (k : Int) : Value)) rfl (by simp) HL8.out.olds ⟨W6.heap.size, 0, none⟩ 1 1 [.int .i64 (k : Int)] rfl rfl HNB.out (by simp [Value.oneCell']) (fun hr j hj => HL8.out.spare hr j (by simpa using hj)) (by simp only [maxLen]; omega) (by omega) (fun _ => ?_) (fun h => absurd h (by omega)); rw [Tp.setCells_one, Nat.mul_one]; have HL9 := Lib.hid (Tp.push_room HL8.out k hrm))
                      go_roundw
                      case rel => exact ⟨k + 1, by omega, by go_num, out'.set k ⟨p1, p2⟩, left' ++ [k], b', o2, c2, by simp, by rw [HPT2.out]; exact HW4.out.put2 h9 HD00.out, by rw [Tp.at_set HLK9.out, if_neg (fun e => hka e.symm)]; exact HA4.out, by rw [List.length_append, List.length_singleton]; have h7 := Tp.unset_put (p := ⟨p1, p2⟩) HLK9.out HD00.out HPN.out; have h6 := HMS4.out; omega, HL9.out, (HO8.out.far (by simp only []; exact hnb) _), (HR8.out.far (by simp only []; exact hnb2) _), HE8.out.setCell (by have h7 := HL8.out.base; have := HGG.out; simp only []; omega) _⟩
                      case measure => simp [intOf]; omega
                    · go_wp2_with (at_builtin; refine wpList_append_arg _ rfl (Operand.tmp 81) (Operand.tmp 83) 48 rfl 3 i0 (.int .i64 0) 1 8 Tryz.underlying48 hi0 hi1 hi2 hi3 rfl (by decide) b' o2 left'.length c2 (left'.map fun k : Nat => (.int .i64 (k : Int) : Value)) rfl (by simp) HL8.out.olds ⟨W6.heap.size, 0, none⟩ 1 1 [.int .i64 (k : Int)] rfl rfl HNB.out (by simp [Value.oneCell']) (fun hr j hj => HL8.out.spare hr j (by simpa using hj)) (by simp only [maxLen]; omega) (by omega) (fun h => absurd h hrm) (fun _ v5 w9 ho5 hg5 => ?_); obtain ⟨b5, c5, hv5, hL9⟩ := Tp.push_grow ho5 (base := g) (by have h7 := HL8.out.row; have := HE8.out.size; have := HGG.out; omega); subst hv5; have HL9 := Lib.hid hL9; have HG9 := Lib.hid hg5; clear ho5 hL9 hg5)
                      go_roundw
                      case rel => exact ⟨k + 1, by omega, by go_num, out'.set k ⟨p1, p2⟩, left' ++ [k], b5, 0, c5, by simp, by rw [HPT2.out]; exact HW4.out.put2 h9 HD00.out, by rw [Tp.at_set HLK9.out, if_neg (fun e => hka e.symm)]; exact HA4.out, by rw [List.length_append, List.length_singleton]; have h7 := Tp.unset_put (p := ⟨p1, p2⟩) HLK9.out HD00.out HPN.out; have h6 := HMS4.out; omega, HL9.out, (HO8.out.ext ((Ext.refl _).grown HG9.out (fun q hq => by cases hq))), (HR8.out.ext ((Ext.refl _).grown HG9.out (fun q hq => by cases hq))), HE8.out.grown HG9.out (fun q hq => by cases hq)⟩
                      case measure => simp [intOf]; omega
                  · have ho := (HW4.out.old h9 hd0).1
                    have hwo := Lib.hid (HW4.out.old h9 hd0).2
                    rw [ho, ← hPt] at d3 d4
                    simp only at d3 d4
                    have hpne : ¬ p1 = 0 := by rw [ho, ← hPt] at hd0; exact hd0
                    have hpne2 : (p1 == 0) = false := by simpa using hpne
                    have heq := fun W => Tp.neq_turn p1 p2 W
                    go_wp2_with fail
                    refine wp_region_later (by kernel_rfl) (by kernel_rfl) (fun W hW => ?_)
                    have hXq : Ext W6 W := by rw [hW]; first | exact Ext.refl _ | exact (Ext.refl _).drewN _
                    clear hW
                    have HXQ := Lib.hid hXq
                    have u0 := fun X : Later W => (HXQ.out.trans X.ext).cell d3
                    have u1 := fun X : Later W => (HXQ.out.trans X.ext).cell d4
                    have u2 := fun X : Later W => (HR9.out.ext (HXQ.out.trans X.ext)).cell
                    clear hXq
                    repeat (go_big_quiet_step (fail))
                    refine wpQuiet_nil ?_
                    rintro ⟨w7, hEz⟩
                    dsimp only
                    have hE7 := HXQ.out.trans hEz
                    have HL7 := Lib.hid (HL6.out.ext hE7)
                    have HO7 := Lib.hid (HO6.out.ext hE7)
                    have HR7 := Lib.hid (HR6.out.ext hE7)
                    have HE7 := Lib.hid (HE6.out.trans hE7)
                    clear hEz u0 u1 u2 hE7 d3 d4 c9 heq
                    go_wp2_with fail
                    go_roundw
                    case rel => exact ⟨k + 1, by omega, by go_num, out', left', b', o2, c2, rfl, hwo.out, HA4.out, HMS4.out, HL7.out, HO7.out, HR7.out, HE7.out⟩
                    case measure => simp [intOf]; omega
            · rw [decide_eq_false hms]
              go_wp2_with fail
              clear c5
              have haw : (a : Int) < (nw : Int) := by omega
              obtain ⟨d1, d2⟩ := Tp.row_turn HO5.out (k := a) (by have := HW4.out.len; omega)
              rw [HA4.out] at d1 d2
              obtain ⟨P, is, hP1, hP2, hJ⟩ := HJN.out a k W5 HLY5.out ha1 h9 hka
              obtain ⟨x1, hx1⟩ : ∃ x, (Tp.tvW links a).drives = x := ⟨_, rfl⟩
              obtain ⟨x2, hx2⟩ : ∃ x, (Tp.tvW links a).driven = x := ⟨_, rfl⟩
              rw [hx1] at d1
              rw [hx2] at d2
              rw [hx1, hx2] at hJ
              have HJ := Lib.hid hJ
              have HP1 := Lib.hid hP1
              have HP2 := Lib.hid hP2
              have HD1 := Lib.hid d1
              have HD2 := Lib.hid d2
              clear hJ hx1 hx2 hP1 hP2 d1 d2
              obtain ⟨p1, hp1⟩ : ∃ x, P.drives = x := ⟨_, rfl⟩
              obtain ⟨p2, hp2⟩ : ∃ x, P.driven = x := ⟨_, rfl⟩
              rw [hp1, hp2] at HJ
              have HPP : Hid (P = ⟨p1, p2⟩) := Lib.hid (by rw [← hp1, ← hp2])
              clear hp1 hp2
              have HAW := Lib.hid haw
              apply Tp.wp_named
              intro a0 ha0
              refine Code.wp_mono (Q := fun e' a' w' => e' = .normal ∧ ∃ b9, W5.heap.size ≤ b9 ∧ Ext W5 w' ∧ Row w' b9 68 #[.int .i64 p1, .int .i64 p2] ∧ a' = (((((((((((((a0.put (some 57) (.agg #[.int .i64 120, .int .i64 120, .int .i64 0, .int .i64 0, .int .i64 0, .slice (some ⟨bC, 0, none⟩) nc cC, .slice (some ⟨bW, 0, none⟩) nw cW, .slice (some ⟨bM, 0, none⟩) n cM, .map (some M), .slice none 0 0])).put (some 58) (.int .i64 (a : Int))).put (some 59) (.int .i64 (k : Int))).put (some 60) (.slice (some ⟨H, 0, none⟩) nw nw)).put (some 61) (.int .i64 (a : Int))).put (some 62) (.pointer (some ⟨H, a * 2, none⟩))).put (some 63) (.agg #[.int .i64 x1, .int .i64 x2])).put (some 64) (.tuple #[.agg #[.int .i64 p1, .int .i64 p2], .bool is])).put (some 56) (.tuple #[.agg #[.int .i64 p1, .int .i64 p2], .bool is])).put (some 65) (.agg #[.int .i64 p1, .int .i64 p2])).put (some 66) (.bool is)).put (some 9) (.pointer (some ⟨b9, 0, none⟩))).put (some 10) (.bool is))) ?hq ?hr
              case hr =>
                refine wp_region_free_tail 12 10 (Tp.jnΦ (.agg #[.int .i64 120, .int .i64 120, .int .i64 0, .int .i64 0, .int .i64 0, .slice (some ⟨bC, 0, none⟩) nc cC, .slice (some ⟨bW, 0, none⟩) nw cW, .slice (some ⟨bM, 0, none⟩) n cM, .map (some M), .slice none 0 0]) (.slice (some ⟨H, 0, none⟩) nw nw) H a k x1 x2 p1 p2 is W5) (by kernel_rfl) (by simp) (by rw [ha0]; kernel_rfl) (by kernel_rfl) (by kernel_rfl) (by kernel_rfl) Tp.jnΦ_mono ?hob ?hQ ?hZ
                case hob =>
                  intro i o9 hin ho a' wa hE hF
                  match i, hin with
                  | 0, _ =>
                    obtain rfl := Option.some.inj ho
                    have h0 : a'.tmps[2]?.getD undef = .pointer (some ⟨g, 0, none⟩) := evalD ((hF.old 2 (by decide)).trans (by rw [ha0]; rfl))
                    have q := (Row.ext HR5.out hE).cell
                    refine Ran.value rfl (v := .agg #[.int .i64 120, .int .i64 120, .int .i64 0, .int .i64 0, .int .i64 0, .slice (some ⟨bC, 0, none⟩) nc cC, .slice (some ⟨bW, 0, none⟩) nw cW, .slice (some ⟨bM, 0, none⟩) n cM, .map (some M), .slice none 0 0]) (w1 := wa) ?_ ⟨rfl, Ext.refl _⟩
                    go_simp
                  | 1, _ =>
                    obtain rfl := Option.some.inj ho
                    have h0 : a'.tmps[7]?.getD undef = .int .i64 (a : Int) := evalD ((hF.old 7 (by decide)).trans (by rw [ha0]; rfl))
                    refine Ran.value rfl (v := .int .i64 (a : Int)) (w1 := wa) ?_ ⟨rfl, Ext.refl _⟩
                    go_simp
                  | 2, _ =>
                    obtain rfl := Option.some.inj ho
                    have h0 : a'.tmps[8]?.getD undef = .int .i64 (k : Int) := evalD ((hF.old 8 (by decide)).trans (by rw [ha0]; rfl))
                    refine Ran.value rfl (v := .int .i64 (k : Int)) (w1 := wa) ?_ ⟨rfl, Ext.refl _⟩
                    go_simp
                  | 3, _ =>
                    obtain rfl := Option.some.inj ho
                    have h0 : a'.tmps[5]?.getD undef = .slice (some ⟨H, 0, none⟩) nw nw := evalD ((hF.old 5 (by decide)).trans (by rw [ha0]; rfl))
                    refine Ran.value rfl (v := .slice (some ⟨H, 0, none⟩) nw nw) (w1 := wa) ?_ ⟨rfl, Ext.refl _⟩
                    go_simp
                  | 4, _ =>
                    obtain rfl := Option.some.inj ho
                    have h0 : a'.tmps[7]?.getD undef = .int .i64 (a : Int) := evalD ((hF.old 7 (by decide)).trans (by rw [ha0]; rfl))
                    refine Ran.value rfl (v := .int .i64 (a : Int)) (w1 := wa) ?_ ⟨rfl, Ext.refl _⟩
                    go_simp
                  | 5, _ =>
                    obtain rfl := Option.some.inj ho
                    have h0 : a'.tmps[60]?.getD undef = .slice (some ⟨H, 0, none⟩) nw nw := evalD (hF.from_ 3 60 rfl (by decide))
                    have h1 : a'.tmps[61]?.getD undef = .int .i64 (a : Int) := evalD (hF.from_ 4 61 rfl (by decide))
                    have hq1 := HAW.out
                    refine Ran.value rfl (v := .pointer (some ⟨H, a * 2, none⟩)) (w1 := wa) ?_ ⟨rfl, Ext.refl _⟩
                    go_simp
                  | 6, _ =>
                    obtain rfl := Option.some.inj ho
                    have h0 : a'.tmps[62]?.getD undef = .pointer (some ⟨H, a * 2, none⟩) := evalD (hF.from_ 5 62 rfl (by decide))
                    have q0 := hE.cell HD1.out
                    have q1 := hE.cell HD2.out
                    refine Ran.value rfl (v := .agg #[.int .i64 x1, .int .i64 x2]) (w1 := wa) ?_ ⟨rfl, Ext.refl _⟩
                    go_simp
                  | 7, _ =>
                    obtain rfl := Option.some.inj ho
                    have h0 : a'.tmps[57]?.getD undef = .agg #[.int .i64 120, .int .i64 120, .int .i64 0, .int .i64 0, .int .i64 0, .slice (some ⟨bC, 0, none⟩) nc cC, .slice (some ⟨bW, 0, none⟩) nw cW, .slice (some ⟨bM, 0, none⟩) n cM, .map (some M), .slice none 0 0] := evalD (hF.from_ 0 57 rfl (by decide))
                    have h1 : a'.tmps[58]?.getD undef = .int .i64 (a : Int) := evalD (hF.from_ 1 58 rfl (by decide))
                    have h2 : a'.tmps[59]?.getD undef = .int .i64 (k : Int) := evalD (hF.from_ 2 59 rfl (by decide))
                    have h3 : a'.tmps[63]?.getD undef = .agg #[.int .i64 x1, .int .i64 x2] := evalD (hF.from_ 6 63 rfl (by decide))
                    refine Ran.enter rfl (f := 121) (args := #[.agg #[.int .i64 120, .int .i64 120, .int .i64 0, .int .i64 0, .int .i64 0, .slice (some ⟨bC, 0, none⟩) nc cC, .slice (some ⟨bW, 0, none⟩) nw cW, .slice (some ⟨bM, 0, none⟩) n cM, .map (some M), .slice none 0 0], .int .i64 (a : Int), .int .i64 (k : Int), .agg #[.int .i64 x1, .int .i64 x2]]) (w1 := wa) ?_ ?_
                    · go_simp
                    · refine (HJ.out wa hE).mono ?_
                      rintro r w9 ⟨rfl, hX1⟩
                      exact ⟨_, rfl, rfl, hX1⟩
                  | 8, _ =>
                    obtain rfl := Option.some.inj ho
                    have h0 : a'.tmps[64]?.getD undef = .tuple #[.agg #[.int .i64 p1, .int .i64 p2], .bool is] := evalD (hF.from_ 7 64 rfl (by decide))
                    refine Ran.value rfl (v := .tuple #[.agg #[.int .i64 p1, .int .i64 p2], .bool is]) (w1 := wa) ?_ ⟨rfl, Ext.refl _⟩
                    go_simp
                  | 9, _ =>
                    obtain rfl := Option.some.inj ho
                    have h0 : a'.tmps[56]?.getD undef = .tuple #[.agg #[.int .i64 p1, .int .i64 p2], .bool is] := evalD (hF.from_ 8 56 rfl (by decide))
                    refine Ran.value rfl (v := .agg #[.int .i64 p1, .int .i64 p2]) (w1 := wa) ?_ ⟨rfl, Ext.refl _⟩
                    go_simp
                  | 10, _ =>
                    obtain rfl := Option.some.inj ho
                    have h0 : a'.tmps[56]?.getD undef = .tuple #[.agg #[.int .i64 p1, .int .i64 p2], .bool is] := evalD (hF.from_ 8 56 rfl (by decide))
                    refine Ran.value rfl (v := .bool is) (w1 := wa) ?_ ⟨rfl, Ext.refl _⟩
                    go_simp
                  | 11, _ =>
                    obtain rfl := Option.some.inj ho
                    refine Ran.value rfl (w1 := wa.alloc (.cells #[.int .i64 0, .int .i64 0] 68)) (v := .pointer (some ⟨wa.heap.size, 0, none⟩)) (by kernel_rfl) ⟨⟨wa.heap.size, rfl, hE.size, Row.new _ _ _⟩, (Ext.refl _).alloc _⟩
                  | k + 12, hin => omega
                case hQ =>
                  intro vs w2 hE hΦ
                  have f0 : vs 0 = .agg #[.int .i64 120, .int .i64 120, .int .i64 0, .int .i64 0, .int .i64 0, .slice (some ⟨bC, 0, none⟩) nc cC, .slice (some ⟨bW, 0, none⟩) nw cW, .slice (some ⟨bM, 0, none⟩) n cM, .map (some M), .slice none 0 0] := hΦ 0 (by omega)
                  have f1 : vs 1 = .int .i64 (a : Int) := hΦ 1 (by omega)
                  have f2 : vs 2 = .int .i64 (k : Int) := hΦ 2 (by omega)
                  have f3 : vs 3 = .slice (some ⟨H, 0, none⟩) nw nw := hΦ 3 (by omega)
                  have f4 : vs 4 = .int .i64 (a : Int) := hΦ 4 (by omega)
                  have f5 : vs 5 = .pointer (some ⟨H, a * 2, none⟩) := hΦ 5 (by omega)
                  have f6 : vs 6 = .agg #[.int .i64 x1, .int .i64 x2] := hΦ 6 (by omega)
                  have f7 : vs 7 = .tuple #[.agg #[.int .i64 p1, .int .i64 p2], .bool is] := hΦ 7 (by omega)
                  have f8 : vs 8 = .tuple #[.agg #[.int .i64 p1, .int .i64 p2], .bool is] := hΦ 8 (by omega)
                  have f9 : vs 9 = .agg #[.int .i64 p1, .int .i64 p2] := hΦ 9 (by omega)
                  have f10 : vs 10 = .bool is := hΦ 10 (by omega)
                  obtain ⟨b9, f11, hb9, hr9⟩ : ∃ b, vs 11 = .pointer (some ⟨b, 0, none⟩) ∧ W5.heap.size ≤ b ∧ Row w2 b 68 #[.int .i64 0, .int .i64 0] := hΦ 11 (by omega)
                  have hrg : List.range 12 = [0, 1, 2, 3, 4, 5, 6, 7, 8, 9, 10, 11] := rfl
                  unfold putAll putS
                  simp only [List.length_cons, List.length_nil, List.take_succ_cons, List.take_zero, List.drop_succ_cons, List.drop_zero, Nat.reduceAdd, hrg, List.foldl_cons, List.foldl_nil, dstOf, List.getElem?_cons_succ, List.getElem?_cons_zero, Option.bind_some]
                  clear hrg
                  rw [f0, f1, f2, f3, f4, f5, f6, f7, f8, f9, f10, f11]
                  rw [ha0]
                  simp only [Act.put, List.setIfInBounds_toArray, List.set_cons_succ, List.set_cons_zero]
                  have c9 := hr9.cell
                  have z9 := hr9.free
                  go_wp2
                  exact ⟨b9, hb9, (hE.setCell (p := ⟨b9, 0, none⟩) hb9 _).setCell (p := ⟨b9, 1, none⟩) hb9 _, (hr9.set_ 0 (.int .i64 p1)).set_ 1 (.int .i64 p2), rfl⟩
                case hZ =>
                  intro _ vs w2 hE hΦ on oz hon hoz
                  obtain rfl := Option.some.inj hon
                  obtain rfl := Option.some.inj hoz
                  have f0 : vs 0 = .agg #[.int .i64 120, .int .i64 120, .int .i64 0, .int .i64 0, .int .i64 0, .slice (some ⟨bC, 0, none⟩) nc cC, .slice (some ⟨bW, 0, none⟩) nw cW, .slice (some ⟨bM, 0, none⟩) n cM, .map (some M), .slice none 0 0] := hΦ 0 (by omega) (by omega)
                  have f1 : vs 1 = .int .i64 (a : Int) := hΦ 1 (by omega) (by omega)
                  have f2 : vs 2 = .int .i64 (k : Int) := hΦ 2 (by omega) (by omega)
                  have f3 : vs 3 = .slice (some ⟨H, 0, none⟩) nw nw := hΦ 3 (by omega) (by omega)
                  have f4 : vs 4 = .int .i64 (a : Int) := hΦ 4 (by omega) (by omega)
                  have f5 : vs 5 = .pointer (some ⟨H, a * 2, none⟩) := hΦ 5 (by omega) (by omega)
                  have f6 : vs 6 = .agg #[.int .i64 x1, .int .i64 x2] := hΦ 6 (by omega) (by omega)
                  have f7 : vs 7 = .tuple #[.agg #[.int .i64 p1, .int .i64 p2], .bool is] := hΦ 7 (by omega) (by omega)
                  have f8 : vs 8 = .tuple #[.agg #[.int .i64 p1, .int .i64 p2], .bool is] := hΦ 8 (by omega) (by omega)
                  have f9 : vs 9 = .agg #[.int .i64 p1, .int .i64 p2] := hΦ 9 (by omega) (by omega)
                  obtain ⟨b9, f11, hb9, hr9⟩ : ∃ b, vs 11 = .pointer (some ⟨b, 0, none⟩) ∧ W5.heap.size ≤ b ∧ Row w2 b 68 #[.int .i64 0, .int .i64 0] := hΦ 11 (by omega) (by omega)
                  have hrg : (List.range 12).filter (· ≠ 10) = [0, 1, 2, 3, 4, 5, 6, 7, 8, 9, 11] := by decide
                  rw [hrg]
                  unfold putS
                  simp only [List.take_succ_cons, List.take_zero, List.drop_succ_cons, List.drop_zero, Nat.reduceAdd, List.foldl_cons, List.foldl_nil, dstOf, List.getElem?_cons_succ, List.getElem?_cons_zero, Option.bind_some]
                  clear hrg
                  rw [f0, f1, f2, f3, f4, f5, f6, f7, f8, f9, f11]
                  rw [ha0]
                  simp only [Act.put, List.setIfInBounds_toArray, List.set_cons_succ, List.set_cons_zero]
                  have c9 := hr9.cell
                  have z9 := hr9.free
                  go_wp2
                  exact ⟨b9, hb9, (hE.setCell (p := ⟨b9, 0, none⟩) hb9 _).setCell (p := ⟨b9, 1, none⟩) hb9 _, (hr9.set_ 0 (.int .i64 p1)).set_ 1 (.int .i64 p2), rfl⟩
              case hq =>
                rintro e' a' W6 ⟨rfl, b9, hb9, hE6, hr9, rfl⟩
                rw [ha0]
                simp only [Act.put, List.setIfInBounds_toArray, List.set_cons_succ, List.set_cons_zero]
                have HE6 := Lib.hid (HE5.out.trans hE6)
                have HR6 := Lib.hid (HR5.out.ext hE6)
                have HO6 := Lib.hid (HO5.out.ext hE6)
                have HL6 := Lib.hid (HL5.out.ext hE6)
                have HR9 := Lib.hid hr9
                clear hE6 hr9 ha0 a0
                have hlk := HW4.out.len
                obtain ⟨d3, d4⟩ := Tp.row_turn HO6.out (k := k) (by omega)
                have c9 := HR9.out.cell
                cases is with
                | false =>
                  have hna : ¬ Tp.wadj links a k := fun h => absurd (HP2.out.2 h) (by decide)
                  go_wp2_with fail
                  go_roundw
                  case rel => exact ⟨k + 1, by omega, by go_num, out', left', b', o2, c2, rfl, HW4.out.none hna, HA4.out, HMS4.out, HL6.out, HO6.out, HR6.out, HE6.out⟩
                  case measure => simp [intOf]; omega
                | true =>
                  have hPt := HP1.out rfl
                  rw [HPP.out] at hPt
                  by_cases hd0 : (Tp.at_ out' k).drives = 0
                  · have HD00 := Lib.hid hd0
                    rw [hd0] at d3
                    clear hd0
                    have hf := HO6.out.free
                    have z9 := HR9.out.free
                    have hnb := HL6.out.not_row HO6.out (by decide)
                    have hnb2 := HL6.out.not_row HR6.out (by decide)
                    have HE8 := Lib.hid (((HE6.out.setCell (p := ⟨H, k * 2, none⟩) (by have := HGG.out; simp only []; omega) (.int .i64 p1)).setCell (p := ⟨H, k * 2 + 1, none⟩) (by have := HGG.out; simp only []; omega) (.int .i64 p2)).alloc (.cells #[.int .i64 (k : Int)] 3))
                    have HL7 := Lib.hid ((HL6.out.off (p := ⟨H, k * 2, none⟩) (Ne.symm hnb) (.int .i64 p1)).off (p := ⟨H, k * 2 + 1, none⟩) (Ne.symm hnb) (.int .i64 p2))
                    have HL8 := Lib.hid (HL7.out.ext ((Ext.refl _).alloc (.cells #[.int .i64 (k : Int)] 3)))
                    have HO8 := Lib.hid ((Tp.row_put HO6.out k ⟨p1, p2⟩).alloc (.cells #[.int .i64 (k : Int)] 3))
                    have HR8 := Lib.hid (((HR6.out.far (p := ⟨H, k * 2, none⟩) (by simp only []; omega) (.int .i64 p1)).far (p := ⟨H, k * 2 + 1, none⟩) (by simp only []; omega) (.int .i64 p2)).alloc (.cells #[.int .i64 (k : Int)] 3))
                    have HNB : Hid (∀ j u, [(.int .i64 (k : Int) : Value)][j]? = some u → (((W6.setCell ⟨H, k * 2, none⟩ (.int .i64 p1)).setCell ⟨H, k * 2 + 1, none⟩ (.int .i64 p2)).alloc (.cells #[.int .i64 (k : Int)] 3)).cell? ((⟨W6.heap.size, 0, none⟩ : Addr).add j) = some u) := Lib.hid (World.news_of_block (cs := #[.int .i64 (k : Int)]) (t := 3) (fr := (0, 0)) (by have h8 := heap_alloc_new ((W6.setCell ⟨H, k * 2, none⟩ (.int .i64 p1)).setCell ⟨H, k * 2 + 1, none⟩ (.int .i64 p2)) (.cells #[.int .i64 (k : Int)] 3); simpa using h8))
                    have hl8 : left'.length ≤ 100 := by have h7 := HMS4.out; have h6 := HUB.out; omega
                    have hlk9 : k < out'.length := by omega
                    have HLK9 := Lib.hid hlk9
                    clear hlk9
                    have HPN : Hid ((⟨p1, p2⟩ : Ec.Pair).drives ≠ 0) := Lib.hid (by rw [hPt]; exact (Tp.tvW_lim HPA.out (by have := HN.out; have := HNW.out; omega)).1.1)
                    obtain ⟨i0, hi0, hi1, hi2, hi3⟩ := info_parts Tp.info_i
                    have HPT2 := Lib.hid hPt
                    have HLK := Lib.hid hlk
                    clear hPt hlk
                    by_cases hrm : left'.length + 1 ≤ c2
                    · go_wp2_with (at_builtin; refine wpList_append_arg _ rfl (Operand.tmp 81) (Operand.tmp 83) 48 rfl 3 i0 (.int .i64 0) 1 8 Tryz.underlying48 hi0 hi1 hi2 hi3 rfl (by decide) b' o2 left'.length c2 (left'.map fun k : Nat => (.int .i64 (k : Int) : Value)) rfl (by simp) HL8.out.olds ⟨W6.heap.size, 0, none⟩ 1 1 [.int .i64 (k : Int)] rfl rfl HNB.out (by simp [Value.oneCell']) (fun hr j hj => HL8.out.spare hr j (by simpa using hj)) (by simp only [maxLen]; omega) (by omega) (fun _ => ?_) (fun h => absurd h (by omega)); rw [Tp.setCells_one, Nat.mul_one]; have HL9 := Lib.hid (Tp.push_room HL8.out k hrm))
                      go_roundw
                      case rel => exact ⟨k + 1, by omega, by go_num, out'.set k ⟨p1, p2⟩, left' ++ [k], b', o2, c2, by simp, by rw [HPT2.out]; exact HW4.out.put2 h9 HD00.out, by rw [Tp.at_set HLK9.out, if_neg (fun e => hka e.symm)]; exact HA4.out, by rw [List.length_append, List.length_singleton]; have h7 := Tp.unset_put (p := ⟨p1, p2⟩) HLK9.out HD00.out HPN.out; have h6 := HMS4.out; omega, HL9.out, (HO8.out.far (by simp only []; exact hnb) _), (HR8.out.far (by simp only []; exact hnb2) _), HE8.out.setCell (by have h7 := HL8.out.base; have := HGG.out; simp only []; omega) _⟩
                      case measure => simp [intOf]; omega
                    · go_wp2_with (at_builtin; refine wpList_append_arg _ rfl (Operand.tmp 81) (Operand.tmp 83) 48 rfl 3 i0 (.int .i64 0) 1 8 Tryz.underlying48 hi0 hi1 hi2 hi3 rfl (by decide) b' o2 left'.length c2 (left'.map fun k : Nat => (.int .i64 (k : Int) : Value)) rfl (by simp) HL8.out.olds ⟨W6.heap.size, 0, none⟩ 1 1 [.int .i64 (k : Int)] rfl rfl HNB.out (by simp [Value.oneCell']) (fun hr j hj => HL8.out.spare hr j (by simpa using hj)) (by simp only [maxLen]; omega) (by omega) (fun h => absurd h hrm) (fun _ v5 w9 ho5 hg5 => ?_); obtain ⟨b5, c5, hv5, hL9⟩ := Tp.push_grow ho5 (base := g) (by have h7 := HL8.out.row; have := HE8.out.size; have := HGG.out; omega); subst hv5; have HL9 := Lib.hid hL9; have HG9 := Lib.hid hg5; clear ho5 hL9 hg5)
                      go_roundw
                      case rel => exact ⟨k + 1, by omega, by go_num, out'.set k ⟨p1, p2⟩, left' ++ [k], b5, 0, c5, by simp, by rw [HPT2.out]; exact HW4.out.put2 h9 HD00.out, by rw [Tp.at_set HLK9.out, if_neg (fun e => hka e.symm)]; exact HA4.out, by rw [List.length_append, List.length_singleton]; have h7 := Tp.unset_put (p := ⟨p1, p2⟩) HLK9.out HD00.out HPN.out; have h6 := HMS4.out; omega, HL9.out, (HO8.out.ext ((Ext.refl _).grown HG9.out (fun q hq => by cases hq))), (HR8.out.ext ((Ext.refl _).grown HG9.out (fun q hq => by cases hq))), HE8.out.grown HG9.out (fun q hq => by cases hq)⟩
                      case measure => simp [intOf]; omega
                  · have ho := (HW4.out.old h9 hd0).1
                    have hwo := Lib.hid (HW4.out.old h9 hd0).2
                    rw [ho, ← hPt] at d3 d4
                    simp only at d3 d4
                    have hpne : ¬ p1 = 0 := by rw [ho, ← hPt] at hd0; exact hd0
                    have hpne2 : (p1 == 0) = false := by simpa using hpne
                    have heq := fun W => Tp.neq_turn p1 p2 W
                    go_wp2_with fail
                    refine wp_region_later (by kernel_rfl) (by kernel_rfl) (fun W hW => ?_)
                    have hXq : Ext W6 W := by rw [hW]; first | exact Ext.refl _ | exact (Ext.refl _).drewN _
                    clear hW
                    have HXQ := Lib.hid hXq
                    have u0 := fun X : Later W => (HXQ.out.trans X.ext).cell d3
                    have u1 := fun X : Later W => (HXQ.out.trans X.ext).cell d4
                    have u2 := fun X : Later W => (HR9.out.ext (HXQ.out.trans X.ext)).cell
                    clear hXq
                    repeat (go_big_quiet_step (fail))
                    refine wpQuiet_nil ?_
                    rintro ⟨w7, hEz⟩
                    dsimp only
                    have hE7 := HXQ.out.trans hEz
                    have HL7 := Lib.hid (HL6.out.ext hE7)
                    have HO7 := Lib.hid (HO6.out.ext hE7)
                    have HR7 := Lib.hid (HR6.out.ext hE7)
                    have HE7 := Lib.hid (HE6.out.trans hE7)
                    clear hEz u0 u1 u2 hE7 d3 d4 c9 heq
                    go_wp2_with fail
                    go_roundw
                    case rel => exact ⟨k + 1, by omega, by go_num, out', left', b', o2, c2, rfl, hwo.out, HA4.out, HMS4.out, HL7.out, HO7.out, HR7.out, HE7.out⟩
                    case measure => simp [intOf]; omega
        · replace h9 := h9.symm
          subst h9
          go_wp2_with fail
          go_roundw
          case rel => exact ⟨out', left', b', o2, c2, rfl, HW4.out.over ha1, by have h7 := HMS4.out; have h6 := HUB.out; omega, HL4.out, HO4.out, HR4.out, HE4.out⟩
          case measure => rw [Tp.msOut_row HO4.out, HMS.out]; simp only [Tp.lenS]; have := HMS4.out; omega
end Go.Proofs.YtimkmokomohgjaaGreat
namespace Go.Proofs.YtimkmokomohgjaaGreat
open Go.RowKit
open Sp (rd)
set_option maxRecDepth 100000
set_option maxHeartbeats 8000000
set_option linter.unusedVariables false
set_option linter.unusedSimpArgs false
theorem pl_index_point (b c k : Nat) (w : World) (hk : k ≤ 8) (hm : ∀ j, j < k → w.cell? ⟨b, j * 2, none⟩ = some (.int .i64 (20 * (j : Int))) ∧ w.cell? ⟨b, j * 2 + 1, none⟩ = some (.int .i64 ((j : Int)))) :
    Calls Tryz.prog 168 #[.slice (some ⟨b, 0, none⟩) k c, .agg #[.int .i64 (20 * (k : Int)), .int .i64 ((k : Int))]] w fun e w' => e = .returned (.int .i64 (-1)) ∧ Ext w w' := by
  have HM := Lib.hid hm
  have HR0 := Lib.hid (Row.new w 123 #[.int .i64 (20 * (k : Int)), .int .i64 ((k : Int))])
  have HX0 := Lib.hid ((Ext.refl w).alloc (.cells #[.int .i64 (20 * (k : Int)), .int .i64 ((k : Int))] 123))
  clear hm
  go_enter Tryz.func168, Tryz.ntmps168
  go_wp2_with fail
  generalize w.alloc (.cells #[.int .i64 (20 * (k : Int)), .int .i64 ((k : Int))] 123) = W0 at *
  go_loopw [5, 8] (fun x i wr => ∃ j : Nat, j ≤ k ∧ i = .int .i64 (j : Int) ∧ Ext W0 wr) (fun _ i _ => k - (intOf i).toNat)
  case atStart => exact ⟨0, Nat.zero_le _, rfl, Ext.refl _⟩
  case round =>
    obtain ⟨j, hj, rfl, hE⟩ := hrel
    have HE := Lib.hid hE
    have HR1 := Lib.hid (HR0.out.ext hE)
    have HX1 := Lib.hid (HX0.out.trans hE)
    clear hE
    rcases Nat.lt_or_eq_of_le hj with h9 | h9
    · have h9' : (j : Int) < (k : Int) := by omega
      obtain ⟨d0, d1⟩ := HM.out j h9
      replace d0 := HX1.out.cell d0
      replace d1 := HX1.out.cell d1
      have heq := fun W => Tp.eql_point (20 * (k : Int)) (k : Int) (20 * (j : Int)) ((j : Int)) W
      rw [show ((20 * (k : Int) == 20 * (j : Int)) && ((k : Int) == (j : Int))) = false by rw [Bool.and_eq_false_iff]; right; rw [beq_eq_false_iff_ne]; omega] at heq
      go_wp2_with fail
      refine wp_region_later (by kernel_rfl) (by kernel_rfl) (fun W hW => ?_)
      have hXq : Ext wr W := by rw [hW]; first | exact Ext.refl _ | exact (Ext.refl _).drewN _
      clear hW
      have HXQ := Lib.hid hXq
      clear hXq
      have v0 := (HR1.out.cell 0)
      try simp only [List.getElem?_toArray, List.getElem?_cons_zero, List.getElem?_cons_succ] at v0
      have v1 := (HR1.out.cell 1)
      try simp only [List.getElem?_toArray, List.getElem?_cons_zero, List.getElem?_cons_succ] at v1
      have v2 := d0
      try simp only [List.getElem?_toArray, List.getElem?_cons_zero, List.getElem?_cons_succ] at v2
      have v3 := d1
      try simp only [List.getElem?_toArray, List.getElem?_cons_zero, List.getElem?_cons_succ] at v3
      have u0 := fun X : Later W => (HXQ.out.trans X.ext).cell v0
      have u1 := fun X : Later W => (HXQ.out.trans X.ext).cell v1
      have u2 := fun X : Later W => (HXQ.out.trans X.ext).cell v2
      have u3 := fun X : Later W => (HXQ.out.trans X.ext).cell v3
      repeat (go_big_quiet_step (fail))
      refine wpQuiet_nil ?_
      rintro ⟨w7, hEz⟩
      dsimp only
      have HE7 := Lib.hid (HXQ.out.trans hEz)
      clear hEz HXQ u0 v0 u1 v1 u2 v2 u3 v3
      clear heq d0 d1
      go_wp2_with fail
      go_roundw
      case rel => exact ⟨j + 1, by omega, by go_num, HE.out.trans HE7.out⟩
      case measure => simp [intOf]; omega
    · replace h9 := h9.symm
      subst h9
      go_wp2_with fail
      go_ret
      exact ⟨rfl, HX1.out⟩
theorem pl_has_point (b c k : Nat) (w : World) (hk : k ≤ 8) (hm : ∀ j, j < k → w.cell? ⟨b, j * 2, none⟩ = some (.int .i64 (20 * (j : Int))) ∧ w.cell? ⟨b, j * 2 + 1, none⟩ = some (.int .i64 ((j : Int)))) :
    Calls Tryz.prog 113 #[.slice (some ⟨b, 0, none⟩) k c, .agg #[.int .i64 (20 * (k : Int)), .int .i64 ((k : Int))]] w fun e w' => e = .returned (.bool false) ∧ Ext w w' := by
  have HI := Lib.hid (fun W (h : Ext w W) => pl_index_point b c k W hk (fun j hj => ⟨h.cell (hm j hj).1, h.cell (hm j hj).2⟩))
  have r0 := Row.new w 123 #[.int .i64 (20 * (k : Int)), .int .i64 ((k : Int))]
  have HX0 := Lib.hid ((Ext.refl w).alloc (.cells #[.int .i64 (20 * (k : Int)), .int .i64 ((k : Int))] 123))
  have c0 := r0.cell
  clear hm r0
  go_enter Tryz.func113, Tryz.ntmps113
  go_wp2_with fail
  refine (HI.out _ HX0.out).mono ?_
  rintro e w1 ⟨rfl, hE⟩
  go_wp2_with fail
  go_ret
  exact ⟨rfl, HX0.out.trans hE⟩
theorem pl_index_mesh (b c k : Nat) (w : World) (hk : k ≤ 8) (hm : ∀ j, j < k → w.cell? ⟨b, j * 2, none⟩ = some (.int .i64 (2 * (j : Int))) ∧ w.cell? ⟨b, j * 2 + 1, none⟩ = some (.int .i64 (2 * (j : Int) + 1))) :
    Calls Tryz.prog 169 #[.slice (some ⟨b, 0, none⟩) k c, .agg #[.int .i64 (2 * (k : Int)), .int .i64 (2 * (k : Int) + 1)]] w fun e w' => e = .returned (.int .i64 (-1)) ∧ Ext w w' := by
  have HM := Lib.hid hm
  have HR0 := Lib.hid (Row.new w 129 #[.int .i64 (2 * (k : Int)), .int .i64 (2 * (k : Int) + 1)])
  have HX0 := Lib.hid ((Ext.refl w).alloc (.cells #[.int .i64 (2 * (k : Int)), .int .i64 (2 * (k : Int) + 1)] 129))
  clear hm
  go_enter Tryz.func169, Tryz.ntmps169
  go_wp2_with fail
  generalize w.alloc (.cells #[.int .i64 (2 * (k : Int)), .int .i64 (2 * (k : Int) + 1)] 129) = W0 at *
  go_loopw [5, 8] (fun x i wr => ∃ j : Nat, j ≤ k ∧ i = .int .i64 (j : Int) ∧ Ext W0 wr) (fun _ i _ => k - (intOf i).toNat)
  case atStart => exact ⟨0, Nat.zero_le _, rfl, Ext.refl _⟩
  case round =>
    obtain ⟨j, hj, rfl, hE⟩ := hrel
    have HE := Lib.hid hE
    have HR1 := Lib.hid (HR0.out.ext hE)
    have HX1 := Lib.hid (HX0.out.trans hE)
    clear hE
    rcases Nat.lt_or_eq_of_le hj with h9 | h9
    · have h9' : (j : Int) < (k : Int) := by omega
      obtain ⟨d0, d1⟩ := HM.out j h9
      replace d0 := HX1.out.cell d0
      replace d1 := HX1.out.cell d1
      have heq := fun W => Tp.eql_mesh (2 * (k : Int)) (2 * (k : Int) + 1) (2 * (j : Int)) (2 * (j : Int) + 1) W
      rw [show ((2 * (k : Int) == 2 * (j : Int)) && (2 * (k : Int) + 1 == 2 * (j : Int) + 1)) = false by rw [Bool.and_eq_false_iff]; left; rw [beq_eq_false_iff_ne]; omega] at heq
      go_wp2_with fail
      refine wp_region_later (by kernel_rfl) (by kernel_rfl) (fun W hW => ?_)
      have hXq : Ext wr W := by rw [hW]; first | exact Ext.refl _ | exact (Ext.refl _).drewN _
      clear hW
      have HXQ := Lib.hid hXq
      clear hXq
      have v0 := (HR1.out.cell 0)
      try simp only [List.getElem?_toArray, List.getElem?_cons_zero, List.getElem?_cons_succ] at v0
      have v1 := (HR1.out.cell 1)
      try simp only [List.getElem?_toArray, List.getElem?_cons_zero, List.getElem?_cons_succ] at v1
      have v2 := d0
      try simp only [List.getElem?_toArray, List.getElem?_cons_zero, List.getElem?_cons_succ] at v2
      have v3 := d1
      try simp only [List.getElem?_toArray, List.getElem?_cons_zero, List.getElem?_cons_succ] at v3
      have u0 := fun X : Later W => (HXQ.out.trans X.ext).cell v0
      have u1 := fun X : Later W => (HXQ.out.trans X.ext).cell v1
      have u2 := fun X : Later W => (HXQ.out.trans X.ext).cell v2
      have u3 := fun X : Later W => (HXQ.out.trans X.ext).cell v3
      repeat (go_big_quiet_step (fail))
      refine wpQuiet_nil ?_
      rintro ⟨w7, hEz⟩
      dsimp only
      have HE7 := Lib.hid (HXQ.out.trans hEz)
      clear hEz HXQ u0 v0 u1 v1 u2 v2 u3 v3
      clear heq d0 d1
      go_wp2_with fail
      go_roundw
      case rel => exact ⟨j + 1, by omega, by go_num, HE.out.trans HE7.out⟩
      case measure => simp [intOf]; omega
    · replace h9 := h9.symm
      subst h9
      go_wp2_with fail
      go_ret
      exact ⟨rfl, HX1.out⟩
theorem pl_has_mesh (b c k : Nat) (w : World) (hk : k ≤ 8) (hm : ∀ j, j < k → w.cell? ⟨b, j * 2, none⟩ = some (.int .i64 (2 * (j : Int))) ∧ w.cell? ⟨b, j * 2 + 1, none⟩ = some (.int .i64 (2 * (j : Int) + 1))) :
    Calls Tryz.prog 114 #[.slice (some ⟨b, 0, none⟩) k c, .agg #[.int .i64 (2 * (k : Int)), .int .i64 (2 * (k : Int) + 1)]] w fun e w' => e = .returned (.bool false) ∧ Ext w w' := by
  have HI := Lib.hid (fun W (h : Ext w W) => pl_index_mesh b c k W hk (fun j hj => ⟨h.cell (hm j hj).1, h.cell (hm j hj).2⟩))
  have r0 := Row.new w 129 #[.int .i64 (2 * (k : Int)), .int .i64 (2 * (k : Int) + 1)]
  have HX0 := Lib.hid ((Ext.refl w).alloc (.cells #[.int .i64 (2 * (k : Int)), .int .i64 (2 * (k : Int) + 1)] 129))
  have c0 := r0.cell
  clear hm r0
  go_enter Tryz.func114, Tryz.ntmps114
  go_wp2_with fail
  refine (HI.out _ HX0.out).mono ?_
  rintro e w1 ⟨rfl, hE⟩
  go_wp2_with fail
  go_ret
  exact ⟨rfl, HX0.out.trans hE⟩
end Go.Proofs.YtimkmokomohgjaaGreat
namespace Go.Proofs.YtimkmokomohgjaaGreat
open Go.RowKit Go.Shelf
open Sp (rd)
set_option maxRecDepth 100000
set_option maxHeartbeats 16000000
set_option linter.unusedVariables false
set_option linter.unusedSimpArgs false
theorem pl_in_ext (x lo hi : Int) (w : World) : Calls Tryz.prog 112 #[.int .i64 x, .int .i64 lo, .int .i64 hi] w fun e w' => e = .returned (.bool (Sp.inR x lo hi)) ∧ Ext w w' := by
  refine (pl_in_any x lo hi w).mono ?_
  rintro e w' ⟨rfl, rfl⟩
  exact ⟨rfl, Ext.refl _⟩
theorem pl_goodWheel_any (c y : Nat) (t : Int) (g nc : Nat) (A : Option Addr) (cC : Nat) (V1 V2 : Value) (w : World) (hr : Row w g 56 #[.int .i64 120, .int .i64 120, .int .i64 0, .int .i64 0, .int .i64 0, .slice A nc cC, V1, V2]) (h1 : c + 1 ≤ nc) (h9 : nc ≤ 100) (h2 : y ≤ 5) (h3 : Sp.inR t 4 50 = true) :
    Calls Tryz.prog 116 #[.agg #[.int .i64 (c : Int), .int .i64 0, .int .i64 (y : Int), .int .i64 t], .pointer (some ⟨g, 0, none⟩)] w fun e w' => e = .returned (.bool false) ∧ Ext w w' := by
  have j1 : Sp.inR (c : Int) 0 ((nc : Int) - 1) = true := Tp.inR_yes (by omega) (by omega)
  have j2 : Sp.inR 0 0 2 = true := rfl
  have j3 : Sp.inR (y : Int) 0 5 = true := Tp.inR_yes (by omega) (by omega)
  have HX0 := Lib.hid ((Ext.refl w).alloc (.cells #[.int .i64 (c : Int), .int .i64 0, .int .i64 (y : Int), .int .i64 t] 67))
  have c0 := (Row.new w 67 #[.int .i64 (c : Int), .int .i64 0, .int .i64 (y : Int), .int .i64 t]).cell
  have z1 := lts hr.lt
  have c1 := (hr.ext HX0.out).cell 5
  simp only [List.getElem?_toArray, List.getElem?_cons_zero, List.getElem?_cons_succ] at c1
  clear hr
  go_enter Tryz.func116, Tryz.ntmps116
  go_wp2_with (go_at_call 112; refine (pl_in_any _ _ _ _).mono ?_; rintro e w' ⟨rfl, rfl⟩)
  go_ret
  exact ⟨rfl, HX0.out⟩
theorem pl_index_wheel (links : List (Int × Ec.Pair)) (bC bW bM cW g nc nw : Nat) (A : Option Addr) (cC : Nat) (V1 V2 : Value) (w : World) (hr : Row w g 56 #[.int .i64 120, .int .i64 120, .int .i64 0, .int .i64 0, .int .i64 0, .slice A nc cC, V1, V2]) (hp : Tp.PlAt w links bC bW bM) (hnw : nw = 2 * links.length) (h4 : nw ≤ 8) (h9 : nc ≤ 100)
    (hc : ∀ x, x < nw → Tp.wc links x + 1 ≤ nc) (ht : ∀ x, x < nw → Sp.inR (Tp.wt links x) 4 50 = true) :
    Calls Tryz.prog 170 #[.slice (some ⟨bW, 0, none⟩) nw cW, .func (.func 116) #[] #[.pointer (some ⟨g, 0, none⟩)]] w fun e w' => e = .returned (.int .i64 (-1)) ∧ Ext w w' := by
  have HR := Lib.hid hr
  have HP := Lib.hid hp
  have HC := Lib.hid hc
  have HT := Lib.hid ht
  have HNW := Lib.hid hnw
  clear hr hp hc ht hnw
  go_enter Tryz.func170, Tryz.ntmps170
  go_wp2_with fail
  go_loopw [5, 8] (fun _ i wr => ∃ x : Nat, x ≤ nw ∧ i = .int .i64 (x : Int) ∧ Ext w wr) (fun _ i _ => nw - (intOf i).toNat)
  case atStart => exact ⟨0, Nat.zero_le _, rfl, Ext.refl _⟩
  case round =>
    obtain ⟨x, hx, rfl, hE⟩ := hrel
    have HE := Lib.hid hE
    have HR1 := Lib.hid (HR.out.ext hE)
    have HP1 := Lib.hid (HP.out.ext hE)
    clear hE
    generalize wr = W1 at *
    rcases Nat.lt_or_eq_of_le hx with h8 | h8
    · have h8' : (x : Int) < (nw : Int) := by omega
      obtain ⟨d0, d1, d2, d3⟩ := HP1.out.whl x (by have := HNW.out; omega)
      have HGW := Lib.hid (fun q (hq : Tp.wc links x = q) y (hy : x / 2 = y) t (ht : Tp.wt links x = t) => pl_goodWheel_any q y t g nc A cC V1 V2 W1 HR1.out (by rw [← hq]; exact HC.out x h8) h9 (by omega) (by rw [← ht]; exact HT.out x h8))
      obtain ⟨q, hq⟩ : ∃ q, Tp.wc links x = q := ⟨_, rfl⟩
      obtain ⟨y, hy⟩ : ∃ y, x / 2 = y := ⟨_, rfl⟩
      obtain ⟨t, ht⟩ : ∃ t, Tp.wt links x = t := ⟨_, rfl⟩
      rw [hq] at d0
      rw [hy] at d2
      rw [ht] at d3
      replace HGW := Lib.hid (HGW.out q hq y hy t ht)
      clear hq hy ht
      go_wp2_with fail
      refine HGW.out.mono ?_
      rintro e w' ⟨rfl, hE2⟩
      go_wp2_with fail
      go_roundw
      case rel => exact ⟨x + 1, by omega, by go_num, HE.out.trans hE2⟩
      case measure => simp [intOf]; omega
    · replace h8 := h8.symm
      subst h8
      go_wp2_with fail
      go_ret
      exact ⟨rfl, HE.out⟩
theorem pl_wheels_any (links : List (Int × Ec.Pair)) (bC bW bM cW g nc nw : Nat) (A : Option Addr) (cC : Nat) (V1 V2 : Value) (w : World) (hr : Row w g 56 #[.int .i64 120, .int .i64 120, .int .i64 0, .int .i64 0, .int .i64 0, .slice A nc cC, V1, V2]) (hp : Tp.PlAt w links bC bW bM) (hnw : nw = 2 * links.length) (h4 : nw ≤ 8) (h9 : nc ≤ 100)
    (hc : ∀ x, x < nw → Tp.wc links x + 1 ≤ nc) (ht : ∀ x, x < nw → Sp.inR (Tp.wt links x) 4 50 = true) :
    Calls Tryz.prog 115 #[.slice (some ⟨bW, 0, none⟩) nw cW, .func (.func 116) #[] #[.pointer (some ⟨g, 0, none⟩)]] w fun e w' => e = .returned (.bool false) ∧ Ext w w' := by
  have HI := Lib.hid (pl_index_wheel links bC bW bM cW g nc nw A cC V1 V2 w hr hp hnw h4 h9 hc ht)
  clear hr hp hc ht hnw
  go_enter Tryz.func115, Tryz.ntmps115
  go_wp2_with fail
  refine HI.out.mono ?_
  rintro e w1 ⟨rfl, hE⟩
  go_wp2_with fail
  go_ret
  exact ⟨rfl, hE⟩
theorem pl_isPiece_yes (links : List (Int × Ec.Pair)) (n nc nw bC cC bW cW bM cM : Nat) (w : World) (hp : Tp.PlAt w links bC bW bM) (hok : Tp.LinksOk links) (hn : links.length = n) (h1 : 1 ≤ n) (h4 : n ≤ 4) (hnc : n + 1 = nc) (hnw : 2 * n = nw) (hcC : nc ≤ cC) (hcM : n ≤ cM) (ht : ∀ x, x < nw → Sp.inR (Tp.wt links x) 4 50 = true) :
    Calls Tryz.prog 59 #[.agg #[.int .i64 120, .int .i64 120, .int .i64 0, .int .i64 0, .int .i64 0, .slice (some ⟨bC, 0, none⟩) nc cC, .slice (some ⟨bW, 0, none⟩) nw cW, .slice (some ⟨bM, 0, none⟩) n cM]] w fun e w' => e = .returned (.bool true) ∧ Ext w w' := by
  have HP := Lib.hid hp
  have HWH := Lib.hid (fun W g hr h => pl_wheels_any links bC bW bM cW g nc nw (some ⟨bC, 0, none⟩) cC (.slice (some ⟨bW, 0, none⟩) nw cW) (.slice (some ⟨bM, 0, none⟩) n cM) W hr h (by omega) (by omega) (by omega) (fun x hx => by
    have := (hok.frm (x / 2)).1
    unfold Tp.wc
    split <;> omega) ht)
  have HN := Lib.hid hn
  have HNC := Lib.hid hnc
  have HNW := Lib.hid hnw
  have hc5 : nc ≤ 5 := by omega
  have hw8 : nw ≤ 8 := by omega
  have r0 := Row.new w 56 #[.int .i64 120, .int .i64 120, .int .i64 0, .int .i64 0, .int .i64 0, .slice (some ⟨bC, 0, none⟩) nc cC, .slice (some ⟨bW, 0, none⟩) nw cW, .slice (some ⟨bM, 0, none⟩) n cM]
  have HR0 := Lib.hid r0
  have HX0 := Lib.hid ((Ext.refl w).alloc (.cells #[.int .i64 120, .int .i64 120, .int .i64 0, .int .i64 0, .int .i64 0, .slice (some ⟨bC, 0, none⟩) nc cC, .slice (some ⟨bW, 0, none⟩) nw cW, .slice (some ⟨bM, 0, none⟩) n cM] 56))
  have a0 := r0.cell
  have i1 : Sp.inR 120 1 120 = true := rfl
  have i2 : Sp.inR 0 0 4 = true := rfl
  have i3 : Sp.inR 0 0 3 = true := rfl
  have i4 : Sp.inR (nc : Int) 1 6 = true := Tp.inR_yes (by omega) (by omega)
  have t8 : ¬ (8 : Int) < (nw : Int) := by omega
  have t10 : ¬ (10 : Int) < (n : Int) := by omega
  clear hp hok hn hnc hnw r0 ht
  go_enter Tryz.func59, Tryz.ntmps59
  go_wp2_with (go_at_call 112; refine (pl_in_any _ _ _ _).mono ?_; rintro e w' ⟨rfl, rfl⟩)
  generalize w.alloc (.cells #[.int .i64 120, .int .i64 120, .int .i64 0, .int .i64 0, .int .i64 0, .slice (some ⟨bC, 0, none⟩) nc cC, .slice (some ⟨bW, 0, none⟩) nw cW, .slice (some ⟨bM, 0, none⟩) n cM] 56) = W0 at *
  clear a0 i1 i2 i3 i4 t8 t10
  go_loopw [3, 4, 55] (fun _ _ i wr => ∃ k : Nat, k ≤ nc ∧ i = .int .i64 (k : Int) ∧ Ext W0 wr) (fun _ _ i _ => nc - (intOf i).toNat)
  case atStart => exact ⟨0, Nat.zero_le _, rfl, Ext.refl _⟩
  case round =>
    obtain ⟨k, hk, rfl, hE⟩ := hrel
    have HE := Lib.hid hE
    have HR1 := Lib.hid (HR0.out.ext hE)
    have HP1 := Lib.hid (HP.out.ext (HX0.out.trans hE))
    clear hE
    generalize wr = W1 at *
    rcases Nat.lt_or_eq_of_le hk with h9 | h9
    · have h9' : (k : Int) < (nc : Int) := by omega
      obtain ⟨d0, d1⟩ := HP1.out.cen k (by rw [HN.out]; have := HNC.out; omega)
      have j1 : Sp.inR (20 * (k : Int)) 0 120 = true := Tp.inR_yes (by omega) (by omega)
      have j2 : Sp.inR (k : Int) 0 120 = true := Tp.inR_yes (by omega) (by omega)
      have HRC := Lib.hid (Row.new W1 123 #[.int .i64 (20 * (k : Int)), .int .i64 (k : Int)])
      have hX : Ext W1 (W1.alloc (.cells #[.int .i64 (20 * (k : Int)), .int .i64 (k : Int)] 123)) := (Ext.refl _).alloc _
      have HE2 := Lib.hid (HE.out.trans hX)
      have HR2 := Lib.hid (HR1.out.ext hX)
      have HP2 := Lib.hid (HP1.out.ext hX)
      clear hX
      have z1 := lts HR1.out.lt
      have hkc : k ≤ cC := by omega
      have hkc' : (k : Int) ≤ (cC : Int) := by omega
      go_wp2_with fail
      clear d0 d1 z1
      obtain ⟨gc, hgc⟩ : ∃ g, W1.heap.size = g := ⟨_, rfl⟩
      rw [hgc] at HRC ⊢
      clear hgc
      generalize W1.alloc (.cells #[.int .i64 (20 * (k : Int)), .int .i64 (k : Int)] 123) = W2 at *
      refine wp_region_later (by kernel_rfl) (by kernel_rfl) (fun W hW => ?_)
      have hXq : Ext W2 W := by rw [hW]; first | exact Ext.refl _ | exact (Ext.refl _).drewN _
      clear hW
      have HXQ := Lib.hid hXq
      clear hXq
      have HPX := fun X : Later W => HP2.out.ext (HXQ.out.trans X.ext)
      have v0 := (HR2.out.cell 0)
      try simp only [List.getElem?_toArray, List.getElem?_cons_zero, List.getElem?_cons_succ] at v0
      have v1 := (HR2.out.cell 1)
      try simp only [List.getElem?_toArray, List.getElem?_cons_zero, List.getElem?_cons_succ] at v1
      have v2 := (HR2.out.cell 5)
      try simp only [List.getElem?_toArray, List.getElem?_cons_zero, List.getElem?_cons_succ] at v2
      have v3 := (HRC.out.cell 0)
      try simp only [List.getElem?_toArray, List.getElem?_cons_zero, List.getElem?_cons_succ] at v3
      have v4 := (HRC.out.cell 1)
      try simp only [List.getElem?_toArray, List.getElem?_cons_zero, List.getElem?_cons_succ] at v4
      have u0 := fun X : Later W => (HXQ.out.trans X.ext).cell v0
      have u1 := fun X : Later W => (HXQ.out.trans X.ext).cell v1
      have u2 := fun X : Later W => (HXQ.out.trans X.ext).cell v2
      have u3 := fun X : Later W => (HXQ.out.trans X.ext).cell v3
      have u4 := fun X : Later W => (HXQ.out.trans X.ext).cell v4
      repeat (go_big_quiet_step (fail))
      go_big_quiet_step ((go_at_call 112; exact Later.call (pl_in_ext _ _ _ _)))
      repeat (go_big_quiet_step (fail))
      go_big_quiet_step ((go_at_call 112; exact Later.call (pl_in_ext _ _ _ _)))
      repeat (go_big_quiet_step (fail))
      go_big_quiet_step ((go_at_call 113; exact Later.call (pl_has_point bC cC k _ (by omega) (fun j hj => (HPX _).cen j (by rw [HN.out]; have := HNC.out; omega)))))
      repeat (go_big_quiet_step (fail))
      refine wpQuiet_nil ?_
      rintro ⟨w7, hEz⟩
      dsimp only
      have HE7 := Lib.hid (HXQ.out.trans hEz)
      clear hEz HXQ HPX u0 v0 u1 v1 u2 v2 u3 v3 u4 v4
      go_wp2_with fail
      go_roundw
      case rel => exact ⟨k + 1, by omega, by go_num, HE2.out.trans HE7.out⟩
      case measure => simp [intOf]; omega
    · replace h9 := h9.symm
      subst h9
      have c1 := HR1.out.cell
      go_wp2_with fail
      clear c1
      go_loopw [5, 6, 86] (fun _ _ i wr => ∃ k : Nat, k ≤ n ∧ i = .int .i64 (k : Int) ∧ Ext W1 wr) (fun _ _ i _ => n - (intOf i).toNat)
      case atStart => exact ⟨0, Nat.zero_le _, rfl, Ext.refl _⟩
      case round =>
        obtain ⟨k, hk, rfl, hE3⟩ := hrel
        have HE3 := Lib.hid hE3
        have HR3 := Lib.hid (HR1.out.ext hE3)
        have HP3 := Lib.hid (HP1.out.ext hE3)
        clear hE3
        generalize wr = W3 at *
        rcases Nat.lt_or_eq_of_le hk with h8 | h8
        · have h8' : (k : Int) < (n : Int) := by omega
          obtain ⟨d0, d1⟩ := HP3.out.msh k (by rw [HN.out]; exact h8)
          have hnw := HNW.out
          have j1 : Sp.inR (2 * (k : Int)) 0 ((nw : Int) - 1) = true := Tp.inR_yes (by omega) (by omega)
          have j2 : Sp.inR (2 * (k : Int) + 1) 0 ((nw : Int) - 1) = true := Tp.inR_yes (by omega) (by omega)
          have j3 : ¬ 2 * (k : Int) + 1 ≤ 2 * (k : Int) := by omega
          have j3' : decide (2 * (k : Int) + 1 ≤ 2 * (k : Int)) = false := decide_eq_false j3
          clear hnw
          have HRC := Lib.hid (Row.new W3 129 #[.int .i64 (2 * (k : Int)), .int .i64 (2 * (k : Int) + 1)])
          have hX : Ext W3 (W3.alloc (.cells #[.int .i64 (2 * (k : Int)), .int .i64 (2 * (k : Int) + 1)] 129)) := (Ext.refl _).alloc _
          have HE4 := Lib.hid (HE3.out.trans hX)
          have HR4 := Lib.hid (HR3.out.ext hX)
          have HP4 := Lib.hid (HP3.out.ext hX)
          clear hX
          have z3 := lts HR3.out.lt
          have hkc : k ≤ cM := by omega
          have hkc' : (k : Int) ≤ (cM : Int) := by omega
          go_wp2_with fail
          clear d0 d1 z3
          obtain ⟨gc, hgc⟩ : ∃ g, W3.heap.size = g := ⟨_, rfl⟩
          rw [hgc] at HRC ⊢
          clear hgc
          generalize W3.alloc (.cells #[.int .i64 (2 * (k : Int)), .int .i64 (2 * (k : Int) + 1)] 129) = W4 at *
          refine wp_region_later (by kernel_rfl) (by kernel_rfl) (fun W hW => ?_)
          have hXq : Ext W4 W := by rw [hW]; first | exact Ext.refl _ | exact (Ext.refl _).drewN _
          clear hW
          have HXQ := Lib.hid hXq
          clear hXq
          have HPX := fun X : Later W => HP4.out.ext (HXQ.out.trans X.ext)
          have v0 := (HR4.out.cell 0)
          try simp only [List.getElem?_toArray, List.getElem?_cons_zero, List.getElem?_cons_succ] at v0
          have v1 := (HR4.out.cell 1)
          try simp only [List.getElem?_toArray, List.getElem?_cons_zero, List.getElem?_cons_succ] at v1
          have v2 := (HR4.out.cell 2)
          try simp only [List.getElem?_toArray, List.getElem?_cons_zero, List.getElem?_cons_succ] at v2
          have v3 := (HR4.out.cell 3)
          try simp only [List.getElem?_toArray, List.getElem?_cons_zero, List.getElem?_cons_succ] at v3
          have v4 := (HR4.out.cell 4)
          try simp only [List.getElem?_toArray, List.getElem?_cons_zero, List.getElem?_cons_succ] at v4
          have v5 := (HR4.out.cell 5)
          try simp only [List.getElem?_toArray, List.getElem?_cons_zero, List.getElem?_cons_succ] at v5
          have v6 := (HR4.out.cell 6)
          try simp only [List.getElem?_toArray, List.getElem?_cons_zero, List.getElem?_cons_succ] at v6
          have v7 := (HR4.out.cell 7)
          try simp only [List.getElem?_toArray, List.getElem?_cons_zero, List.getElem?_cons_succ] at v7
          have v8 := (HRC.out.cell 0)
          try simp only [List.getElem?_toArray, List.getElem?_cons_zero, List.getElem?_cons_succ] at v8
          have v9 := (HRC.out.cell 1)
          try simp only [List.getElem?_toArray, List.getElem?_cons_zero, List.getElem?_cons_succ] at v9
          have u0 := fun X : Later W => (HXQ.out.trans X.ext).cell v0
          have u1 := fun X : Later W => (HXQ.out.trans X.ext).cell v1
          have u2 := fun X : Later W => (HXQ.out.trans X.ext).cell v2
          have u3 := fun X : Later W => (HXQ.out.trans X.ext).cell v3
          have u4 := fun X : Later W => (HXQ.out.trans X.ext).cell v4
          have u5 := fun X : Later W => (HXQ.out.trans X.ext).cell v5
          have u6 := fun X : Later W => (HXQ.out.trans X.ext).cell v6
          have u7 := fun X : Later W => (HXQ.out.trans X.ext).cell v7
          have u8 := fun X : Later W => (HXQ.out.trans X.ext).cell v8
          have u9 := fun X : Later W => (HXQ.out.trans X.ext).cell v9
          repeat (go_big_quiet_step (fail))
          go_big_quiet_step ((go_at_call 60; exact Later.call (pl_isWheel_any _ _ _ _ _ _ _ (by omega))))
          repeat (go_big_quiet_step (fail))
          go_big_quiet_step ((go_at_call 60; exact Later.call (pl_isWheel_any _ _ _ _ _ _ _ (by omega))))
          repeat (go_big_quiet_step (fail))
          go_big_quiet_step ((go_at_call 114; exact Later.call (pl_has_mesh bM cM k _ (by omega) (fun j hj => (HPX _).msh j (by rw [HN.out]; omega)))))
          repeat (go_big_quiet_step (fail))
          refine wpQuiet_nil ?_
          rintro ⟨w7, hEz⟩
          dsimp only
          have HE7 := Lib.hid (HXQ.out.trans hEz)
          clear hEz HXQ HPX u0 v0 u1 v1 u2 v2 u3 v3 u4 v4 u5 v5 u6 v6 u7 v7 u8 v8 u9 v9
          go_wp2_with fail
          go_roundw
          case rel => exact ⟨k + 1, by omega, by go_num, HE4.out.trans HE7.out⟩
          case measure => simp [intOf]; omega
        · replace h8 := h8.symm
          subst h8
          have c3 := HR3.out.cell
          go_wp2_with fail
          refine (HWH.out W3 _ HR3.out HP3.out).mono ?_
          rintro e w9 ⟨rfl, hE9⟩
          go_wp2_with fail
          go_ret
          exact ⟨rfl, (HX0.out.trans (HE.out.trans HE3.out)).trans hE9⟩
end Go.Proofs.YtimkmokomohgjaaGreat
namespace Go.Proofs.YtimkmokomohgjaaGreat
open Go.RowKit
open Sp (rd)
set_option maxRecDepth 100000
set_option maxHeartbeats 16000000
set_option linter.unusedVariables false
set_option linter.unusedSimpArgs false
/-- The turns of the wheels, found and laid. -/
def Tp.OutAt (links : List (Int × Ec.Pair)) (nw : Nat) (w : World) (v : Value) : Prop := ∃ H out, v = .slice (some ⟨H, 0, none⟩) nw nw ∧ Row w H 68 (Tp.pc out).toArray ∧ Tp.WI nw (Tp.tvW links) (Tp.wadj links) out [] nw 0
theorem Tp.OutAt.ext {links : List (Int × Ec.Pair)} {nw : Nat} {w w' : World} {v : Value} (h : Tp.OutAt links nw w v) (he : Ext w w') : Tp.OutAt links nw w' v := let ⟨H, out, a, b, c⟩ := h; ⟨H, out, a, b.ext he, c⟩
theorem Tp.OutAt.set {links : List (Int × Ec.Pair)} {nw b t : Nat} {cs : Array Value} {w : World} {v : Value} (h : Tp.OutAt links nw w v) (r : Row w b t cs) (ht : t ≠ 68) (x : Value) : Tp.OutAt links nw (w.setCell ⟨b, 0, none⟩ x) v := by
  obtain ⟨H, out, rfl, h1, h2⟩ := h
  refine ⟨H, out, rfl, h1.far (p := ⟨b, 0, none⟩) (fun he => ?_) x, h2⟩
  have he' : H = b := he
  subst he'
  unfold Row at h1 r
  rw [h1] at r
  injection r with r
  injection r with _ r2
  exact ht r2.symm
/-- What the operations of 'out = ratios(lay(p, nil), wheel)' yield. -/
def Tp.rsΦ (V : Value) (L : Nat → Value) (links : List (Int × Ec.Pair)) (bC bW bM nw : Nat) (i : Nat) (v : Value) (w : World) : Prop :=
  match i with
  | 0 => v = V
  | 1 => ∃ M, v = L M ∧ Tp.LayAt w links bC bW bM M
  | 2 => v = .int .i64 0
  | _ => Tp.OutAt links nw w v
theorem Tp.rsΦ_mono {V : Value} {L : Nat → Value} {links : List (Int × Ec.Pair)} {bC bW bM nw : Nat} (i : Nat) (v : Value) (w w' : World) (h : Tp.rsΦ V L links bC bW bM nw i v w) (he : Ext w w') : Tp.rsΦ V L links bC bW bM nw i v w' := by
  unfold Tp.rsΦ at h ⊢
  split at h <;> first
    | exact h
    | exact (let ⟨M, h1, h2⟩ := h; ⟨M, h1, h2.ext he⟩)
    | exact Tp.OutAt.ext h he
theorem pl_Ratios1_any (links : List (Int × Ec.Pair)) (hands : List Int) (n nc nw bC cC bW cW bM cM : Nat) (W : World) (hpa : Tp.PieceAll links hands) (hp : Tp.PlAt W links bC bW bM) (hn : links.length = n) (h1 : 1 ≤ n) (h4 : n ≤ 4) (hnw : 2 * n = nw) (ht : ∀ q, q < nw → Sp.inR (Tp.wt links q) 4 50 = true) (gP gW gO : Nat) (hne : gP ≠ gO) (hne2 : gW ≠ gO) (rP : Row W gP 56 #[.int .i64 120, .int .i64 120, .int .i64 0, .int .i64 0, .int .i64 0, .slice (some ⟨bC, 0, none⟩) nc cC, .slice (some ⟨bW, 0, none⟩) nw cW, .slice (some ⟨bM, 0, none⟩) n cM]) (rW : Row W gW 3 #[.int .i64 0]) (rO : Row W gO 59 #[.slice none 0 0]) :
    Calls Tryz.prog 62 #[.pointer (some ⟨gP, 0, none⟩), .pointer (some ⟨gW, 0, none⟩), .pointer (some ⟨gO, 0, none⟩)] W fun e w' => e = .returned (.tuple #[]) ∧ ∃ W1 v, Ext W W1 ∧ Tp.OutAt links nw W1 v ∧ w' = W1.setCell ⟨gO, 0, none⟩ v := by
  have HP := Lib.hid hp
  have HPA := Lib.hid hpa
  have HT := Lib.hid ht
  have HN := Lib.hid hn
  have HRPw := Lib.hid rP
  have HRW := Lib.hid rW
  have HRO := Lib.hid rO
  go_enter Tryz.func62, Tryz.ntmps62
  go_wp2_with fail
  refine wp_region_free_tail 4 4 (Tp.rsΦ (.agg #[.int .i64 120, .int .i64 120, .int .i64 0, .int .i64 0, .int .i64 0, .slice (some ⟨bC, 0, none⟩) nc cC, .slice (some ⟨bW, 0, none⟩) nw cW, .slice (some ⟨bM, 0, none⟩) n cM]) (fun M => .agg #[.int .i64 120, .int .i64 120, .int .i64 0, .int .i64 0, .int .i64 0, .slice (some ⟨bC, 0, none⟩) nc cC, .slice (some ⟨bW, 0, none⟩) nw cW, .slice (some ⟨bM, 0, none⟩) n cM, .map (some M), .slice none 0 0]) links bC bW bM nw) (by kernel_rfl) (by simp) (by kernel_rfl) (by kernel_rfl) (by kernel_rfl) (by kernel_rfl) Tp.rsΦ_mono ?hob ?hQ (fun h => absurd h (by omega))
  case hob =>
    intro i o' hin ho a' wa hE hF
    match i, hin with
    | 0, _ =>
      obtain rfl := Option.some.inj ho
      have h0 : a'.tmps[0]?.getD undef = .pointer (some ⟨gP, 0, none⟩) := evalD (hF.old 0 (by decide))
      have q := (Row.ext HRPw.out hE).cell
      refine Ran.value rfl (v := .agg #[.int .i64 120, .int .i64 120, .int .i64 0, .int .i64 0, .int .i64 0, .slice (some ⟨bC, 0, none⟩) nc cC, .slice (some ⟨bW, 0, none⟩) nw cW, .slice (some ⟨bM, 0, none⟩) n cM]) (w1 := wa) ?_ ⟨rfl, Ext.refl _⟩
      go_simp
    | 1, _ =>
      obtain rfl := Option.some.inj ho
      have h0 : a'.tmps[3]?.getD undef = .agg #[.int .i64 120, .int .i64 120, .int .i64 0, .int .i64 0, .int .i64 0, .slice (some ⟨bC, 0, none⟩) nc cC, .slice (some ⟨bW, 0, none⟩) nw cW, .slice (some ⟨bM, 0, none⟩) n cM] := evalD (hF.from_ 0 3 rfl (by decide))
      refine Ran.enter rfl (f := 63) (args := #[.agg #[.int .i64 120, .int .i64 120, .int .i64 0, .int .i64 0, .int .i64 0, .slice (some ⟨bC, 0, none⟩) nc cC, .slice (some ⟨bW, 0, none⟩) nw cW, .slice (some ⟨bM, 0, none⟩) n cM], .slice none 0 0]) (w1 := wa) ?_ ?_
      · go_simp
      · refine (pl_lay_any links n nc nw bC cC bW cW bM cM wa (HP.out.ext hE) HN.out h4).mono ?_
        rintro r w9 ⟨M, rfl, hM, hX1⟩
        exact ⟨_, rfl, ⟨M, rfl, ⟨(HP.out.ext hE).ext hX1, by rw [HN.out]; exact hM⟩⟩, hX1⟩
    | 2, _ =>
      obtain rfl := Option.some.inj ho
      have h0 : a'.tmps[1]?.getD undef = .pointer (some ⟨gW, 0, none⟩) := evalD (hF.old 1 (by decide))
      have q := (Row.ext HRW.out hE).cell
      refine Ran.value rfl (v := .int .i64 0) (w1 := wa) ?_ ⟨rfl, Ext.refl _⟩
      go_simp
    | 3, _ =>
      obtain rfl := Option.some.inj ho
      obtain ⟨M, h0, hM⟩ : ∃ M, a'.eval (.tmp 4) = .agg #[.int .i64 120, .int .i64 120, .int .i64 0, .int .i64 0, .int .i64 0, .slice (some ⟨bC, 0, none⟩) nc cC, .slice (some ⟨bW, 0, none⟩) nw cW, .slice (some ⟨bM, 0, none⟩) n cM, .map (some M), .slice none 0 0] ∧ Tp.LayAt wa links bC bW bM M := hF.from_ 1 4 rfl (by decide)
      replace h0 := evalD h0
      have h1 : a'.tmps[5]?.getD undef = .int .i64 0 := evalD (hF.from_ 2 5 rfl (by decide))
      refine Ran.enter rfl (f := 64) (args := #[.agg #[.int .i64 120, .int .i64 120, .int .i64 0, .int .i64 0, .int .i64 0, .slice (some ⟨bC, 0, none⟩) nc cC, .slice (some ⟨bW, 0, none⟩) nw cW, .slice (some ⟨bM, 0, none⟩) n cM, .map (some M), .slice none 0 0], .int .i64 0]) (w1 := wa) ?_ ?_
      · go_simp
      · refine (pl_ratios_any links hands n nc nw bC cC bW cW bM cM M wa HPA.out hM HN.out (by omega) h4 hnw HT.out).mono ?_
        rintro r w9 ⟨H, out, rfl, hr, hwi, hX1⟩
        exact ⟨_, rfl, ⟨H, out, rfl, hr, hwi⟩, hX1⟩
    | k + 4, hin => omega
  case hQ =>
    intro vs w2 hE hΦ
    have f0 : vs 0 = .agg #[.int .i64 120, .int .i64 120, .int .i64 0, .int .i64 0, .int .i64 0, .slice (some ⟨bC, 0, none⟩) nc cC, .slice (some ⟨bW, 0, none⟩) nw cW, .slice (some ⟨bM, 0, none⟩) n cM] := hΦ 0 (by omega)
    obtain ⟨M, f1, _⟩ : ∃ M, vs 1 = .agg #[.int .i64 120, .int .i64 120, .int .i64 0, .int .i64 0, .int .i64 0, .slice (some ⟨bC, 0, none⟩) nc cC, .slice (some ⟨bW, 0, none⟩) nw cW, .slice (some ⟨bM, 0, none⟩) n cM, .map (some M), .slice none 0 0] ∧ Tp.LayAt w2 links bC bW bM M := hΦ 1 (by omega)
    have f2 : vs 2 = .int .i64 0 := hΦ 2 (by omega)
    have f3 : Tp.OutAt links nw w2 (vs 3) := hΦ 3 (by omega)
    have hrg : List.range 4 = [0, 1, 2, 3] := rfl
    unfold putAll putS
    simp only [List.length_cons, List.length_nil, List.take_succ_cons, List.take_zero, List.drop_succ_cons, List.drop_zero, Nat.reduceAdd, hrg, List.foldl_cons, List.foldl_nil, dstOf, List.getElem?_cons_succ, List.getElem?_cons_zero, Option.bind_some]
    clear hrg
    obtain ⟨V3, hV3⟩ : ∃ V, vs 3 = V := ⟨_, rfl⟩
    rw [hV3] at f3
    rw [f0, f1, f2, hV3]
    have HF3 := Lib.hid f3
    obtain ⟨H, out, rfl, _, _⟩ := f3
    simp only [Act.put, List.setIfInBounds_toArray, List.set_cons_succ, List.set_cons_zero]
    have z9 := (HRO.out.ext hE).free
    have c9 := (HRO.out.ext hE).cell
    go_wp2
    first | go_end0 | skip
    exact ⟨rfl, w2, _, hE, HF3.out, rfl⟩
theorem pl_catch_idle (p : Value) (w : World) :
    CallsD Tryz.prog 117 #[p] .returning w fun e u' w' => e = .returned (.tuple #[]) ∧ u' = .returning ∧ w' = w := by
  refine callsD_of_wpS Tryz.func117 rfl fun c₀ cs hu => ?_
  have he : ∀ w, (binOp .eql 20 .nilIface .nilIface).run Tryz.prog w = .ok (.bool true) w := fun _ => by kernel_rfl
  simp only [Tryz.ntmps117, List.size_toArray, List.length_cons, List.length_nil, Nat.reduceAdd, Nat.reduceSub, Array.replicate_succ, Array.replicate_zero, List.push_toArray, List.append_toArray, List.nil_append, List.cons_append]
  apply wpS_seq
  apply wpS_region
  simp [wpOpsS, go_sem, recoverD, hu, Exit.thenS]
  refine wpS_of_wp ?_
  generalize hQ : (fun (e : Exit) (a' : Act) (w' : World) => bodyPostS Tryz.prog Tryz.f117 c₀ cs _ e a' _ w') = Q
  go_wp2
  subst hQ
  cases c₀
  simp_all [bodyPostS, results, Tryz.results117]
/-- A closure that is tried and returns. -/
theorem pl_try_any (f : Nat) (cap : Array Value) (w : World) (Q1 : World → Prop) (he : ∀ (args : Array Value) (w : World), (callFunc f args).run Tryz.prog w = .ok (.enter f args) w)
    (hc : Calls Tryz.prog f cap (w.alloc (.cells #[.int .i64 0] 32)) (fun e w' => e = .returned (.tuple #[]) ∧ Row w' w.heap.size 32 #[.int .i64 0] ∧ Q1 w')) :
    Calls Tryz.prog 61 #[.func (.func f) #[] cap] w fun e w' => e = .returned (.int .i64 0) ∧ ∃ w1, Q1 w1 ∧ w' = w1.setCell ⟨w.heap.size, 0, none⟩ (.int .i64 0) := by
  have hmf : ∀ (fn : Fn) (first cap : Array Value) (w : World), (Instr.makeFunc fn first cap).run Tryz.prog w = .ok (.func fn first cap) w := fun _ _ _ _ => rfl
  go_enter_defers Tryz.func61, Tryz.ntmps61
  go_wp2
  refine hc.mono ?_
  rintro e w1 ⟨rfl, hR, h1⟩
  have cR := hR.cell
  have fR := hR.free
  go_wp2
  refine leaves_cons (f := 117) (args := #[.pointer (some ⟨w.heap.size, 0, none⟩)]) (by simp) (by simp [go_sem]) ?_
  refine (pl_catch_idle _ _).mono ?_
  rintro e u' w'' ⟨rfl, rfl, rfl⟩
  have r2 := (hR.set_ 0 (.int .i64 0)).cell 0
  simp only [List.setIfInBounds_toArray, List.set_cons_zero, List.getElem?_toArray, List.getElem?_cons_zero] at r2
  simp [Leaves, settle, results, Tryz.results61, go_sem, r2]
  exact ⟨w1, h1, rfl⟩
theorem pl_Ratios_any (links : List (Int × Ec.Pair)) (hands : List Int) (n nc nw bC cC bW cW bM cM : Nat) (w : World) (hpa : Tp.PieceAll links hands) (hp : Tp.PlAt w links bC bW bM) (hn : links.length = n) (h1 : 1 ≤ n) (h4 : n ≤ 4) (hnw : 2 * n = nw) (ht : ∀ q, q < nw → Sp.inR (Tp.wt links q) 4 50 = true) (hok : Tp.LinksOk links) (hnc : n + 1 = nc) (hcC : nc ≤ cC) (hcM : n ≤ cM) :
    Calls Tryz.prog 17 #[.agg #[.int .i64 120, .int .i64 120, .int .i64 0, .int .i64 0, .int .i64 0, .slice (some ⟨bC, 0, none⟩) nc cC, .slice (some ⟨bW, 0, none⟩) nw cW, .slice (some ⟨bM, 0, none⟩) n cM], .int .i64 0] w fun e w' => ∃ v, e = .returned (.tuple #[v, .int .i64 0]) ∧ Tp.OutAt links nw w' v ∧ Ext w w' := by
  have HP := Lib.hid hp
  have HPA := Lib.hid hpa
  have HT := Lib.hid ht
  have HN := Lib.hid hn
  have HIS := Lib.hid (fun W h => pl_isPiece_yes links n nc nw bC cC bW cW bM cM W h hok hn h1 h4 hnc hnw hcC hcM ht)
  have hmf : ∀ (fn : Fn) (first cap : Array Value) (w : World), (Instr.makeFunc fn first cap).run Tryz.prog w = .ok (.func fn first cap) w := fun _ _ _ _ => rfl
  have HX0 : Hid (Ext w ((w.alloc (.cells #[.int .i64 120, .int .i64 120, .int .i64 0, .int .i64 0, .int .i64 0, .slice (some ⟨bC, 0, none⟩) nc cC, .slice (some ⟨bW, 0, none⟩) nw cW, .slice (some ⟨bM, 0, none⟩) n cM] 56)).alloc (.cells #[.int .i64 0] 3))) := Lib.hid (((Ext.refl w).alloc _).alloc _)
  have HB : Hid (Row ((w.alloc (.cells #[.int .i64 120, .int .i64 120, .int .i64 0, .int .i64 0, .int .i64 0, .slice (some ⟨bC, 0, none⟩) nc cC, .slice (some ⟨bW, 0, none⟩) nw cW, .slice (some ⟨bM, 0, none⟩) n cM] 56)).alloc (.cells #[.int .i64 0] 3)) w.heap.size 56 #[.int .i64 120, .int .i64 120, .int .i64 0, .int .i64 0, .int .i64 0, .slice (some ⟨bC, 0, none⟩) nc cC, .slice (some ⟨bW, 0, none⟩) nw cW, .slice (some ⟨bM, 0, none⟩) n cM]) := Lib.hid (blocks2 w _ _).1
  have HW : Hid (Row ((w.alloc (.cells #[.int .i64 120, .int .i64 120, .int .i64 0, .int .i64 0, .int .i64 0, .slice (some ⟨bC, 0, none⟩) nc cC, .slice (some ⟨bW, 0, none⟩) nw cW, .slice (some ⟨bM, 0, none⟩) n cM] 56)).alloc (.cells #[.int .i64 0] 3)) (w.heap.size + 1) 3 #[.int .i64 0]) := Lib.hid (blocks2 w _ _).2
  have hz0 : w.heap.size < ((w.alloc (.cells #[.int .i64 120, .int .i64 120, .int .i64 0, .int .i64 0, .int .i64 0, .slice (some ⟨bC, 0, none⟩) nc cC, .slice (some ⟨bW, 0, none⟩) nw cW, .slice (some ⟨bM, 0, none⟩) n cM] 56)).alloc (.cells #[.int .i64 0] 3)).heap.size := by simp <;> omega
  have hz1 : w.heap.size + 1 < ((w.alloc (.cells #[.int .i64 120, .int .i64 120, .int .i64 0, .int .i64 0, .int .i64 0, .slice (some ⟨bC, 0, none⟩) nc cC, .slice (some ⟨bW, 0, none⟩) nw cW, .slice (some ⟨bM, 0, none⟩) n cM] 56)).alloc (.cells #[.int .i64 0] 3)).heap.size := by simp <;> omega
  clear hp hpa ht hn hok hnc hcC hcM
  go_enter Tryz.func17, Tryz.ntmps17
  have bB := HB.out.cell
  have bW9 := HW.out.cell
  go_wp2_with fail
  generalize (w.alloc (.cells #[.int .i64 120, .int .i64 120, .int .i64 0, .int .i64 0, .int .i64 0, .slice (some ⟨bC, 0, none⟩) nc cC, .slice (some ⟨bW, 0, none⟩) nw cW, .slice (some ⟨bM, 0, none⟩) n cM] 56)).alloc (.cells #[.int .i64 0] 3) = w0 at *
  refine (HIS.out w0 (HP.out.ext HX0.out)).mono ?_
  rintro e w1 ⟨rfl, hE1⟩
  have HX1 := Lib.hid (HX0.out.trans hE1)
  have HB1 := Lib.hid (HB.out.ext hE1)
  have HW1 := Lib.hid (HW.out.ext hE1)
  have hs1 := hE1.size
  clear bB bW9 hE1
  have bB := HB1.out.cell
  have bW9 := HW1.out.cell
  go_wp2_with fail
  refine (pl_isWheel_any (.slice (some ⟨bC, 0, none⟩) nc cC) (.slice (some ⟨bM, 0, none⟩) n cM) (some ⟨bW, 0, none⟩) nw cW 0 w1 (by omega)).mono ?_
  rintro e w2 ⟨rfl, hE2⟩
  have hin : Sp.inR 0 0 ((nw : Int) - 1) = true := inR_iff.2 ⟨by omega, by omega⟩
  rw [hin]
  have HX2 := Lib.hid (HX1.out.trans hE2)
  have HB2 := Lib.hid (HB1.out.ext hE2)
  have HW2 := Lib.hid (HW1.out.ext hE2)
  have hs2 := hE2.size
  clear bB bW9 hE2
  have bB := HB2.out.cell
  have bW9 := HW2.out.cell
  go_wp2_with fail
  have rO := Row.new w2 59 #[.slice none 0 0]
  have hX3 : Ext w2 ((w2.alloc (.cells #[.slice none 0 0] 59)).alloc (.cells #[.int .i64 0] 32)) := ((Ext.refl w2).alloc _).alloc _
  have rO3 : Row ((w2.alloc (.cells #[.slice none 0 0] 59)).alloc (.cells #[.int .i64 0] 32)) w2.heap.size 59 #[.slice none 0 0] := rO.alloc _
  have rR3 : Row ((w2.alloc (.cells #[.slice none 0 0] 59)).alloc (.cells #[.int .i64 0] 32)) (w2.heap.size + 1) 32 #[.int .i64 0] := (blocks2 w2 _ _).2
  refine (pl_try_any 62 _ _ (fun w' => ∃ W1 v, Ext ((w2.alloc (.cells #[.slice none 0 0] 59)).alloc (.cells #[.int .i64 0] 32)) W1 ∧ Tp.OutAt links nw W1 v ∧ w' = W1.setCell ⟨w2.heap.size, 0, none⟩ v) (enters_of Tryz.func62 (by kernel_rfl) rfl)
    ((pl_Ratios1_any links hands n nc nw bC cC bW cW bM cM _ HPA.out (HP.out.ext (HX2.out.trans hX3)) HN.out h1 h4 hnw HT.out w.heap.size (w.heap.size + 1) w2.heap.size (by omega) (by omega) (HB2.out.ext hX3) (HW2.out.ext hX3) rO3).mono ?_)).mono ?_
  · rintro e w' ⟨rfl, W1, v, hEE, hv, rfl⟩
    refine ⟨rfl, ?_, W1, v, hEE, hv, rfl⟩
    simpa using (rR3.ext hEE).far (p := ⟨w2.heap.size, 0, none⟩) (by simp) _
  · rintro e w' ⟨rfl, w1', ⟨W1, v, hEE, hv, rfl⟩, rfl⟩
    simp only [World.size_alloc]
    have sO : Row ((W1.setCell ⟨w2.heap.size, 0, none⟩ v).setCell ⟨w2.heap.size + 1, 0, none⟩ (.int .i64 0)) w2.heap.size 59 #[v] := by
      simpa using ((rO3.ext hEE).set_ 0 v).far (p := ⟨w2.heap.size + 1, 0, none⟩) (by simp) (.int .i64 0)
    have hX4 : Ext w2 ((W1.setCell ⟨w2.heap.size, 0, none⟩ v).setCell ⟨w2.heap.size + 1, 0, none⟩ (.int .i64 0)) := ((hX3.trans hEE).setCell (by simp) _).setCell (by simp) _
    have hvn : Tp.OutAt links nw ((W1.setCell ⟨w2.heap.size, 0, none⟩ v).setCell ⟨w2.heap.size + 1, 0, none⟩ (.int .i64 0)) v := (hv.set (rO3.ext hEE) (by decide) _).set (((rR3.ext hEE).far (p := ⟨w2.heap.size, 0, none⟩) (by simp) _)) (by decide) _
    generalize (W1.setCell ⟨w2.heap.size, 0, none⟩ v).setCell ⟨w2.heap.size + 1, 0, none⟩ (.int .i64 0) = W4 at *
    have HVN := Lib.hid hvn
    have HX4 := Lib.hid hX4
    clear hvn hX4 hEE hv rO3 rR3 rO hX3
    have bO := sO.cell
    clear bB bW9
    go_wp2_with fail
    go_ret2
    exact ⟨_, rfl, HVN.out, HX2.out.trans HX4.out⟩
end Go.Proofs.YtimkmokomohgjaaGreat
