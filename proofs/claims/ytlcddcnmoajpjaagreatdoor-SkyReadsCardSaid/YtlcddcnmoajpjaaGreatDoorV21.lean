/- Law1: The walks of the laws: short; SkyMoons.
Open: How the arguments of a law are read: skies as data.
Frame: The frame of all proofs: the library's tables from the row's list, a laid world, the way from the walk to the row's end.
Words: The head words of the cut's own word. -/
import Derived.Carry
import Derived.ProofKit
import Derived.Deep.Slices
import Derived.Stop.LaidErr
import Derived.Lib.LaidTab
import Derived.Deep.DeepHandedRow
import Derived.WalkKit
import Derived.Shelf.Vars
import Derived.Test.YtlcddcnmoajpjaaGreatDoorV20
import Derived.Test.YtlcddcnmoajpjaaGreatDoorCards
import Derived.Test.YtlcddcnmoajpjaaGreatDoorTie
namespace Go.Proofs.YtlcddcnmoajpjaaGreatDoor
open Go.RowKit
open Sp (rd)

def shortB (l : List Sp.Body) : Bool := (l.take 7).all (fun b => decide (b.road.length ≤ 10)) && decide (l.length ≤ 6)
/-- Lists whose lengths are int's. -/
def Long (l : List Sp.Body) : Prop := l.length ≤ 9223372036854775807 ∧ ∀ k, k < l.length → (bd l k).road.length ≤ 9223372036854775807
theorem short_of {l : List Sp.Body} (h : shortB l = true) : Short l := by
  simp only [shortB, Bool.and_eq_true, decide_eq_true_eq] at h
  rw [List.take_of_length_le (by omega)] at h
  refine ⟨by omega, fun k hk => ?_⟩
  have := List.all_eq_true.1 h.1 (bd l k) (bd_mem hk)
  have := of_decide_eq_true this
  omega
theorem few_of {l : List Sp.Body} (h : shortB l = true) : l.length ≤ 6 := by
  simp only [shortB, Bool.and_eq_true, decide_eq_true_eq] at h
  exact h.2
theorem getD_bd {l : List Sp.Body} {k : Nat} (hk : k < l.length) : l[k] = bd l k := by
  unfold bd
  rw [List.getD_eq_getElem?_getD, List.getElem?_eq_getElem hk]
  rfl
set_option maxRecDepth 100000 in
set_option maxHeartbeats 1000000 in
theorem short_any (s : Sp.Sky) (A : Option Addr) (c : Nat) (w : World) (hm : Bodies w A s.bodies) (hl : Long s.bodies) :
    Calls Tryz.prog 24 #[.agg #[.slice A s.bodies.length c, .int .i64 s.nnum, .int .i64 s.nden, .int .i64 s.nstart]] w fun e w' => e = .returned (.bool (shortB s.bodies)) ∧ Ext w w' := by
  have hl1 := hl.1
  have HL := Lib.hid hl
  have HM := Lib.hid hm
  clear hm hl
  go_enter Tryz.func24, Tryz.ntmps24
  go_wp2_with fail
  have hr0 := Row.new w 28 #[.slice A s.bodies.length c, .int .i64 s.nnum, .int .i64 s.nden, .int .i64 s.nstart]
  have hE0 : Ext w (w.alloc (.cells #[.slice A s.bodies.length c, .int .i64 s.nnum, .int .i64 s.nden, .int .i64 s.nstart] 28)) := (Ext.refl w).alloc _
  generalize w.alloc (.cells #[.slice A s.bodies.length c, .int .i64 s.nnum, .int .i64 s.nden, .int .i64 s.nstart] 28) = w1 at *
  go_loopw [3] (fun i wr => ∃ k : Nat, k ≤ s.bodies.length ∧ k ≤ 7 ∧ i = .int .i64 k ∧ (s.bodies.take k).all (fun b => decide (b.road.length ≤ 10)) = true ∧ Ext w1 wr) (fun i _ => 7 - (intOf i).toNat)
  case atStart => exact ⟨0, Nat.zero_le _, by omega, rfl, rfl, Ext.refl _⟩
  case round =>
    obtain ⟨k, hk, hk7, rfl, hall, hE⟩ := hrel
    have b0 := (hr0.ext hE).cell
    have HE := Lib.hid hE
    by_cases hlt : k < s.bodies.length
    · by_cases hlt7 : k < 7
      · obtain ⟨b, o, rfl, hB⟩ := HM.out (by omega)
        have HB := (hB k hlt).ext (hE0.trans hE)
        have hrl := HL.out.2 k hlt
        have hbo : (0 : Int) ≤ (k : Int) ∧ (k : Int) < (s.bodies.length : Int) := by omega
        by_cases hlen : (bd s.bodies k).road.length ≤ 10
        · have HN : Hid ((s.bodies.take (k + 1)).all (fun b => decide (b.road.length ≤ 10)) = true) := Lib.hid (by
            rw [List.take_succ_eq_append_getElem hlt, List.all_append, hall, getD_bd hlt]; simp [hlen])
          clear hall hE hB
          generalize bd s.bodies k = B at *
          obtain ⟨A1, r1, hr1, I1⟩ := HB.road
          clear HB I1
          go_wp2_with fail
          refine ⟨⟨k + 1, by omega, by omega, by go_num, HN.out, HE.out⟩, by simp [intOf]; omega⟩
        · have HN : Hid (shortB s.bodies = false) := Lib.hid (by
            have h1 : (s.bodies.take 7).all (fun b => decide (b.road.length ≤ 10)) = false := by
              rw [List.all_eq_false]
              refine ⟨bd s.bodies k, ?_, by simpa using hlen⟩
              rw [← getD_bd hlt]
              exact List.mem_take_iff_getElem.2 ⟨k, by omega, rfl⟩
            simp [shortB, h1])
          clear hall hE hB
          generalize bd s.bodies k = B at *
          obtain ⟨A1, r1, hr1, I1⟩ := HB.road
          clear HB I1
          go_wp2_with fail
          go_ret
          exact ⟨ret_bool HN.out.symm, hE0.trans HE.out⟩
      · have HN : Hid (shortB s.bodies = false) := Lib.hid (by
          have : ¬ s.bodies.length ≤ 6 := by omega
          simp [shortB, this])
        have hn6 : ¬ ((s.bodies.length : Int) ≤ 6) := by omega
        clear hall hE
        go_wp2_with fail
        go_ret
        exact ⟨ret_bool HN.out.symm, hE0.trans HE.out⟩
    · obtain rfl : k = s.bodies.length := by omega
      rw [List.take_length] at hall
      have HN : Hid (shortB s.bodies = decide ((s.bodies.length : Int) ≤ 6)) := Lib.hid (by
        rw [shortB, List.take_of_length_le (by omega), hall, Bool.true_and, decide_eq_decide]
        omega)
      clear hall hE
      go_wp2_with fail
      go_ret
      exact ⟨ret_bool HN.out.symm, hE0.trans HE.out⟩
end Go.Proofs.YtlcddcnmoajpjaaGreatDoor

namespace Go.Proofs.YtlcddcnmoajpjaaGreatDoor
open Go.ChangeShapes Go.WideShapes Go.ChangeAt Go.RowKit
open Sp (rd)

set_option maxRecDepth 100000
set_option linter.constructorNameAsVariable false
section
variable {H : Type} {enc : TypeId × Value → H} {W : World} {spare : Nat → Bool} {held : Bool} {fuel : Nat} {cs : List Value} {x : DataW H × List MemPlace}
theorem wf64 {n : Int} (h : (Lit.int .i64 n).wf = true) : -9223372036854775808 ≤ n ∧ n ≤ 9223372036854775807 := bounds_i64 h
theorem open_road (h : DataW.trod enc Tryz.prog W 0 spare held fuel 64 cs = some x) : ∃ A l c, cs = [.slice A l.length c] ∧ Ints W A l ∧ l.length ≤ maxLen := by
  rcases open_ints Tryz.underlying64 Tryz.underlying3 (by kernel_rfl) h with ⟨rfl, _⟩ | ⟨a, len, cap, zs, rfl, _, hlc, hcm, hzl, _, hc, _⟩
  · exact ⟨none, [], 0, rfl, fun h0 => by simp at h0, Nat.zero_le _⟩
  · have hle : len ≤ zs.length := by rw [hzl]; split <;> omega
    have hlen : (zs.take len).length = len := by rw [List.length_take]; omega
    refine ⟨some a, zs.take len, cap, by rw [hlen], fun h0 => ?_, by omega⟩
    rw [hlen] at h0
    obtain ⟨b, off, rfl, hc2⟩ := ints_at hc (by omega)
    refine ⟨b, off, rfl, fun k hk => ?_⟩
    rw [hlen] at hk
    rw [hc2 k (by omega)]
    unfold Sp.rd
    rw [List.getD_eq_getElem?_getD, List.getD_eq_getElem?_getD, List.getElem?_take_of_lt hk]
theorem list_two {α : Type} {l : List α} (h : l.length = 2) : ∃ a b, l = [a, b] := by
  cases l with
  | nil => simp at h
  | cons a l =>
    cases l with
    | nil => simp at h
    | cons b l =>
      have : l = [] := List.eq_nil_of_length_eq_zero (by simpa using h)
      exact ⟨a, b, by rw [this]⟩
theorem list_four {α : Type} {l : List α} (h : l.length = 4) : ∃ a b c d, l = [a, b, c, d] := by
  cases l with
  | nil => simp at h
  | cons a l =>
    cases l with
    | nil => simp at h
    | cons b l =>
      obtain ⟨c, d, rfl⟩ := list_two (l := l) (by simpa using h)
      exact ⟨a, b, c, d, rfl⟩
theorem get_some {α : Type} {l : List α} {i : Nat} {y : Option α} (h : y = l[i]?) (hi : i < l.length) : ∃ z, y = some z := ⟨l[i], by rw [h, List.getElem?_eq_getElem hi]⟩
theorem c3 : Tryz.prog.cellsOf 3 = 1 := by kernel_rfl
theorem c64 : Tryz.prog.cellsOf 64 = 1 := by kernel_rfl
theorem c24 : Tryz.prog.cellsOf 24 = 2 := by kernel_rfl
theorem c26 : Tryz.prog.cellsOf 26 = 3 := by kernel_rfl
theorem c80 : Tryz.prog.cellsOf 80 = 4 := by kernel_rfl
theorem c22 : Tryz.prog.cellsOf 22 = 1 := by kernel_rfl
theorem c28 : Tryz.prog.cellsOf 28 = 4 := by kernel_rfl
theorem open_period (h : DataW.trod enc Tryz.prog W 0 spare held fuel 24 cs = some x) : ∃ n d : Int, cs = [.int .i64 n, .int .i64 d] := by
  obtain ⟨xs, m, rfl, rfl, hcs, hxs, each⟩ := DataW.trod_struct Tryz.underlying24 h
  obtain ⟨a, b, rfl⟩ := list_two (hcs.trans c24)
  have hx2 : xs.length = 2 := hxs
  obtain ⟨y, hy⟩ := get_some (each 0 _ rfl) (by omega)
  obtain ⟨z, hz⟩ := get_some (each 1 _ rfl) (by omega)
  simp [c3] at hy hz
  obtain ⟨n, hn, _, _⟩ := DataW.trod_int Tryz.underlying3 hy
  obtain ⟨d, hd, _, _⟩ := DataW.trod_int Tryz.underlying3 hz
  simp at hn hd
  exact ⟨n, d, by rw [hn, hd]⟩
theorem open_body (h : DataW.trod enc Tryz.prog W 0 spare held fuel 80 cs = some x) : ∃ (B : Sp.Body) (A : Option Addr) (c : Nat), cs = [.int .i64 B.num, .int .i64 B.den, .int .i64 B.start, .slice A B.road.length c] ∧ Ints W A B.road ∧ B.road.length ≤ maxLen := by
  obtain ⟨xs, m, rfl, rfl, hcs, hxs, each⟩ := DataW.trod_struct Tryz.underlying80 h
  obtain ⟨a, b, c, d, rfl⟩ := list_four (hcs.trans c80)
  have hx2 : xs.length = 3 := hxs
  obtain ⟨y, hy⟩ := get_some (each 0 _ rfl) (by omega)
  obtain ⟨z, hz⟩ := get_some (each 1 _ rfl) (by omega)
  obtain ⟨u, hu⟩ := get_some (each 2 _ rfl) (by omega)
  simp [c3, c24, c64] at hy hz hu
  obtain ⟨n, k, hn⟩ := open_period hy
  obtain ⟨s, hs, _, _⟩ := DataW.trod_int Tryz.underlying3 hz
  obtain ⟨A, l, cc, hr, hI, hm⟩ := open_road hu
  simp at hn hs hr
  exact ⟨⟨n, k, s, l⟩, A, cc, by rw [hn.1, hn.2, hs, hr], hI, hm⟩
theorem open_bodies (h : DataW.trod enc Tryz.prog W 0 spare held fuel 22 cs = some x) : ∃ A l c, cs = [.slice A l.length c] ∧ Bodies W A l ∧ Long l := by
  rcases DataW.trod_slice Tryz.underlying22 h with ⟨rfl, _⟩ | ⟨a, len, cap, elems, rest, n, rfl, rfl, rfl, _, hlc, hcm, hel, each, _, _⟩
  · exact ⟨none, [], 0, rfl, fun h0 => by simp at h0, ⟨by simp, fun k hk => by simp at hk⟩⟩
  · have one : ∀ i, i < len → ∃ B : Sp.Body, ∃ (A : Option Addr) (c : Nat), W.cells? 0 (a.add (i * 4)) 4 = some [.int .i64 B.num, .int .i64 B.den, .int .i64 B.start, .slice A B.road.length c] ∧ Ints W A B.road ∧ B.road.length ≤ maxLen := by
      intro i hi
      have e := each i hi
      rw [c80] at e
      obtain ⟨y, hy⟩ := get_some e (by omega)
      rw [Option.bind_eq_some_iff] at hy
      obtain ⟨cs', h1, h2⟩ := hy
      obtain ⟨B, A, c, rfl, hI, hm⟩ := open_body h2
      exact ⟨B, A, c, h1, hI, hm⟩
    haveI : Inhabited Sp.Body := ⟨Sp.noBody⟩
    obtain ⟨f, hf⟩ := Go.Deep.choose_lt one
    have hll : ((List.range len).map f).length = len := by simp
    have hbd : ∀ k, k < len → bd ((List.range len).map f) k = f k := fun k hk => by
      unfold bd
      rw [List.getD_eq_getElem?_getD, List.getElem?_map, List.getElem?_range hk]
      rfl
    have hmx : (maxLen : Nat) ≤ 9223372036854775807 := by decide
    refine ⟨some a, (List.range len).map f, cap, by rw [hll], fun h0 => ?_, ⟨by omega, fun k hk => ?_⟩⟩
    · rw [hll] at h0
      obtain ⟨A0, c0, hc0, _, _⟩ := hf 0 h0
      have hsp := (World.cells?_some hc0).2.2 0 (by omega)
      obtain ⟨b, off, spot⟩ := a
      have hspot : spot = none := by
        have : W.cell? ⟨b, off, spot⟩ = some (.int .i64 (f 0).num) := by simpa [Addr.add] using hsp
        simpa using World.cell?_spot this
      subst hspot
      refine ⟨b, off, rfl, fun k hk => ?_⟩
      rw [hll] at hk
      rw [hbd k hk]
      obtain ⟨A1, c1, hc1, hI, _⟩ := hf k hk
      have g := (World.cells?_some hc1).2.2
      have g0 := g 0 (by omega)
      have g1 := g 1 (by omega)
      have g2 := g 2 (by omega)
      have g3 := g 3 (by omega)
      simp only [add_plain, Nat.add_zero] at g0 g1 g2 g3
      exact ⟨g0, g1, g2, _, _, g3, hI⟩
    · rw [hll] at hk
      rw [hbd k hk]
      obtain ⟨A1, c1, _, _, hm⟩ := hf k hk
      omega
theorem open_sky {v : Value} {d : DataW H} {ps : List MemPlace} {r : Reach} {base : Nat} (hval : Value.okWide Tryz.prog W r base 28 v) (h : DataW.Trod enc Tryz.prog W 0 spare held 28 v d ps) :
    ∃ (s : Sp.Sky) (A : Option Addr) (c : Nat), v = .agg #[.slice A s.bodies.length c, .int .i64 s.nnum, .int .i64 s.nden, .int .i64 s.nstart] ∧ Bodies W A s.bodies ∧ Long s.bodies := by
  obtain ⟨cells, rfl, hsz⟩ := okWide_struct Tryz.underlying28 hval
  obtain ⟨fuel, hd⟩ := h
  obtain ⟨xs, m, rfl, _, hcs, hxs, each⟩ := DataW.trod_struct Tryz.underlying28 hd
  obtain ⟨a, b, c, d, hl⟩ := list_four (hcs.trans c28)
  rw [hl] at each
  have hx2 : xs.length = 2 := hxs
  obtain ⟨y, hy⟩ := get_some (each 0 _ rfl) (by omega)
  obtain ⟨z, hz⟩ := get_some (each 1 _ rfl) (by omega)
  simp [c22, c26] at hy hz
  obtain ⟨A, l, cc, hr, hB, hL⟩ := open_bodies hy
  obtain ⟨ys, m2, rfl, _, hcs2, hxs2, each2⟩ := DataW.trod_struct Tryz.underlying26 hz
  have hx3 : ys.length = 2 := hxs2
  obtain ⟨p, hp⟩ := get_some (each2 0 _ rfl) (by omega)
  obtain ⟨q, hq⟩ := get_some (each2 1 _ rfl) (by omega)
  simp [c24, c3] at hp hq
  obtain ⟨n, k, hn⟩ := open_period hp
  obtain ⟨st, hs, _, _⟩ := DataW.trod_int Tryz.underlying3 hq
  simp at hr hn hs
  refine ⟨⟨l, n, k, st⟩, A, cc, ?_, hB, hL⟩
  have e : cells.toList = [a, b, c, d] := hl
  have : cells = #[a, b, c, d] := by rw [← Array.toList_inj]; exact e
  rw [this, hr, hn.1, hn.2, hs]
end
end Go.Proofs.YtlcddcnmoajpjaaGreatDoor

namespace Go.Proofs.YtlcddcnmoajpjaaGreatDoor
open Go.ChangeShapes Go.WideShapes Go.ChangeAt Go.RowKit

abbrev laidL : List (String × DataW Unit) := [("math/bits.deBruijn32tab", Rows.laid_math_bits_deBruijn32tab), ("math/bits.deBruijn64tab", Rows.laid_math_bits_deBruijn64tab), ("internal/strconv.uint64pow10", Rows.laid_internal_strconv_uint64pow10), ("unicode/utf8.acceptRanges", Rows.laid_unicode_utf8_acceptRanges), ("unicode/utf8.first", Rows.laid_unicode_utf8_first)]
theorem own : ownKnob Tryz.prog.godebug = none := by kernel_rfl
theorem laidOut : laidOutB Tryz.prog = true := by kernel_rfl
theorem gTab : Tryz.prog.globalNamed "internal/strconv.uint64pow10" = some 1 := by kernel_rfl
theorem gTabType : (Tryz.prog.globals[1]?).map (·.type) = some 210 := by kernel_rfl
theorem tabEq : (Rows.laid_internal_strconv_uint64pow10 : DataW Unit) = Lib.tabData .u64 Lib.pow10Tab := by kernel_rfl
theorem env_of {W : World} (h : laidMetH Tryz.prog laidL W) (hs : W.ShapedOpen Tryz.prog) : Env W := by
  have h' : laidMet Tryz.prog laidL W := h
  have h2 := h'.tail.tail
  rw [tabEq] at h2
  exact ⟨Lib.tabIs_of_head gTab gTabType Tryz.underlying210 Tryz.underlying201 (by kernel_rfl) (by kernel_rfl) h2, cell_of_shapedOpen_int (zero := #[.int .i64 0]) (t := 3) hs (of_decide_eq_true (by kernel_rfl)) (by kernel_rfl) rfl (by kernel_rfl) (by kernel_rfl) Tryz.underlying3⟩

/-- A table's cells. -/
def flatN : Nat → DataW Unit → List Value
  | 0, _ => []
  | n + 1, .agg l => l.flatMap (flatN n)
  | _ + 1, .lit (.int k z) => [.int k z]
  | _, _ => []
def layTab (d : DataW Unit) : Obj → Obj
  | .cells _ t fr => .cells (flatN 4 d).toArray t fr
  | o => o
/-- A world for the witness: the settled one, with the library's tables laid. -/
noncomputable def laidWorld (os : Os) : World :=
  { World.holding Tryz.prog os ⟨#[], #[], []⟩ with heap := (((((World.holding Tryz.prog os ⟨#[], #[], []⟩).heap.modify 4 (layTab Rows.laid_math_bits_deBruijn32tab)).modify 5 (layTab Rows.laid_math_bits_deBruijn64tab)).modify 1 (layTab Rows.laid_internal_strconv_uint64pow10)).modify 3 (layTab Rows.laid_unicode_utf8_acceptRanges)).modify 2 (layTab Rows.laid_unicode_utf8_first) }

theorem trodAll_below {H : Type} {enc : TypeId × Value → H} {W W' : World} (hb : Below W.heap.size W W') : ∀ {ts : List TypeId} {vs : List Value} {ds : List (DataW H)} {ps : List MemPlace},
    (∀ t ∈ ts, Tryz.prog.readableRec t = true ∧ t < Tryz.prog.types.size) → DataW.TrodAll enc Tryz.prog W 0 (fun _ => true) true ts vs ds ps → (∀ x ∈ ps, x.block < W.heap.size) →
    DataW.TrodAll enc Tryz.prog W' 0 (fun b => decide (b < W.heap.size)) true ts vs ds ps
  | [], vs, ds, ps, _, h, _ => by
    obtain ⟨rfl, rfl, rfl⟩ := trodAll_nil h
    exact trodAll_mk0
  | t :: ts, vs, ds, ps, hk, h, hlt => by
    obtain ⟨v, vs1, d, ds1, a, b, rfl, rfl, rfl, h1, h2⟩ := trodAll_cons h
    have k := hk t (by simp)
    exact trodAll_cons_mk (Below.trod laidOut k.1 k.2 h1 hb (fun x hx => hlt x (by simp [hx]))) (trodAll_below hb (fun t ht => hk t (by simp [ht])) h2 (fun x hx => hlt x (by simp [hx])))
/-- From the walk to the row's end: the law returns true, and of what was there nothing has turned. -/
theorem post_true {H : Type} {enc : TypeId × Value → H} {f : Func} {s : ChangeSpec} {W W' : World} {args : Array Value} {ds gs : List (DataW H)} {before : List MemPlace}
    (hW : DataW.Whole enc Tryz.prog f.params.toList s.vars false W args.toList ds gs before) (hv : s.vars = []) (hr : f.resultTypes = #[4]) (hE : Ext W W')
    (hk : ∀ t ∈ f.params.toList, Tryz.prog.readableRec t = true ∧ t < Tryz.prog.types.size) (h1 : (s.fn H (ds ++ gs)).results = [.lit (.bool true)]) (h2 : (s.fn H (ds ++ gs)).args = ds) (h3 : (s.fn H (ds ++ gs)).vars = []) :
    s.post enc Tryz.prog f false true false false W args (.bool true) W' := by
  have hW0 := hW
  obtain ⟨p, q, hA, hV, rfl, hfz, hnd⟩ := hW
  rw [hv] at hV
  obtain ⟨rfl, rfl⟩ := trodVars_none hV
  have hlt : ∀ x ∈ p, x.block < W.heap.size := fun x hx => by simpa using hW0.lt x (by simpa using hx)
  refine ⟨ds, [], p ++ [], [], p, [], hW0, ?_, ?_, ?_, ?_, fun h => by cases h⟩
  · rw [h1, hr]
    exact trodAll_cons_mk (shut_bool Tryz.underlying4 _) trodAll_mk0
  · rw [h2]
    exact trodAll_below hE hk hA hlt
  · rw [h3, hv]
    rfl
  · exact World.keptBut_mono (fun _ f => f.elim) (Below.frame hE (fun _ => False))
end Go.Proofs.YtlcddcnmoajpjaaGreatDoor

namespace Go.Proofs.YtlcddcnmoajpjaaGreatDoor
open Go
set_option maxRecDepth 100000
theorem io_eq : Tryz.prog.initOrder = "harness 24726bc524473073bf03be47ef6a8c31fdf41f59a4ac5aff40414c94ace79ea9 cut " ++ "at tellurion/tellurionlaw05.SkyMoons tellurion/tellurionlaw05.SkyCrossed tellurion/tellurionlaw05.SkyEclipses tellurion/tellurionlaw05.SkyShadows tellurion/tellurionlaw05.SkySpeeds tellurion/tellurionlaw05.SkyAgrees tellurion/tellurionlaw05.SkyWatches tellurion/tellurionlaw05.SkyWatched tellurion/tellurionlaw05.SkyMore tellurion/tellurionlaw05.SkyTurned tellurion/tellurionlaw05.SkyEven tellurion/tellurionlaw05.SkyPrints tellurion/tellurionlaw05.SkyReads tellurion/tellurionlaw05.SkySpoilt tellurion/tellurionlaw05.SkyMeets tellurion/tellurionlaw05.SkyMet tellurion/tellurionlaw05.SkyMonths tellurion/tellurionlaw05.SkyCycles tellurion/tellurionlaw05.SkyPlaces tellurion/tellurionlaw05.SkyNexts tellurion/tellurionlaw05.SkyFirst" := by kernel_rfl
theorem words_app (w r : List Char) (h : ∀ c ∈ w, c ≠ (Char.ofNat 32)) : wordsSigns (w ++ (Char.ofNat 32) :: r) = w :: wordsSigns r := by
  induction w with
  | nil => simp [wordsSigns]
  | cons c w ih =>
    have hc : c ≠ (Char.ofNat 32) := h c (by simp)
    have i := ih (fun d hd => h d (by simp [hd]))
    rw [List.cons_append, wordsSigns, i]
    exact hc
theorem sumSigns : isSumSigns "24726bc524473073bf03be47ef6a8c31fdf41f59a4ac5aff40414c94ace79ea9".toList = true := by decide +kernel
theorem noSp : ∀ c ∈ "24726bc524473073bf03be47ef6a8c31fdf41f59a4ac5aff40414c94ace79ea9".toList, c ≠ (Char.ofNat 32) := by decide +kernel
theorem noSp1 : ∀ c ∈ "harness".toList, c ≠ (Char.ofNat 32) := by decide +kernel
theorem noSp2 : ∀ c ∈ "cut".toList, c ≠ (Char.ofNat 32) := by decide +kernel
theorem headEq : "harness 24726bc524473073bf03be47ef6a8c31fdf41f59a4ac5aff40414c94ace79ea9 cut ".toList = "harness".toList ++ (Char.ofNat 32) :: ("24726bc524473073bf03be47ef6a8c31fdf41f59a4ac5aff40414c94ace79ea9".toList ++ (Char.ofNat 32) :: ("cut".toList ++ [(Char.ofNat 32)])) := by decide +kernel
theorem io_words : ∃ r, wordsSigns Tryz.prog.initOrder.toList = "harness".toList :: "24726bc524473073bf03be47ef6a8c31fdf41f59a4ac5aff40414c94ace79ea9".toList :: "cut".toList :: r := by
  rw [io_eq, String.toList_append, headEq]
  generalize "at tellurion/tellurionlaw05.SkyMoons tellurion/tellurionlaw05.SkyCrossed tellurion/tellurionlaw05.SkyEclipses tellurion/tellurionlaw05.SkyShadows tellurion/tellurionlaw05.SkySpeeds tellurion/tellurionlaw05.SkyAgrees tellurion/tellurionlaw05.SkyWatches tellurion/tellurionlaw05.SkyWatched tellurion/tellurionlaw05.SkyMore tellurion/tellurionlaw05.SkyTurned tellurion/tellurionlaw05.SkyEven tellurion/tellurionlaw05.SkyPrints tellurion/tellurionlaw05.SkyReads tellurion/tellurionlaw05.SkySpoilt tellurion/tellurionlaw05.SkyMeets tellurion/tellurionlaw05.SkyMet tellurion/tellurionlaw05.SkyMonths tellurion/tellurionlaw05.SkyCycles tellurion/tellurionlaw05.SkyPlaces tellurion/tellurionlaw05.SkyNexts tellurion/tellurionlaw05.SkyFirst".toList = r
  refine ⟨wordsSigns r, ?_⟩
  rw [show ("harness".toList ++ (Char.ofNat 32) :: ("24726bc524473073bf03be47ef6a8c31fdf41f59a4ac5aff40414c94ace79ea9".toList ++ (Char.ofNat 32) :: ("cut".toList ++ [(Char.ofNat 32)]))) ++ r = "harness".toList ++ (Char.ofNat 32) :: ("24726bc524473073bf03be47ef6a8c31fdf41f59a4ac5aff40414c94ace79ea9".toList ++ (Char.ofNat 32) :: ("cut".toList ++ (Char.ofNat 32) :: r)) by simp only [List.append_assoc, List.cons_append, List.nil_append]]
  rw [words_app _ _ noSp1, words_app _ _ noSp, words_app _ _ noSp2]
theorem behind_at (s : List Char) (r : List (List Char)) (hs : isSumSigns s = true) : behindMainWord ("harness".toList :: s :: r) = r := by
  show (if (("harness".toList == "harness".toList || "harness".toList == "ownmain".toList) && isSumSigns s) = true then r else _) = r
  rw [hs, if_pos (by rw [beq_self_eq_true]; rfl)]
theorem io_behind : ∃ r, behindMainWord (wordsSigns Tryz.prog.initOrder.toList) = "cut".toList :: r := by
  obtain ⟨r, h⟩ := io_words
  exact ⟨r, by rw [h, behind_at _ _ sumSigns]⟩
theorem strip_no (w : List Char) (ws : List (List Char)) : ∀ os : List String, (∀ o ∈ os, (w == o.toList) = false) → stripLifts os (w :: ws) = ([], w :: ws)
  | [], _ => rfl
  | o :: os, h => by
    rw [stripLifts, h o (by simp)]
    exact strip_no w ws os (fun x hx => h x (by simp [hx]))
theorem cutNo : ∀ o ∈ liftWords, ("cut".toList == o.toList) = false := by decide +kernel
theorem lays_no : Tryz.prog.laysLater = false := by kernel_rfl
theorem refl_no : Tryz.prog.bearsReflect = false := by kernel_rfl
theorem door_ok : Tryz.prog.doorFits [] = true := by kernel_rfl
theorem lifts_of {P : Program} {c : List Char} {r : List (List Char)} (h : behindMainWord (wordsSigns P.initOrder.toList) = c :: r) (hs : stripLifts liftWords (c :: r) = ([], c :: r)) (e : (some c == some "carried".toList) = false) : P.liftsFinal = false := by
  unfold Program.liftsFinal Program.headLifts
  rw [h, hs]
  show ((some c == some "carried".toList && _) || _) = false
  rw [e, Bool.false_and, Bool.false_or]
  dsimp only
  split <;> rfl
theorem lifts_no : Tryz.prog.liftsFinal = false := by
  obtain ⟨r, h⟩ := io_behind
  exact lifts_of h (strip_no _ r _ cutNo) (by decide +kernel)
theorem make_of {P : Program} {c : List Char} {r : List (List Char)} (h : behindMainWord (wordsSigns P.initOrder.toList) = c :: r) (e1 : (c == "gc".toList || c == "spec".toList) = false) (e2 : (c == "cut".toList) = true) : P.make = some .cut := by
  unfold Program.make
  rw [h]
  show (if (c == "gc".toList || c == "spec".toList) = true then _ else if (c == "cut".toList || _) = true then _ else _) = _
  rw [e1, e2, if_neg (by decide), if_pos (by rw [Bool.true_or])]
theorem make_cut : Tryz.prog.make = some .cut := by
  obtain ⟨r, h⟩ := io_behind
  exact make_of h (by decide +kernel) (by decide +kernel)
theorem may_of {P : Program} {c : List Char} {r : List (List Char)} (h : behindMainWord (wordsSigns P.initOrder.toList) = c :: r) (hs : stripLifts liftWords (c :: r) = ([], c :: r)) (e : (some c == some "cut".toList) = true) (h1 : P.laysLater = false) (h2 : P.bearsReflect = false) (h3 : P.doorFits [] = true) : P.mayEnter = true := by
  unfold Program.mayEnter
  rw [h]
  dsimp only
  rw [hs, h1, h2, h3]
  show (_ || _ || (some c == some "cut".toList && _ && _ && _ && true)) = true
  rw [e]
  simp only [Bool.not_false, Bool.or_true, Bool.and_true, Bool.true_and, Bool.or_eq_true]
  right
  right
  rfl
theorem may_yes : Tryz.prog.mayEnter = true := by
  obtain ⟨r, h⟩ := io_behind
  exact may_of h (strip_no _ r _ cutNo) (by decide +kernel) lays_no refl_no door_ok
end Go.Proofs.YtlcddcnmoajpjaaGreatDoor
