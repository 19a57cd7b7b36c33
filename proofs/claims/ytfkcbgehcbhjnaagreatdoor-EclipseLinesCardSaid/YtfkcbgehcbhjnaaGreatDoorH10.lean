/- Volume 10 of the texts that the laws of this seat use: EcShelf EcStr EcNum EcTextW EcPars EcPars2: walks of the program's functions, and plain laws. -/
import Derived.Shelf.Strings.OnBuilder
import Derived.Shelf.LaysM
import Derived.Shelf.Strconv.Itoa3
import Derived.Shelf.Strings.Split
import Derived.Lib.AppendIntMem
import Derived.Lib.ItoaLen
import Derived.Carry
import Derived.Test.YtfkcbgehcbhjnaaGreatDoorH01
import Derived.Test.YtfkcbgehcbhjnaaGreatDoorH02
import Derived.Test.YtfkcbgehcbhjnaaGreatDoorH03
import Derived.Test.YtfkcbgehcbhjnaaGreatDoorH04
import Derived.Test.YtfkcbgehcbhjnaaGreatDoorProg
namespace Go.Proofs
open Go.Shelf
def Tryz.lays156_ren : Go.Shelf.Ren := ⟨fun | 156 => 88 | 165 => 113 | 166 => 114 | 169 => 115 | 240 => 135 | 241 => 136 | 276 => 157 | 277 => 158 | n => n, fun | 31 => 95 | 9 => 9 | 3 => 3 | 4 => 4 | 0 => 0 | 20 => 20 | 72 => 160 | 76 => 164 | 70 => 158 | 37 => 35 | 75 => 163 | 127 => 187 | 164 => 211 | 5 => 5 | 80 => 166 | n => n, fun | n => n⟩
theorem Tryz.lays156 : Go.Proofs.Lays.n156 Tryz.prog Tryz.lays156_ren := {
  mixed := by kernel_rfl
  f156 := Tryz.func88.trans (congrArg some (by kernel_rfl))
  f165 := Tryz.func113.trans (congrArg some (by kernel_rfl))
  f166 := Tryz.func114.trans (congrArg some (by kernel_rfl))
  f169 := Tryz.func115.trans (congrArg some (by kernel_rfl))
  f240 := Tryz.func135.trans (congrArg some (by kernel_rfl))
  f241 := Tryz.func136.trans (congrArg some (by kernel_rfl))
  f276 := Tryz.func157.trans (congrArg some (by kernel_rfl))
  f277 := Tryz.func158.trans (congrArg some (by kernel_rfl))
  t0 := Tryz.underlying0
  a0 := Tryz.isAgg0
  z0 := Tryz.sizeOf0
  v0 := Tryz.zeroValue0
  t3 := Tryz.underlying3
  a3 := Tryz.isAgg3
  z3 := Tryz.sizeOf3
  v3 := Tryz.zeroValue3
  t4 := Tryz.underlying4
  a4 := Tryz.isAgg4
  z4 := Tryz.sizeOf4
  v4 := Tryz.zeroValue4
  t9 := Tryz.underlying9
  a9 := Tryz.isAgg9
  z9 := Tryz.sizeOf9
  v9 := Tryz.zeroValue9
  t20 := Tryz.underlying20
  a20 := Tryz.isAgg20
  z20 := Tryz.sizeOf20
  v20 := Tryz.zeroValue20
  t31 := Tryz.underlying95
  a31 := Tryz.isAgg95
  z31 := Tryz.sizeOf95
  v31 := Tryz.zeroValue95
  t37 := Tryz.underlying35
  a37 := Tryz.isAgg35
  z37 := Tryz.sizeOf35
  v37 := Tryz.zeroValue35
  t70 := Tryz.underlying158
  a70 := Tryz.isAgg158
  z70 := Tryz.sizeOf158
  v70 := Tryz.zeroValue158
  t72 := Tryz.underlying160
  a72 := Tryz.isAgg160
  z72 := Tryz.sizeOf160
  v72 := Tryz.zeroValue160
  t75 := Tryz.underlying163
  a75 := Tryz.isAgg163
  z75 := Tryz.sizeOf163
  v75 := Tryz.zeroValue163
  t76 := Tryz.underlying164
  a76 := Tryz.isAgg164
  z76 := Tryz.sizeOf164
  v76 := Tryz.zeroValue164
  t127 := Tryz.underlying187
  a127 := Tryz.isAgg187
  z127 := Tryz.sizeOf187
  v127 := Tryz.zeroValue187
  t164 := Tryz.underlying211
  a164 := Tryz.isAgg211
  z164 := Tryz.sizeOf211
  v164 := Tryz.zeroValue211 }
theorem Tryz.Builder_Extra_156 : Builder.Extra Tryz.prog Tryz.lays156_ren := {
  sizeBuilder := by kernel_rfl
  liesBuilder := by kernel_rfl
  t5 := Tryz.underlying5
  a5 := Tryz.isAgg5
  z5 := Tryz.sizeOf5
  v5 := Tryz.zeroValue5
  infoByte := by kernel_rfl
  cellsByte := by kernel_rfl
  sizeByte := by kernel_rfl
  neB5 := by decide }
open Go.RowKit in
theorem Tryz.strings_Join_none (a : Option Addr) (c : Nat) (sep : ByteArray) (w : World) :
    Calls Tryz.prog 88 #[.slice a 0 c, .string sep] w fun e w' => e = .returned (.string ⟨#[]⟩) ∧ w' = w := Any.strings_Join_none Tryz.lays156 Tryz.Builder_Extra_156 a c sep w
open Go.RowKit in
theorem Tryz.strings_Join (bk o c : Nat) (xs : List ByteArray) (sep : ByteArray) (w : World) (hcells : ∀ (j : Nat) x, xs[j]? = some x → w.cell? ⟨bk, o + j, none⟩ = some (.string x)) (hbk : bk < w.heap.size) (hN : xs.length ≤ 140737488355328) (hcap : xs.length ≤ c) (hlen : (Lib.join (xs.map (·.data.toList)) sep.data.toList).length ≤ 140737488355328) :
    Calls Tryz.prog 88 #[.slice (some ⟨bk, o, none⟩) xs.length c, .string sep] w fun e w' => e = .returned (.string ⟨(Lib.join (xs.map (·.data.toList)) sep.data.toList).toArray⟩) ∧ Below w.heap.size w w' := Any.strings_Join Tryz.lays156 Tryz.Builder_Extra_156 bk o c xs sep w hcells hbk hN hcap hlen
def Tryz.laysM171_ren : Go.Shelf.Ren := ⟨fun | 171 => 86 | 243 => 111 | 246 => 134 | 283 => 153 | 284 => 154 | 285 => 155 | 286 => 156 | 129 => 180 | 317 => 179 | 318 => 181 | 319 => 182 | 320 => 183 | 337 => 192 | 338 => 193 | n => n, fun | 3 => 3 | 9 => 9 | 2 => 2 | 4 => 4 | 171 => 205 | 0 => 0 | 53 => 206 | 37 => 35 | 5 => 5 | 173 => 209 | 212 => 228 | 51 => 229 | 20 => 20 | 213 => 230 | 46 => 231 | 232 => 243 | 233 => 244 | n => n, fun | 17 => 0 | 18 => 4 | 19 => 5 | n => n⟩
theorem Tryz.laysM171 : Go.Proofs.LaysM.n171 Tryz.prog Tryz.laysM171_ren := {
  mixed := by kernel_rfl
  f129 := Tryz.func180.trans (congrArg some (by kernel_rfl))
  f171 := Tryz.func86.trans (congrArg some (by kernel_rfl))
  f243 := Tryz.func111.trans (congrArg some (by kernel_rfl))
  f246 := Tryz.func134.trans (congrArg some (by kernel_rfl))
  f283 := Tryz.func153.trans (congrArg some (by kernel_rfl))
  f284 := Tryz.func154.trans (congrArg some (by kernel_rfl))
  f285 := Tryz.func155.trans (congrArg some (by kernel_rfl))
  f286 := Tryz.func156.trans (congrArg some (by kernel_rfl))
  f317 := Tryz.func179.trans (congrArg some (by kernel_rfl))
  f318 := Tryz.func181.trans (congrArg some (by kernel_rfl))
  f319 := Tryz.func182.trans (congrArg some (by kernel_rfl))
  f320 := Tryz.func183.trans (congrArg some (by kernel_rfl))
  f337 := Tryz.func192.trans (congrArg some (by kernel_rfl))
  f338 := Tryz.func193.trans (congrArg some (by kernel_rfl))
  t0 := Tryz.underlying0
  a0 := Tryz.isAgg0
  z0 := Tryz.sizeOf0
  v0 := Tryz.zeroValue0
  t2 := Tryz.underlying2
  a2 := Tryz.isAgg2
  z2 := Tryz.sizeOf2
  v2 := Tryz.zeroValue2
  t3 := Tryz.underlying3
  a3 := Tryz.isAgg3
  z3 := Tryz.sizeOf3
  v3 := Tryz.zeroValue3
  t4 := Tryz.underlying4
  a4 := Tryz.isAgg4
  z4 := Tryz.sizeOf4
  v4 := Tryz.zeroValue4
  t5 := Tryz.underlying5
  a5 := Tryz.isAgg5
  z5 := Tryz.sizeOf5
  v5 := Tryz.zeroValue5
  t9 := Tryz.underlying9
  a9 := Tryz.isAgg9
  z9 := Tryz.sizeOf9
  v9 := Tryz.zeroValue9
  t20 := Tryz.underlying20
  a20 := Tryz.isAgg20
  z20 := Tryz.sizeOf20
  v20 := Tryz.zeroValue20
  t37 := Tryz.underlying35
  a37 := Tryz.isAgg35
  z37 := Tryz.sizeOf35
  v37 := Tryz.zeroValue35
  t46 := Tryz.underlying231
  a46 := Tryz.isAgg231
  z46 := Tryz.sizeOf231
  v46 := Tryz.zeroValue231
  t51 := Tryz.underlying229
  a51 := Tryz.isAgg229
  z51 := Tryz.sizeOf229
  v51 := Tryz.zeroValue229
  t53 := Tryz.underlying206
  a53 := Tryz.isAgg206
  z53 := Tryz.sizeOf206
  v53 := Tryz.zeroValue206
  t171 := Tryz.underlying205
  a171 := Tryz.isAgg205
  z171 := Tryz.sizeOf205
  v171 := Tryz.zeroValue205
  t173 := Tryz.underlying209
  a173 := Tryz.isAgg209
  z173 := Tryz.sizeOf209
  v173 := Tryz.zeroValue209
  t212 := Tryz.underlying228
  a212 := Tryz.isAgg228
  z212 := Tryz.sizeOf228
  v212 := Tryz.zeroValue228
  t213 := Tryz.underlying230
  a213 := Tryz.isAgg230
  z213 := Tryz.sizeOf230
  t232 := Tryz.underlying243
  a232 := Tryz.isAgg243
  z232 := Tryz.sizeOf243
  v232 := Tryz.zeroValue243
  t233 := Tryz.underlying244
  a233 := Tryz.isAgg244
  z233 := Tryz.sizeOf244
  v233 := Tryz.zeroValue244
  g17 := by kernel_rfl
  g18 := by kernel_rfl
  g19 := by kernel_rfl
  i0 := by kernel_rfl
  i2 := by kernel_rfl
  i3 := by kernel_rfl
  i4 := by kernel_rfl
  i5 := by kernel_rfl
  i9 := by kernel_rfl
  i20 := by kernel_rfl
  i37 := by kernel_rfl
  i46 := by kernel_rfl
  i51 := by kernel_rfl
  i53 := by kernel_rfl
  i171 := by kernel_rfl
  i173 := by kernel_rfl
  i212 := by kernel_rfl
  i232 := by kernel_rfl
  i233 := by kernel_rfl
  m17 := by kernel_rfl
  m18 := by kernel_rfl
  m19 := by kernel_rfl }
open Go.RowKit Go.Sort Go.Lib in
theorem Tryz.strconv_Itoa (n : Int) (h0 : -9223372036854775808 ≤ n) (h1 : n ≤ 9223372036854775807) (w : World) (htab : Lib.TabIs Tryz.prog w "internal/strconv.uint64pow10" .u64 Lib.pow10Tab) :
    Calls Tryz.prog 86 #[.int .i64 n] w fun e w' => e = .returned (.string ⟨(Lib.itoa n).toArray⟩) ∧ ∃ k os, w' = grow (w.drewN k) os := Any.strconv_Itoa Tryz.laysM171 n h0 h1 w htab
def Tryz.lays146_ren : Go.Shelf.Ren := ⟨fun | 146 => 90 | 221 => 116 | 268 => 137 | 138 => 138 | 143 => 139 | 195 => 159 | 197 => 160 | 218 => 161 | 219 => 162 | 260 => 184 | 217 => 185 | 225 => 186 | 224 => 187 | 267 => 188 | 266 => 194 | 314 => 195 | n => n, fun | 9 => 9 | 31 => 95 | 3 => 3 | 4 => 4 | 0 => 0 | 105 => 214 | 21 => 21 | 5 => 5 | 46 => 231 | 119 => 237 | 139 => 240 | 138 => 239 | 146 => 241 | 51 => 229 | n => n, fun | 1 => 1 | 3 => 2 | 4 => 3 | n => n⟩
theorem Tryz.lays146 : Go.Proofs.Lays.n146 Tryz.prog Tryz.lays146_ren := {
  mixed := by kernel_rfl
  f138 := Tryz.func138.trans (congrArg some (by kernel_rfl))
  f143 := Tryz.func139.trans (congrArg some (by kernel_rfl))
  f146 := Tryz.func90.trans (congrArg some (by kernel_rfl))
  f195 := Tryz.func159.trans (congrArg some (by kernel_rfl))
  f197 := Tryz.func160.trans (congrArg some (by kernel_rfl))
  f217 := Tryz.func185.trans (congrArg some (by kernel_rfl))
  f218 := Tryz.func161.trans (congrArg some (by kernel_rfl))
  f219 := Tryz.func162.trans (congrArg some (by kernel_rfl))
  f221 := Tryz.func116.trans (congrArg some (by kernel_rfl))
  f224 := Tryz.func187.trans (congrArg some (by kernel_rfl))
  f225 := Tryz.func186.trans (congrArg some (by kernel_rfl))
  f260 := Tryz.func184.trans (congrArg some (by kernel_rfl))
  f266 := Tryz.func194.trans (congrArg some (by kernel_rfl))
  f267 := Tryz.func188.trans (congrArg some (by kernel_rfl))
  f268 := Tryz.func137.trans (congrArg some (by kernel_rfl))
  f314 := Tryz.func195.trans (congrArg some (by kernel_rfl))
  t0 := Tryz.underlying0
  a0 := Tryz.isAgg0
  z0 := Tryz.sizeOf0
  v0 := Tryz.zeroValue0
  t3 := Tryz.underlying3
  a3 := Tryz.isAgg3
  z3 := Tryz.sizeOf3
  v3 := Tryz.zeroValue3
  t4 := Tryz.underlying4
  a4 := Tryz.isAgg4
  z4 := Tryz.sizeOf4
  v4 := Tryz.zeroValue4
  t5 := Tryz.underlying5
  a5 := Tryz.isAgg5
  z5 := Tryz.sizeOf5
  v5 := Tryz.zeroValue5
  t9 := Tryz.underlying9
  a9 := Tryz.isAgg9
  z9 := Tryz.sizeOf9
  v9 := Tryz.zeroValue9
  t21 := Tryz.underlying21
  a21 := Tryz.isAgg21
  z21 := Tryz.sizeOf21
  v21 := Tryz.zeroValue21
  t31 := Tryz.underlying95
  a31 := Tryz.isAgg95
  z31 := Tryz.sizeOf95
  v31 := Tryz.zeroValue95
  t46 := Tryz.underlying231
  a46 := Tryz.isAgg231
  z46 := Tryz.sizeOf231
  v46 := Tryz.zeroValue231
  t51 := Tryz.underlying229
  a51 := Tryz.isAgg229
  z51 := Tryz.sizeOf229
  v51 := Tryz.zeroValue229
  t105 := Tryz.underlying214
  a105 := Tryz.isAgg214
  z105 := Tryz.sizeOf214
  v105 := Tryz.zeroValue214
  t119 := Tryz.underlying237
  a119 := Tryz.isAgg237
  z119 := Tryz.sizeOf237
  t138 := Tryz.underlying239
  a138 := Tryz.isAgg239
  z138 := Tryz.sizeOf239
  v138 := Tryz.zeroValue239
  t139 := Tryz.underlying240
  a139 := Tryz.isAgg240
  z139 := Tryz.sizeOf240
  v139 := Tryz.zeroValue240
  t146 := Tryz.underlying241
  a146 := Tryz.isAgg241
  z146 := Tryz.sizeOf241
  v146 := Tryz.zeroValue241
  g1 := by kernel_rfl
  g3 := by kernel_rfl
  g4 := by kernel_rfl }
open Go.RowKit Go.Lib in
theorem Tryz.strings_Split (s sep : ByteArray) (m : Int) (w : World) (hs : s.size < 4294967281) (hm : w.cell? ⟨1, 0, none⟩ = some (.int .i64 m)) (h1 : 1 ≤ sep.size) :
    Calls Tryz.prog 90 #[.string s, .string sep] w fun e w' =>
      e = .returned (.slice (some ⟨w.heap.size, 0, none⟩) (Lib.countB s sep + 1) (Lib.countB s sep + 1)) ∧ w' = w.alloc (.cells ((Lib.splitB sep 0 (Lib.countB s sep) s).map Value.string).toArray 9) := Any.strings_Split Tryz.lays146 (by kernel_rfl) s sep m w hs hm h1
end Go.Proofs
namespace Go.Proofs.YtfkcbgehcbhjnaaGreatDoor
open Go.RowKit
open Sp (rd)
structure Env (w : World) : Prop where
 tab : Lib.TabIs Tryz.prog w "internal/strconv.uint64pow10" .u64 Lib.pow10Tab
 max : ∃ m : Int, w.cell? ⟨1, 0, none⟩ = some (.int .i64 m)
theorem Env.ext {w w1 : World} (h : Env w) (he : Ext w w1) : Env w1 :=
 ⟨Lib.tabBelow_of_tabIs h.tab w1 he, let ⟨m, hm⟩ := h.max; ⟨m, he.cell hm⟩⟩
def bs (l : Bs) : ByteArray := ⟨l.toArray⟩
theorem bs_size (l : Bs) : (bs l).size = l.length := by simp [bs, ByteArray.size]
theorem bs_data (l : Bs) : (bs l).data.toList = l := rfl
theorem bs_add (a b : Bs) : bs a ++ bs b = bs (a ++ b) := by
 apply ByteArray.ext
 simp [bs]
theorem bs_of (s : ByteArray) : bs s.data.toList = s := rfl
theorem add_str (a b : Bs) (h : a.length + b.length ≤ 9223372036854775807) (w : World) : (Op.stringOp .add (bs a) (bs b)).run Tryz.prog w = .ok (.string (bs (a ++ b))) w := by
 rw [run_string_add_sum _ _ _ (by rw [bs_size, bs_size]; exact h), bs_add]
theorem itoa_any (n : Int) (w : World) (hV : Env w) (h0 : -9223372036854775808 ≤ n) (h1 : n ≤ 9223372036854775807) :
  Calls Tryz.prog 86 #[.int .i64 n] w fun e w' => e = .returned (.string (bs (Lib.itoa n))) ∧ Ext w w' :=
 (Tryz.strconv_Itoa n h0 h1 w hV.tab).mono fun _ _ ⟨he, k, os, hw⟩ => ⟨he, by rw [hw]; exact Lib.below_grow _ w (Nat.le_refl _) k os⟩
def strCells1 (l : List Bs) : List Value := l.map fun x => .string (bs x)
theorem info_string : (Tryz.prog.info? 9).map (fun i => (i.zero, i.size, i.bytes)) = some (some (.string ⟨#[]⟩), 1, 16) := by kernel_rfl
def Strs (w : World) (A : Option Addr) (l : List Bs) : Prop :=
 0 < l.length → ∃ b o, A = some ⟨b, o, none⟩ ∧ ∀ k, k < l.length → w.cell? ⟨b, o + k, none⟩ = some (.string (bs (l.getD k [])))
theorem Strs.ext {w w' : World} {A : Option Addr} {l : List Bs} (h : Strs w A l) (he : Ext w w') : Strs w' A l := fun h0 =>
 let ⟨b, o, e, hc⟩ := h h0
 ⟨b, o, e, fun k hk => he.cell (hc k hk)⟩
theorem Strs.of_own {w : World} {base : Nat} {v : Value} {l : List Bs} (h : w.ownsRow base 9 1 v l.length (strCells1 l)) : ∃ A c, v = .slice A l.length c ∧ l.length ≤ c ∧ Strs w A l := by
 rcases h.2 with ⟨rfl, h0⟩ | ⟨g, cap, cur, hv, _, _, hn, _⟩
 ·exact ⟨none, 0, by rw [h0], by omega, fun hh => by omega⟩
 ·refine ⟨some ⟨g, 0, none⟩, cap, hv, hn, fun _ => ⟨g, 0, rfl, fun k hk => ?_⟩⟩
  have hc := h.cells (g := g) (by rw [hv]; rfl)
  have h1 := hc k (.string (bs (l.getD k []))) (by simp [strCells1, hk])
  rw [add0] at h1
  simpa using h1
theorem ownsRow_new (w : World) (t : TypeId) (cs : Array Value) (n base : Nat) (hn : cs.size = n) (hm : n ≤ maxLen) (hb : base ≤ w.heap.size) :
  (w.alloc (.cells cs t)).ownsRow base t 1 (.slice (some ⟨w.heap.size, 0, none⟩) n n) n cs.toList := by
 refine ⟨by simp [hn], .inr ⟨w.heap.size, n, cs, rfl, hb, heap_alloc_new w _, Nat.le_refl _, hm, by omega, ?_⟩⟩
 rw [Nat.mul_one, List.take_of_length_le (by simp [hn])]
theorem join_length (c : UInt8) (l : List Bs) (B : Nat) (h : ∀ x ∈ l, x.length ≤ B) : (Lib.join l [c]).length ≤ l.length * (B + 1) := by
 cases l with
 | nil => simp [Lib.join_nil]
 | cons x r =>
  rw [Lib.join_cons, List.length_append]
  have h1 := h x (by simp)
  have h2 : (Lib.joinTail [c] r).length ≤ r.length * (B + 1) := by
   have hr : ∀ y ∈ r, y.length ≤ B := fun y hy => h y (by simp [hy])
   clear h h1
   induction r with
   | nil => simp [Lib.joinTail]
   | cons y r ih =>
    have h3 := ih (fun z hz => hr z (by simp [hz]))
    have h4 := hr y (by simp)
    simp only [Lib.joinTail, List.map_cons, List.flatten_cons, List.length_append, List.length_cons, List.length_nil] at h3 ⊢
    rw [Nat.succ_mul]
    omega
  rw [List.length_cons, Nat.succ_mul]
  omega
theorem bs_get (y : Bs) (j : Nat) (h : j < (bs y).size) : (bs y)[j] = y.getD j 0 := by
 have h' : j < y.length := by rw [bs_size] at h; exact h
 rw [List.getD_eq_getElem?_getD, List.getElem?_eq_getElem h']
 rfl
theorem index_bs (y : Bs) (j : Nat) (h : j < y.length) (w : World) : (Instr.index 9 (.string (bs y)) (.int .i64 (j : Int))).run Tryz.prog w = .ok (.int .u8 ((y.getD j 0).toNat : Int)) w := by
 have hs := bs_size y
 rw [run_index_string _ _ _ _ _ Tryz.underlying9, dif_pos ⟨by omega, by omega⟩]
 have e := bs_get y j (by omega)
 simp only [Int.toNat_natCast, e]
theorem join_any (A : Option Addr) (c : Nat) (L : List Bs) (w : World) (h : Strs w A L) (hc : L.length ≤ c) (hl : L.length ≤ 100000) (hj : (Lib.join L [10]).length ≤ 140737488355328) :
  Calls Tryz.prog 88 #[.slice A L.length c, .string ⟨#[10]⟩] w fun e w' => e = .returned (.string (bs (Lib.join L [10]))) ∧ Ext w w' := by
 rcases Nat.eq_zero_or_pos L.length with h0 | h0
 ·obtain rfl := List.eq_nil_of_length_eq_zero h0
  exact (Tryz.strings_Join_none A c _ w).mono fun _ _ ⟨he, hw⟩ => ⟨he, Ext.rfl_of hw.symm⟩
 ·obtain ⟨b, o, rfl, hc'⟩ := h h0
  have hm : (L.map bs).map (·.data.toList) = L := by
   rw [List.map_map]
   exact List.map_id L
  have := Tryz.strings_Join b o c (L.map bs) ⟨#[10]⟩ w (fun j x hx => by
   obtain ⟨y, hy, rfl⟩ := List.getElem?_map .. ▸ hx |> Option.map_eq_some_iff.1
   have hj : j < L.length := (List.getElem?_eq_some_iff.1 hy).1
   have e := hc' j hj
   rw [List.getD_eq_getElem?_getD, hy] at e
   exact e) (lt_of_cell (hc' 0 h0)) (by rw [List.length_map]; omega) (by rw [List.length_map]; exact hc) (by rw [hm]; exact hj)
  rw [hm, List.length_map] at this
  exact this
theorem itoa_as (n : Int) (I : Bs) (w : World) (hI : Lib.itoa n = I) (hV : Env w) (h0 : -9223372036854775808 ≤ n) (h1 : n ≤ 9223372036854775807) :
  Calls Tryz.prog 86 #[.int .i64 n] w fun e w' => e = .returned (.string (bs I)) ∧ Ext w w' := by
 rw [← hI]
 exact itoa_any n w hV h0 h1
theorem all_take_succ {l : Bs} {k : Nat} (hk : k < l.length) (h : (l.take k).all isDig = true) (hd : isDig (l.getD k 0) = true) : (l.take (k + 1)).all isDig = true := by
 rw [List.take_succ_eq_append_getElem hk, List.all_append, h]
 rw [List.getD_eq_getElem?_getD, List.getElem?_eq_getElem hk] at hd
 simpa using hd
theorem all_no_at {l : Bs} {k : Nat} (hk : k < l.length) (hd : isDig (l.getD k 0) = false) : l.all isDig = false := by
 refine Bool.eq_false_iff.2 fun h => ?_
 rw [List.all_eq_true] at h
 have := h _ (List.getElem_mem hk)
 rw [List.getD_eq_getElem?_getD, List.getElem?_eq_getElem hk] at hd
 simp only [Option.getD_some] at hd
 rw [this] at hd; cases hd
theorem dec_bs (D : Bs) (pos : Nat) (h : pos < D.length) : ((D.getD pos 0).toNat < 128 → Utf8.decode (bs D) pos = ((D.getD pos 0).toNat, 1)) ∧ (128 ≤ (D.getD pos 0).toNat → 128 ≤ (Utf8.decode (bs D) pos).1) := by
 have hs : pos < (bs D).size := by rw [bs_size]; exact h
 have e := bs_get D pos hs
 constructor
 ·intro h1
  have := decode_ascii (bs D) pos hs (by rw [e]; exact h1)
  rw [e] at this
  exact this
 ·intro h1
  exact (decode_high (bs D) pos hs (by rw [e]; exact h1)).1
theorem digN_take (l : Bs) (n k : Nat) (h : k ≤ n) : digN (l.take n) k = digN l k := by
 induction k with
 | zero => rfl
 | succ k ih =>
  rw [digN, digN, ih (by omega)]
  congr 3
  rw [List.getD_eq_getElem?_getD, List.getD_eq_getElem?_getD, List.getElem?_take, if_pos (by omega)]
theorem toList_bs (a : Bs) : (bs a).toList = a := Lib.toList_data (bs a)
theorem of_data {l : List ByteArray} {m : List Bs} (h : l.map (·.data.toList) = m) : l = m.map bs := by
 subst h
 rw [List.map_map]
 exact (List.map_id l).symm
theorem split_any (c : UInt8) (x : Bs) (w : World) (hV : Env w) (hx : x.length ≤ 100000) :
  Calls Tryz.prog 90 #[.string (bs x), .string ⟨#[c]⟩] w fun e w' => e = .returned (.slice (some ⟨w.heap.size, 0, none⟩) (sp1 c x).length (sp1 c x).length) ∧ w' = w.alloc (.cells (strCells1 (sp1 c x)).toArray 9) := by
 obtain ⟨m, hm⟩ := hV.max
 have hn : Lib.countB (bs x) ⟨#[c]⟩ + 1 = (sp1 c x).length := by
  rw [sp1_length]
  show Lib.count x [c] + 1 = _
  rw [Lib.count_one]
 have hl : Lib.splitB ⟨#[c]⟩ 0 (Lib.countB (bs x) ⟨#[c]⟩) (bs x) = (sp1 c x).map bs := by
  refine of_data ?_
  rw [Lib.splitB_data]
  exact splitK_sp1 c x
 have := Tryz.strings_Split (bs x) ⟨#[c]⟩ m w (by rw [bs_size]; omega) hm (by simp [ByteArray.size])
 rw [hn, hl] at this
 rw [List.map_map] at this
 exact this
theorem sp1_le (c : UInt8) (x : Bs) : ∀ y ∈ sp1 c x, y.length ≤ x.length := by
 induction x with
 | nil => simp [sp1]
 | cons b x ih =>
  intro y hy
  unfold sp1 at hy
  split at hy
  ·rcases List.mem_cons.1 hy with rfl | hy
   ·simp
   ·have := ih y hy; simp; omega
  ·rcases List.mem_cons.1 hy with rfl | hy
   ·have hne := sp1_ne c x
    cases hs : sp1 c x with
    | nil => exact absurd hs hne
    | cons a t =>
     have := ih a (by rw [hs]; simp)
     simpa using this
   ·have := ih y (List.mem_of_mem_tail hy); simp; omega
end Go.Proofs.YtfkcbgehcbhjnaaGreatDoor
namespace Go.Proofs.YtfkcbgehcbhjnaaGreatDoor
open Go.RowKit
open Sp (rd)
open Ec (wEcl wNew wFull eWord eLine tabE checkE textE numE numFineE parseE midE eclP EclNum)
theorem e_sure_ok (s : ByteArray) (w : World) : Calls Tryz.prog 91 #[.bool true, .string s] w fun e w' => e = .returned (.tuple #[]) ∧ w = w' := by
 go_enter Tryz.func91, Tryz.ntmps91
 go_wp2
 go_end0
 exact ⟨rfl, rfl⟩
theorem e_sure_no (s : ByteArray) (w : World) : Calls Tryz.prog 91 #[.bool false, .string s] w fun e w' => e = .panicked [{ v := .iface 92 (.agg #[.string s]), recovered := false }] ∧ w = w' := by
 go_enter Tryz.func91, Tryz.ntmps91
 go_wp2
 exact ⟨rfl, rfl, rfl⟩
theorem pickW0 (x0 x1 : Value) (w : World) : (Instr.index 156 (.agg #[x0, x1]) (.int .i64 0)).run Tryz.prog w = .ok x0 w := by kernel_rfl
theorem pickW1 (x0 x1 : Value) (w : World) : (Instr.index 156 (.agg #[x0, x1]) (.int .i64 1)).run Tryz.prog w = .ok x1 w := by kernel_rfl
theorem words_results (tmps : Array Value) (W : World) (b : Nat) (x y : Value) (h0 : tmps[0]?.getD undef = .pointer (some ⟨b, 0, none⟩)) (c0 : W.cell? ⟨b, 0, none⟩ = some x) (c1 : W.cell? ⟨b, 1, none⟩ = some y) : (results Tryz.f112 tmps).run Tryz.prog W = .ok (.agg #[x, y]) W := by
 simp [results, Tryz.results112, asAddr, go_sem, h0, c0, c1]
theorem e_words_any (w : World) : Calls Tryz.prog 112 #[] w fun e w' => e = .returned (.agg #[.string (bs wNew), .string (bs wFull)]) ∧ Ext w w' := by
 have h2 := Row.new w 156 #[.string (bs wNew), .string (bs wFull)]
 go_enter Tryz.func112, Tryz.ntmps112
 go_wp2_with fail
 exact bodyPost_ret (words_results _ _ w.heap.size _ _ rfl (h2.cell 0) (h2.cell 1)) rfl ⟨rfl, (Ext.refl w).alloc _⟩
theorem e_word_any (full : Bool) (w : World) : Calls Tryz.prog 87 #[.bool full] w fun e w' => e = .returned (.string (bs (eWord full))) ∧ Ext w w' := by
 have p0 := pickW0
 have p1 := pickW1
 cases full
 ·go_enter Tryz.func87, Tryz.ntmps87
  go_wp2_with fail
  refine (e_words_any _).mono ?_
  rintro e w1 ⟨rfl, hE⟩
  go_wp2_with fail
  go_ret
  exact ⟨rfl, hE⟩
 ·go_enter Tryz.func87, Tryz.ntmps87
  go_wp2_with fail
  refine (e_words_any _).mono ?_
  rintro e w1 ⟨rfl, hE⟩
  go_wp2_with fail
  go_ret
  exact ⟨rfl, hE⟩
def NumPostE (w : World) (x : Bs) (e : Ending) (w' : World) : Prop := Ext w w' ∧
 ((∃ n, numE x = some n ∧ e = .returned (.int .i64 n)) ∨ (numE x = none ∧ ∃ y, e = .panicked [{ v := .iface 92 (.agg #[.string y]), recovered := false }]))
theorem numE_no {x : Bs} (h : x.all isDig = false ∨ ¬ x.length ≤ 5 ∨ x = [] ∨ Lib.itoa (digV x : Int) ≠ x) : numE x = none := by
 unfold numE numFineE
 rw [if_neg]
 intro hf
 simp only [Bool.and_eq_true, decide_eq_true_eq, beq_iff_eq] at hf
 obtain ⟨⟨⟨h1, h2⟩, h3⟩, h4⟩ := hf
 rcases h with h | h | h | h
 ·rw [h1] at h; cases h
 ·exact h h2
 ·rw [h] at h3; cases h3
 ·exact h h4
theorem numE_yes {x : Bs} (h1 : x.all isDig = true) (h2 : x.length ≤ 5) (h3 : x ≠ []) (h4 : Lib.itoa (digV x : Int) = x) : numE x = some (digV x : Int) := by
 unfold numE numFineE
 rw [if_pos]
 rw [h1, h4]
 have : x.isEmpty = false := by simpa using h3
 simp [h2, this]
set_option maxRecDepth 100000 in
set_option maxHeartbeats 1000000 in
theorem e_number_any (D : Bs) (w : World) (hV : Env w) (hx : D.length ≤ 100000) : Calls Tryz.prog 92 #[.string (bs D)] w (NumPostE w D) := by
 have HV := Lib.hid hV
 clear hV
 have hsD : (bs D).size = D.length := bs_size D
 go_enter Tryz.func92, Tryz.ntmps92
 go_wp2_with fail
 go_loopw [3] (fun v wr => ∃ pos : Nat, pos ≤ D.length ∧ wr = w.iter (bs D) pos ∧ v = .int .i64 ((digN D pos : Nat) : Int) ∧ (D.take pos).all isDig = true ∧ (0 < pos → D.length ≤ 5)) (fun _ wr => D.length - wr.iterPos w.heap.size)
 case atStart => exact ⟨0, Nat.zero_le _, rfl, rfl, by simp, fun h => by omega⟩
 case round =>
  obtain ⟨pos, hp, rfl, rfl, hall, h5⟩ := hrel
  have HALL := Lib.hid hall
  have H5 := Lib.hid h5
  clear hall h5
  by_cases hlt : pos < D.length
  ·have hdec := dec_bs D pos hlt
   have hnx : ∀ ty, (Instr.next (.pointer (some ⟨w.heap.size, 0, none⟩)) true ty).run Tryz.prog (w.iter (bs D) pos) = _ := fun ty => run_next_any w (bs D) pos ty (by rw [bs_size]; exact hlt)
   cases hd : isDig (D.getD pos 0)
   ·have HNO : Hid (numE D = none) := Lib.hid (numE_no (.inl (all_no_at hlt hd)))
    have hr : ((Utf8.decode (bs D) pos).1 : Int) < 48 ∨ 57 < ((Utf8.decode (bs D) pos).1 : Int) := by
     rcases Nat.lt_or_ge (D.getD pos 0).toNat 128 with h1 | h1
     ·rw [hdec.1 h1]
      unfold isDig at hd
      simp only [Bool.and_eq_false_iff, decide_eq_false_iff_not] at hd
      show (((D.getD pos 0).toNat : Nat) : Int) < 48 ∨ _
      omega
     ·have := hdec.2 h1; omega
    generalize (Utf8.decode (bs D) pos).1 = r at *
    generalize (Utf8.decode (bs D) pos).2 = wd at *
    clear hdec hd
    rcases hr with hr | hr
    ·go_wp2_with fail
     refine (e_sure_no _ _).mono ?_
     rintro e w1 ⟨rfl, rfl⟩
     exact ⟨rfl, (Ext.refl w).alloc _, .inr ⟨HNO.out, _, rfl⟩⟩
    ·have hr2 : (48 : Int) ≤ (r : Int) := by omega
     have hr3 : ¬ ((r : Int) ≤ 57) := by omega
     have hr4 : ¬ ((r : Int) < 48) := by omega
     clear hr
     go_wp2_with fail
     refine (e_sure_no _ _).mono ?_
     rintro e w1 ⟨rfl, rfl⟩
     exact ⟨rfl, (Ext.refl w).alloc _, .inr ⟨HNO.out, _, rfl⟩⟩
   ·have hdd : 48 ≤ (D.getD pos 0).toNat ∧ (D.getD pos 0).toNat ≤ 57 := by
     unfold isDig at hd
     simpa using hd
    rw [hdec.1 (by omega)] at hnx
    have HDIG := Lib.hid hd
    have HSTEP : Hid (digN D (pos + 1) = 10 * digN D pos + ((D.getD pos 0).toNat - 48)) := Lib.hid rfl
    obtain ⟨r, hr⟩ : ∃ r, (D.getD pos 0).toNat = r := ⟨_, rfl⟩
    rw [hr] at hnx hdd HSTEP
    have hr1 : (48 : Int) ≤ (r : Int) := by omega
    have hr2 : (r : Int) ≤ 57 := by omega
    have hr3 : ¬ ((r : Int) < 48) := by omega
    by_cases h5 : D.length ≤ 5
    ·have hlt10 := digN_lt (D.take pos) HALL.out pos (by rw [List.length_take]; omega)
     have hpos5 : 10 ^ pos ≤ 10 ^ 5 := Nat.pow_le_pow_right (by omega) (by omega)
     have hdt : digN (D.take pos) pos = digN D pos := digN_take D pos pos (Nat.le_refl _)
     rw [hdt] at hlt10
     have h5' : (D.length : Int) ≤ 5 := by omega
     have hn9 : ((digN D pos : Nat) : Int) ≤ 100000 := by omega
     obtain ⟨n, hn⟩ : ∃ n, digN D pos = n := ⟨_, rfl⟩
     rw [hn] at hn9 HSTEP ⊢
     have HLT := Lib.hid hlt
     have HH5 := Lib.hid h5
     have HDD := Lib.hid hdd
     clear hdec hr hn hlt10 hpos5 hdt hlt hd hdd h5 hp
     go_wp2_with fail
     refine (e_sure_ok _ _).mono ?_
     rintro e w1 ⟨rfl, rfl⟩
     go_wp2_with fail
     go_roundw
     case rel =>
      refine ⟨pos + 1, HLT.out, rfl, ?_, all_take_succ HLT.out HALL.out HDIG.out, fun _ => HH5.out⟩
      rw [HSTEP.out]
      refine congrArg (Value.int .i64) ?_
      have := HDD.out
      omega
     case measure => have := HLT.out; simp; omega
    ·have HNO : Hid (numE D = none) := Lib.hid (numE_no (.inr (.inl h5)))
     have h5' : ¬ ((D.length : Int) ≤ 5) := by omega
     clear hdec hr hlt hd h5 hdd
     go_wp2_with fail
     refine (e_sure_no _ _).mono ?_
     rintro e w1 ⟨rfl, rfl⟩
     exact ⟨rfl, (Ext.refl w).alloc _, .inr ⟨HNO.out, _, rfl⟩⟩
  ·obtain rfl : pos = D.length := by omega
   have hnx : ∀ ty, (Instr.next (.pointer (some ⟨w.heap.size, 0, none⟩)) true ty).run Tryz.prog (w.iter (bs D) D.length) = _ := fun ty => run_next_end w (bs D) D.length ty (by rw [bs_size]; omega)
   have hall := HALL.out
   rw [List.take_length] at hall
   have hEi : Ext w (w.iter (bs D) D.length) := (Ext.refl w).alloc _
   by_cases hne : D = []
   ·have HNO : Hid (numE D = none) := Lib.hid (numE_no (.inr (.inr (.inl hne))))
    have e1 : (bs D).toList.isEmpty = true := by rw [toList_bs, hne]; rfl
    have e2 : ((bs D).toList == []) = true := by rw [toList_bs, hne]; rfl
    have e3 : (bs D).toList = [] := by rw [toList_bs, hne]
    clear hlt hp HALL H5 hall hne
    go_wp2_with fail
    refine (e_sure_no _ _).mono ?_
    rintro e w1 ⟨rfl, rfl⟩
    exact ⟨rfl, hEi, .inr ⟨HNO.out, _, rfl⟩⟩
   ·have h5 : D.length ≤ 5 := H5.out (List.length_pos_iff.2 hne)
    have hlt10 := digN_lt D hall D.length (Nat.le_refl _)
    have hpos5 : 10 ^ D.length ≤ 10 ^ 5 := Nat.pow_le_pow_right (by omega) h5
    have hn9 : ((digN D D.length : Nat) : Int) ≤ 100000 := by omega
    have e1 : (bs D).toList.isEmpty = false := by rw [toList_bs]; simpa using hne
    have e2 : ((bs D).toList == []) = false := by rw [toList_bs]; simpa using hne
    have HNE := Lib.hid hne
    have HA := Lib.hid hall
    have H55 := Lib.hid h5
    have HVAL : Hid (digV D = digN D D.length) := Lib.hid rfl
    clear hlt hp HALL H5 hall hne hlt10 hpos5 h5
    obtain ⟨n, hn⟩ : ∃ n, digN D D.length = n := ⟨_, rfl⟩
    rw [hn] at hn9 HVAL ⊢
    obtain ⟨I, hI⟩ : ∃ I, Lib.itoa ((n : Int)) = I := ⟨_, rfl⟩
    have HI := Lib.hid hI
    clear hn hI
    go_wp2_with fail
    refine (itoa_as _ I _ HI.out (HV.out.ext hEi) (by omega) (by omega)).mono ?_
    rintro e w1 ⟨rfl, hE1⟩
    have HE1 := Lib.hid (hEi.trans hE1)
    clear hE1
    by_cases hIx : I = D
    ·have hq : ((bs I).toList == (bs D).toList) = true := by rw [hIx]; simp
     have HYES : Hid (numE D = some ((n : Int))) := Lib.hid (by
      rw [numE_yes HA.out H55.out HNE.out (by rw [HVAL.out, HI.out]; exact hIx), HVAL.out])
     clear hIx
     go_wp2_with fail
     refine (e_sure_ok _ _).mono ?_
     rintro e w2 ⟨rfl, rfl⟩
     go_wp2_with fail
     go_ret
     exact ⟨HE1.out, .inl ⟨_, HYES.out, rfl⟩⟩
    ·have hq : ((bs I).toList == (bs D).toList) = false := by rw [toList_bs, toList_bs]; simpa using hIx
     have HNO : Hid (numE D = none) := Lib.hid (numE_no (.inr (.inr (.inr (by rw [HVAL.out, HI.out]; exact hIx)))))
     clear hIx
     go_wp2_with fail
     refine (e_sure_no _ _).mono ?_
     rintro e w2 ⟨rfl, rfl⟩
     exact ⟨rfl, HE1.out, .inr ⟨HNO.out, _, rfl⟩⟩
theorem sumN_bound (x : Bs) (i k : Nat) (hx : x.length ≤ 23000) (hk : k ≤ x.length) (hi : i ≤ 1002) : sumN x i k ≤ 136000000000000 := by
 have h1 := sumN_le x i k 23000 (by omega)
 have h2 : 255 * 23000 * (i + 1) ≤ 255 * 23000 * 1003 := Nat.mul_le_mul (Nat.le_refl _) (by omega)
 have h3 : k * (255 * 23000 * (i + 1)) ≤ 23000 * (255 * 23000 * 1003) := Nat.mul_le_mul (by omega) h2
 omega
theorem checkN_bound (l : List Bs) (i : Nat) (h : ∀ x ∈ l, x.length ≤ 23000) (hi : i ≤ l.length) (hl : l.length ≤ 1002) : checkN l i ≤ i * 136000000000000 := by
 induction i with
 | zero => simp [checkN]
 | succ i ih =>
  rw [checkN, Nat.succ_mul]
  have := ih (by omega)
  have hm : l.getD i [] ∈ l := by rw [List.getD_eq_getElem?_getD, List.getElem?_eq_getElem (by omega)]; exact List.getElem_mem (by omega)
  have := sumN_bound (l.getD i []) i (l.getD i []).length (h _ hm) (Nat.le_refl _) (by omega)
  omega
def EclAt (w : World) (A : Option Addr) (l : List Sp.Ecl) : Prop := 0 < l.length → ∃ b o, A = some ⟨b, o, none⟩ ∧ ∀ k, (hk : k < l.length) → w.cell? ⟨b, o + k * 3, none⟩ = some (.int .i64 l[k].day) ∧ w.cell? ⟨b, o + k * 3 + 1, none⟩ = some (.bool l[k].full) ∧ w.cell? ⟨b, o + k * 3 + 2, none⟩ = some (.int .i64 l[k].far)
theorem EclAt.ext {w w' : World} {A : Option Addr} {l : List Sp.Ecl} (h : EclAt w A l) (he : Ext w w') : EclAt w' A l := fun h0 =>
 let ⟨b, o, e2, hk⟩ := h h0
 ⟨b, o, e2, fun k hk' => ⟨he.cell (hk k hk').1, he.cell (hk k hk').2.1, he.cell (hk k hk').2.2⟩⟩
def linesE (l : List Sp.Ecl) (k : Nat) : List Bs := lineL wEcl [(l.length : Int)] :: (l.take k).map eLine
theorem linesE_succ (l : List Sp.Ecl) (k : Nat) (h : k < l.length) : linesE l (k + 1) = linesE l k ++ [eLine l[k]] := by
 simp only [linesE, List.take_succ_eq_append_getElem h, List.map_append, List.map_cons, List.map_nil, List.cons_append]
theorem linesE_all (l : List Sp.Ecl) : linesE l l.length = tabE l := by simp [linesE, tabE]
theorem itoa_small {n : Int} (h : 0 ≤ n) (h2 : n ≤ 99999) : (Lib.itoa n).length ≤ 21 := Lib.itoa_length_le n (by omega) (by omega)
theorem eWord_len (b : Bool) : (eWord b).length ≤ 4 := by cases b <;> decide
theorem eLine_is (e : Sp.Ecl) : eLine e = eWord e.full ++ [32] ++ Lib.itoa e.day ++ [32] ++ Lib.itoa e.far := by simp [eLine, lineL]
theorem tabE_short {l : List Sp.Ecl} (h : EclNum l) (hl : l.length ≤ 1000) : ∀ x ∈ tabE l, x.length ≤ 23000 := by
 intro x hx
 unfold tabE at hx
 rcases List.mem_cons.1 hx with rfl | hx
 ·have h1 := itoa_small (n := (l.length : Int)) (by omega) (by omega)
  have : wEcl.length = 8 := rfl
  simp only [lineL, List.map_cons, List.map_nil, List.flatten_cons, List.flatten_nil, List.length_append, List.length_cons, List.length_nil]
  omega
 ·obtain ⟨e, he, rfl⟩ := List.mem_map.1 hx
  have h1 := itoa_small (h.day e he).1 (h.day e he).2
  have h2 := itoa_small (h.far e he).1 (h.far e he).2
  have h3 := eWord_len e.full
  rw [eLine_is]
  simp only [List.length_append, List.length_cons, List.length_nil]
  omega
def TextRelE (W : World) (l : List Sp.Ecl) (v i : Value) (wr : World) : Prop :=
 ∃ k : Nat, k ≤ l.length ∧ i = .int .i64 k ∧ wr.ownsRow W.heap.size 9 1 v (k + 1) (strCells1 (linesE l k)) ∧ Ext W wr
set_option maxRecDepth 100000 in
set_option maxHeartbeats 1000000 in
theorem e_text_any (l : List Sp.Ecl) (A : Option Addr) (c : Nat) (w : World) (hV : Env w) (hm : EclAt w A l) (h : EclNum l) (hfew : l.length ≤ 1000) :
  Calls Tryz.prog 45 #[.slice A l.length c] w fun e w' => e = .returned (.string (bs (textE l))) ∧ Ext w w' := by
 have HV := Lib.hid hV
 have HM := Lib.hid hm
 have HS := Lib.hid h
 clear hV hm h
 obtain ⟨i0, hi0, hz0, hz1, hz2⟩ := info_parts info_string
 have hil := itoa_small (n := (l.length : Int)) (by omega) (by omega)
 have HL0 : Hid (lineL wEcl [(l.length : Int)] = [101, 99, 108, 105, 112, 115, 101, 115, 32] ++ Lib.itoa (l.length : Int)) := Lib.hid (by simp [lineL, wEcl])
 obtain ⟨I0, hI0⟩ : ∃ I0, Lib.itoa (l.length : Int) = I0 := ⟨_, rfl⟩
 rw [hI0] at HL0 hil
 have HI0 := Lib.hid hI0
 have g0 : ∀ W : World, (Op.stringOp .add ⟨#[101, 99, 108, 105, 112, 115, 101, 115, 32]⟩ (bs I0)).run Tryz.prog W = .ok (.string (bs ([101, 99, 108, 105, 112, 115, 101, 115, 32] ++ I0))) W := add_str [101, 99, 108, 105, 112, 115, 101, 115, 32] I0 (by simp; omega)
 obtain ⟨L0, hL0⟩ : ∃ L0, [101, 99, 108, 105, 112, 115, 101, 115, 32] ++ I0 = L0 := ⟨_, rfl⟩
 rw [hL0] at g0 HL0
 clear hI0 hL0
 go_enter Tryz.func45, Tryz.ntmps45
 go_wp2_with fail
 refine (itoa_as _ I0 _ HI0.out HV.out (by omega) (by omega)).mono ?_
 rintro e w1 ⟨rfl, hE1⟩
 have HE := Lib.hid hE1
 have hzz := hE1.size
 clear hE1
 go_wp2_with fail
 go_loopw [3, 17] (fun v i wr => TextRelE w1 l v i wr) (fun _ i _ => l.length - (intOf i).toNat)
 case atStart => exact ⟨0, Nat.zero_le _, rfl, by have := ownsRow_new w1 9 #[.string (bs L0)] 1 w1.heap.size rfl (by decide) (Nat.le_refl _); simpa [strCells1, linesE, HL0.out] using this, (Ext.refl w1).alloc _⟩
 case round =>
  obtain ⟨k, hk, rfl, hown, hX⟩ := hrel
  by_cases hlt : k < l.length
  ·obtain ⟨b, o, rfl, hc⟩ := (HM.out.ext (HE.out.trans hX)) (by omega)
   obtain ⟨q1, q2, q3⟩ := hc k hlt
   have hsz := hX.size
   have HSUCC := Lib.hid (linesE_succ l k hlt)
   have hmem := List.getElem_mem hlt
   have hn1 := HS.out.day _ hmem
   have hn2 := HS.out.far _ hmem
   have HX := Lib.hid hX
   have HOW := Lib.hid hown
   obtain ⟨m, hm⟩ : ∃ m, l[k] = m := ⟨_, rfl⟩
   rw [hm] at q1 q2 q3 HSUCC hn1 hn2
   have hli := eLine_is m
   have hw4 := eWord_len m.full
   have hd5 := itoa_small hn1.1 hn1.2
   have hf5 := itoa_small hn2.1 hn2.2
   have HWD : Hid (∀ W : World, Calls Tryz.prog 87 #[.bool m.full] W fun e w' => e = .returned (.string (bs (eWord m.full))) ∧ Ext W w') := Lib.hid fun W => e_word_any m.full W
   obtain ⟨md, mf, mr⟩ := m
   simp only at q1 q2 q3 hli hw4 hd5 hf5 hn1 hn2 HWD
   obtain ⟨W0, hW0⟩ : ∃ W0, eWord mf = W0 := ⟨_, rfl⟩
   obtain ⟨I1, hI1⟩ : ∃ I1, Lib.itoa md = I1 := ⟨_, rfl⟩
   obtain ⟨I2, hI2⟩ : ∃ I2, Lib.itoa mr = I2 := ⟨_, rfl⟩
   rw [hW0] at hli hw4 HWD
   rw [hI1] at hli hd5
   rw [hI2] at hli hf5
   have HI1 := Lib.hid hI1
   have HI2 := Lib.hid hI2
   have f1 : ∀ W : World, (Op.stringOp .add (bs W0) ⟨#[32]⟩).run Tryz.prog W = .ok (.string (bs (W0 ++ [32]))) W := add_str W0 [32] (by simp; omega)
   have f2 : ∀ W : World, (Op.stringOp .add (bs (W0 ++ [32])) (bs I1)).run Tryz.prog W = .ok (.string (bs (W0 ++ [32] ++ I1))) W := add_str _ _ (by simp; omega)
   have f3 : ∀ W : World, (Op.stringOp .add (bs (W0 ++ [32] ++ I1)) ⟨#[32]⟩).run Tryz.prog W = .ok (.string (bs (W0 ++ [32] ++ I1 ++ [32]))) W := add_str _ [32] (by simp; omega)
   have f4 : ∀ W : World, (Op.stringOp .add (bs (W0 ++ [32] ++ I1 ++ [32])) (bs I2)).run Tryz.prog W = .ok (.string (bs (W0 ++ [32] ++ I1 ++ [32] ++ I2))) W := add_str _ _ (by simp; omega)
   rw [← hli] at f4
   obtain ⟨x, hx⟩ : ∃ x, eLine ⟨md, mf, mr⟩ = x := ⟨_, rfl⟩
   rw [hx] at f4 HSUCC
   generalize W0 ++ [32] = T1 at f1 f2 f3 f4
   generalize T1 ++ I1 = T2 at f2 f3 f4
   generalize T2 ++ [32] = T3 at f3 f4
   clear hc hX hown hmem hm hli hW0 hI1 hI2 hx
   have z1 := lts (lt_of_cell q1)
   have HNr := Lib.hid (Row.new wr 87 #[.int .i64 md, .bool mf, .int .i64 mr])
   have HXa := Lib.hid (HX.out.alloc (.cells #[.int .i64 md, .bool mf, .int .i64 mr] 87))
   have hown3 := HOW.out.alloc (.cells #[.int .i64 md, .bool mf, .int .i64 mr] 87)
   have HO3 := Lib.hid hown3
   clear hown3
   go_wp2_with fail
   clear q1 q2 q3
   refine wp_region_later_mix (v0 := u3) 14 (by kernel_rfl) (by kernel_rfl) rfl rfl (by kernel_rfl) ?_ (fun W hW => ?_)
   ·intro x
    rfl
   have y1 := fun X : Later W => ((by rw [hW]; exact HNr.out : Row W wr.heap.size 87 #[.int .i64 md, .bool mf, .int .i64 mr]).ext X.ext).cell
   have HEV := Lib.hid (fun X : Later W => HV.out.ext (HE.out.trans (((by rw [hW]; exact HXa.out : Ext w1 W)).trans X.ext)))
   subst hW
   simp only [List.take_succ_cons, List.take_zero, List.drop_succ_cons, List.drop_zero, Act.put, List.setIfInBounds_toArray, List.set_cons_succ, List.set_cons_zero]
   repeat (go_big_quiet_step ((first | (go_at_call 87; exact Later.call (HWD.out _)) | (go_at_call 86; exact Later.call (itoa_as md I1 _ HI1.out (HEV.out _) (by omega) (by omega))) | (go_at_call 86; exact Later.call (itoa_as mr I2 _ HI2.out (HEV.out _) (by omega) (by omega))))))
   refine wpQuiet_nil ?_
   rintro ⟨w4, hE4⟩
   dsimp only
   go_wp2
   have hz4 := hE4.size
   simp only [World.size_alloc] at hz4
   refine ⟨⟨⟨_, hE4.alloc _⟩, rfl⟩, ?_⟩
   have hown4 := (ownsRow_of_block HO3.out (fun g hg => hE4.block g (HO3.out.lt g hg).2)).alloc (.cells #[.string (bs x)] 9)
   have HO4 := Lib.hid hown4
   clear hown4
   refine wpList_append_own_at _ rfl _ _ 95 rfl w1.heap.size 9 i0 _ 1 16 Tryz.underlying95 hi0 hz0 hz1 hz2 rfl (by decide) _ (k + 1) (strCells1 (linesE l k)) rfl HO4.out ⟨w4.heap.size, 0, none⟩ 1 1 [.string (bs x)] rfl rfl (World.news_of_block (cs := #[.string (bs x)]) (t := 9) (fr := (0, 0)) (heap_alloc_new _ _)) (by simp [Value.oneCell']) (by simp only [maxLen]; omega) (by omega) (by simp; omega) ?_
   intro v5 w5 hown6 hgrow6 _ _
   have HO6 := Lib.hid hown6
   have HX5 := Lib.hid (((HXa.out.trans hE4).alloc _).grown hgrow6 (fun g hg => (HO4.out.lt g hg).1))
   clear hown6 hgrow6 hE4 y1
   go_wp2
   refine NoPanic.normal ?_
   go_wp2_with fail
   go_roundw
   case measure => simp [intOf]; omega
   case rel =>
    refine ⟨k + 1, by omega, by go_num, ?_, HX5.out⟩
    rw [HSUCC.out]
    simpa [strCells1] using HO6.out
  ·obtain rfl : k = l.length := by omega
   have hsz := hX.size
   have HEW := Lib.hid hX
   have hown7 : wr.ownsRow w1.heap.size 9 1 u3 (tabE l).length (strCells1 (tabE l)) := by
    rw [Ec.tabE_length, ← linesE_all]
    exact hown
   obtain ⟨A5, c5, rfl, hc5, hI5⟩ := Strs.of_own hown7
   have HI5 := Lib.hid hI5
   have hshort := tabE_short HS.out hfew
   have hlenL := Ec.tabE_length l
   have HTX : Hid (textE l = Lib.join (tabE l) [10] ++ [10] ++ endL (checkE (tabE l)) ++ [10]) := Lib.hid rfl
   clear hX hown hown7 hI5 hlt
   obtain ⟨L, hL⟩ : ∃ L, tabE l = L := ⟨_, rfl⟩
   rw [hL] at hshort hlenL HTX HI5 hc5 ⊢
   have hLl : L.length ≤ 1002 := by omega
   have hL1 : 1 ≤ L.length := by omega
   have HSH := Lib.hid hshort
   obtain ⟨w5, rfl⟩ : ∃ w5 : World, w5 = wr := ⟨_, rfl⟩
   clear hshort hlenL hL
   have hL64 : (L.length : Int) ≤ 1002 := by omega
   go_wp2_with fail
   go_loop [6, 40] (fun v i => ∃ k : Nat, k ≤ L.length ∧ i = .int .i64 k ∧ v = .int .i64 (checkN L k)) (fun _ i => L.length - (intOf i).toNat)
   case atStart => exact ⟨0, Nat.zero_le _, rfl, rfl⟩
   case round =>
    obtain ⟨k, hk, rfl, rfl⟩ := hrel
    by_cases hlt : k < L.length
    ·obtain ⟨b, o, rfl, hc⟩ := HI5.out (by omega)
     have c0 := hc k hlt
     have hxs := HSH.out (L.getD k []) (by rw [List.getD_eq_getElem?_getD, List.getElem?_eq_getElem hlt]; exact List.getElem_mem hlt)
     have hcb := checkN_bound L k HSH.out hk hLl
     have HSTEP : Hid (checkN L (k + 1) = checkN L k + sumN (L.getD k []) k (L.getD k []).length) := Lib.hid rfl
     have HSB : Hid (∀ j, j ≤ (L.getD k []).length → sumN (L.getD k []) k j ≤ 136000000000000) := Lib.hid (fun j hj => sumN_bound _ k j hxs hj (by omega))
     obtain ⟨y, hy⟩ : ∃ y, L.getD k [] = y := ⟨_, rfl⟩
     rw [hy] at c0 hxs HSTEP HSB
     obtain ⟨C, hC⟩ : ∃ C, checkN L k = C := ⟨_, rfl⟩
     rw [hC] at hcb HSTEP ⊢
     have hC9 : (C : Int) ≤ 137000000000000000 := by omega
     have hlt' : (k : Int) < (L.length : Int) := by omega
     have hxs' : (y.length : Int) ≤ 23000 := by omega
     have hsz : (bs y).size = y.length := bs_size y
     clear hc hy hC hcb hxs hlt
     go_wp2_with fail
     go_loop [6, 47] (fun v i => ∃ j : Nat, j ≤ y.length ∧ i = .int .i64 j ∧ v = .int .i64 ((C + sumN y k j : Nat) : Int)) (fun _ i => y.length - (intOf i).toNat)
     case atStart => exact ⟨0, Nat.zero_le _, rfl, rfl⟩
     case round =>
      obtain ⟨j, hj, rfl, rfl⟩ := hrel
      by_cases hlt2 : j < y.length
      ·have hix := index_bs y j hlt2
       have hcc : ((y.getD j 0).toNat : Int) ≤ 255 := by have := (y.getD j 0).toNat_lt; omega
       have HST2 : Hid (sumN y k (j + 1) = sumN y k j + (y.getD j 0).toNat * (j + 1) * (k + 1)) := Lib.hid rfl
       have hsb := HSB.out j hj
       obtain ⟨q, hq⟩ : ∃ q, (y.getD j 0).toNat = q := ⟨_, rfl⟩
       rw [hq] at hix hcc HST2
       obtain ⟨D, hD⟩ : ∃ D, C + sumN y k j = D := ⟨_, rfl⟩
       have HD := Lib.hid hD
       rw [hD]
       have hD9 : (D : Int) ≤ 138000000000000000 := by omega
       have p1 : 0 ≤ (q : Int) * ((j : Int) + 1) := Int.mul_nonneg (by omega) (by omega)
       have p2 := mul_bounds (a := (q : Int)) (b := (j : Int) + 1) (A := 255) (B := 23000) (by omega) (by omega) (by omega) (by omega)
       have p3 : 0 ≤ (q : Int) * ((j : Int) + 1) * ((k : Int) + 1) := Int.mul_nonneg p1 (by omega)
       have p4 := mul_bounds (a := (q : Int) * ((j : Int) + 1)) (b := (k : Int) + 1) (A := 5865000) (B := 1003) (by omega) (by omega) (by omega) (by omega)
       have p5 : (q : Int) * ((j : Int) + 1) ≤ 5865000 := by omega
       have p6 : (q : Int) * ((j : Int) + 1) * ((k : Int) + 1) ≤ 5882595000 := by omega
       have hlt3 : (j : Int) < (y.length : Int) := by omega
       have HLT2 := Lib.hid hlt2
       clear hsb hq hD p2 p4 hlt2 hj
       go_wp2_with fail
       go_round
       case rel =>
        refine ⟨j + 1, by have := HLT2.out; omega, by go_num, congrArg (Value.int .i64) ?_⟩
        rw [HST2.out, ← Nat.add_assoc, HD.out]
        simp
       case measure => have := HLT2.out; simp [intOf]; omega
      ·obtain rfl : j = y.length := by omega
       rw [← HSTEP.out]
       clear hlt2 hj
       go_wp2_with fail
       go_round
       case rel => exact ⟨k + 1, by omega, by go_num, rfl⟩
       case measure => simp [intOf]; omega
    ·obtain rfl : k = L.length := by omega
     clear hlt hk
     have hcb := checkN_bound L L.length HSH.out (Nat.le_refl _) hLl
     have hjl := join_length 10 L 23000 HSH.out
     have hjl2 : L.length * (23000 + 1) ≤ 1002 * 23001 := Nat.mul_le_mul hLl (Nat.le_refl _)
     have hJ9 : (Lib.join L [10]).length ≤ 23047002 := by omega
     obtain ⟨ck, hck⟩ : ∃ ck : Nat, ((checkN L L.length : Nat) : Int) % 139 = (ck : Int) := ⟨checkN L L.length % 139, by omega⟩
     have hck2 : checkE L = ck := by unfold checkE; omega
     have HCK := Lib.hid hck2
     have hck9 : (ck : Int) < 139 := by omega
     have hck0 : (0 : Int) ≤ (ck : Int) := by omega
     clear hck2
     have HJ := Lib.hid hJ9
     have hcb9 : ((checkN L L.length : Nat) : Int) ≤ 137000000000000000 := by omega
     clear hcb hjl hjl2 hJ9
     go_wp2_with fail
     clear hck hcb9
     refine (join_any A5 c5 L w5 HI5.out hc5 (by omega) (by have := HJ.out; omega)).mono ?_
     rintro e w6 ⟨rfl, hE6⟩
     have HE6 := Lib.hid (HE.out.trans (HEW.out.trans hE6))
     have hl1 := Lib.itoa_length_le ((ck : Int) / 100) (by omega) (by omega)
     have hl2 := Lib.itoa_length_le ((ck : Int) / 10 % 10) (by omega) (by omega)
     have hl3 := Lib.itoa_length_le ((ck : Int) % 10) (by omega) (by omega)
     have HJT : Hid (textE l = Lib.join L [10] ++ [10, 101, 110, 100, 32] ++ Lib.itoa ((ck : Int) / 100) ++ Lib.itoa ((ck : Int) / 10 % 10) ++ Lib.itoa ((ck : Int) % 10) ++ [10]) := Lib.hid (by
      rw [HTX.out, HCK.out]
      unfold endL
      have e1 : ((ck / 100 : Nat) : Int) = (ck : Int) / 100 := by omega
      have e2 : ((ck / 10 % 10 : Nat) : Int) = (ck : Int) / 10 % 10 := by omega
      have e3 : ((ck % 10 : Nat) : Int) = (ck : Int) % 10 := by omega
      rw [e1, e2, e3]
      simp)
     have hJ9 := HJ.out
     obtain ⟨J, hJ⟩ : ∃ J, Lib.join L [10] = J := ⟨_, rfl⟩
     obtain ⟨I1, hI1⟩ : ∃ I1, Lib.itoa ((ck : Int) / 100) = I1 := ⟨_, rfl⟩
     obtain ⟨I2, hI2⟩ : ∃ I2, Lib.itoa ((ck : Int) / 10 % 10) = I2 := ⟨_, rfl⟩
     obtain ⟨I3, hI3⟩ : ∃ I3, Lib.itoa ((ck : Int) % 10) = I3 := ⟨_, rfl⟩
     rw [hJ] at HJT hJ9 ⊢
     rw [hI1] at HJT hl1
     rw [hI2] at HJT hl2
     rw [hI3] at HJT hl3
     have f1 : ∀ W : World, (Op.stringOp .add (bs J) ⟨#[10, 101, 110, 100, 32]⟩).run Tryz.prog W = .ok (.string (bs (J ++ [10, 101, 110, 100, 32]))) W := add_str J [10, 101, 110, 100, 32] (by simp; omega)
     have f2 : ∀ W : World, (Op.stringOp .add (bs (J ++ [10, 101, 110, 100, 32])) (bs I1)).run Tryz.prog W = .ok (.string (bs (J ++ [10, 101, 110, 100, 32] ++ I1))) W := add_str _ _ (by simp; omega)
     have f3 : ∀ W : World, (Op.stringOp .add (bs (J ++ [10, 101, 110, 100, 32] ++ I1)) (bs I2)).run Tryz.prog W = .ok (.string (bs (J ++ [10, 101, 110, 100, 32] ++ I1 ++ I2))) W := add_str _ _ (by simp; omega)
     have f4 : ∀ W : World, (Op.stringOp .add (bs (J ++ [10, 101, 110, 100, 32] ++ I1 ++ I2)) (bs I3)).run Tryz.prog W = .ok (.string (bs (J ++ [10, 101, 110, 100, 32] ++ I1 ++ I2 ++ I3))) W := add_str _ _ (by simp; omega)
     have f5 : ∀ W : World, (Op.stringOp .add (bs (J ++ [10, 101, 110, 100, 32] ++ I1 ++ I2 ++ I3)) ⟨#[10]⟩).run Tryz.prog W = .ok (.string (bs (J ++ [10, 101, 110, 100, 32] ++ I1 ++ I2 ++ I3 ++ [10]))) W := add_str _ [10] (by simp; omega)
     generalize J ++ [10, 101, 110, 100, 32] = T1 at *
     generalize T1 ++ I1 = T2 at *
     generalize T2 ++ I2 = T3 at *
     generalize T3 ++ I3 = T4 at *
     generalize T4 ++ [10] = T5 at *
     have HI1 := Lib.hid hI1
     have HI2 := Lib.hid hI2
     have HI3 := Lib.hid hI3
     clear hJ hI1 hI2 hI3 hE6 hJ9
     go_wp2_with fail
     refine (itoa_as _ I1 w6 HI1.out (HV.out.ext HE6.out) (by omega) (by omega)).mono ?_
     rintro e w7 ⟨rfl, hE7⟩
     have HE7 := Lib.hid (HE6.out.trans hE7)
     clear hE7
     go_wp2_with fail
     refine (itoa_as _ I2 w7 HI2.out (HV.out.ext HE7.out) (by omega) (by omega)).mono ?_
     rintro e w8 ⟨rfl, hE8⟩
     have HE8 := Lib.hid (HE7.out.trans hE8)
     clear hE8
     go_wp2_with fail
     refine (itoa_as _ I3 w8 HI3.out (HV.out.ext HE8.out) (by omega) (by omega)).mono ?_
     rintro e w9 ⟨rfl, hE9⟩
     have HE9 := Lib.hid (HE8.out.trans hE9)
     clear hE9
     go_wp2_with fail
     go_ret
     exact ⟨by rw [HJT.out]; rfl, HE9.out⟩
end Go.Proofs.YtfkcbgehcbhjnaaGreatDoor
namespace Go.Proofs.YtfkcbgehcbhjnaaGreatDoor
open Go.RowKit
open Sp (rd)
open Ec (wEcl wNew wFull eWord eLine tabE checkE textE numE numFineE parseE midE eclP EclNum)
set_option maxRecDepth 100000
set_option maxHeartbeats 1000000
theorem eclP_parts {y : Bs} {e : Sp.Ecl} (h : eclP y = some e) : ∃ d f, sp1 32 y = [eWord e.full, d, f] ∧ numE d = some e.day ∧ numE f = some e.far := by
 unfold eclP at h
 split at h
 ·rename_i w d f hs
  split at h
  ·rename_i hw
   obtain ⟨day, h1, h2⟩ := Option.bind_eq_some_iff.1 h
   obtain ⟨far, h3, h4⟩ := Option.bind_eq_some_iff.1 h2
   obtain rfl := Option.some.inj h4
   refine ⟨d, f, ?_, h1, h3⟩
   rw [hs]
   rcases hw with rfl | rfl
   ·rfl
   ·rfl
  ·cases h
 ·cases h
structure ParsFine (x : Bs) (l : List Sp.Ecl) : Prop where
 three : 3 ≤ (sp1 10 x).length
 len : (sp1 10 x).length = l.length + 3
 at_ : ∀ k, (hk : k < l.length) → eclP ((sp1 10 x).getD (1 + k) []) = some l[k]
 text : textE l = x
 num : EclNum l
theorem parsFine_of {x : Bs} {l : List Sp.Ecl} (h : parseE x = some l) : ParsFine x l := by
 have hp := (Ec.parse_iffE x l).1 h
 unfold parseE at h
 split at h
 ·cases h
 ·rename_i h3
  obtain ⟨r, h1, h2⟩ := Option.bind_eq_some_iff.1 h
  split at h2
  ·obtain rfl := Option.some.inj h2
   have h4 := mapM_some.1 h1
   have hml : (midE x).length = (sp1 10 x).length - 3 := by unfold midE; rw [List.length_take, List.length_drop]; omega
   have h5 : (midE x).length = r.length := by have := congrArg List.length h4; simpa using this
   refine ⟨by omega, by omega, fun k hk => ?_, hp.1, hp.2⟩
   have h6 : ((midE x).map eclP)[k]? = (r.map some)[k]? := by rw [h4]
   have hk2 : k < (midE x).length := by omega
   simp only [List.getElem?_map, List.getElem?_eq_getElem hk, List.getElem?_eq_getElem hk2, Option.map_some, Option.some.injEq] at h6
   have h7 : (midE x)[k] = (sp1 10 x).getD (1 + k) [] := by
    have : (midE x)[k]? = (sp1 10 x)[1 + k]? := by unfold midE; rw [List.getElem?_take, if_pos (by omega), List.getElem?_drop]
    rw [List.getElem?_eq_getElem hk2] at this
    rw [List.getD_eq_getElem?_getD, ← this]
    rfl
   rw [← h7]
   exact h6
  ·cases h2
theorem join_ge (L : List Bs) : L.length ≤ (Lib.join L [10]).length + 1 := by
 cases L with
 | nil => simp
 | cons x r =>
  rw [Lib.join_cons, List.length_append]
  have : r.length ≤ (Lib.joinTail [10] r).length := by
   induction r with
   | nil => simp
   | cons y r ih =>
    simp only [Lib.joinTail, List.map_cons, List.flatten_cons, List.length_append, List.length_cons, List.length_nil] at ih ⊢
    omega
  simp only [List.length_cons]
  omega
def ParRelE (w2 : World) (l : List Sp.Ecl) (v i : Value) (wr : World) : Prop :=
 ∃ k : Nat, k ≤ l.length ∧ i = .int .i64 k ∧ wr.ownsRow w2.heap.size 87 3 v (l.take k).length (eclCells (l.take k)) ∧ Ext w2 wr
theorem e_number_ok (D : Bs) (n : Int) (w : World) (hV : Env w) (hx : D.length ≤ 100000) (h : numE D = some n) : Calls Tryz.prog 92 #[.string (bs D)] w fun e w' => e = .returned (.int .i64 n) ∧ Ext w w' := by
 refine (e_number_any D w hV hx).mono ?_
 rintro e w' ⟨hE, ⟨m, hm, rfl⟩ | ⟨hno, _⟩⟩
 ·obtain rfl : n = m := Option.some.inj (h.symm.trans hm)
  exact ⟨rfl, hE⟩
 ·rw [h] at hno; cases hno
theorem e_parsed_ok (x : Bs) (l : List Sp.Ecl) (w : World) (hV : Env w) (hx : x.length ≤ 900) (hp : parseE x = some l) :
  Calls Tryz.prog 49 #[.string (bs x)] w fun e w' => ∃ v, e = .returned v ∧ EclVal w' v l ∧ Ext w w' := by
 have hF := parsFine_of hp
 have HV := Lib.hid hV
 have HF := Lib.hid hF
 have HLE := Lib.hid (sp1_le 10 x)
 have hsx := bs_size x
 have hlen := hF.len
 have hll : l.length ≤ 1000 := by
  have h1 : (textE l).length ≤ 900 := by rw [hF.text]; exact hx
  have h2 := Ec.tabE_length l
  have h3 : (tabE l).length ≤ (Lib.join (tabE l) [10]).length + 1 := join_ge (tabE l)
  have h4 : (Lib.join (tabE l) [10]).length ≤ (textE l).length := by unfold textE; simp only [List.length_append]; omega
  omega
 clear hV hF hp
 go_enter Tryz.func49, Tryz.ntmps49
 go_wp2_with fail
 refine (split_any 10 x _ HV.out (by omega)).mono ?_
 rintro e w1 ⟨rfl, hw1⟩
 have HE1 : Hid (Ext w w1) := Lib.hid (by rw [hw1]; exact (Ext.refl w).alloc _)
 have HR1 : Hid (Row w1 w.heap.size 9 (strCells1 (sp1 10 x)).toArray) := Lib.hid (by rw [hw1]; exact Row.new _ _ _)
 obtain ⟨L, hL⟩ : ∃ L, sp1 10 x = L := ⟨_, rfl⟩
 have HFL : Hid (∀ k, (hk : k < l.length) → eclP (L.getD (1 + k) []) = some l[k]) := Lib.hid (by rw [← hL]; exact HF.out.at_)
 have HF3 : Hid (textE l = x ∧ EclNum l) := Lib.hid ⟨HF.out.text, HF.out.num⟩
 rw [hL] at HR1 HLE hlen ⊢
 have l1 : (3 : Int) ≤ (L.length : Int) := by omega
 have HLEN := Lib.hid hlen
 clear hw1 hL HF hlen
 go_wp2_with fail
 refine (e_sure_ok _ _).mono ?_
 rintro e w2 ⟨rfl, rfl⟩
 have l2 : (2 : Int) ≤ (L.length : Int) := by omega
 have l3 : (1 : Int) ≤ (L.length : Int) - 2 := by omega
 have l4 : (L.length : Int) ≤ 2000 := by have := HLEN.out; omega
 have l5 : (0 : Int) ≤ (L.length : Int) - 2 := by omega
 have l6 : (L.length : Int) - 2 ≤ (L.length : Int) := by omega
 go_wp2_with fail
 rw [show L.length - 2 - 1 = l.length by have := HLEN.out; omega]
 have HIN : Hid (∀ k, k < l.length → ∃ y, eclP y = some (l.getD k Ec.noEcl) ∧ y.length ≤ 900 ∧ w1.cell? ⟨w.heap.size, 1 + k, none⟩ = some (.string (bs y))) := Lib.hid fun k hk => by
  have hk2 : 1 + k < L.length := by have := HLEN.out; omega
  refine ⟨L.getD (1 + k) [], ?_, ?_, ?_⟩
  ·rw [HFL.out k hk, List.getD_eq_getElem?_getD, List.getElem?_eq_getElem hk]; rfl
  ·refine Nat.le_trans (HLE.out _ ?_) hx
   rw [List.getD_eq_getElem?_getD, List.getElem?_eq_getElem hk2]; exact List.getElem_mem hk2
  ·rw [HR1.out.cell (1 + k)]
   simp [strCells1, hk2]
 have hz2 := HE1.out.size
 obtain ⟨i0, hi0, hi1, hi2, hi3⟩ := info_parts info_ecl
 obtain ⟨B, hB⟩ : ∃ B, w.heap.size = B := ⟨_, rfl⟩
 have hBl : B < w1.heap.size := by have := HR1.out.lt; omega
 rw [hB] at HIN HR1 ⊢
 clear l1 l2 l3 l4 l5 l6 HLEN HFL HLE hB
 go_loopw [4, 23] (fun v i wr => ParRelE w1 l v i wr) (fun _ i _ => l.length - (intOf i).toNat)
 case atStart => exact ⟨0, Nat.zero_le _, rfl, by simp [eclCells, World.ownsRow], Ext.refl _⟩
 case round =>
  obtain ⟨k, hk, rfl, hown, hX⟩ := hrel
  have hszX := hX.size
  by_cases hlt : k < l.length
  ·obtain ⟨y, hy, hyl, hc⟩ := HIN.out k hlt
   replace hc := hX.cell hc
   obtain ⟨d, f, hs, hd, hf⟩ := eclP_parts hy
   have hle := sp1_le 32 y
   rw [hs] at hle
   have hdl := hle d (by simp)
   have hfl := hle f (by simp)
   have hsucc : l.take (k + 1) = l.take k ++ [l.getD k Ec.noEcl] := by
    rw [List.take_succ_eq_append_getElem hlt, List.getD_eq_getElem?_getD, List.getElem?_eq_getElem hlt]; rfl
   have hle2 : (l.take k).length ≤ 1000 := by rw [List.length_take]; omega
   obtain ⟨e, he⟩ : ∃ e, l.getD k Ec.noEcl = e := ⟨_, rfl⟩
   rw [he] at hs hd hf hsucc
   have HSUCC := Lib.hid hsucc
   have HSP := Lib.hid hs
   have HD := Lib.hid hd
   have HFR := Lib.hid hf
   have HX := Lib.hid hX
   have HOW := Lib.hid hown
   have hsl := split_any 32 y wr (HV.out.ext (HE1.out.trans hX)) (by omega)
   rw [hs] at hsl
   have HSL := Lib.hid hsl
   obtain ⟨ed, ef, er⟩ := e
   clear hy hle hsucc he hs hd hf hX hown hsl
   have z1 := lts (lt_of_cell hc)
   simp only at z1
   go_wp2_with fail
   refine HSL.out.mono ?_
   rintro e w3 ⟨rfl, hw3⟩
   have HE3 : Hid (Ext wr w3) := Lib.hid (by rw [hw3]; exact (Ext.refl wr).alloc _)
   have HR3 : Hid (Row w3 wr.heap.size 9 #[.string (bs (eWord ef)), .string (bs d), .string (bs f)]) := Lib.hid (by rw [hw3]; exact Row.new _ _ _)
   clear hw3 hc
   simp only [List.length_cons, List.length_nil, Nat.reduceAdd]
   go_wp2_with fail
   have hq1 : ((bs (eWord false)).toList == (bs (eWord true)).toList) = false := by rw [toList_bs, toList_bs]; decide
   have hq2 : ((bs (eWord true)).toList == (bs (eWord true)).toList) = true := by rw [toList_bs]; decide
   have hq3 : ((bs (eWord false)).toList == (bs (eWord false)).toList) = true := by rw [toList_bs]; decide
   have HEF : Hid (∀ W : World, W = W) := Lib.hid fun _ => rfl
   cases ef
   ·refine wp_region_later (by kernel_rfl) (by kernel_rfl) (fun W hW => ?_)
    have y1 := Later.block (w := W) (by rw [hW]; exact HR3.out)
    repeat (go_big_quiet_step ((first | (go_at_call 87; exact Later.call (e_word_any _ _)) | (go_at_call 91; exact Later.call ((e_sure_ok _ _).mono fun _ _ ⟨a, b⟩ => ⟨a, b ▸ Ext.refl _⟩)))))
    refine wpQuiet_nil ?_
    rintro ⟨w4, hE4⟩
    subst hW
    dsimp only
    have HX4 := Lib.hid ((HX.out.trans HE3.out).trans hE4)
    have HR4 := Lib.hid (HR3.out.ext hE4)
    have HOW4 := Lib.hid (own_ext HOW.out (HE3.out.trans hE4))
    have c4 := HR4.out.cell
    have hz4 := HR4.out.lt
    clear y1 hE4
    go_wp2_with fail
    refine (e_number_ok d ed _ (HV.out.ext (HE1.out.trans HX4.out)) (by omega) HD.out).mono ?_
    rintro e w5 ⟨rfl, hE5⟩
    have HX5 := Lib.hid (HX4.out.trans hE5)
    have HR5 := Lib.hid (HR4.out.ext hE5)
    have HOW5 := Lib.hid (own_ext HOW4.out hE5)
    clear c4 hE5
    have c5 := HR5.out.cell
    go_wp2_with fail
    refine (e_number_ok f er _ (HV.out.ext (HE1.out.trans HX5.out)) (by omega) HFR.out).mono ?_
    rintro e w6 ⟨rfl, hE6⟩
    have HX6 := Lib.hid (HX5.out.trans hE6)
    have HR6 := Lib.hid (HR5.out.ext hE6)
    have HOW6 := Lib.hid (own_ext HOW5.out hE6)
    clear c5 hE6
    go_wp2_with fail
    refine wp_region_later_mix (v0 := u4) 9 (by kernel_rfl) (by kernel_rfl) rfl rfl (by kernel_rfl) ?_ (fun W hW => ?_)
    ·intro X
     rfl
    have y1 := fun X : Later W => ((by rw [hW]; exact HR6.out : Row W wr.heap.size 9 _).ext X.ext).cell
    subst hW
    simp only [List.take_succ_cons, List.take_zero, List.drop_succ_cons, List.drop_zero, Act.put, List.setIfInBounds_toArray, List.set_cons_succ, List.set_cons_zero]
    repeat (go_big_quiet_step ((first | (go_at_call 87; exact Later.call (e_word_any _ _)))))
    refine wpQuiet_nil ?_
    rintro ⟨w7, hE7⟩
    dsimp only
    go_wp2
    have hz7 := hE7.size
    have hz6 := HX6.out.size
    refine ⟨⟨⟨_, hE7.alloc _⟩, rfl⟩, ?_⟩
    have hown7 := (own_ext HOW6.out hE7).alloc (.cells #[.int .i64 ed, .bool false, .int .i64 er] 87)
    have HO7 := Lib.hid hown7
    clear hown7
    refine wpList_append_lies _ rfl _ _ 22 rfl w1.heap.size 87 i0 _ 3 24 Tryz.underlying22 hi0 hi1 hi2 hi3 rfl (by decide) _ (l.take k).length (eclCells (l.take k)) rfl HO7.out ⟨w7.heap.size, 0, none⟩ 1 1 [.int .i64 ed, .bool false, .int .i64 er] rfl rfl (World.news_of_block (cs := #[.int .i64 ed, .bool false, .int .i64 er]) (t := 87) (fr := (0, 0)) (heap_alloc_new _ _)) (by simp [Value.oneCell']) (by omega) (by simp only [maxLen]; omega) (by omega) (by simp; omega) _ rfl ?_
    intro gg cap w8 hown8 hgrow hat hlt4
    have HO8 := Lib.hid hown8
    have HX8 := Lib.hid (((HX6.out.trans hE7).alloc _).grown hgrow (fun g hg => (HO7.out.lt g hg).1))
    clear hown8 hgrow hat hE7 y1
    go_wp2
    refine NoPanic.normal ?_
    go_wp2_with fail
    go_roundw
    case measure => simp [intOf]; omega
    case rel =>
     refine ⟨k + 1, by omega, by go_num, ?_, HX8.out⟩
     rw [HSUCC.out]
     have hmin : min k l.length = k := by omega
     simpa [eclCells_append, eclCells, hmin] using HO8.out
   ·refine wp_region_later (by kernel_rfl) (by kernel_rfl) (fun W hW => ?_)
    have y1 := Later.block (w := W) (by rw [hW]; exact HR3.out)
    repeat (go_big_quiet_step ((first | (go_at_call 87; exact Later.call (e_word_any _ _)) | (go_at_call 91; exact Later.call ((e_sure_ok _ _).mono fun _ _ ⟨a, b⟩ => ⟨a, b ▸ Ext.refl _⟩)))))
    refine wpQuiet_nil ?_
    rintro ⟨w4, hE4⟩
    subst hW
    dsimp only
    have HX4 := Lib.hid ((HX.out.trans HE3.out).trans hE4)
    have HR4 := Lib.hid (HR3.out.ext hE4)
    have HOW4 := Lib.hid (own_ext HOW.out (HE3.out.trans hE4))
    have c4 := HR4.out.cell
    have hz4 := HR4.out.lt
    clear y1 hE4
    go_wp2_with fail
    refine (e_number_ok d ed _ (HV.out.ext (HE1.out.trans HX4.out)) (by omega) HD.out).mono ?_
    rintro e w5 ⟨rfl, hE5⟩
    have HX5 := Lib.hid (HX4.out.trans hE5)
    have HR5 := Lib.hid (HR4.out.ext hE5)
    have HOW5 := Lib.hid (own_ext HOW4.out hE5)
    clear c4 hE5
    have c5 := HR5.out.cell
    go_wp2_with fail
    refine (e_number_ok f er _ (HV.out.ext (HE1.out.trans HX5.out)) (by omega) HFR.out).mono ?_
    rintro e w6 ⟨rfl, hE6⟩
    have HX6 := Lib.hid (HX5.out.trans hE6)
    have HR6 := Lib.hid (HR5.out.ext hE6)
    have HOW6 := Lib.hid (own_ext HOW5.out hE6)
    clear c5 hE6
    go_wp2_with fail
    refine wp_region_later_mix (v0 := u4) 9 (by kernel_rfl) (by kernel_rfl) rfl rfl (by kernel_rfl) ?_ (fun W hW => ?_)
    ·intro X
     rfl
    have y1 := fun X : Later W => ((by rw [hW]; exact HR6.out : Row W wr.heap.size 9 _).ext X.ext).cell
    subst hW
    simp only [List.take_succ_cons, List.take_zero, List.drop_succ_cons, List.drop_zero, Act.put, List.setIfInBounds_toArray, List.set_cons_succ, List.set_cons_zero]
    repeat (go_big_quiet_step ((first | (go_at_call 87; exact Later.call (e_word_any _ _)))))
    refine wpQuiet_nil ?_
    rintro ⟨w7, hE7⟩
    dsimp only
    go_wp2
    have hz7 := hE7.size
    have hz6 := HX6.out.size
    refine ⟨⟨⟨_, hE7.alloc _⟩, rfl⟩, ?_⟩
    have hown7 := (own_ext HOW6.out hE7).alloc (.cells #[.int .i64 ed, .bool true, .int .i64 er] 87)
    have HO7 := Lib.hid hown7
    clear hown7
    refine wpList_append_lies _ rfl _ _ 22 rfl w1.heap.size 87 i0 _ 3 24 Tryz.underlying22 hi0 hi1 hi2 hi3 rfl (by decide) _ (l.take k).length (eclCells (l.take k)) rfl HO7.out ⟨w7.heap.size, 0, none⟩ 1 1 [.int .i64 ed, .bool true, .int .i64 er] rfl rfl (World.news_of_block (cs := #[.int .i64 ed, .bool true, .int .i64 er]) (t := 87) (fr := (0, 0)) (heap_alloc_new _ _)) (by simp [Value.oneCell']) (by omega) (by simp only [maxLen]; omega) (by omega) (by simp; omega) _ rfl ?_
    intro gg cap w8 hown8 hgrow hat hlt4
    have HO8 := Lib.hid hown8
    have HX8 := Lib.hid (((HX6.out.trans hE7).alloc _).grown hgrow (fun g hg => (HO7.out.lt g hg).1))
    clear hown8 hgrow hat hE7 y1
    go_wp2
    refine NoPanic.normal ?_
    go_wp2_with fail
    go_roundw
    case measure => simp [intOf]; omega
    case rel =>
     refine ⟨k + 1, by omega, by go_num, ?_, HX8.out⟩
     rw [HSUCC.out]
     have hmin : min k l.length = k := by omega
     simpa [eclCells_append, eclCells, hmin] using HO8.out
  ·obtain rfl : k = l.length := by omega
   rw [List.take_length] at hown
   have hv := EclVal.of_own hown
   have HVL := Lib.hid hv
   have HX := Lib.hid hX
   obtain ⟨A5, c5, rfl, hA5⟩ := hv
   have HA5 := Lib.hid hA5
   clear hown hX hA5
   go_wp2_with fail
   refine (e_text_any l A5 c5 _ (HV.out.ext (HE1.out.trans HX.out)) HA5.out HF3.out.2 hll).mono ?_
   rintro e w6 ⟨rfl, hE6⟩
   rw [HF3.out.1]
   have hq : ((bs x).toList == (bs x).toList) = true := by simp
   have HE6 := Lib.hid ((HE1.out.trans HX.out).trans hE6)
   have HVL6 := Lib.hid (HVL.out.ext hE6)
   clear hE6
   go_wp2_with fail
   refine (e_sure_ok _ _).mono ?_
   rintro e w7 ⟨rfl, rfl⟩
   go_wp2_with fail
   go_ret
   exact ⟨_, rfl, HVL6.out, HE6.out⟩
end Go.Proofs.YtfkcbgehcbhjnaaGreatDoor
namespace Go.Proofs.YtfkcbgehcbhjnaaGreatDoor
open Go.RowKit
open Sp (rd)
open Ec (wEcl wNew wFull eWord eLine tabE checkE textE numE numFineE parseE midE eclP EclNum)
set_option maxRecDepth 100000
set_option maxHeartbeats 4000000
set_option linter.unusedVariables false
theorem Ran.skipped {P : Program} {ops : Array Oper} {o oj : Oper} {a : Act} {w : World} {j : Nat} {d : Tmp} {want : Bool} {G : Value → World → Prop} (hg : o.guard = some (j, want)) (hj : ops[j]? = some oj) (hd : oj.dst = some d) (he : a.eval (.tmp d) = undef) (h : G undef w) : Ran P ops o a w G := by
 have h1 : a.tmps[d]? = none ∨ a.tmps[d]? = some undef := by
  simp only [Act.eval, Array.getD_eq_getD_getElem?] at he
  cases hx : a.tmps[d]? with
  | none => exact .inl rfl
  | some x => rw [hx] at he; exact .inr (by simpa using he)
 unfold Ran
 have : Region.wanted o (yielded ops a.tmps) = false := by
  rcases h1 with h1 | h1 <;> simp [Region.wanted, hg, yielded, hj, hd, h1, undef]
 rw [if_neg (by rw [this]; decide)]
 exact h
theorem eclP_none {y : Bs} (h : eclP y = none) : (sp1 32 y).length ≠ 3 ∨ ∃ t d f, sp1 32 y = [t, d, f] ∧ ((t ≠ wFull ∧ t ≠ wNew) ∨ ∃ b, t = eWord b ∧ (numE d = none ∨ ∃ n, numE d = some n ∧ numE f = none)) := by
 unfold eclP at h
 split at h
 ·rename_i t d f hs
  refine .inr ⟨t, d, f, hs, ?_⟩
  split at h
  ·rename_i hw
   right
   refine ⟨decide (t = wFull), ?_, ?_⟩
   ·rcases hw with rfl | rfl <;> decide
   ·cases hd : numE d with
    | none => exact .inl rfl
    | some n =>
     right
     refine ⟨n, rfl, ?_⟩
     rw [hd] at h
     cases hf : numE f with
     | none => rfl
     | some m => rw [hf] at h; cases h
  ·rename_i hw
   exact .inl (not_or.1 hw)
 ·rename_i hs
  left
  intro h3
  match hL : sp1 32 y, h3 with
  | [t, d, f], _ => exact hs t d f hL
theorem parse_no_row {x : Bs} {k : Nat} {y : Bs} (hy : (midE x)[k]? = some y) (h : eclP y = none) : parseE x = none := by
 unfold parseE
 split
 ·rfl
 ·cases hm : (midE x).mapM eclP with
  | none => rfl
  | some r =>
   have h4 := mapM_some.1 hm
   have h6 : ((midE x).map eclP)[k]? = (r.map some)[k]? := by rw [h4]
   simp only [List.getElem?_map, hy, Option.map_some, h] at h6
   cases hr : r[k]? with
   | none => rw [hr] at h6; cases h6
   | some e => rw [hr] at h6; cases h6
theorem parse_no_few {x : Bs} (h : (sp1 10 x).length < 3) : parseE x = none := by unfold parseE; rw [if_pos h]
theorem parse_all {x : Bs} {l : List Sp.Ecl} (h3 : ¬ (sp1 10 x).length < 3) (h : (midE x).map eclP = l.map some) : parseE x = if textE l = x then some l else none := by
 unfold parseE
 rw [if_neg h3, mapM_some.2 h]
 rfl
theorem num_of_rows {M : List Bs} {l : List Sp.Ecl} (h : M.map eclP = l.map some) : EclNum l := by
 have h1 : ∀ e ∈ l, (0 ≤ e.day ∧ e.day ≤ 99999) ∧ (0 ≤ e.far ∧ e.far ≤ 99999) := fun e he => by
  have : some e ∈ M.map eclP := by rw [h]; exact List.mem_map_of_mem he
  obtain ⟨y, _, hy⟩ := List.mem_map.1 this
  exact Ec.eclP_num hy
 exact ⟨fun e he => (h1 e he).1, fun e he => (h1 e he).2⟩
def ParRelA (M : List Bs) (w2 : World) (v i : Value) (wr : World) : Prop :=
 ∃ (k : Nat) (lp : List Sp.Ecl), k ≤ M.length ∧ i = .int .i64 k ∧ lp.length = k ∧ (M.take k).map eclP = lp.map some ∧ wr.ownsRow w2.heap.size 87 3 v lp.length (eclCells lp) ∧ Ext w2 wr
def NoneP (e : Ending) : Prop := ∃ y, e = .panicked [{ v := .iface 92 (.agg #[.string y]), recovered := false }]
def ParPost (x : Bs) (w' : World) (e : Ending) : Prop := (∃ l v, parseE x = some l ∧ e = .returned v ∧ EclVal w' v l) ∨ (parseE x = none ∧ NoneP e)
def prsΦA (b n : Nat) (y : Bs) (w0 : World) (i : Nat) (v : Value) (w : World) : Prop :=
 match i with
 | 0 => v = .slice (some ⟨b, 0, none⟩) n n
 | 1 => v = .int .i64 (n : Int)
 | 2 => v = .bool false
 | 3 => v = .bool false
 | 4 => v = undef
 | 5 => v = undef
 | 6 => v = undef
 | 7 => v = undef
 | 8 => v = undef
 | 9 => v = undef
 | 10 => v = undef
 | 11 => v = undef
 | 12 => v = undef
 | 13 => v = undef
 | 14 => v = undef
 | 15 => v = undef
 | 16 => v = .bool false
 | _ => v = .string (bs y)
theorem prsΦA_mono {b n : Nat} {y : Bs} {w0 : World} (i : Nat) (v : Value) (w w' : World) (h : prsΦA b n y w0 i v w) (he : Ext w w') : prsΦA b n y w0 i v w' := by
 unfold prsΦA at h ⊢
 split at h <;> first
  | exact h
  | exact MkAt.ext h he
  | exact fun hg => MkAt.ext (h hg) he
def prsΦB (b : Nat) (t0 : Bs) (y : Bs) (w0 : World) (i : Nat) (v : Value) (w : World) : Prop :=
 match i with
 | 0 => v = .slice (some ⟨b, 0, none⟩) 3 3
 | 1 => v = .int .i64 3
 | 2 => v = .bool true
 | 3 => v = .bool true
 | 4 => v = .slice (some ⟨b, 0, none⟩) 3 3
 | 5 => v = .pointer (some ⟨b, 0, none⟩)
 | 6 => v = .string (bs t0)
 | 7 => v = .string (bs (eWord true))
 | 8 => v = .bool false
 | 9 => v = .bool false
 | 10 => v = .slice (some ⟨b, 0, none⟩) 3 3
 | 11 => v = .pointer (some ⟨b, 0, none⟩)
 | 12 => v = .string (bs t0)
 | 13 => v = .string (bs (eWord false))
 | 14 => v = .bool false
 | 15 => v = .bool false
 | 16 => v = .bool false
 | _ => v = .string (bs y)
theorem prsΦB_mono {b : Nat} {t0 : Bs} {y : Bs} {w0 : World} (i : Nat) (v : Value) (w w' : World) (h : prsΦB b t0 y w0 i v w) (he : Ext w w') : prsΦB b t0 y w0 i v w' := by
 unfold prsΦB at h ⊢
 split at h <;> first
  | exact h
  | exact MkAt.ext h he
  | exact fun hg => MkAt.ext (h hg) he
theorem e_parsed_any (x : Bs) (w : World) (hV : Env w) (hx : x.length ≤ 900) :
  Calls Tryz.prog 49 #[.string (bs x)] w fun e w' => ParPost x w' e ∧ Ext w w' := by
 have HV := Lib.hid hV
 have HLE := Lib.hid (sp1_le 10 x)
 have hsx := bs_size x
 have HLC : Hid ((sp1 10 x).length ≤ 901) := Lib.hid (by rw [sp1_length]; have := List.count_le_length (a := (10 : UInt8)) (l := x); omega)
 have HFEW := Lib.hid (fun h => parse_no_few (x := x) h)
 have HROW := Lib.hid (fun k y hy h => parse_no_row (x := x) (k := k) (y := y) hy h)
 have HALL := Lib.hid (fun l h3 h => parse_all (x := x) (l := l) h3 h)
 have HMD : Hid (midE x = ((sp1 10 x).drop 1).take ((sp1 10 x).length - 3)) := Lib.hid rfl
 clear hV
 go_enter Tryz.func49, Tryz.ntmps49
 go_wp2_with fail
 refine (split_any 10 x _ HV.out (by omega)).mono ?_
 rintro e w1 ⟨rfl, hw1⟩
 have HE1 : Hid (Ext w w1) := Lib.hid (by rw [hw1]; exact (Ext.refl w).alloc _)
 have HR1 : Hid (Row w1 w.heap.size 9 (strCells1 (sp1 10 x)).toArray) := Lib.hid (by rw [hw1]; exact Row.new _ _ _)
 obtain ⟨L, hL⟩ : ∃ L, sp1 10 x = L := ⟨_, rfl⟩
 rw [hL] at HR1 HLE HLC HFEW HALL HMD ⊢
 clear hw1 hL
 by_cases h3 : L.length < 3
 ·have HNO := Lib.hid (HFEW.out h3)
  have l1 : ¬ (3 : Int) ≤ (L.length : Int) := by omega
  clear HALL HROW HFEW
  go_wp2_with fail
  rw [show decide ((3 : Int) ≤ (L.length : Int)) = false from decide_eq_false (by omega)]
  refine (e_sure_no _ _).mono ?_
  rintro e w2 ⟨rfl, rfl⟩
  exact ⟨rfl, .inr ⟨HNO.out, _, rfl⟩, HE1.out⟩
 ·have HALL' := Lib.hid (fun l h => HALL.out l h3 h)
  have l1 : (3 : Int) ≤ (L.length : Int) := by omega
  clear HALL HFEW
  go_wp2_with fail
  refine (e_sure_ok _ _).mono ?_
  rintro e w2 ⟨rfl, rfl⟩
  have l2 : (2 : Int) ≤ (L.length : Int) := by omega
  have l3 : (1 : Int) ≤ (L.length : Int) - 2 := by omega
  have l4 : (L.length : Int) ≤ 2000 := by have := HLC.out; omega
  have l5 : (0 : Int) ≤ (L.length : Int) - 2 := by omega
  have l6 : (L.length : Int) - 2 ≤ (L.length : Int) := by omega
  go_wp2_with fail
  obtain ⟨M, hM⟩ : ∃ M, midE x = M := ⟨_, rfl⟩
  rw [hM] at HROW HALL' HMD
  have hML : M.length = L.length - 3 := by rw [HMD.out, List.length_take, List.length_drop]; omega
  have hM9 : M.length ≤ 900 := by have := HLC.out; omega
  rw [show L.length - 2 - 1 = M.length by omega]
  have HIN : Hid (∀ k, k < M.length → ∃ y, M[k]? = some y ∧ y.length ≤ 900 ∧ w1.cell? ⟨w.heap.size, 1 + k, none⟩ = some (.string (bs y))) := Lib.hid fun k hk => by
   have hk2 : 1 + k < L.length := by omega
   refine ⟨L[1 + k], ?_, ?_, ?_⟩
   ·rw [HMD.out, List.getElem?_take, if_pos (by omega), List.getElem?_drop, List.getElem?_eq_getElem hk2]
   ·exact Nat.le_trans (HLE.out _ (List.getElem_mem hk2)) hx
   ·rw [HR1.out.cell (1 + k)]
    simp [strCells1, hk2]
  have hz2 := HE1.out.size
  obtain ⟨i0, hi0, hi1, hi2, hi3⟩ := info_parts info_ecl
  obtain ⟨B, hB⟩ : ∃ B, w.heap.size = B := ⟨_, rfl⟩
  have hBl : B < w1.heap.size := by have := HR1.out.lt; omega
  rw [hB] at HIN HR1 ⊢
  clear l1 l2 l3 l4 l5 l6 HLC HLE hB hM hML h3
  go_loopw [4, 23] (fun v i wr => ParRelA M w1 v i wr) (fun _ i _ => M.length - (intOf i).toNat)
  case atStart => exact ⟨0, [], Nat.zero_le _, rfl, rfl, by simp, by simp [eclCells, World.ownsRow], Ext.refl _⟩
  case round =>
   obtain ⟨k, lp, hk, rfl, hlp, hmap, hown, hX⟩ := hrel
   have hszX := hX.size
   by_cases hlt : k < M.length
   ·obtain ⟨y, hy, hyl, hc⟩ := HIN.out k hlt
    replace hc := hX.cell hc
    have hle := sp1_le 32 y
    have hle2 : lp.length ≤ 1000 := by omega
    have HLP := Lib.hid hlp
    clear hlp
    have HX := Lib.hid hX
    have HOW := Lib.hid hown
    have z1 := lts (lt_of_cell hc)
    simp only at z1
    cases hp : eclP y with
    | some e =>
     obtain ⟨d, f, hs, hd, hf⟩ := eclP_parts hp
     have HMP : Hid ((M.take (k + 1)).map eclP = (lp ++ [e]).map some) := Lib.hid (by
      obtain ⟨hk', rfl⟩ := List.getElem?_eq_some_iff.1 hy
      rw [List.take_succ_eq_append_getElem hk', List.map_append, hmap, List.map_append]
      simp [hp])
     rw [hs] at hle
     have hdl := hle d (by simp)
     have hfl := hle f (by simp)
     have HSP := Lib.hid hs
     have HD := Lib.hid hd
     have HFR := Lib.hid hf
     have hsl := split_any 32 y wr (HV.out.ext (HE1.out.trans hX)) (by omega)
     rw [hs] at hsl
     have HSL := Lib.hid hsl
     obtain ⟨ed, ef, er⟩ := e
     clear hy hle hs hd hf hX hown hsl hp hmap
     go_wp2_with fail
     refine HSL.out.mono ?_
     rintro e w3 ⟨rfl, hw3⟩
     have HE3 : Hid (Ext wr w3) := Lib.hid (by rw [hw3]; exact (Ext.refl wr).alloc _)
     have HR3 : Hid (Row w3 wr.heap.size 9 #[.string (bs (eWord ef)), .string (bs d), .string (bs f)]) := Lib.hid (by rw [hw3]; exact Row.new _ _ _)
     clear hw3 hc
     simp only [List.length_cons, List.length_nil, Nat.reduceAdd]
     go_wp2_with fail
     have hq1 : ((bs (eWord false)).toList == (bs (eWord true)).toList) = false := by rw [toList_bs, toList_bs]; decide
     have hq2 : ((bs (eWord true)).toList == (bs (eWord true)).toList) = true := by rw [toList_bs]; decide
     have hq3 : ((bs (eWord false)).toList == (bs (eWord false)).toList) = true := by rw [toList_bs]; decide
     have HEF : Hid (∀ W : World, W = W) := Lib.hid fun _ => rfl
     cases ef
     ·refine wp_region_later (by kernel_rfl) (by kernel_rfl) (fun W hW => ?_)
      have y1 := Later.block (w := W) (by rw [hW]; exact HR3.out)
      repeat (go_big_quiet_step ((first | (go_at_call 87; exact Later.call (e_word_any _ _)) | (go_at_call 91; exact Later.call ((e_sure_ok _ _).mono fun _ _ ⟨a, b⟩ => ⟨a, b ▸ Ext.refl _⟩)))))
      refine wpQuiet_nil ?_
      rintro ⟨w4, hE4⟩
      subst hW
      dsimp only
      have HX4 := Lib.hid ((HX.out.trans HE3.out).trans hE4)
      have HR4 := Lib.hid (HR3.out.ext hE4)
      have HOW4 := Lib.hid (own_ext HOW.out (HE3.out.trans hE4))
      have c4 := HR4.out.cell
      have hz4 := HR4.out.lt
      clear y1 hE4
      go_wp2_with fail
      refine (e_number_ok d ed _ (HV.out.ext (HE1.out.trans HX4.out)) (by omega) HD.out).mono ?_
      rintro e w5 ⟨rfl, hE5⟩
      have HX5 := Lib.hid (HX4.out.trans hE5)
      have HR5 := Lib.hid (HR4.out.ext hE5)
      have HOW5 := Lib.hid (own_ext HOW4.out hE5)
      clear c4 hE5
      have c5 := HR5.out.cell
      go_wp2_with fail
      refine (e_number_ok f er _ (HV.out.ext (HE1.out.trans HX5.out)) (by omega) HFR.out).mono ?_
      rintro e w6 ⟨rfl, hE6⟩
      have HX6 := Lib.hid (HX5.out.trans hE6)
      have HR6 := Lib.hid (HR5.out.ext hE6)
      have HOW6 := Lib.hid (own_ext HOW5.out hE6)
      clear c5 hE6
      go_wp2_with fail
      refine wp_region_later_mix (v0 := u4) 9 (by kernel_rfl) (by kernel_rfl) rfl rfl (by kernel_rfl) ?_ (fun W hW => ?_)
      ·intro X
       rfl
      have y1 := fun X : Later W => ((by rw [hW]; exact HR6.out : Row W wr.heap.size 9 _).ext X.ext).cell
      subst hW
      simp only [List.take_succ_cons, List.take_zero, List.drop_succ_cons, List.drop_zero, Act.put, List.setIfInBounds_toArray, List.set_cons_succ, List.set_cons_zero]
      repeat (go_big_quiet_step ((first | (go_at_call 87; exact Later.call (e_word_any _ _)))))
      refine wpQuiet_nil ?_
      rintro ⟨w7, hE7⟩
      dsimp only
      go_wp2
      have hz7 := hE7.size
      have hz6 := HX6.out.size
      refine ⟨⟨⟨_, hE7.alloc _⟩, rfl⟩, ?_⟩
      have hown7 := (own_ext HOW6.out hE7).alloc (.cells #[.int .i64 ed, .bool false, .int .i64 er] 87)
      have HO7 := Lib.hid hown7
      clear hown7
      refine wpList_append_lies _ rfl _ _ 22 rfl w1.heap.size 87 i0 _ 3 24 Tryz.underlying22 hi0 hi1 hi2 hi3 rfl (by decide) _ lp.length (eclCells lp) rfl HO7.out ⟨w7.heap.size, 0, none⟩ 1 1 [.int .i64 ed, .bool false, .int .i64 er] rfl rfl (World.news_of_block (cs := #[.int .i64 ed, .bool false, .int .i64 er]) (t := 87) (fr := (0, 0)) (heap_alloc_new _ _)) (by simp [Value.oneCell']) (by omega) (by simp only [maxLen]; omega) (by omega) (by simp; omega) _ rfl ?_
      intro gg cap w8 hown8 hgrow hat hlt4
      have HO8 := Lib.hid hown8
      have HX8 := Lib.hid (((HX6.out.trans hE7).alloc _).grown hgrow (fun g hg => (HO7.out.lt g hg).1))
      clear hown8 hgrow hat hE7 y1
      go_wp2
      refine NoPanic.normal ?_
      go_wp2_with fail
      go_roundw
      case measure => simp [intOf]; omega
      case rel =>
       refine ⟨k + 1, lp ++ [⟨ed, false, er⟩], by omega, by go_num, by have := HLP.out; simp; omega, HMP.out, ?_, HX8.out⟩
       simpa [eclCells_append, eclCells] using HO8.out
     ·refine wp_region_later (by kernel_rfl) (by kernel_rfl) (fun W hW => ?_)
      have y1 := Later.block (w := W) (by rw [hW]; exact HR3.out)
      repeat (go_big_quiet_step ((first | (go_at_call 87; exact Later.call (e_word_any _ _)) | (go_at_call 91; exact Later.call ((e_sure_ok _ _).mono fun _ _ ⟨a, b⟩ => ⟨a, b ▸ Ext.refl _⟩)))))
      refine wpQuiet_nil ?_
      rintro ⟨w4, hE4⟩
      subst hW
      dsimp only
      have HX4 := Lib.hid ((HX.out.trans HE3.out).trans hE4)
      have HR4 := Lib.hid (HR3.out.ext hE4)
      have HOW4 := Lib.hid (own_ext HOW.out (HE3.out.trans hE4))
      have c4 := HR4.out.cell
      have hz4 := HR4.out.lt
      clear y1 hE4
      go_wp2_with fail
      refine (e_number_ok d ed _ (HV.out.ext (HE1.out.trans HX4.out)) (by omega) HD.out).mono ?_
      rintro e w5 ⟨rfl, hE5⟩
      have HX5 := Lib.hid (HX4.out.trans hE5)
      have HR5 := Lib.hid (HR4.out.ext hE5)
      have HOW5 := Lib.hid (own_ext HOW4.out hE5)
      clear c4 hE5
      have c5 := HR5.out.cell
      go_wp2_with fail
      refine (e_number_ok f er _ (HV.out.ext (HE1.out.trans HX5.out)) (by omega) HFR.out).mono ?_
      rintro e w6 ⟨rfl, hE6⟩
      have HX6 := Lib.hid (HX5.out.trans hE6)
      have HR6 := Lib.hid (HR5.out.ext hE6)
      have HOW6 := Lib.hid (own_ext HOW5.out hE6)
      clear c5 hE6
      go_wp2_with fail
      refine wp_region_later_mix (v0 := u4) 9 (by kernel_rfl) (by kernel_rfl) rfl rfl (by kernel_rfl) ?_ (fun W hW => ?_)
      ·intro X
       rfl
      have y1 := fun X : Later W => ((by rw [hW]; exact HR6.out : Row W wr.heap.size 9 _).ext X.ext).cell
      subst hW
      simp only [List.take_succ_cons, List.take_zero, List.drop_succ_cons, List.drop_zero, Act.put, List.setIfInBounds_toArray, List.set_cons_succ, List.set_cons_zero]
      repeat (go_big_quiet_step ((first | (go_at_call 87; exact Later.call (e_word_any _ _)))))
      refine wpQuiet_nil ?_
      rintro ⟨w7, hE7⟩
      dsimp only
      go_wp2
      have hz7 := hE7.size
      have hz6 := HX6.out.size
      refine ⟨⟨⟨_, hE7.alloc _⟩, rfl⟩, ?_⟩
      have hown7 := (own_ext HOW6.out hE7).alloc (.cells #[.int .i64 ed, .bool true, .int .i64 er] 87)
      have HO7 := Lib.hid hown7
      clear hown7
      refine wpList_append_lies _ rfl _ _ 22 rfl w1.heap.size 87 i0 _ 3 24 Tryz.underlying22 hi0 hi1 hi2 hi3 rfl (by decide) _ lp.length (eclCells lp) rfl HO7.out ⟨w7.heap.size, 0, none⟩ 1 1 [.int .i64 ed, .bool true, .int .i64 er] rfl rfl (World.news_of_block (cs := #[.int .i64 ed, .bool true, .int .i64 er]) (t := 87) (fr := (0, 0)) (heap_alloc_new _ _)) (by simp [Value.oneCell']) (by omega) (by simp only [maxLen]; omega) (by omega) (by simp; omega) _ rfl ?_
      intro gg cap w8 hown8 hgrow hat hlt4
      have HO8 := Lib.hid hown8
      have HX8 := Lib.hid (((HX6.out.trans hE7).alloc _).grown hgrow (fun g hg => (HO7.out.lt g hg).1))
      clear hown8 hgrow hat hE7 y1
      go_wp2
      refine NoPanic.normal ?_
      go_wp2_with fail
      go_roundw
      case measure => simp [intOf]; omega
      case rel =>
       refine ⟨k + 1, lp ++ [⟨ed, true, er⟩], by omega, by go_num, by have := HLP.out; simp; omega, HMP.out, ?_, HX8.out⟩
       simpa [eclCells_append, eclCells] using HO8.out
    | none =>
     have HNO := Lib.hid (HROW.out k y hy hp)
     rcases eclP_none hp with hn3 | ⟨t0, d, f, hs, hcase⟩
     ·have hsl := split_any 32 y wr (HV.out.ext (HE1.out.trans hX)) (by omega)
      obtain ⟨S, hS⟩ : ∃ S, sp1 32 y = S := ⟨_, rfl⟩
      rw [hS] at hsl hn3
      obtain ⟨n, hn⟩ : ∃ n, S.length = n := ⟨_, rfl⟩
      rw [hn] at hsl hn3
      have HSL := Lib.hid hsl
      have HN3 : Hid (((n : Int) == 3) = false) := Lib.hid (by rw [beq_eq_false_iff_ne]; omega)
      clear hS hn hn3 hsl
      clear hy hle hX hown hp hmap
      go_wp2_with fail
      refine HSL.out.mono ?_
      rintro e w3 ⟨rfl, hw3⟩
      have HE3 : Hid (Ext wr w3) := Lib.hid (by rw [hw3]; exact (Ext.refl wr).alloc _)
      obtain ⟨b, hb⟩ : ∃ b, wr.heap.size = b := ⟨_, rfl⟩
      rw [hb]
      clear hw3 hc hb z1
      go_wp2_with fail
      refine wp_region_free_closed 18 (prsΦA b n y w3) (by kernel_rfl) (by simp) (by kernel_rfl) (by kernel_rfl) (by kernel_rfl) prsΦA_mono ?hob ?hQ
      case hob =>
       intro i o hin ho a wa hE hF
       match i, hin with
       | 0, _ =>
        cases ho
        have h0 : a.tmps[7]?.getD undef = .slice (some ⟨b, 0, none⟩) n n := evalD (hF.old 7 (by decide))
        refine Ran.value rfl (v := .slice (some ⟨b, 0, none⟩) n n) (w1 := wa) ?_ ⟨rfl, Ext.refl _⟩
        go_simp
       | 1, _ =>
        cases ho
        have h0 : a.tmps[29]?.getD undef = .slice (some ⟨b, 0, none⟩) n n := evalD ((hF.from_ 0 29 rfl (by decide)))
        refine Ran.value rfl (v := .int .i64 (n : Int)) (w1 := wa) ?_ ⟨rfl, Ext.refl _⟩
        go_simp
       | 2, _ =>
        cases ho
        have h0 : a.tmps[30]?.getD undef = .int .i64 (n : Int) := evalD ((hF.from_ 1 30 rfl (by decide)))
        refine Ran.value rfl (v := .bool false) (w1 := wa) ?_ ⟨rfl, Ext.refl _⟩
        have hn := HN3.out
        go_simp
       | 3, _ =>
        cases ho
        have h0 : a.tmps[31]?.getD undef = .bool false := evalD ((hF.from_ 2 31 rfl (by decide)))
        refine Ran.value rfl (v := .bool false) (w1 := wa) ?_ ⟨rfl, Ext.refl _⟩
        go_simp
       | 4, _ =>
        cases ho
        have hgv : a.eval (.tmp 32) = .bool false := hF.from_ 3 32 rfl (by decide)
        refine Ran.if_ rfl rfl rfl hgv (fun h => absurd h (by decide)) (fun _ => ⟨rfl, Ext.refl _⟩)
       | 5, _ =>
        cases ho
        have hgv : a.eval (.tmp 32) = .bool false := hF.from_ 3 32 rfl (by decide)
        refine Ran.if_ rfl rfl rfl hgv (fun h => absurd h (by decide)) (fun _ => ⟨rfl, Ext.refl _⟩)
       | 6, _ =>
        cases ho
        have hgv : a.eval (.tmp 32) = .bool false := hF.from_ 3 32 rfl (by decide)
        refine Ran.if_ rfl rfl rfl hgv (fun h => absurd h (by decide)) (fun _ => ⟨rfl, Ext.refl _⟩)
       | 7, _ =>
        cases ho
        have hgv : a.eval (.tmp 32) = .bool false := hF.from_ 3 32 rfl (by decide)
        refine Ran.if_ rfl rfl rfl hgv (fun h => absurd h (by decide)) (fun _ => ⟨rfl, Ext.refl _⟩)
       | 8, _ =>
        cases ho
        have hgv : a.eval (.tmp 32) = .bool false := hF.from_ 3 32 rfl (by decide)
        refine Ran.if_ rfl rfl rfl hgv (fun h => absurd h (by decide)) (fun _ => ⟨rfl, Ext.refl _⟩)
       | 9, _ =>
        cases ho
        have hgv : a.eval (.tmp 32) = .bool false := hF.from_ 3 32 rfl (by decide)
        refine Ran.if_ rfl rfl rfl hgv (fun h => absurd h (by decide)) (fun _ => ⟨rfl, Ext.refl _⟩)
       | 10, _ =>
        cases ho
        have hgv : a.eval (.tmp 38) = undef := hF.from_ 9 38 rfl (by decide)
        exact Ran.skipped rfl rfl rfl hgv ⟨rfl, Ext.refl _⟩
       | 11, _ =>
        cases ho
        have hgv : a.eval (.tmp 38) = undef := hF.from_ 9 38 rfl (by decide)
        exact Ran.skipped rfl rfl rfl hgv ⟨rfl, Ext.refl _⟩
       | 12, _ =>
        cases ho
        have hgv : a.eval (.tmp 38) = undef := hF.from_ 9 38 rfl (by decide)
        exact Ran.skipped rfl rfl rfl hgv ⟨rfl, Ext.refl _⟩
       | 13, _ =>
        cases ho
        have hgv : a.eval (.tmp 38) = undef := hF.from_ 9 38 rfl (by decide)
        exact Ran.skipped rfl rfl rfl hgv ⟨rfl, Ext.refl _⟩
       | 14, _ =>
        cases ho
        have hgv : a.eval (.tmp 38) = undef := hF.from_ 9 38 rfl (by decide)
        exact Ran.skipped rfl rfl rfl hgv ⟨rfl, Ext.refl _⟩
       | 15, _ =>
        cases ho
        have hgv : a.eval (.tmp 32) = .bool false := hF.from_ 3 32 rfl (by decide)
        refine Ran.if_ rfl rfl rfl hgv (fun h => absurd h (by decide)) (fun _ => ⟨rfl, Ext.refl _⟩)
       | 16, _ =>
        cases ho
        have h0 : a.tmps[32]?.getD undef = .bool false := evalD ((hF.from_ 3 32 rfl (by decide)))
        refine Ran.value rfl (v := .bool false) (w1 := wa) ?_ ⟨rfl, Ext.refl _⟩
        go_simp
       | 17, _ =>
        cases ho
        have h0 : a.tmps[6]?.getD undef = .string (bs y) := evalD (hF.old 6 (by decide))
        refine Ran.value rfl (v := .string (bs y)) (w1 := wa) ?_ ⟨rfl, Ext.refl _⟩
        go_simp
       | k + 18, hin => omega
      case hQ =>
       intro vs w2 hE hΦ
       have f0 : vs 0 = .slice (some ⟨b, 0, none⟩) n n := hΦ 0 (by omega)
       have f1 : vs 1 = .int .i64 (n : Int) := hΦ 1 (by omega)
       have f2 : vs 2 = .bool false := hΦ 2 (by omega)
       have f3 : vs 3 = .bool false := hΦ 3 (by omega)
       have f4 : vs 4 = undef := hΦ 4 (by omega)
       have f5 : vs 5 = undef := hΦ 5 (by omega)
       have f6 : vs 6 = undef := hΦ 6 (by omega)
       have f7 : vs 7 = undef := hΦ 7 (by omega)
       have f8 : vs 8 = undef := hΦ 8 (by omega)
       have f9 : vs 9 = undef := hΦ 9 (by omega)
       have f10 : vs 10 = undef := hΦ 10 (by omega)
       have f11 : vs 11 = undef := hΦ 11 (by omega)
       have f12 : vs 12 = undef := hΦ 12 (by omega)
       have f13 : vs 13 = undef := hΦ 13 (by omega)
       have f14 : vs 14 = undef := hΦ 14 (by omega)
       have f15 : vs 15 = undef := hΦ 15 (by omega)
       have f16 : vs 16 = .bool false := hΦ 16 (by omega)
       have f17 : vs 17 = .string (bs y) := hΦ 17 (by omega)
       have hrg : List.range 18 = [0, 1, 2, 3, 4, 5, 6, 7, 8, 9, 10, 11, 12, 13, 14, 15, 16, 17] := rfl
       unfold putAll putS
       simp only [List.length_cons, List.length_nil, List.take_succ_cons, List.take_zero, List.drop_succ_cons, List.drop_zero, Nat.reduceAdd, hrg, List.foldl_cons, List.foldl_nil, dstOf, List.getElem?_cons_succ, List.getElem?_cons_zero, Option.bind_some]
       clear hrg
       rw [f0, f1, f2, f3, f4, f5, f6, f7, f8, f9, f10, f11, f12, f13, f14, f15, f16, f17]
       simp only [Act.put, List.setIfInBounds_toArray, List.set_cons_succ, List.set_cons_zero]
       have HX4 := Lib.hid ((HX.out.trans HE3.out).trans hE)
       clear hE hΦ
       go_wp2_with fail
       refine (e_sure_no _ _).mono ?_
       rintro e w5 ⟨rfl, rfl⟩
       exact ⟨rfl, .inr ⟨HNO.out, _, rfl⟩, HE1.out.trans HX4.out⟩
     ·rw [hs] at hle
      have hdl := hle d (by simp)
      have hfl := hle f (by simp)
      have hsl := split_any 32 y wr (HV.out.ext (HE1.out.trans hX)) (by omega)
      rw [hs] at hsl
      have HSL := Lib.hid hsl
      have HCASE := Lib.hid hcase
      obtain ⟨b, hb⟩ : ∃ b, wr.heap.size = b := ⟨_, rfl⟩
      rw [hb] at HSL
      clear hs hsl hcase
      clear hy hle hX hown hp hmap
      go_wp2_with fail
      refine HSL.out.mono ?_
      rintro e w3 ⟨rfl, hw3⟩
      have HE3 : Hid (Ext wr w3) := Lib.hid (by rw [hw3]; exact (Ext.refl wr).alloc _)
      have HR3 : Hid (Row w3 b 9 #[.string (bs t0), .string (bs d), .string (bs f)]) := Lib.hid (by rw [hw3, ← hb]; exact Row.new _ _ _)
      rw [hb] at z1
      clear hw3 hc hb
      simp only [List.length_cons, List.length_nil, Nat.reduceAdd]
      go_wp2_with fail
      rcases HCASE.out with ⟨hw1, hw2⟩ | ⟨ef, rfl, hnum⟩
      ·have HQT : Hid (((bs t0).toList == (bs (eWord true)).toList) = false) := Lib.hid (by rw [toList_bs, toList_bs]; simpa [eWord] using hw1)
       have HQF : Hid (((bs t0).toList == (bs (eWord false)).toList) = false) := Lib.hid (by rw [toList_bs, toList_bs]; simpa [eWord] using hw2)
       clear hw1 hw2
       refine wp_region_free_closed 18 (prsΦB b t0 y w3) (by kernel_rfl) (by simp) (by kernel_rfl) (by kernel_rfl) (by kernel_rfl) prsΦB_mono ?hob ?hQ
       case hob =>
        intro i o hin ho a wa hE hF
        match i, hin with
        | 0, _ =>
         cases ho
         have h0 : a.tmps[7]?.getD undef = .slice (some ⟨b, 0, none⟩) 3 3 := evalD (hF.old 7 (by decide))
         refine Ran.value rfl (v := .slice (some ⟨b, 0, none⟩) 3 3) (w1 := wa) ?_ ⟨rfl, Ext.refl _⟩
         go_simp
        | 1, _ =>
         cases ho
         have h0 : a.tmps[29]?.getD undef = .slice (some ⟨b, 0, none⟩) 3 3 := evalD ((hF.from_ 0 29 rfl (by decide)))
         refine Ran.value rfl (v := .int .i64 3) (w1 := wa) ?_ ⟨rfl, Ext.refl _⟩
         go_simp
        | 2, _ =>
         cases ho
         have h0 : a.tmps[30]?.getD undef = .int .i64 3 := evalD ((hF.from_ 1 30 rfl (by decide)))
         refine Ran.value rfl (v := .bool true) (w1 := wa) ?_ ⟨rfl, Ext.refl _⟩
         go_simp
        | 3, _ =>
         cases ho
         have h0 : a.tmps[31]?.getD undef = .bool true := evalD ((hF.from_ 2 31 rfl (by decide)))
         refine Ran.value rfl (v := .bool true) (w1 := wa) ?_ ⟨rfl, Ext.refl _⟩
         go_simp
        | 4, _ =>
         cases ho
         have hgv : a.eval (.tmp 32) = .bool true := hF.from_ 3 32 rfl (by decide)
         refine Ran.if_ rfl rfl rfl hgv (fun _ => ?_) (fun h => absurd rfl h)
         have h0 : a.tmps[7]?.getD undef = .slice (some ⟨b, 0, none⟩) 3 3 := evalD (hF.old 7 (by decide))
         refine Ran.value rfl (v := .slice (some ⟨b, 0, none⟩) 3 3) (w1 := wa) ?_ ⟨rfl, Ext.refl _⟩
         go_simp
        | 5, _ =>
         cases ho
         have hgv : a.eval (.tmp 32) = .bool true := hF.from_ 3 32 rfl (by decide)
         refine Ran.if_ rfl rfl rfl hgv (fun _ => ?_) (fun h => absurd rfl h)
         have h0 : a.tmps[33]?.getD undef = .slice (some ⟨b, 0, none⟩) 3 3 := evalD ((hF.from_ 4 33 rfl (by decide)))
         refine Ran.value rfl (v := .pointer (some ⟨b, 0, none⟩)) (w1 := wa) ?_ ⟨rfl, Ext.refl _⟩
         go_simp
        | 6, _ =>
         cases ho
         have hgv : a.eval (.tmp 32) = .bool true := hF.from_ 3 32 rfl (by decide)
         refine Ran.if_ rfl rfl rfl hgv (fun _ => ?_) (fun h => absurd rfl h)
         have h0 : a.tmps[34]?.getD undef = .pointer (some ⟨b, 0, none⟩) := evalD ((hF.from_ 5 34 rfl (by decide)))
         have q := (Row.ext (HR3.out) hE).cell
         refine Ran.value rfl (v := .string (bs t0)) (w1 := wa) ?_ ⟨rfl, Ext.refl _⟩
         go_simp
        | 7, _ =>
         cases ho
         have hgv : a.eval (.tmp 32) = .bool true := hF.from_ 3 32 rfl (by decide)
         refine Ran.if_ rfl rfl rfl hgv (fun _ => ?_) (fun h => absurd rfl h)
         refine Ran.enter rfl (f := 87) (args := #[.bool true]) (w1 := wa) ?_ ?_
         ·go_simp
         ·refine (e_word_any true wa).mono ?_
          rintro r w1 ⟨rfl, hX⟩
          exact ⟨_, rfl, rfl, hX⟩
        | 8, _ =>
         cases ho
         have hgv : a.eval (.tmp 32) = .bool true := hF.from_ 3 32 rfl (by decide)
         refine Ran.if_ rfl rfl rfl hgv (fun _ => ?_) (fun h => absurd rfl h)
         have h0 : a.tmps[35]?.getD undef = .string (bs t0) := evalD ((hF.from_ 6 35 rfl (by decide)))
         have h1 : a.tmps[36]?.getD undef = .string (bs (eWord true)) := evalD ((hF.from_ 7 36 rfl (by decide)))
         refine Ran.value rfl (v := .bool false) (w1 := wa) ?_ ⟨rfl, Ext.refl _⟩
         have hq := HQT.out
         go_simp
        | 9, _ =>
         cases ho
         have hgv : a.eval (.tmp 32) = .bool true := hF.from_ 3 32 rfl (by decide)
         refine Ran.if_ rfl rfl rfl hgv (fun _ => ?_) (fun h => absurd rfl h)
         have h0 : a.tmps[37]?.getD undef = .bool false := evalD ((hF.from_ 8 37 rfl (by decide)))
         refine Ran.value rfl (v := .bool false) (w1 := wa) ?_ ⟨rfl, Ext.refl _⟩
         go_simp
        | 10, _ =>
         cases ho
         have hgv : a.eval (.tmp 38) = .bool false := hF.from_ 9 38 rfl (by decide)
         refine Ran.if_ rfl rfl rfl hgv (fun _ => ?_) (fun h => absurd rfl h)
         have h0 : a.tmps[7]?.getD undef = .slice (some ⟨b, 0, none⟩) 3 3 := evalD (hF.old 7 (by decide))
         refine Ran.value rfl (v := .slice (some ⟨b, 0, none⟩) 3 3) (w1 := wa) ?_ ⟨rfl, Ext.refl _⟩
         go_simp
        | 11, _ =>
         cases ho
         have hgv : a.eval (.tmp 38) = .bool false := hF.from_ 9 38 rfl (by decide)
         refine Ran.if_ rfl rfl rfl hgv (fun _ => ?_) (fun h => absurd rfl h)
         have h0 : a.tmps[39]?.getD undef = .slice (some ⟨b, 0, none⟩) 3 3 := evalD ((hF.from_ 10 39 rfl (by decide)))
         refine Ran.value rfl (v := .pointer (some ⟨b, 0, none⟩)) (w1 := wa) ?_ ⟨rfl, Ext.refl _⟩
         go_simp
        | 12, _ =>
         cases ho
         have hgv : a.eval (.tmp 38) = .bool false := hF.from_ 9 38 rfl (by decide)
         refine Ran.if_ rfl rfl rfl hgv (fun _ => ?_) (fun h => absurd rfl h)
         have h0 : a.tmps[40]?.getD undef = .pointer (some ⟨b, 0, none⟩) := evalD ((hF.from_ 11 40 rfl (by decide)))
         have q := (Row.ext (HR3.out) hE).cell
         refine Ran.value rfl (v := .string (bs t0)) (w1 := wa) ?_ ⟨rfl, Ext.refl _⟩
         go_simp
        | 13, _ =>
         cases ho
         have hgv : a.eval (.tmp 38) = .bool false := hF.from_ 9 38 rfl (by decide)
         refine Ran.if_ rfl rfl rfl hgv (fun _ => ?_) (fun h => absurd rfl h)
         refine Ran.enter rfl (f := 87) (args := #[.bool false]) (w1 := wa) ?_ ?_
         ·go_simp
         ·refine (e_word_any false wa).mono ?_
          rintro r w1 ⟨rfl, hX⟩
          exact ⟨_, rfl, rfl, hX⟩
        | 14, _ =>
         cases ho
         have hgv : a.eval (.tmp 38) = .bool false := hF.from_ 9 38 rfl (by decide)
         refine Ran.if_ rfl rfl rfl hgv (fun _ => ?_) (fun h => absurd rfl h)
         have h0 : a.tmps[41]?.getD undef = .string (bs t0) := evalD ((hF.from_ 12 41 rfl (by decide)))
         have h1 : a.tmps[42]?.getD undef = .string (bs (eWord false)) := evalD ((hF.from_ 13 42 rfl (by decide)))
         refine Ran.value rfl (v := .bool false) (w1 := wa) ?_ ⟨rfl, Ext.refl _⟩
         have hq := HQF.out
         go_simp
        | 15, _ =>
         cases ho
         have hgv : a.eval (.tmp 32) = .bool true := hF.from_ 3 32 rfl (by decide)
         refine Ran.if_ rfl rfl rfl hgv (fun _ => ?_) (fun h => absurd rfl h)
         have h0 : a.tmps[38]?.getD undef = .bool false := evalD ((hF.from_ 9 38 rfl (by decide)))
         have h1 : a.tmps[43]?.getD undef = .bool false := evalD ((hF.from_ 14 43 rfl (by decide)))
         refine Ran.value rfl (v := .bool false) (w1 := wa) ?_ ⟨rfl, Ext.refl _⟩
         go_simp
        | 16, _ =>
         cases ho
         have h0 : a.tmps[32]?.getD undef = .bool true := evalD ((hF.from_ 3 32 rfl (by decide)))
         have h1 : a.tmps[44]?.getD undef = .bool false := evalD ((hF.from_ 15 44 rfl (by decide)))
         refine Ran.value rfl (v := .bool false) (w1 := wa) ?_ ⟨rfl, Ext.refl _⟩
         go_simp
        | 17, _ =>
         cases ho
         have h0 : a.tmps[6]?.getD undef = .string (bs y) := evalD (hF.old 6 (by decide))
         refine Ran.value rfl (v := .string (bs y)) (w1 := wa) ?_ ⟨rfl, Ext.refl _⟩
         go_simp
        | k + 18, hin => omega
       case hQ =>
        intro vs w2 hE hΦ
        have f0 : vs 0 = .slice (some ⟨b, 0, none⟩) 3 3 := hΦ 0 (by omega)
        have f1 : vs 1 = .int .i64 3 := hΦ 1 (by omega)
        have f2 : vs 2 = .bool true := hΦ 2 (by omega)
        have f3 : vs 3 = .bool true := hΦ 3 (by omega)
        have f4 : vs 4 = .slice (some ⟨b, 0, none⟩) 3 3 := hΦ 4 (by omega)
        have f5 : vs 5 = .pointer (some ⟨b, 0, none⟩) := hΦ 5 (by omega)
        have f6 : vs 6 = .string (bs t0) := hΦ 6 (by omega)
        have f7 : vs 7 = .string (bs (eWord true)) := hΦ 7 (by omega)
        have f8 : vs 8 = .bool false := hΦ 8 (by omega)
        have f9 : vs 9 = .bool false := hΦ 9 (by omega)
        have f10 : vs 10 = .slice (some ⟨b, 0, none⟩) 3 3 := hΦ 10 (by omega)
        have f11 : vs 11 = .pointer (some ⟨b, 0, none⟩) := hΦ 11 (by omega)
        have f12 : vs 12 = .string (bs t0) := hΦ 12 (by omega)
        have f13 : vs 13 = .string (bs (eWord false)) := hΦ 13 (by omega)
        have f14 : vs 14 = .bool false := hΦ 14 (by omega)
        have f15 : vs 15 = .bool false := hΦ 15 (by omega)
        have f16 : vs 16 = .bool false := hΦ 16 (by omega)
        have f17 : vs 17 = .string (bs y) := hΦ 17 (by omega)
        have hrg : List.range 18 = [0, 1, 2, 3, 4, 5, 6, 7, 8, 9, 10, 11, 12, 13, 14, 15, 16, 17] := rfl
        unfold putAll putS
        simp only [List.length_cons, List.length_nil, List.take_succ_cons, List.take_zero, List.drop_succ_cons, List.drop_zero, Nat.reduceAdd, hrg, List.foldl_cons, List.foldl_nil, dstOf, List.getElem?_cons_succ, List.getElem?_cons_zero, Option.bind_some]
        clear hrg
        rw [f0, f1, f2, f3, f4, f5, f6, f7, f8, f9, f10, f11, f12, f13, f14, f15, f16, f17]
        simp only [Act.put, List.setIfInBounds_toArray, List.set_cons_succ, List.set_cons_zero]
        have HX4 := Lib.hid ((HX.out.trans HE3.out).trans hE)
        clear hE hΦ
        go_wp2_with fail
        refine (e_sure_no _ _).mono ?_
        rintro e w5 ⟨rfl, rfl⟩
        exact ⟨rfl, .inr ⟨HNO.out, _, rfl⟩, HE1.out.trans HX4.out⟩
      ·have HNUM := Lib.hid hnum
       clear hnum HCASE
       have hq1 : ((bs (eWord false)).toList == (bs (eWord true)).toList) = false := by rw [toList_bs, toList_bs]; decide
       have hq2 : ((bs (eWord true)).toList == (bs (eWord true)).toList) = true := by rw [toList_bs]; decide
       have hq3 : ((bs (eWord false)).toList == (bs (eWord false)).toList) = true := by rw [toList_bs]; decide
       cases ef
       ·refine wp_region_later (by kernel_rfl) (by kernel_rfl) (fun W hW => ?_)
        have y1 := Later.block (w := W) (by rw [hW]; exact HR3.out)
        repeat (go_big_quiet_step ((first | (go_at_call 87; exact Later.call (e_word_any _ _)) | (go_at_call 91; exact Later.call ((e_sure_ok _ _).mono fun _ _ ⟨a, b⟩ => ⟨a, b ▸ Ext.refl _⟩)))))
        refine wpQuiet_nil ?_
        rintro ⟨w4, hE4⟩
        subst hW
        dsimp only
        have HX4 := Lib.hid ((HX.out.trans HE3.out).trans hE4)
        have HR4 := Lib.hid (HR3.out.ext hE4)
        have c4 := HR4.out.cell
        have hz4 := HR4.out.lt
        clear y1 hE4
        go_wp2_with fail
        refine (e_number_any d _ (HV.out.ext (HE1.out.trans HX4.out)) (by omega)).mono ?_
        rintro e w5 ⟨hE5, ⟨m, hm, rfl⟩ | ⟨hno, z, rfl⟩⟩
        ·have HNF : Hid (numE f = none) := Lib.hid (by
          rcases HNUM.out with h | ⟨_, _, h⟩
          ·rw [hm] at h; cases h
          ·exact h)
         have HX5 := Lib.hid (HX4.out.trans hE5)
         have HR5 := Lib.hid (HR4.out.ext hE5)
         clear c4 hE5 hm HNUM
         have c5 := HR5.out.cell
         go_wp2_with fail
         refine (e_number_any f _ (HV.out.ext (HE1.out.trans HX5.out)) (by omega)).mono ?_
         rintro e w6 ⟨hE6, ⟨m2, hm2, rfl⟩ | ⟨hno, z, rfl⟩⟩
         ·have h := HNF.out
          rw [hm2] at h
          cases h
         ·exact ⟨rfl, .inr ⟨HNO.out, _, rfl⟩, HE1.out.trans (HX5.out.trans hE6)⟩
        ·exact ⟨rfl, .inr ⟨HNO.out, _, rfl⟩, HE1.out.trans (HX4.out.trans hE5)⟩
       ·refine wp_region_later (by kernel_rfl) (by kernel_rfl) (fun W hW => ?_)
        have y1 := Later.block (w := W) (by rw [hW]; exact HR3.out)
        repeat (go_big_quiet_step ((first | (go_at_call 87; exact Later.call (e_word_any _ _)) | (go_at_call 91; exact Later.call ((e_sure_ok _ _).mono fun _ _ ⟨a, b⟩ => ⟨a, b ▸ Ext.refl _⟩)))))
        refine wpQuiet_nil ?_
        rintro ⟨w4, hE4⟩
        subst hW
        dsimp only
        have HX4 := Lib.hid ((HX.out.trans HE3.out).trans hE4)
        have HR4 := Lib.hid (HR3.out.ext hE4)
        have c4 := HR4.out.cell
        have hz4 := HR4.out.lt
        clear y1 hE4
        go_wp2_with fail
        refine (e_number_any d _ (HV.out.ext (HE1.out.trans HX4.out)) (by omega)).mono ?_
        rintro e w5 ⟨hE5, ⟨m, hm, rfl⟩ | ⟨hno, z, rfl⟩⟩
        ·have HNF : Hid (numE f = none) := Lib.hid (by
          rcases HNUM.out with h | ⟨_, _, h⟩
          ·rw [hm] at h; cases h
          ·exact h)
         have HX5 := Lib.hid (HX4.out.trans hE5)
         have HR5 := Lib.hid (HR4.out.ext hE5)
         clear c4 hE5 hm HNUM
         have c5 := HR5.out.cell
         go_wp2_with fail
         refine (e_number_any f _ (HV.out.ext (HE1.out.trans HX5.out)) (by omega)).mono ?_
         rintro e w6 ⟨hE6, ⟨m2, hm2, rfl⟩ | ⟨hno, z, rfl⟩⟩
         ·have h := HNF.out
          rw [hm2] at h
          cases h
         ·exact ⟨rfl, .inr ⟨HNO.out, _, rfl⟩, HE1.out.trans (HX5.out.trans hE6)⟩
        ·exact ⟨rfl, .inr ⟨HNO.out, _, rfl⟩, HE1.out.trans (HX4.out.trans hE5)⟩
   ·obtain rfl : k = M.length := by omega
    rw [List.take_length] at hmap
    have HPA := Lib.hid (HALL'.out lp hmap)
    have HNUM := Lib.hid (num_of_rows hmap)
    have hv := EclVal.of_own hown
    have HVL := Lib.hid hv
    have HX := Lib.hid hX
    obtain ⟨A5, c5, rfl, hA5⟩ := hv
    have HA5 := Lib.hid hA5
    have hll : lp.length ≤ 1000 := by omega
    clear hown hX hA5 hmap hlp
    go_wp2_with fail
    refine (e_text_any lp A5 c5 _ (HV.out.ext (HE1.out.trans HX.out)) HA5.out HNUM.out hll).mono ?_
    rintro e w6 ⟨rfl, hE6⟩
    have HE6 := Lib.hid ((HE1.out.trans HX.out).trans hE6)
    have HVL6 := Lib.hid (HVL.out.ext hE6)
    clear hE6
    by_cases htx : textE lp = x
    ·rw [if_pos htx] at HPA
     rw [htx]
     have hq : ((bs x).toList == (bs x).toList) = true := by simp
     go_wp2_with fail
     refine (e_sure_ok _ _).mono ?_
     rintro e w7 ⟨rfl, rfl⟩
     go_wp2_with fail
     go_ret
     exact ⟨.inl ⟨lp, _, HPA.out, rfl, HVL6.out⟩, HE6.out⟩
    ·rw [if_neg htx] at HPA
     have hq : ((bs (textE lp)).toList == (bs x).toList) = false := by rw [toList_bs, toList_bs]; simpa using htx
     clear htx
     go_wp2_with fail
     refine (e_sure_no _ _).mono ?_
     rintro e w7 ⟨rfl, rfl⟩
     exact ⟨rfl, .inr ⟨HPA.out, _, rfl⟩, HE6.out⟩
end Go.Proofs.YtfkcbgehcbhjnaaGreatDoor
