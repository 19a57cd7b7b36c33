/- Volume 11 of the texts that the laws of this seat use: EcShelf EcStr EcNum EcTextW EcDarkW EcRefS EcSmall EcKnownP: walks of the program's functions, and plain laws. -/
import Derived.Shelf.Strings.OnBuilder
import Derived.Shelf.LaysM
import Derived.Shelf.Strconv.Itoa3
import Derived.Shelf.Strings.Split
import Derived.Lib.AppendIntMem
import Derived.Lib.ItoaLen
import Derived.Carry
import Derived.Lib.MinMax
import Derived.Laws.StructEq
import Derived.Laws.IdiomStrings
import Derived.Test.YtcbodpnmndbgnaaGreatDoorG01
import Derived.Test.YtcbodpnmndbgnaaGreatDoorG02
import Derived.Test.YtcbodpnmndbgnaaGreatDoorG03
import Derived.Test.YtcbodpnmndbgnaaGreatDoorG04
import Derived.Test.YtcbodpnmndbgnaaGreatDoorG05
import Derived.Test.YtcbodpnmndbgnaaGreatDoorG06
import Derived.Test.YtcbodpnmndbgnaaGreatDoorG10
import Derived.Test.YtcbodpnmndbgnaaGreatDoorProg
namespace Go.Proofs
open Go.Shelf
def Tryz.lays156_ren : Go.Shelf.Ren := ⟨fun | 156 => 186 | 165 => 203 | 166 => 204 | 169 => 205 | 240 => 220 | 241 => 221 | 276 => 231 | 277 => 232 | n => n, fun | 31 => 151 | 9 => 9 | 3 => 3 | 4 => 4 | 0 => 0 | 20 => 20 | 72 => 221 | 76 => 225 | 70 => 219 | 37 => 192 | 75 => 224 | 127 => 235 | 164 => 243 | 5 => 5 | 80 => 227 | n => n, fun | n => n⟩
theorem Tryz.lays156 : Go.Proofs.Lays.n156 Tryz.prog Tryz.lays156_ren := {
 mixed := by kernel_rfl
 f156 := Tryz.func186.trans (congrArg some (by kernel_rfl))
 f165 := Tryz.func203.trans (congrArg some (by kernel_rfl))
 f166 := Tryz.func204.trans (congrArg some (by kernel_rfl))
 f169 := Tryz.func205.trans (congrArg some (by kernel_rfl))
 f240 := Tryz.func220.trans (congrArg some (by kernel_rfl))
 f241 := Tryz.func221.trans (congrArg some (by kernel_rfl))
 f276 := Tryz.func231.trans (congrArg some (by kernel_rfl))
 f277 := Tryz.func232.trans (congrArg some (by kernel_rfl))
 t0 := Tryz.underlying0
 a0 := Tryz.isAgg0
 z0 := Tryz.sizeOf0
 v0 := Tryz.zeroValue0
 t3 := Tryz.underlying3
 a3 := Tryz.isAgg3
 z3 := Tryz.sizeOf3
 v3 := Tryz.zeroValue3
 t4 := Tryz.underlying4
 a4 := Tryz.isAgg4
 z4 := Tryz.sizeOf4
 v4 := Tryz.zeroValue4
 t9 := Tryz.underlying9
 a9 := Tryz.isAgg9
 z9 := Tryz.sizeOf9
 v9 := Tryz.zeroValue9
 t20 := Tryz.underlying20
 a20 := Tryz.isAgg20
 z20 := Tryz.sizeOf20
 v20 := Tryz.zeroValue20
 t31 := Tryz.underlying151
 a31 := Tryz.isAgg151
 z31 := Tryz.sizeOf151
 v31 := Tryz.zeroValue151
 t37 := Tryz.underlying192
 a37 := Tryz.isAgg192
 z37 := Tryz.sizeOf192
 v37 := Tryz.zeroValue192
 t70 := Tryz.underlying219
 a70 := Tryz.isAgg219
 z70 := Tryz.sizeOf219
 v70 := Tryz.zeroValue219
 t72 := Tryz.underlying221
 a72 := Tryz.isAgg221
 z72 := Tryz.sizeOf221
 v72 := Tryz.zeroValue221
 t75 := Tryz.underlying224
 a75 := Tryz.isAgg224
 z75 := Tryz.sizeOf224
 v75 := Tryz.zeroValue224
 t76 := Tryz.underlying225
 a76 := Tryz.isAgg225
 z76 := Tryz.sizeOf225
 v76 := Tryz.zeroValue225
 t127 := Tryz.underlying235
 a127 := Tryz.isAgg235
 z127 := Tryz.sizeOf235
 v127 := Tryz.zeroValue235
 t164 := Tryz.underlying243
 a164 := Tryz.isAgg243
 z164 := Tryz.sizeOf243
 v164 := Tryz.zeroValue243 }
theorem Tryz.Builder_Extra_156 : Builder.Extra Tryz.prog Tryz.lays156_ren := {
 sizeBuilder := by kernel_rfl
 liesBuilder := by kernel_rfl
 t5 := Tryz.underlying5
 a5 := Tryz.isAgg5
 z5 := Tryz.sizeOf5
 v5 := Tryz.zeroValue5
 infoByte := by kernel_rfl
 cellsByte := by kernel_rfl
 sizeByte := by kernel_rfl
 neB5 := by decide }
open Go.RowKit in
theorem Tryz.strings_Join_none (a : Option Addr) (c : Nat) (sep : ByteArray) (w : World) :
  Calls Tryz.prog 186 #[.slice a 0 c, .string sep] w fun e w' => e = .returned (.string ⟨#[]⟩) ∧ w' = w := Any.strings_Join_none Tryz.lays156 Tryz.Builder_Extra_156 a c sep w
open Go.RowKit in
theorem Tryz.strings_Join (bk o c : Nat) (xs : List ByteArray) (sep : ByteArray) (w : World) (hcells : ∀ (j : Nat) x, xs[j]? = some x → w.cell? ⟨bk, o + j, none⟩ = some (.string x)) (hbk : bk < w.heap.size) (hN : xs.length ≤ 140737488355328) (hcap : xs.length ≤ c) (hlen : (Lib.join (xs.map (·.data.toList)) sep.data.toList).length ≤ 140737488355328) :
  Calls Tryz.prog 186 #[.slice (some ⟨bk, o, none⟩) xs.length c, .string sep] w fun e w' => e = .returned (.string ⟨(Lib.join (xs.map (·.data.toList)) sep.data.toList).toArray⟩) ∧ Below w.heap.size w w' := Any.strings_Join Tryz.lays156 Tryz.Builder_Extra_156 bk o c xs sep w hcells hbk hN hcap hlen
def Tryz.laysM171_ren : Go.Shelf.Ren := ⟨fun | 171 => 185 | 243 => 202 | 246 => 219 | 283 => 227 | 284 => 228 | 285 => 229 | 286 => 230 | 129 => 236 | 317 => 235 | 318 => 237 | 319 => 238 | 320 => 239 | 337 => 240 | 338 => 241 | n => n, fun | 3 => 3 | 9 => 9 | 2 => 2 | 4 => 4 | 171 => 237 | 0 => 0 | 53 => 238 | 37 => 192 | 5 => 5 | 173 => 241 | 212 => 254 | 51 => 250 | 20 => 20 | 213 => 255 | 46 => 236 | 232 => 258 | 233 => 259 | n => n, fun | 17 => 3 | 18 => 4 | 19 => 5 | n => n⟩
theorem Tryz.laysM171 : Go.Proofs.LaysM.n171 Tryz.prog Tryz.laysM171_ren := {
 mixed := by kernel_rfl
 f129 := Tryz.func236.trans (congrArg some (by kernel_rfl))
 f171 := Tryz.func185.trans (congrArg some (by kernel_rfl))
 f243 := Tryz.func202.trans (congrArg some (by kernel_rfl))
 f246 := Tryz.func219.trans (congrArg some (by kernel_rfl))
 f283 := Tryz.func227.trans (congrArg some (by kernel_rfl))
 f284 := Tryz.func228.trans (congrArg some (by kernel_rfl))
 f285 := Tryz.func229.trans (congrArg some (by kernel_rfl))
 f286 := Tryz.func230.trans (congrArg some (by kernel_rfl))
 f317 := Tryz.func235.trans (congrArg some (by kernel_rfl))
 f318 := Tryz.func237.trans (congrArg some (by kernel_rfl))
 f319 := Tryz.func238.trans (congrArg some (by kernel_rfl))
 f320 := Tryz.func239.trans (congrArg some (by kernel_rfl))
 f337 := Tryz.func240.trans (congrArg some (by kernel_rfl))
 f338 := Tryz.func241.trans (congrArg some (by kernel_rfl))
 t0 := Tryz.underlying0
 a0 := Tryz.isAgg0
 z0 := Tryz.sizeOf0
 v0 := Tryz.zeroValue0
 t2 := Tryz.underlying2
 a2 := Tryz.isAgg2
 z2 := Tryz.sizeOf2
 v2 := Tryz.zeroValue2
 t3 := Tryz.underlying3
 a3 := Tryz.isAgg3
 z3 := Tryz.sizeOf3
 v3 := Tryz.zeroValue3
 t4 := Tryz.underlying4
 a4 := Tryz.isAgg4
 z4 := Tryz.sizeOf4
 v4 := Tryz.zeroValue4
 t5 := Tryz.underlying5
 a5 := Tryz.isAgg5
 z5 := Tryz.sizeOf5
 v5 := Tryz.zeroValue5
 t9 := Tryz.underlying9
 a9 := Tryz.isAgg9
 z9 := Tryz.sizeOf9
 v9 := Tryz.zeroValue9
 t20 := Tryz.underlying20
 a20 := Tryz.isAgg20
 z20 := Tryz.sizeOf20
 v20 := Tryz.zeroValue20
 t37 := Tryz.underlying192
 a37 := Tryz.isAgg192
 z37 := Tryz.sizeOf192
 v37 := Tryz.zeroValue192
 t46 := Tryz.underlying236
 a46 := Tryz.isAgg236
 z46 := Tryz.sizeOf236
 v46 := Tryz.zeroValue236
 t51 := Tryz.underlying250
 a51 := Tryz.isAgg250
 z51 := Tryz.sizeOf250
 v51 := Tryz.zeroValue250
 t53 := Tryz.underlying238
 a53 := Tryz.isAgg238
 z53 := Tryz.sizeOf238
 v53 := Tryz.zeroValue238
 t171 := Tryz.underlying237
 a171 := Tryz.isAgg237
 z171 := Tryz.sizeOf237
 v171 := Tryz.zeroValue237
 t173 := Tryz.underlying241
 a173 := Tryz.isAgg241
 z173 := Tryz.sizeOf241
 v173 := Tryz.zeroValue241
 t212 := Tryz.underlying254
 a212 := Tryz.isAgg254
 z212 := Tryz.sizeOf254
 v212 := Tryz.zeroValue254
 t213 := Tryz.underlying255
 a213 := Tryz.isAgg255
 z213 := Tryz.sizeOf255
 t232 := Tryz.underlying258
 a232 := Tryz.isAgg258
 z232 := Tryz.sizeOf258
 v232 := Tryz.zeroValue258
 t233 := Tryz.underlying259
 a233 := Tryz.isAgg259
 z233 := Tryz.sizeOf259
 v233 := Tryz.zeroValue259
 g17 := by kernel_rfl
 g18 := by kernel_rfl
 g19 := by kernel_rfl
 i0 := by kernel_rfl
 i2 := by kernel_rfl
 i3 := by kernel_rfl
 i4 := by kernel_rfl
 i5 := by kernel_rfl
 i9 := by kernel_rfl
 i20 := by kernel_rfl
 i37 := by kernel_rfl
 i46 := by kernel_rfl
 i51 := by kernel_rfl
 i53 := by kernel_rfl
 i171 := by kernel_rfl
 i173 := by kernel_rfl
 i212 := by kernel_rfl
 i232 := by kernel_rfl
 i233 := by kernel_rfl
 m17 := by kernel_rfl
 m18 := by kernel_rfl
 m19 := by kernel_rfl }
open Go.RowKit Go.Sort Go.Lib in
theorem Tryz.strconv_Itoa (n : Int) (h0 : -9223372036854775808 ≤ n) (h1 : n ≤ 9223372036854775807) (w : World) (htab : Lib.TabIs Tryz.prog w "internal/strconv.uint64pow10" .u64 Lib.pow10Tab) :
  Calls Tryz.prog 185 #[.int .i64 n] w fun e w' => e = .returned (.string ⟨(Lib.itoa n).toArray⟩) ∧ ∃ k os, w' = grow (w.drewN k) os := Any.strconv_Itoa Tryz.laysM171 n h0 h1 w htab
def Tryz.lays146_ren : Go.Shelf.Ren := ⟨fun | 146 => 158 | 221 => 183 | 268 => 199 | 138 => 200 | 143 => 201 | 195 => 215 | 197 => 216 | 218 => 217 | 219 => 218 | 260 => 222 | 217 => 223 | 225 => 224 | 224 => 225 | 267 => 226 | 266 => 233 | 314 => 234 | n => n, fun | 9 => 9 | 31 => 151 | 3 => 3 | 4 => 4 | 0 => 0 | 105 => 231 | 21 => 21 | 5 => 5 | 46 => 236 | 119 => 246 | 139 => 249 | 138 => 248 | 146 => 251 | 51 => 250 | n => n, fun | 1 => 0 | 3 => 1 | 4 => 2 | n => n⟩
theorem Tryz.lays146 : Go.Proofs.Lays.n146 Tryz.prog Tryz.lays146_ren := {
 mixed := by kernel_rfl
 f138 := Tryz.func200.trans (congrArg some (by kernel_rfl))
 f143 := Tryz.func201.trans (congrArg some (by kernel_rfl))
 f146 := Tryz.func158.trans (congrArg some (by kernel_rfl))
 f195 := Tryz.func215.trans (congrArg some (by kernel_rfl))
 f197 := Tryz.func216.trans (congrArg some (by kernel_rfl))
 f217 := Tryz.func223.trans (congrArg some (by kernel_rfl))
 f218 := Tryz.func217.trans (congrArg some (by kernel_rfl))
 f219 := Tryz.func218.trans (congrArg some (by kernel_rfl))
 f221 := Tryz.func183.trans (congrArg some (by kernel_rfl))
 f224 := Tryz.func225.trans (congrArg some (by kernel_rfl))
 f225 := Tryz.func224.trans (congrArg some (by kernel_rfl))
 f260 := Tryz.func222.trans (congrArg some (by kernel_rfl))
 f266 := Tryz.func233.trans (congrArg some (by kernel_rfl))
 f267 := Tryz.func226.trans (congrArg some (by kernel_rfl))
 f268 := Tryz.func199.trans (congrArg some (by kernel_rfl))
 f314 := Tryz.func234.trans (congrArg some (by kernel_rfl))
 t0 := Tryz.underlying0
 a0 := Tryz.isAgg0
 z0 := Tryz.sizeOf0
 v0 := Tryz.zeroValue0
 t3 := Tryz.underlying3
 a3 := Tryz.isAgg3
 z3 := Tryz.sizeOf3
 v3 := Tryz.zeroValue3
 t4 := Tryz.underlying4
 a4 := Tryz.isAgg4
 z4 := Tryz.sizeOf4
 v4 := Tryz.zeroValue4
 t5 := Tryz.underlying5
 a5 := Tryz.isAgg5
 z5 := Tryz.sizeOf5
 v5 := Tryz.zeroValue5
 t9 := Tryz.underlying9
 a9 := Tryz.isAgg9
 z9 := Tryz.sizeOf9
 v9 := Tryz.zeroValue9
 t21 := Tryz.underlying21
 a21 := Tryz.isAgg21
 z21 := Tryz.sizeOf21
 v21 := Tryz.zeroValue21
 t31 := Tryz.underlying151
 a31 := Tryz.isAgg151
 z31 := Tryz.sizeOf151
 v31 := Tryz.zeroValue151
 t46 := Tryz.underlying236
 a46 := Tryz.isAgg236
 z46 := Tryz.sizeOf236
 v46 := Tryz.zeroValue236
 t51 := Tryz.underlying250
 a51 := Tryz.isAgg250
 z51 := Tryz.sizeOf250
 v51 := Tryz.zeroValue250
 t105 := Tryz.underlying231
 a105 := Tryz.isAgg231
 z105 := Tryz.sizeOf231
 v105 := Tryz.zeroValue231
 t119 := Tryz.underlying246
 a119 := Tryz.isAgg246
 z119 := Tryz.sizeOf246
 t138 := Tryz.underlying248
 a138 := Tryz.isAgg248
 z138 := Tryz.sizeOf248
 v138 := Tryz.zeroValue248
 t139 := Tryz.underlying249
 a139 := Tryz.isAgg249
 z139 := Tryz.sizeOf249
 v139 := Tryz.zeroValue249
 t146 := Tryz.underlying251
 a146 := Tryz.isAgg251
 z146 := Tryz.sizeOf251
 v146 := Tryz.zeroValue251
 g1 := by kernel_rfl
 g3 := by kernel_rfl
 g4 := by kernel_rfl }
open Go.RowKit Go.Lib in
theorem Tryz.strings_Split (s sep : ByteArray) (m : Int) (w : World) (hs : s.size < 4294967281) (hm : w.cell? ⟨0, 0, none⟩ = some (.int .i64 m)) (h1 : 1 ≤ sep.size) :
  Calls Tryz.prog 158 #[.string s, .string sep] w fun e w' =>
   e = .returned (.slice (some ⟨w.heap.size, 0, none⟩) (Lib.countB s sep + 1) (Lib.countB s sep + 1)) ∧ w' = w.alloc (.cells ((Lib.splitB sep 0 (Lib.countB s sep) s).map Value.string).toArray 9) := Any.strings_Split Tryz.lays146 (by kernel_rfl) s sep m w hs hm h1
end Go.Proofs
namespace Go.Proofs.YtcbodpnmndbgnaaGreatDoor
open Go.RowKit
open Sp (rd)
structure Env (w : World) : Prop where
 tab : Lib.TabIs Tryz.prog w "internal/strconv.uint64pow10" .u64 Lib.pow10Tab
 max : ∃ m : Int, w.cell? ⟨0, 0, none⟩ = some (.int .i64 m)
theorem Env.ext {w w1 : World} (h : Env w) (he : Ext w w1) : Env w1 :=
 ⟨Lib.tabBelow_of_tabIs h.tab w1 he, let ⟨m, hm⟩ := h.max; ⟨m, he.cell hm⟩⟩
def bs (l : Bs) : ByteArray := ⟨l.toArray⟩
theorem bs_size (l : Bs) : (bs l).size = l.length := by simp [bs, ByteArray.size]
theorem bs_add (a b : Bs) : bs a ++ bs b = bs (a ++ b) := by
 apply ByteArray.ext
 simp [bs]
theorem add_str (a b : Bs) (h : a.length + b.length ≤ 9223372036854775807) (w : World) : (Op.stringOp .add (bs a) (bs b)).run Tryz.prog w = .ok (.string (bs (a ++ b))) w := by
 rw [run_string_add_sum _ _ _ (by rw [bs_size, bs_size]; exact h), bs_add]
theorem itoa_any (n : Int) (w : World) (hV : Env w) (h0 : -9223372036854775808 ≤ n) (h1 : n ≤ 9223372036854775807) :
  Calls Tryz.prog 185 #[.int .i64 n] w fun e w' => e = .returned (.string (bs (Lib.itoa n))) ∧ Ext w w' :=
 (Tryz.strconv_Itoa n h0 h1 w hV.tab).mono fun _ _ ⟨he, k, os, hw⟩ => ⟨he, by rw [hw]; exact Lib.below_grow _ w (Nat.le_refl _) k os⟩
def strCells1 (l : List Bs) : List Value := l.map fun x => .string (bs x)
theorem info_string : (Tryz.prog.info? 9).map (fun i => (i.zero, i.size, i.bytes)) = some (some (.string ⟨#[]⟩), 1, 16) := by kernel_rfl
def Strs (w : World) (A : Option Addr) (l : List Bs) : Prop :=
 0 < l.length → ∃ b o, A = some ⟨b, o, none⟩ ∧ ∀ k, k < l.length → w.cell? ⟨b, o + k, none⟩ = some (.string (bs (l.getD k [])))
theorem Strs.ext {w w' : World} {A : Option Addr} {l : List Bs} (h : Strs w A l) (he : Ext w w') : Strs w' A l := fun h0 =>
 let ⟨b, o, e, hc⟩ := h h0
 ⟨b, o, e, fun k hk => he.cell (hc k hk)⟩
theorem Strs.of_own {w : World} {base : Nat} {v : Value} {l : List Bs} (h : w.ownsRow base 9 1 v l.length (strCells1 l)) : ∃ A c, v = .slice A l.length c ∧ l.length ≤ c ∧ Strs w A l := by
 rcases h.2 with ⟨rfl, h0⟩ | ⟨g, cap, cur, hv, _, _, hn, _⟩
 ·exact ⟨none, 0, by rw [h0], by omega, fun hh => by omega⟩
 ·refine ⟨some ⟨g, 0, none⟩, cap, hv, hn, fun _ => ⟨g, 0, rfl, fun k hk => ?_⟩⟩
  have hc := h.cells (g := g) (by rw [hv]; rfl)
  have h1 := hc k (.string (bs (l.getD k []))) (by simp [strCells1, hk])
  rw [add0] at h1
  simpa using h1
theorem ownsRow_new (w : World) (t : TypeId) (cs : Array Value) (n base : Nat) (hn : cs.size = n) (hm : n ≤ maxLen) (hb : base ≤ w.heap.size) :
  (w.alloc (.cells cs t)).ownsRow base t 1 (.slice (some ⟨w.heap.size, 0, none⟩) n n) n cs.toList := by
 refine ⟨by simp [hn], .inr ⟨w.heap.size, n, cs, rfl, hb, heap_alloc_new w _, Nat.le_refl _, hm, by omega, ?_⟩⟩
 rw [Nat.mul_one, List.take_of_length_le (by simp [hn])]
theorem join_length (c : UInt8) (l : List Bs) (B : Nat) (h : ∀ x ∈ l, x.length ≤ B) : (Lib.join l [c]).length ≤ l.length * (B + 1) := by
 cases l with
 | nil => simp [Lib.join_nil]
 | cons x r =>
  rw [Lib.join_cons, List.length_append]
  have h1 := h x (by simp)
  have h2 : (Lib.joinTail [c] r).length ≤ r.length * (B + 1) := by
   have hr : ∀ y ∈ r, y.length ≤ B := fun y hy => h y (by simp [hy])
   clear h h1
   induction r with
   | nil => simp [Lib.joinTail]
   | cons y r ih =>
    have h3 := ih (fun z hz => hr z (by simp [hz]))
    have h4 := hr y (by simp)
    simp only [Lib.joinTail, List.map_cons, List.flatten_cons, List.length_append, List.length_cons, List.length_nil] at h3 ⊢
    rw [Nat.succ_mul]
    omega
  rw [List.length_cons, Nat.succ_mul]
  omega
theorem bs_get (y : Bs) (j : Nat) (h : j < (bs y).size) : (bs y)[j] = y.getD j 0 := by
 have h' : j < y.length := by rw [bs_size] at h; exact h
 rw [List.getD_eq_getElem?_getD, List.getElem?_eq_getElem h']
 rfl
theorem index_bs (y : Bs) (j : Nat) (h : j < y.length) (w : World) : (Instr.index 9 (.string (bs y)) (.int .i64 (j : Int))).run Tryz.prog w = .ok (.int .u8 ((y.getD j 0).toNat : Int)) w := by
 have hs := bs_size y
 rw [run_index_string _ _ _ _ _ Tryz.underlying9, dif_pos ⟨by omega, by omega⟩]
 have e := bs_get y j (by omega)
 simp only [Int.toNat_natCast, e]
theorem join_any (A : Option Addr) (c : Nat) (L : List Bs) (w : World) (h : Strs w A L) (hc : L.length ≤ c) (hl : L.length ≤ 100000) (hj : (Lib.join L [10]).length ≤ 140737488355328) :
  Calls Tryz.prog 186 #[.slice A L.length c, .string ⟨#[10]⟩] w fun e w' => e = .returned (.string (bs (Lib.join L [10]))) ∧ Ext w w' := by
 rcases Nat.eq_zero_or_pos L.length with h0 | h0
 ·obtain rfl := List.eq_nil_of_length_eq_zero h0
  exact (Tryz.strings_Join_none A c _ w).mono fun _ _ ⟨he, hw⟩ => ⟨he, Ext.rfl_of hw.symm⟩
 ·obtain ⟨b, o, rfl, hc'⟩ := h h0
  have hm : (L.map bs).map (·.data.toList) = L := by
   rw [List.map_map]
   exact List.map_id L
  have := Tryz.strings_Join b o c (L.map bs) ⟨#[10]⟩ w (fun j x hx => by
   obtain ⟨y, hy, rfl⟩ := List.getElem?_map .. ▸ hx |> Option.map_eq_some_iff.1
   have hj : j < L.length := (List.getElem?_eq_some_iff.1 hy).1
   have e := hc' j hj
   rw [List.getD_eq_getElem?_getD, hy] at e
   exact e) (lt_of_cell (hc' 0 h0)) (by rw [List.length_map]; omega) (by rw [List.length_map]; exact hc) (by rw [hm]; exact hj)
  rw [hm, List.length_map] at this
  exact this
theorem itoa_as (n : Int) (I : Bs) (w : World) (hI : Lib.itoa n = I) (hV : Env w) (h0 : -9223372036854775808 ≤ n) (h1 : n ≤ 9223372036854775807) :
  Calls Tryz.prog 185 #[.int .i64 n] w fun e w' => e = .returned (.string (bs I)) ∧ Ext w w' := by
 rw [← hI]
 exact itoa_any n w hV h0 h1
theorem all_take_succ {l : Bs} {k : Nat} (hk : k < l.length) (h : (l.take k).all isDig = true) (hd : isDig (l.getD k 0) = true) : (l.take (k + 1)).all isDig = true := by
 rw [List.take_succ_eq_append_getElem hk, List.all_append, h]
 rw [List.getD_eq_getElem?_getD, List.getElem?_eq_getElem hk] at hd
 simpa using hd
theorem all_no_at {l : Bs} {k : Nat} (hk : k < l.length) (hd : isDig (l.getD k 0) = false) : l.all isDig = false := by
 refine Bool.eq_false_iff.2 fun h => ?_
 rw [List.all_eq_true] at h
 have := h _ (List.getElem_mem hk)
 rw [List.getD_eq_getElem?_getD, List.getElem?_eq_getElem hk] at hd
 simp only [Option.getD_some] at hd
 rw [this] at hd; cases hd
theorem dec_bs (D : Bs) (pos : Nat) (h : pos < D.length) : ((D.getD pos 0).toNat < 128 → Utf8.decode (bs D) pos = ((D.getD pos 0).toNat, 1)) ∧ (128 ≤ (D.getD pos 0).toNat → 128 ≤ (Utf8.decode (bs D) pos).1) := by
 have hs : pos < (bs D).size := by rw [bs_size]; exact h
 have e := bs_get D pos hs
 constructor
 ·intro h1
  have := decode_ascii (bs D) pos hs (by rw [e]; exact h1)
  rw [e] at this
  exact this
 ·intro h1
  exact (decode_high (bs D) pos hs (by rw [e]; exact h1)).1
theorem digN_take (l : Bs) (n k : Nat) (h : k ≤ n) : digN (l.take n) k = digN l k := by
 induction k with
 | zero => rfl
 | succ k ih =>
  rw [digN, digN, ih (by omega)]
  congr 3
  rw [List.getD_eq_getElem?_getD, List.getD_eq_getElem?_getD, List.getElem?_take, if_pos (by omega)]
theorem toList_bs (a : Bs) : (bs a).toList = a := Lib.toList_data (bs a)
theorem of_data {l : List ByteArray} {m : List Bs} (h : l.map (·.data.toList) = m) : l = m.map bs := by
 subst h
 rw [List.map_map]
 exact (List.map_id l).symm
theorem split_any (c : UInt8) (x : Bs) (w : World) (hV : Env w) (hx : x.length ≤ 100000) :
  Calls Tryz.prog 158 #[.string (bs x), .string ⟨#[c]⟩] w fun e w' => e = .returned (.slice (some ⟨w.heap.size, 0, none⟩) (sp1 c x).length (sp1 c x).length) ∧ w' = w.alloc (.cells (strCells1 (sp1 c x)).toArray 9) := by
 obtain ⟨m, hm⟩ := hV.max
 have hn : Lib.countB (bs x) ⟨#[c]⟩ + 1 = (sp1 c x).length := by
  rw [sp1_length]
  show Lib.count x [c] + 1 = _
  rw [Lib.count_one]
 have hl : Lib.splitB ⟨#[c]⟩ 0 (Lib.countB (bs x) ⟨#[c]⟩) (bs x) = (sp1 c x).map bs := by
  refine of_data ?_
  rw [Lib.splitB_data]
  exact splitK_sp1 c x
 have := Tryz.strings_Split (bs x) ⟨#[c]⟩ m w (by rw [bs_size]; omega) hm (by simp [ByteArray.size])
 rw [hn, hl] at this
 rw [List.map_map] at this
 exact this
theorem sp1_le (c : UInt8) (x : Bs) : ∀ y ∈ sp1 c x, y.length ≤ x.length := by
 induction x with
 | nil => simp [sp1]
 | cons b x ih =>
  intro y hy
  unfold sp1 at hy
  split at hy
  ·rcases List.mem_cons.1 hy with rfl | hy
   ·simp
   ·have := ih y hy; simp; omega
  ·rcases List.mem_cons.1 hy with rfl | hy
   ·have hne := sp1_ne c x
    cases hs : sp1 c x with
    | nil => exact absurd hs hne
    | cons a t =>
     have := ih a (by rw [hs]; simp)
     simpa using this
   ·have := ih y (List.mem_of_mem_tail hy); simp; omega
end Go.Proofs.YtcbodpnmndbgnaaGreatDoor
namespace Go.Proofs.YtcbodpnmndbgnaaGreatDoor
open Go.RowKit
open Sp (rd)
open Ec (wEcl wNew wFull eWord eLine tabE checkE textE numE numFineE parseE midE eclP EclNum)
theorem e_sure_ok (s : ByteArray) (w : World) : Calls Tryz.prog 159 #[.bool true, .string s] w fun e w' => e = .returned (.tuple #[]) ∧ w = w' := by
 go_enter Tryz.func159, Tryz.ntmps159
 go_wp2
 go_end0
 exact ⟨rfl, rfl⟩
theorem e_sure_no (s : ByteArray) (w : World) : Calls Tryz.prog 159 #[.bool false, .string s] w fun e w' => e = .panicked [{ v := .iface 147 (.agg #[.string s]), recovered := false }] ∧ w = w' := by
 go_enter Tryz.func159, Tryz.ntmps159
 go_wp2
 exact ⟨rfl, rfl, rfl⟩
theorem pickW0 (x0 x1 : Value) (w : World) : (Instr.index 205 (.agg #[x0, x1]) (.int .i64 0)).run Tryz.prog w = .ok x0 w := by kernel_rfl
theorem pickW1 (x0 x1 : Value) (w : World) : (Instr.index 205 (.agg #[x0, x1]) (.int .i64 1)).run Tryz.prog w = .ok x1 w := by kernel_rfl
theorem words_results (tmps : Array Value) (W : World) (b : Nat) (x y : Value) (h0 : tmps[0]?.getD undef = .pointer (some ⟨b, 0, none⟩)) (c0 : W.cell? ⟨b, 0, none⟩ = some x) (c1 : W.cell? ⟨b, 1, none⟩ = some y) : (results Tryz.f184 tmps).run Tryz.prog W = .ok (.agg #[x, y]) W := by
 simp [results, Tryz.results184, asAddr, go_sem, h0, c0, c1]
theorem e_words_any (w : World) : Calls Tryz.prog 184 #[] w fun e w' => e = .returned (.agg #[.string (bs wNew), .string (bs wFull)]) ∧ Ext w w' := by
 have h2 := Row.new w 205 #[.string (bs wNew), .string (bs wFull)]
 go_enter Tryz.func184, Tryz.ntmps184
 go_wp2_with fail
 exact bodyPost_ret (words_results _ _ w.heap.size _ _ rfl (h2.cell 0) (h2.cell 1)) rfl ⟨rfl, (Ext.refl w).alloc _⟩
theorem e_word_any (full : Bool) (w : World) : Calls Tryz.prog 160 #[.bool full] w fun e w' => e = .returned (.string (bs (eWord full))) ∧ Ext w w' := by
 have p0 := pickW0
 have p1 := pickW1
 cases full
 ·go_enter Tryz.func160, Tryz.ntmps160
  go_wp2_with fail
  refine (e_words_any _).mono ?_
  rintro e w1 ⟨rfl, hE⟩
  go_wp2_with fail
  go_ret
  exact ⟨rfl, hE⟩
 ·go_enter Tryz.func160, Tryz.ntmps160
  go_wp2_with fail
  refine (e_words_any _).mono ?_
  rintro e w1 ⟨rfl, hE⟩
  go_wp2_with fail
  go_ret
  exact ⟨rfl, hE⟩
def NumPostE (w : World) (x : Bs) (e : Ending) (w' : World) : Prop := Ext w w' ∧
 ((∃ n, numE x = some n ∧ e = .returned (.int .i64 n)) ∨ (numE x = none ∧ ∃ y, e = .panicked [{ v := .iface 147 (.agg #[.string y]), recovered := false }]))
theorem numE_no {x : Bs} (h : x.all isDig = false ∨ ¬ x.length ≤ 5 ∨ x = [] ∨ Lib.itoa (digV x : Int) ≠ x) : numE x = none := by
 unfold numE numFineE
 rw [if_neg]
 intro hf
 simp only [Bool.and_eq_true, decide_eq_true_eq, beq_iff_eq] at hf
 obtain ⟨⟨⟨h1, h2⟩, h3⟩, h4⟩ := hf
 rcases h with h | h | h | h
 ·rw [h1] at h; cases h
 ·exact h h2
 ·rw [h] at h3; cases h3
 ·exact h h4
theorem numE_yes {x : Bs} (h1 : x.all isDig = true) (h2 : x.length ≤ 5) (h3 : x ≠ []) (h4 : Lib.itoa (digV x : Int) = x) : numE x = some (digV x : Int) := by
 unfold numE numFineE
 rw [if_pos]
 rw [h1, h4]
 have : x.isEmpty = false := by simpa using h3
 simp [h2, this]
set_option maxRecDepth 100000 in
set_option maxHeartbeats 1000000 in
theorem e_number_any (D : Bs) (w : World) (hV : Env w) (hx : D.length ≤ 100000) : Calls Tryz.prog 161 #[.string (bs D)] w (NumPostE w D) := by
 have HV := Lib.hid hV
 clear hV
 have hsD : (bs D).size = D.length := bs_size D
 go_enter Tryz.func161, Tryz.ntmps161
 go_wp2_with fail
 go_loopw [3] (fun v wr => ∃ pos : Nat, pos ≤ D.length ∧ wr = w.iter (bs D) pos ∧ v = .int .i64 ((digN D pos : Nat) : Int) ∧ (D.take pos).all isDig = true ∧ (0 < pos → D.length ≤ 5)) (fun _ wr => D.length - wr.iterPos w.heap.size)
 case atStart => exact ⟨0, Nat.zero_le _, rfl, rfl, by simp, fun h => by omega⟩
 case round =>
  obtain ⟨pos, hp, rfl, rfl, hall, h5⟩ := hrel
  have HALL := Lib.hid hall
  have H5 := Lib.hid h5
  clear hall h5
  by_cases hlt : pos < D.length
  ·have hdec := dec_bs D pos hlt
   have hnx : ∀ ty, (Instr.next (.pointer (some ⟨w.heap.size, 0, none⟩)) true ty).run Tryz.prog (w.iter (bs D) pos) = _ := fun ty => run_next_any w (bs D) pos ty (by rw [bs_size]; exact hlt)
   cases hd : isDig (D.getD pos 0)
   ·have HNO : Hid (numE D = none) := Lib.hid (numE_no (.inl (all_no_at hlt hd)))
    have hr : ((Utf8.decode (bs D) pos).1 : Int) < 48 ∨ 57 < ((Utf8.decode (bs D) pos).1 : Int) := by
     rcases Nat.lt_or_ge (D.getD pos 0).toNat 128 with h1 | h1
     ·rw [hdec.1 h1]
      unfold isDig at hd
      simp only [Bool.and_eq_false_iff, decide_eq_false_iff_not] at hd
      show (((D.getD pos 0).toNat : Nat) : Int) < 48 ∨ _
      omega
     ·have := hdec.2 h1; omega
    generalize (Utf8.decode (bs D) pos).1 = r at *
    generalize (Utf8.decode (bs D) pos).2 = wd at *
    clear hdec hd
    rcases hr with hr | hr
    ·go_wp2_with fail
     refine (e_sure_no _ _).mono ?_
     rintro e w1 ⟨rfl, rfl⟩
     exact ⟨rfl, (Ext.refl w).alloc _, .inr ⟨HNO.out, _, rfl⟩⟩
    ·have hr2 : (48 : Int) ≤ (r : Int) := by omega
     have hr3 : ¬ ((r : Int) ≤ 57) := by omega
     have hr4 : ¬ ((r : Int) < 48) := by omega
     clear hr
     go_wp2_with fail
     refine (e_sure_no _ _).mono ?_
     rintro e w1 ⟨rfl, rfl⟩
     exact ⟨rfl, (Ext.refl w).alloc _, .inr ⟨HNO.out, _, rfl⟩⟩
   ·have hdd : 48 ≤ (D.getD pos 0).toNat ∧ (D.getD pos 0).toNat ≤ 57 := by
     unfold isDig at hd
     simpa using hd
    rw [hdec.1 (by omega)] at hnx
    have HDIG := Lib.hid hd
    have HSTEP : Hid (digN D (pos + 1) = 10 * digN D pos + ((D.getD pos 0).toNat - 48)) := Lib.hid rfl
    obtain ⟨r, hr⟩ : ∃ r, (D.getD pos 0).toNat = r := ⟨_, rfl⟩
    rw [hr] at hnx hdd HSTEP
    have hr1 : (48 : Int) ≤ (r : Int) := by omega
    have hr2 : (r : Int) ≤ 57 := by omega
    have hr3 : ¬ ((r : Int) < 48) := by omega
    by_cases h5 : D.length ≤ 5
    ·have hlt10 := digN_lt (D.take pos) HALL.out pos (by rw [List.length_take]; omega)
     have hpos5 : 10 ^ pos ≤ 10 ^ 5 := Nat.pow_le_pow_right (by omega) (by omega)
     have hdt : digN (D.take pos) pos = digN D pos := digN_take D pos pos (Nat.le_refl _)
     rw [hdt] at hlt10
     have h5' : (D.length : Int) ≤ 5 := by omega
     have hn9 : ((digN D pos : Nat) : Int) ≤ 100000 := by omega
     obtain ⟨n, hn⟩ : ∃ n, digN D pos = n := ⟨_, rfl⟩
     rw [hn] at hn9 HSTEP ⊢
     have HLT := Lib.hid hlt
     have HH5 := Lib.hid h5
     have HDD := Lib.hid hdd
     clear hdec hr hn hlt10 hpos5 hdt hlt hd hdd h5 hp
     go_wp2_with fail
     refine (e_sure_ok _ _).mono ?_
     rintro e w1 ⟨rfl, rfl⟩
     go_wp2_with fail
     go_roundw
     case rel =>
      refine ⟨pos + 1, HLT.out, rfl, ?_, all_take_succ HLT.out HALL.out HDIG.out, fun _ => HH5.out⟩
      rw [HSTEP.out]
      refine congrArg (Value.int .i64) ?_
      have := HDD.out
      omega
     case measure => have := HLT.out; simp; omega
    ·have HNO : Hid (numE D = none) := Lib.hid (numE_no (.inr (.inl h5)))
     have h5' : ¬ ((D.length : Int) ≤ 5) := by omega
     clear hdec hr hlt hd h5 hdd
     go_wp2_with fail
     refine (e_sure_no _ _).mono ?_
     rintro e w1 ⟨rfl, rfl⟩
     exact ⟨rfl, (Ext.refl w).alloc _, .inr ⟨HNO.out, _, rfl⟩⟩
  ·obtain rfl : pos = D.length := by omega
   have hnx : ∀ ty, (Instr.next (.pointer (some ⟨w.heap.size, 0, none⟩)) true ty).run Tryz.prog (w.iter (bs D) D.length) = _ := fun ty => run_next_end w (bs D) D.length ty (by rw [bs_size]; omega)
   have hall := HALL.out
   rw [List.take_length] at hall
   have hEi : Ext w (w.iter (bs D) D.length) := (Ext.refl w).alloc _
   by_cases hne : D = []
   ·have HNO : Hid (numE D = none) := Lib.hid (numE_no (.inr (.inr (.inl hne))))
    have e1 : (bs D).toList.isEmpty = true := by rw [toList_bs, hne]; rfl
    have e2 : ((bs D).toList == []) = true := by rw [toList_bs, hne]; rfl
    have e3 : (bs D).toList = [] := by rw [toList_bs, hne]
    clear hlt hp HALL H5 hall hne
    go_wp2_with fail
    refine (e_sure_no _ _).mono ?_
    rintro e w1 ⟨rfl, rfl⟩
    exact ⟨rfl, hEi, .inr ⟨HNO.out, _, rfl⟩⟩
   ·have h5 : D.length ≤ 5 := H5.out (List.length_pos_iff.2 hne)
    have hlt10 := digN_lt D hall D.length (Nat.le_refl _)
    have hpos5 : 10 ^ D.length ≤ 10 ^ 5 := Nat.pow_le_pow_right (by omega) h5
    have hn9 : ((digN D D.length : Nat) : Int) ≤ 100000 := by omega
    have e1 : (bs D).toList.isEmpty = false := by rw [toList_bs]; simpa using hne
    have e2 : ((bs D).toList == []) = false := by rw [toList_bs]; simpa using hne
    have HNE := Lib.hid hne
    have HA := Lib.hid hall
    have H55 := Lib.hid h5
    have HVAL : Hid (digV D = digN D D.length) := Lib.hid rfl
    clear hlt hp HALL H5 hall hne hlt10 hpos5 h5
    obtain ⟨n, hn⟩ : ∃ n, digN D D.length = n := ⟨_, rfl⟩
    rw [hn] at hn9 HVAL ⊢
    obtain ⟨I, hI⟩ : ∃ I, Lib.itoa ((n : Int)) = I := ⟨_, rfl⟩
    have HI := Lib.hid hI
    clear hn hI
    go_wp2_with fail
    refine (itoa_as _ I _ HI.out (HV.out.ext hEi) (by omega) (by omega)).mono ?_
    rintro e w1 ⟨rfl, hE1⟩
    have HE1 := Lib.hid (hEi.trans hE1)
    clear hE1
    by_cases hIx : I = D
    ·have hq : ((bs I).toList == (bs D).toList) = true := by rw [hIx]; simp
     have HYES : Hid (numE D = some ((n : Int))) := Lib.hid (by
      rw [numE_yes HA.out H55.out HNE.out (by rw [HVAL.out, HI.out]; exact hIx), HVAL.out])
     clear hIx
     go_wp2_with fail
     refine (e_sure_ok _ _).mono ?_
     rintro e w2 ⟨rfl, rfl⟩
     go_wp2_with fail
     go_ret
     exact ⟨HE1.out, .inl ⟨_, HYES.out, rfl⟩⟩
    ·have hq : ((bs I).toList == (bs D).toList) = false := by rw [toList_bs, toList_bs]; simpa using hIx
     have HNO : Hid (numE D = none) := Lib.hid (numE_no (.inr (.inr (.inr (by rw [HVAL.out, HI.out]; exact hIx)))))
     clear hIx
     go_wp2_with fail
     refine (e_sure_no _ _).mono ?_
     rintro e w2 ⟨rfl, rfl⟩
     exact ⟨rfl, HE1.out, .inr ⟨HNO.out, _, rfl⟩⟩
theorem sumN_bound (x : Bs) (i k : Nat) (hx : x.length ≤ 23000) (hk : k ≤ x.length) (hi : i ≤ 1002) : sumN x i k ≤ 136000000000000 := by
 have h1 := sumN_le x i k 23000 (by omega)
 have h2 : 255 * 23000 * (i + 1) ≤ 255 * 23000 * 1003 := Nat.mul_le_mul (Nat.le_refl _) (by omega)
 have h3 : k * (255 * 23000 * (i + 1)) ≤ 23000 * (255 * 23000 * 1003) := Nat.mul_le_mul (by omega) h2
 omega
theorem checkN_bound (l : List Bs) (i : Nat) (h : ∀ x ∈ l, x.length ≤ 23000) (hi : i ≤ l.length) (hl : l.length ≤ 1002) : checkN l i ≤ i * 136000000000000 := by
 induction i with
 | zero => simp [checkN]
 | succ i ih =>
  rw [checkN, Nat.succ_mul]
  have := ih (by omega)
  have hm : l.getD i [] ∈ l := by rw [List.getD_eq_getElem?_getD, List.getElem?_eq_getElem (by omega)]; exact List.getElem_mem (by omega)
  have := sumN_bound (l.getD i []) i (l.getD i []).length (h _ hm) (Nat.le_refl _) (by omega)
  omega
def EclAt (w : World) (A : Option Addr) (l : List Sp.Ecl) : Prop := 0 < l.length → ∃ b o, A = some ⟨b, o, none⟩ ∧ ∀ k, (hk : k < l.length) → w.cell? ⟨b, o + k * 3, none⟩ = some (.int .i64 l[k].day) ∧ w.cell? ⟨b, o + k * 3 + 1, none⟩ = some (.bool l[k].full) ∧ w.cell? ⟨b, o + k * 3 + 2, none⟩ = some (.int .i64 l[k].far)
theorem EclAt.ext {w w' : World} {A : Option Addr} {l : List Sp.Ecl} (h : EclAt w A l) (he : Ext w w') : EclAt w' A l := fun h0 =>
 let ⟨b, o, e2, hk⟩ := h h0
 ⟨b, o, e2, fun k hk' => ⟨he.cell (hk k hk').1, he.cell (hk k hk').2.1, he.cell (hk k hk').2.2⟩⟩
def linesE (l : List Sp.Ecl) (k : Nat) : List Bs := lineL wEcl [(l.length : Int)] :: (l.take k).map eLine
theorem linesE_succ (l : List Sp.Ecl) (k : Nat) (h : k < l.length) : linesE l (k + 1) = linesE l k ++ [eLine l[k]] := by
 simp only [linesE, List.take_succ_eq_append_getElem h, List.map_append, List.map_cons, List.map_nil, List.cons_append]
theorem linesE_all (l : List Sp.Ecl) : linesE l l.length = tabE l := by simp [linesE, tabE]
theorem itoa_small {n : Int} (h : 0 ≤ n) (h2 : n ≤ 99999) : (Lib.itoa n).length ≤ 21 := Lib.itoa_length_le n (by omega) (by omega)
theorem eWord_len (b : Bool) : (eWord b).length ≤ 4 := by cases b <;> decide
theorem eLine_is (e : Sp.Ecl) : eLine e = eWord e.full ++ [32] ++ Lib.itoa e.day ++ [32] ++ Lib.itoa e.far := by simp [eLine, lineL]
theorem tabE_short {l : List Sp.Ecl} (h : EclNum l) (hl : l.length ≤ 1000) : ∀ x ∈ tabE l, x.length ≤ 23000 := by
 intro x hx
 unfold tabE at hx
 rcases List.mem_cons.1 hx with rfl | hx
 ·have h1 := itoa_small (n := (l.length : Int)) (by omega) (by omega)
  have : wEcl.length = 8 := rfl
  simp only [lineL, List.map_cons, List.map_nil, List.flatten_cons, List.flatten_nil, List.length_append, List.length_cons, List.length_nil]
  omega
 ·obtain ⟨e, he, rfl⟩ := List.mem_map.1 hx
  have h1 := itoa_small (h.day e he).1 (h.day e he).2
  have h2 := itoa_small (h.far e he).1 (h.far e he).2
  have h3 := eWord_len e.full
  rw [eLine_is]
  simp only [List.length_append, List.length_cons, List.length_nil]
  omega
def TextRelE (W : World) (l : List Sp.Ecl) (v i : Value) (wr : World) : Prop :=
 ∃ k : Nat, k ≤ l.length ∧ i = .int .i64 k ∧ wr.ownsRow W.heap.size 9 1 v (k + 1) (strCells1 (linesE l k)) ∧ Ext W wr
set_option maxRecDepth 100000 in
set_option maxHeartbeats 1000000 in
theorem e_text_any (l : List Sp.Ecl) (A : Option Addr) (c : Nat) (w : World) (hV : Env w) (hm : EclAt w A l) (h : EclNum l) (hfew : l.length ≤ 1000) :
  Calls Tryz.prog 162 #[.slice A l.length c] w fun e w' => e = .returned (.string (bs (textE l))) ∧ Ext w w' := by
 have HV := Lib.hid hV
 have HM := Lib.hid hm
 have HS := Lib.hid h
 clear hV hm h
 obtain ⟨i0, hi0, hz0, hz1, hz2⟩ := info_parts info_string
 have hil := itoa_small (n := (l.length : Int)) (by omega) (by omega)
 have HL0 : Hid (lineL wEcl [(l.length : Int)] = [101, 99, 108, 105, 112, 115, 101, 115, 32] ++ Lib.itoa (l.length : Int)) := Lib.hid (by simp [lineL, wEcl])
 obtain ⟨I0, hI0⟩ : ∃ I0, Lib.itoa (l.length : Int) = I0 := ⟨_, rfl⟩
 rw [hI0] at HL0 hil
 have HI0 := Lib.hid hI0
 have g0 : ∀ W : World, (Op.stringOp .add ⟨#[101, 99, 108, 105, 112, 115, 101, 115, 32]⟩ (bs I0)).run Tryz.prog W = .ok (.string (bs ([101, 99, 108, 105, 112, 115, 101, 115, 32] ++ I0))) W := add_str [101, 99, 108, 105, 112, 115, 101, 115, 32] I0 (by simp; omega)
 obtain ⟨L0, hL0⟩ : ∃ L0, [101, 99, 108, 105, 112, 115, 101, 115, 32] ++ I0 = L0 := ⟨_, rfl⟩
 rw [hL0] at g0 HL0
 clear hI0 hL0
 go_enter Tryz.func162, Tryz.ntmps162
 go_wp2_with fail
 refine (itoa_as _ I0 _ HI0.out HV.out (by omega) (by omega)).mono ?_
 rintro e w1 ⟨rfl, hE1⟩
 have HE := Lib.hid hE1
 have hzz := hE1.size
 clear hE1
 go_wp2_with fail
 go_loopw [3, 17] (fun v i wr => TextRelE w1 l v i wr) (fun _ i _ => l.length - (intOf i).toNat)
 case atStart => exact ⟨0, Nat.zero_le _, rfl, by have := ownsRow_new w1 9 #[.string (bs L0)] 1 w1.heap.size rfl (by decide) (Nat.le_refl _); simpa [strCells1, linesE, HL0.out] using this, (Ext.refl w1).alloc _⟩
 case round =>
  obtain ⟨k, hk, rfl, hown, hX⟩ := hrel
  by_cases hlt : k < l.length
  ·obtain ⟨b, o, rfl, hc⟩ := (HM.out.ext (HE.out.trans hX)) (by omega)
   obtain ⟨q1, q2, q3⟩ := hc k hlt
   have hsz := hX.size
   have HSUCC := Lib.hid (linesE_succ l k hlt)
   have hmem := List.getElem_mem hlt
   have hn1 := HS.out.day _ hmem
   have hn2 := HS.out.far _ hmem
   have HX := Lib.hid hX
   have HOW := Lib.hid hown
   obtain ⟨m, hm⟩ : ∃ m, l[k] = m := ⟨_, rfl⟩
   rw [hm] at q1 q2 q3 HSUCC hn1 hn2
   have hli := eLine_is m
   have hw4 := eWord_len m.full
   have hd5 := itoa_small hn1.1 hn1.2
   have hf5 := itoa_small hn2.1 hn2.2
   have HWD : Hid (∀ W : World, Calls Tryz.prog 160 #[.bool m.full] W fun e w' => e = .returned (.string (bs (eWord m.full))) ∧ Ext W w') := Lib.hid fun W => e_word_any m.full W
   obtain ⟨md, mf, mr⟩ := m
   simp only at q1 q2 q3 hli hw4 hd5 hf5 hn1 hn2 HWD
   obtain ⟨W0, hW0⟩ : ∃ W0, eWord mf = W0 := ⟨_, rfl⟩
   obtain ⟨I1, hI1⟩ : ∃ I1, Lib.itoa md = I1 := ⟨_, rfl⟩
   obtain ⟨I2, hI2⟩ : ∃ I2, Lib.itoa mr = I2 := ⟨_, rfl⟩
   rw [hW0] at hli hw4 HWD
   rw [hI1] at hli hd5
   rw [hI2] at hli hf5
   have HI1 := Lib.hid hI1
   have HI2 := Lib.hid hI2
   have f1 : ∀ W : World, (Op.stringOp .add (bs W0) ⟨#[32]⟩).run Tryz.prog W = .ok (.string (bs (W0 ++ [32]))) W := add_str W0 [32] (by simp; omega)
   have f2 : ∀ W : World, (Op.stringOp .add (bs (W0 ++ [32])) (bs I1)).run Tryz.prog W = .ok (.string (bs (W0 ++ [32] ++ I1))) W := add_str _ _ (by simp; omega)
   have f3 : ∀ W : World, (Op.stringOp .add (bs (W0 ++ [32] ++ I1)) ⟨#[32]⟩).run Tryz.prog W = .ok (.string (bs (W0 ++ [32] ++ I1 ++ [32]))) W := add_str _ [32] (by simp; omega)
   have f4 : ∀ W : World, (Op.stringOp .add (bs (W0 ++ [32] ++ I1 ++ [32])) (bs I2)).run Tryz.prog W = .ok (.string (bs (W0 ++ [32] ++ I1 ++ [32] ++ I2))) W := add_str _ _ (by simp; omega)
   rw [← hli] at f4
   obtain ⟨x, hx⟩ : ∃ x, eLine ⟨md, mf, mr⟩ = x := ⟨_, rfl⟩
   rw [hx] at f4 HSUCC
   generalize W0 ++ [32] = T1 at f1 f2 f3 f4
   generalize T1 ++ I1 = T2 at f2 f3 f4
   generalize T2 ++ [32] = T3 at f3 f4
   clear hc hX hown hmem hm hli hW0 hI1 hI2 hx
   have z1 := lts (lt_of_cell q1)
   have HNr := Lib.hid (Row.new wr 59 #[.int .i64 md, .bool mf, .int .i64 mr])
   have HXa := Lib.hid (HX.out.alloc (.cells #[.int .i64 md, .bool mf, .int .i64 mr] 59))
   have hown3 := HOW.out.alloc (.cells #[.int .i64 md, .bool mf, .int .i64 mr] 59)
   have HO3 := Lib.hid hown3
   clear hown3
   go_wp2_with fail
   clear q1 q2 q3
   refine wp_region_later_mix (v0 := u3) 14 (by kernel_rfl) (by kernel_rfl) rfl rfl (by kernel_rfl) ?_ (fun W hW => ?_)
   ·intro x
    rfl
   have y1 := fun X : Later W => ((by rw [hW]; exact HNr.out : Row W wr.heap.size 59 #[.int .i64 md, .bool mf, .int .i64 mr]).ext X.ext).cell
   have HEV := Lib.hid (fun X : Later W => HV.out.ext (HE.out.trans (((by rw [hW]; exact HXa.out : Ext w1 W)).trans X.ext)))
   subst hW
   simp only [List.take_succ_cons, List.take_zero, List.drop_succ_cons, List.drop_zero, Act.put, List.setIfInBounds_toArray, List.set_cons_succ, List.set_cons_zero]
   repeat (go_big_quiet_step ((first | (go_at_call 160; exact Later.call (HWD.out _)) | (go_at_call 185; exact Later.call (itoa_as md I1 _ HI1.out (HEV.out _) (by omega) (by omega))) | (go_at_call 185; exact Later.call (itoa_as mr I2 _ HI2.out (HEV.out _) (by omega) (by omega))))))
   refine wpQuiet_nil ?_
   rintro ⟨w4, hE4⟩
   dsimp only
   go_wp2
   have hz4 := hE4.size
   simp only [World.size_alloc] at hz4
   refine ⟨⟨⟨_, hE4.alloc _⟩, rfl⟩, ?_⟩
   have hown4 := (ownsRow_of_block HO3.out (fun g hg => hE4.block g (HO3.out.lt g hg).2)).alloc (.cells #[.string (bs x)] 9)
   have HO4 := Lib.hid hown4
   clear hown4
   refine wpList_append_own_at _ rfl _ _ 151 rfl w1.heap.size 9 i0 _ 1 16 Tryz.underlying151 hi0 hz0 hz1 hz2 rfl (by decide) _ (k + 1) (strCells1 (linesE l k)) rfl HO4.out ⟨w4.heap.size, 0, none⟩ 1 1 [.string (bs x)] rfl rfl (World.news_of_block (cs := #[.string (bs x)]) (t := 9) (fr := (0, 0)) (heap_alloc_new _ _)) (by simp [Value.oneCell']) (by simp only [maxLen]; omega) (by omega) (by simp; omega) ?_
   intro v5 w5 hown6 hgrow6 _ _
   have HO6 := Lib.hid hown6
   have HX5 := Lib.hid (((HXa.out.trans hE4).alloc _).grown hgrow6 (fun g hg => (HO4.out.lt g hg).1))
   clear hown6 hgrow6 hE4 y1
   go_wp2
   refine NoPanic.normal ?_
   go_wp2_with fail
   go_roundw
   case measure => simp [intOf]; omega
   case rel =>
    refine ⟨k + 1, by omega, by go_num, ?_, HX5.out⟩
    rw [HSUCC.out]
    simpa [strCells1] using HO6.out
  ·obtain rfl : k = l.length := by omega
   have hsz := hX.size
   have HEW := Lib.hid hX
   have hown7 : wr.ownsRow w1.heap.size 9 1 u3 (tabE l).length (strCells1 (tabE l)) := by
    rw [Ec.tabE_length, ← linesE_all]
    exact hown
   obtain ⟨A5, c5, rfl, hc5, hI5⟩ := Strs.of_own hown7
   have HI5 := Lib.hid hI5
   have hshort := tabE_short HS.out hfew
   have hlenL := Ec.tabE_length l
   have HTX : Hid (textE l = Lib.join (tabE l) [10] ++ [10] ++ endL (checkE (tabE l)) ++ [10]) := Lib.hid rfl
   clear hX hown hown7 hI5 hlt
   obtain ⟨L, hL⟩ : ∃ L, tabE l = L := ⟨_, rfl⟩
   rw [hL] at hshort hlenL HTX HI5 hc5 ⊢
   have hLl : L.length ≤ 1002 := by omega
   have hL1 : 1 ≤ L.length := by omega
   have HSH := Lib.hid hshort
   obtain ⟨w5, rfl⟩ : ∃ w5 : World, w5 = wr := ⟨_, rfl⟩
   clear hshort hlenL hL
   have hL64 : (L.length : Int) ≤ 1002 := by omega
   go_wp2_with fail
   go_loop [6, 40] (fun v i => ∃ k : Nat, k ≤ L.length ∧ i = .int .i64 k ∧ v = .int .i64 (checkN L k)) (fun _ i => L.length - (intOf i).toNat)
   case atStart => exact ⟨0, Nat.zero_le _, rfl, rfl⟩
   case round =>
    obtain ⟨k, hk, rfl, rfl⟩ := hrel
    by_cases hlt : k < L.length
    ·obtain ⟨b, o, rfl, hc⟩ := HI5.out (by omega)
     have c0 := hc k hlt
     have hxs := HSH.out (L.getD k []) (by rw [List.getD_eq_getElem?_getD, List.getElem?_eq_getElem hlt]; exact List.getElem_mem hlt)
     have hcb := checkN_bound L k HSH.out hk hLl
     have HSTEP : Hid (checkN L (k + 1) = checkN L k + sumN (L.getD k []) k (L.getD k []).length) := Lib.hid rfl
     have HSB : Hid (∀ j, j ≤ (L.getD k []).length → sumN (L.getD k []) k j ≤ 136000000000000) := Lib.hid (fun j hj => sumN_bound _ k j hxs hj (by omega))
     obtain ⟨y, hy⟩ : ∃ y, L.getD k [] = y := ⟨_, rfl⟩
     rw [hy] at c0 hxs HSTEP HSB
     obtain ⟨C, hC⟩ : ∃ C, checkN L k = C := ⟨_, rfl⟩
     rw [hC] at hcb HSTEP ⊢
     have hC9 : (C : Int) ≤ 137000000000000000 := by omega
     have hlt' : (k : Int) < (L.length : Int) := by omega
     have hxs' : (y.length : Int) ≤ 23000 := by omega
     have hsz : (bs y).size = y.length := bs_size y
     clear hc hy hC hcb hxs hlt
     go_wp2_with fail
     go_loop [6, 47] (fun v i => ∃ j : Nat, j ≤ y.length ∧ i = .int .i64 j ∧ v = .int .i64 ((C + sumN y k j : Nat) : Int)) (fun _ i => y.length - (intOf i).toNat)
     case atStart => exact ⟨0, Nat.zero_le _, rfl, rfl⟩
     case round =>
      obtain ⟨j, hj, rfl, rfl⟩ := hrel
      by_cases hlt2 : j < y.length
      ·have hix := index_bs y j hlt2
       have hcc : ((y.getD j 0).toNat : Int) ≤ 255 := by have := (y.getD j 0).toNat_lt; omega
       have HST2 : Hid (sumN y k (j + 1) = sumN y k j + (y.getD j 0).toNat * (j + 1) * (k + 1)) := Lib.hid rfl
       have hsb := HSB.out j hj
       obtain ⟨q, hq⟩ : ∃ q, (y.getD j 0).toNat = q := ⟨_, rfl⟩
       rw [hq] at hix hcc HST2
       obtain ⟨D, hD⟩ : ∃ D, C + sumN y k j = D := ⟨_, rfl⟩
       have HD := Lib.hid hD
       rw [hD]
       have hD9 : (D : Int) ≤ 138000000000000000 := by omega
       have p1 : 0 ≤ (q : Int) * ((j : Int) + 1) := Int.mul_nonneg (by omega) (by omega)
       have p2 := mul_bounds (a := (q : Int)) (b := (j : Int) + 1) (A := 255) (B := 23000) (by omega) (by omega) (by omega) (by omega)
       have p3 : 0 ≤ (q : Int) * ((j : Int) + 1) * ((k : Int) + 1) := Int.mul_nonneg p1 (by omega)
       have p4 := mul_bounds (a := (q : Int) * ((j : Int) + 1)) (b := (k : Int) + 1) (A := 5865000) (B := 1003) (by omega) (by omega) (by omega) (by omega)
       have p5 : (q : Int) * ((j : Int) + 1) ≤ 5865000 := by omega
       have p6 : (q : Int) * ((j : Int) + 1) * ((k : Int) + 1) ≤ 5882595000 := by omega
       have hlt3 : (j : Int) < (y.length : Int) := by omega
       have HLT2 := Lib.hid hlt2
       clear hsb hq hD p2 p4 hlt2 hj
       go_wp2_with fail
       go_round
       case rel =>
        refine ⟨j + 1, by have := HLT2.out; omega, by go_num, congrArg (Value.int .i64) ?_⟩
        rw [HST2.out, ← Nat.add_assoc, HD.out]
        simp
       case measure => have := HLT2.out; simp [intOf]; omega
      ·obtain rfl : j = y.length := by omega
       rw [← HSTEP.out]
       clear hlt2 hj
       go_wp2_with fail
       go_round
       case rel => exact ⟨k + 1, by omega, by go_num, rfl⟩
       case measure => simp [intOf]; omega
    ·obtain rfl : k = L.length := by omega
     clear hlt hk
     have hcb := checkN_bound L L.length HSH.out (Nat.le_refl _) hLl
     have hjl := join_length 10 L 23000 HSH.out
     have hjl2 : L.length * (23000 + 1) ≤ 1002 * 23001 := Nat.mul_le_mul hLl (Nat.le_refl _)
     have hJ9 : (Lib.join L [10]).length ≤ 23047002 := by omega
     obtain ⟨ck, hck⟩ : ∃ ck : Nat, ((checkN L L.length : Nat) : Int) % 139 = (ck : Int) := ⟨checkN L L.length % 139, by omega⟩
     have hck2 : checkE L = ck := by unfold checkE; omega
     have HCK := Lib.hid hck2
     have hck9 : (ck : Int) < 139 := by omega
     have hck0 : (0 : Int) ≤ (ck : Int) := by omega
     clear hck2
     have HJ := Lib.hid hJ9
     have hcb9 : ((checkN L L.length : Nat) : Int) ≤ 137000000000000000 := by omega
     clear hcb hjl hjl2 hJ9
     go_wp2_with fail
     clear hck hcb9
     refine (join_any A5 c5 L w5 HI5.out hc5 (by omega) (by have := HJ.out; omega)).mono ?_
     rintro e w6 ⟨rfl, hE6⟩
     have HE6 := Lib.hid (HE.out.trans (HEW.out.trans hE6))
     have hl1 := Lib.itoa_length_le ((ck : Int) / 100) (by omega) (by omega)
     have hl2 := Lib.itoa_length_le ((ck : Int) / 10 % 10) (by omega) (by omega)
     have hl3 := Lib.itoa_length_le ((ck : Int) % 10) (by omega) (by omega)
     have HJT : Hid (textE l = Lib.join L [10] ++ [10, 101, 110, 100, 32] ++ Lib.itoa ((ck : Int) / 100) ++ Lib.itoa ((ck : Int) / 10 % 10) ++ Lib.itoa ((ck : Int) % 10) ++ [10]) := Lib.hid (by
      rw [HTX.out, HCK.out]
      unfold endL
      have e1 : ((ck / 100 : Nat) : Int) = (ck : Int) / 100 := by omega
      have e2 : ((ck / 10 % 10 : Nat) : Int) = (ck : Int) / 10 % 10 := by omega
      have e3 : ((ck % 10 : Nat) : Int) = (ck : Int) % 10 := by omega
      rw [e1, e2, e3]
      simp)
     have hJ9 := HJ.out
     obtain ⟨J, hJ⟩ : ∃ J, Lib.join L [10] = J := ⟨_, rfl⟩
     obtain ⟨I1, hI1⟩ : ∃ I1, Lib.itoa ((ck : Int) / 100) = I1 := ⟨_, rfl⟩
     obtain ⟨I2, hI2⟩ : ∃ I2, Lib.itoa ((ck : Int) / 10 % 10) = I2 := ⟨_, rfl⟩
     obtain ⟨I3, hI3⟩ : ∃ I3, Lib.itoa ((ck : Int) % 10) = I3 := ⟨_, rfl⟩
     rw [hJ] at HJT hJ9 ⊢
     rw [hI1] at HJT hl1
     rw [hI2] at HJT hl2
     rw [hI3] at HJT hl3
     have f1 : ∀ W : World, (Op.stringOp .add (bs J) ⟨#[10, 101, 110, 100, 32]⟩).run Tryz.prog W = .ok (.string (bs (J ++ [10, 101, 110, 100, 32]))) W := add_str J [10, 101, 110, 100, 32] (by simp; omega)
     have f2 : ∀ W : World, (Op.stringOp .add (bs (J ++ [10, 101, 110, 100, 32])) (bs I1)).run Tryz.prog W = .ok (.string (bs (J ++ [10, 101, 110, 100, 32] ++ I1))) W := add_str _ _ (by simp; omega)
     have f3 : ∀ W : World, (Op.stringOp .add (bs (J ++ [10, 101, 110, 100, 32] ++ I1)) (bs I2)).run Tryz.prog W = .ok (.string (bs (J ++ [10, 101, 110, 100, 32] ++ I1 ++ I2))) W := add_str _ _ (by simp; omega)
     have f4 : ∀ W : World, (Op.stringOp .add (bs (J ++ [10, 101, 110, 100, 32] ++ I1 ++ I2)) (bs I3)).run Tryz.prog W = .ok (.string (bs (J ++ [10, 101, 110, 100, 32] ++ I1 ++ I2 ++ I3))) W := add_str _ _ (by simp; omega)
     have f5 : ∀ W : World, (Op.stringOp .add (bs (J ++ [10, 101, 110, 100, 32] ++ I1 ++ I2 ++ I3)) ⟨#[10]⟩).run Tryz.prog W = .ok (.string (bs (J ++ [10, 101, 110, 100, 32] ++ I1 ++ I2 ++ I3 ++ [10]))) W := add_str _ [10] (by simp; omega)
     generalize J ++ [10, 101, 110, 100, 32] = T1 at *
     generalize T1 ++ I1 = T2 at *
     generalize T2 ++ I2 = T3 at *
     generalize T3 ++ I3 = T4 at *
     generalize T4 ++ [10] = T5 at *
     have HI1 := Lib.hid hI1
     have HI2 := Lib.hid hI2
     have HI3 := Lib.hid hI3
     clear hJ hI1 hI2 hI3 hE6 hJ9
     go_wp2_with fail
     refine (itoa_as _ I1 w6 HI1.out (HV.out.ext HE6.out) (by omega) (by omega)).mono ?_
     rintro e w7 ⟨rfl, hE7⟩
     have HE7 := Lib.hid (HE6.out.trans hE7)
     clear hE7
     go_wp2_with fail
     refine (itoa_as _ I2 w7 HI2.out (HV.out.ext HE7.out) (by omega) (by omega)).mono ?_
     rintro e w8 ⟨rfl, hE8⟩
     have HE8 := Lib.hid (HE7.out.trans hE8)
     clear hE8
     go_wp2_with fail
     refine (itoa_as _ I3 w8 HI3.out (HV.out.ext HE8.out) (by omega) (by omega)).mono ?_
     rintro e w9 ⟨rfl, hE9⟩
     have HE9 := Lib.hid (HE8.out.trans hE9)
     clear hE9
     go_wp2_with fail
     go_ret
     exact ⟨by rw [HJT.out]; rfl, HE9.out⟩
end Go.Proofs.YtcbodpnmndbgnaaGreatDoor
namespace Go.Proofs.YtcbodpnmndbgnaaGreatDoor
open Go.RowKit
open Sp (rd)
set_option maxRecDepth 100000
set_option maxHeartbeats 2000000
set_option linter.unusedVariables false
theorem e_balls_idle (p : Value) (w : World) :
  CallsD Tryz.prog 155 #[p] .returning w fun e u' w' => e = .returned (.tuple #[]) ∧ u' = .returning ∧ w' = w := by
 refine callsD_of_wpS Tryz.func155 rfl fun c₀ cs hu => ?_
 have he : ∀ w, (binOp .eql 20 .nilIface .nilIface).run Tryz.prog w = .ok (.bool true) w := fun _ => by kernel_rfl
 simp only [Tryz.ntmps155, List.size_toArray, List.length_cons, List.length_nil, Nat.reduceAdd, Nat.reduceSub, Array.replicate_succ, Array.replicate_zero, List.push_toArray, List.append_toArray, List.nil_append, List.cons_append]
 apply wpS_seq
 apply wpS_region
 simp [wpOpsS, go_sem, recoverD, hu, Exit.thenS]
 refine wpS_of_wp ?_
 generalize hQ : (fun (e : Exit) (a' : Act) (w' : World) => bodyPostS Tryz.prog Tryz.f155 c₀ cs _ e a' _ w') = Q
 go_wp2
 subst hQ
 cases c₀
 simp_all [bodyPostS, results, Tryz.results155]
theorem e_balls_results (tmps : Array Value) (W : World) (q : Nat) (code : Int) (h2 : tmps.getD 2 undef = .pointer (some ⟨q, 0, none⟩))
  (he : Row W q 40 #[.int .i64 code]) : (results Tryz.f116 tmps).run Tryz.prog W = .ok (.int .i64 code) W := by
 have h2' : tmps[2]?.getD undef = .pointer (some ⟨q, 0, none⟩) := by simpa using h2
 have c0 : W.cell? ⟨q, 0, none⟩ = some (.int .i64 code) := he.cell 0
 simp [results, Tryz.results116, h2', asAddr, go_sem, c0]
theorem e_Balls_ok (l : List Ec.Ball) (A : Option Addr) (c : Nat) (w : World) (hm : BallsAt w A l) (hc : l.length ≤ c) (h : Ec.ballsOk l = true) :
  Calls Tryz.prog 116 #[.slice A l.length c] w fun e w' => e = .returned (.int .i64 0) ∧ Ext w w' := by
 have HM := Lib.hid hm
 have hmf : ∀ (fn : Fn) (first cap : Array Value) (w : World), (Instr.makeFunc fn first cap).run Tryz.prog w = .ok (.func fn first cap) w := fun _ _ _ _ => rfl
 have HRE := Lib.hid (Row.new w 40 #[.int .i64 0])
 have HE0 := Lib.hid ((Ext.refl w).alloc (.cells #[.int .i64 0] 40))
 clear hm
 go_enter_defers Tryz.func116, Tryz.ntmps116
 go_wp2_with fail
 refine (e_apart_ok l A c _ (HM.out.ext HE0.out) hc h).mono ?_
 rintro e W1 ⟨rfl, hE1⟩
 have HR1 := Lib.hid (HRE.out.ext hE1)
 have HE1 := Lib.hid (HE0.out.trans hE1)
 have r0 : W1.cell? ⟨w.heap.size, 0, none⟩ = some (.int .i64 0) := HR1.out.cell 0
 have f0 := HR1.out.free 0
 clear hE1
 go_wp2_with fail
 have HR2 : Hid (Row (W1.setCell ⟨w.heap.size, 0, none⟩ (.int .i64 0)) w.heap.size 40 #[.int .i64 0]) := Lib.hid (by simpa using HR1.out.set_ 0 (.int .i64 0))
 have HE2 := Lib.hid (HE1.out.setCell (p := ⟨w.heap.size, 0, none⟩) (Nat.le_refl _) (.int .i64 0))
 refine leaves_cons (f := 155) (args := #[.pointer (some ⟨w.heap.size, 0, none⟩)]) (by simp) (by simp [go_sem]) ?_
 refine (e_balls_idle _ _).mono ?_
 rintro e u' w'' ⟨rfl, rfl, rfl⟩
 exact ⟨_, e_balls_results _ _ w.heap.size 0 rfl HR2.out, rfl, HE2.out⟩
def drkΦ (l : List Ec.Ball) (k bb o c : Nat) (D ax ay ar bx by_ br sh : Int) (pb : Nat) (w0 : World) (i : Nat) (v : Value) (w : World) : Prop :=
 match i with
 | 0 => v = .int .i64 D
 | 1 => v = .agg #[.int .i64 ax, .int .i64 ay, .int .i64 ar]
 | 2 => v = .slice (some ⟨bb, o, none⟩) l.length c
 | 3 => v = .int .i64 k
 | 4 => v = .pointer (some ⟨bb, o + k * 3, none⟩)
 | 5 => v = .agg #[.int .i64 bx, .int .i64 by_, .int .i64 br]
 | 6 => v = .int .i64 sh
 | _ => v = .int .i64 (max D sh)
theorem drkΦ_mono {l : List Ec.Ball} {k bb o c : Nat} {D ax ay ar bx by_ br sh : Int} {pb : Nat} {w0 : World} (i : Nat) (v : Value) (w w' : World) (h : drkΦ l k bb o c D ax ay ar bx by_ br sh pb w0 i v w) (he : Ext w w') : drkΦ l k bb o c D ax ay ar bx by_ br sh pb w0 i v w' := by
 unfold drkΦ at h ⊢
 split at h <;> first
  | exact h
  | exact MkAt.ext h he
  | exact fun hg => MkAt.ext (h hg) he
theorem e_darkest_any (l : List Ec.Ball) (k : Nat) (A : Option Addr) (c : Nat) (w : World) (hm : BallsAt w A l) (hl : l.length ≤ 1000) (hk : k < l.length) (hb : ∀ i, i < l.length → (-200 ≤ (Ec.ballAt l i).x ∧ (Ec.ballAt l i).x ≤ 200) ∧ (-200 ≤ (Ec.ballAt l i).y ∧ (Ec.ballAt l i).y ≤ 200) ∧ (-200 ≤ (Ec.ballAt l i).r ∧ (Ec.ballAt l i).r ≤ 200)) :
  Calls Tryz.prog 117 #[.slice A l.length c, .int .i64 k] w fun e w' => e = .returned (.int .i64 (Ec.darkest l k)) ∧ Ext w w' := by
 obtain ⟨bb, o, rfl, hcell⟩ := hm (by omega)
 have HM := Lib.hid hcell
 have HBD := Lib.hid hb
 clear hm hcell hb
 go_enter Tryz.func117, Tryz.ntmps117
 go_wp2_with fail
 go_loopw [5, 10] (fun v i wr => ∃ n : Nat, n ≤ l.length ∧ i = .int .i64 n ∧ v = .int .i64 (Ec.darkestN l k n) ∧ Ext w wr) (fun _ i _ => l.length - (intOf i).toNat)
 case atStart => exact ⟨0, Nat.zero_le _, rfl, rfl, Ext.refl _⟩
 case round =>
  obtain ⟨n, hn, rfl, rfl, hE⟩ := hrel
  by_cases hlt : n < l.length
  ·obtain ⟨q1, q2, q3⟩ := HM.out n hlt
   replace q1 := hE.cell q1
   replace q2 := hE.cell q2
   replace q3 := hE.cell q3
   have hb1 := HBD.out n hlt
   have hS : Ec.darkestN l k (n + 1) = if n = k then Ec.darkestN l k n else max (Ec.darkestN l k n) (Ec.shades (Ec.ballAt l n) (Ec.ballAt l k)) := rfl
   obtain ⟨D, hD⟩ : ∃ D, Ec.darkestN l k n = D := ⟨_, rfl⟩
   rw [hD] at hS ⊢
   have HS := Lib.hid hS
   obtain ⟨b, hb⟩ : ∃ b, Ec.ballAt l n = b := ⟨_, rfl⟩
   rw [hb] at q1 q2 q3 hb1 HS
   obtain ⟨ax, ay, ar⟩ := b
   simp only at q1 q2 q3 hb1
   have HE := Lib.hid hE
   have z1 := lts (lt_of_cell q1)
   simp only at z1
   clear hb hE hS hD
   have HB0 := Lib.hid (Row.new wr 145 #[.int .i64 ax, .int .i64 ay, .int .i64 ar])
   have HE1 := Lib.hid (HE.out.alloc (.cells #[.int .i64 ax, .int .i64 ay, .int .i64 ar] 145))
   by_cases hnk : n = k
   ·have HSS := Lib.hid (HS.out.trans (if_pos hnk))
    subst hnk
    clear HS
    go_wp2_with fail
    go_roundw
    case rel => exact ⟨n + 1, by omega, by go_num, by rw [HSS.out], HE1.out⟩
    case measure => simp [intOf]; omega
   ·have HSS := Lib.hid (HS.out.trans (if_neg hnk))
    have e1 : ((n : Int) == (k : Int)) = false := by simp; omega
    have e2 : ((n : Int) != (k : Int)) = true := by simp; omega
    have hb2 := HBD.out k hk
    have hck := HM.out k hk
    obtain ⟨b, hb⟩ : ∃ b, Ec.ballAt l k = b := ⟨_, rfl⟩
    rw [hb] at hb2 hck HSS
    obtain ⟨bx, by_, br⟩ := b
    simp only at hck hb2
    have HSH : Hid (∀ w : World, Calls Tryz.prog 157 #[.agg #[.int .i64 ax, .int .i64 ay, .int .i64 ar], .agg #[.int .i64 bx, .int .i64 by_, .int .i64 br]] w fun e w' => e = .returned (.int .i64 (Ec.shades ⟨ax, ay, ar⟩ ⟨bx, by_, br⟩)) ∧ Ext w w') := Lib.hid fun w => e_shades_any ax ay ar bx by_ br w hb1.1 hb1.2.1 hb1.2.2 hb2.1 hb2.2.1 hb2.2.2
    obtain ⟨sh, hsh⟩ : ∃ sh, Ec.shades ⟨ax, ay, ar⟩ ⟨bx, by_, br⟩ = sh := ⟨_, rfl⟩
    rw [hsh] at HSH HSS
    have HCK0 := Lib.hid (And.intro (HE1.out.cell hck.1) (And.intro (HE1.out.cell hck.2.1) (HE1.out.cell hck.2.2)))
    have hk1 : (k : Int) < (l.length : Int) := by omega
    have hk0 : (0 : Int) ≤ (k : Int) := by omega
    clear hb hsh hck hb1 hb2 HS hnk
    go_wp2_with fail
    clear q1 q2 q3 e1 e2
    obtain ⟨W, hW⟩ : ∃ W, wr.alloc (.cells #[.int .i64 ax, .int .i64 ay, .int .i64 ar] 145) = W := ⟨_, rfl⟩
    obtain ⟨pb, hpb⟩ : ∃ pb, wr.heap.size = pb := ⟨_, rfl⟩
    have HB : Hid (Row W pb 145 #[.int .i64 ax, .int .i64 ay, .int .i64 ar]) := Lib.hid (by rw [← hW, ← hpb]; exact HB0.out)
    have HCK : Hid (W.cell? ⟨bb, o + k * 3, none⟩ = some (.int .i64 bx) ∧ W.cell? ⟨bb, o + k * 3 + 1, none⟩ = some (.int .i64 by_) ∧ W.cell? ⟨bb, o + k * 3 + 2, none⟩ = some (.int .i64 br)) := Lib.hid (by rw [← hW]; exact HCK0.out)
    rw [hW] at HE1 ⊢
    rw [hpb] at z1 ⊢
    clear hW hpb HB0 HCK0
    refine wp_region_free_tail 8 8 (drkΦ l k bb o c D ax ay ar bx by_ br sh pb W) (by kernel_rfl) (by simp) (by kernel_rfl) (by kernel_rfl) (by kernel_rfl) (by kernel_rfl) drkΦ_mono ?hob ?hQ (fun h => absurd h (by omega))
    case hob =>
     intro i o hin ho a wa hE hF
     match i, hin with
     | 0, _ =>
      cases ho
      have h0 : a.tmps[5]?.getD undef = .int .i64 D := evalD (hF.old 5 (by decide))
      refine Ran.value rfl (v := .int .i64 D) (w1 := wa) ?_ ⟨rfl, Ext.refl _⟩
      go_simp
     | 1, _ =>
      cases ho
      have h0 : a.tmps[7]?.getD undef = .pointer (some ⟨pb, 0, none⟩) := evalD (hF.old 7 (by decide))
      have q := (Row.ext (HB.out) hE).cell
      refine Ran.value rfl (v := .agg #[.int .i64 ax, .int .i64 ay, .int .i64 ar]) (w1 := wa) ?_ ⟨rfl, Ext.refl _⟩
      go_simp
     | 2, _ =>
      cases ho
      have h0 : a.tmps[0]?.getD undef = .slice (some ⟨bb, o, none⟩) l.length c := evalD (hF.old 0 (by decide))
      refine Ran.value rfl (v := .slice (some ⟨bb, o, none⟩) l.length c) (w1 := wa) ?_ ⟨rfl, Ext.refl _⟩
      go_simp
     | 3, _ =>
      cases ho
      have h0 : a.tmps[1]?.getD undef = .int .i64 k := evalD (hF.old 1 (by decide))
      refine Ran.value rfl (v := .int .i64 k) (w1 := wa) ?_ ⟨rfl, Ext.refl _⟩
      go_simp
     | 4, _ =>
      cases ho
      have h0 : a.tmps[20]?.getD undef = .slice (some ⟨bb, o, none⟩) l.length c := evalD ((hF.from_ 2 20 rfl (by decide)))
      have h1 : a.tmps[21]?.getD undef = .int .i64 k := evalD ((hF.from_ 3 21 rfl (by decide)))
      refine Ran.value rfl (v := .pointer (some ⟨bb, o + k * 3, none⟩)) (w1 := wa) ?_ ⟨rfl, Ext.refl _⟩
      go_simp
     | 5, _ =>
      cases ho
      have h0 : a.tmps[22]?.getD undef = .pointer (some ⟨bb, o + k * 3, none⟩) := evalD (hF.from_ 4 22 rfl (by decide))
      obtain ⟨c1, c2, c3⟩ := HCK.out
      replace c1 := hE.cell c1
      replace c2 := hE.cell c2
      replace c3 := hE.cell c3
      refine Ran.value rfl (v := .agg #[.int .i64 bx, .int .i64 by_, .int .i64 br]) (w1 := wa) ?_ ⟨rfl, Ext.refl _⟩
      go_simp
     | 6, _ =>
      cases ho
      have h0 : a.tmps[19]?.getD undef = .agg #[.int .i64 ax, .int .i64 ay, .int .i64 ar] := evalD ((hF.from_ 1 19 rfl (by decide)))
      have h1 : a.tmps[23]?.getD undef = .agg #[.int .i64 bx, .int .i64 by_, .int .i64 br] := evalD ((hF.from_ 5 23 rfl (by decide)))
      refine Ran.enter rfl (f := 157) (args := #[.agg #[.int .i64 ax, .int .i64 ay, .int .i64 ar], .agg #[.int .i64 bx, .int .i64 by_, .int .i64 br]]) (w1 := wa) ?_ ?_
      ·go_simp
      ·refine (HSH.out _).mono ?_
       rintro r w1 ⟨rfl, hX⟩
       exact ⟨_, rfl, rfl, hX⟩
     | 7, _ =>
      cases ho
      have h0 : a.tmps[18]?.getD undef = .int .i64 D := evalD ((hF.from_ 0 18 rfl (by decide)))
      have h1 : a.tmps[24]?.getD undef = .int .i64 sh := evalD ((hF.from_ 6 24 rfl (by decide)))
      refine Ran.value rfl (v := .int .i64 (max D sh)) (w1 := wa) ?_ ⟨rfl, Ext.refl _⟩
      go_simp
     | k + 8, hin => omega
    case hQ =>
     intro vs w2 hE hΦ
     have f0 : vs 0 = .int .i64 D := hΦ 0 (by omega)
     have f1 : vs 1 = .agg #[.int .i64 ax, .int .i64 ay, .int .i64 ar] := hΦ 1 (by omega)
     have f2 : vs 2 = .slice (some ⟨bb, o, none⟩) l.length c := hΦ 2 (by omega)
     have f3 : vs 3 = .int .i64 k := hΦ 3 (by omega)
     have f4 : vs 4 = .pointer (some ⟨bb, o + k * 3, none⟩) := hΦ 4 (by omega)
     have f5 : vs 5 = .agg #[.int .i64 bx, .int .i64 by_, .int .i64 br] := hΦ 5 (by omega)
     have f6 : vs 6 = .int .i64 sh := hΦ 6 (by omega)
     have f7 : vs 7 = .int .i64 (max D sh) := hΦ 7 (by omega)
     have hrg : List.range 8 = [0, 1, 2, 3, 4, 5, 6, 7] := rfl
     unfold putAll putS
     simp only [List.length_cons, List.length_nil, List.take_succ_cons, List.take_zero, List.drop_succ_cons, List.drop_zero, Nat.reduceAdd, hrg, List.foldl_cons, List.foldl_nil, dstOf, List.getElem?_cons_succ, List.getElem?_cons_zero, Option.bind_some]
     clear hrg
     rw [f0, f1, f2, f3, f4, f5, f6, f7]
     simp only [Act.put, List.setIfInBounds_toArray, List.set_cons_succ, List.set_cons_zero]
     have HE2 := Lib.hid (HE1.out.trans hE)
     clear hΦ f0 f1 f2 f3 f4 f5 f6 f7 hE
     go_wp2_with fail
     go_roundw
     case rel => exact ⟨n + 1, by omega, by go_num, by rw [HSS.out], HE2.out⟩
     case measure => simp [intOf]; omega
  ·obtain rfl : n = l.length := by omega
   go_wp2_with fail
   go_ret
   exact ⟨rfl, hE⟩
theorem info_word : (Tryz.prog.info? 96).map (fun i => (i.zero, i.size, i.bytes)) = some (some (.int .i64 0), 1, 8) := by kernel_rfl
theorem Ints.of_ownT {w : World} {base : Nat} {t : TypeId} {v : Value} {l : List Int} (h : w.ownsRow base t 1 v l.length (l.map fun x => .int .i64 x)) : ∃ A c, v = .slice A l.length c ∧ Ints w A l := by
 rcases h.2 with ⟨rfl, h0⟩ | ⟨g, cap, cur, hv, _⟩
 ·exact ⟨none, 0, by rw [h0], fun hh => by omega⟩
 ·refine ⟨some ⟨g, 0, none⟩, cap, hv, fun _ => ⟨g, 0, rfl, fun k hk => ?_⟩⟩
  have hc := h.cells (g := g) (by rw [hv]; rfl)
  have h1 := hc k (.int .i64 (rd l k)) (by simp [rd, hk])
  rw [add0] at h1
  simpa using h1
theorem e_Dark_ok (l : List Ec.Ball) (A : Option Addr) (c : Nat) (w : World) (hm : BallsAt w A l) (hc : l.length ≤ c) (h : Ec.ballsOk l = true) :
  Calls Tryz.prog 64 #[.slice A l.length c] w fun e w' => ∃ B d, e = .returned (.tuple #[.slice B (Ec.darkL l).length d, .int .i64 0]) ∧ Ints w' B (Ec.darkL l) ∧ Ext w w' := by
 obtain ⟨⟨l1, l5⟩, hin, _⟩ := ballsIn_of h
 have HM := Lib.hid hm
 have HBD : Hid (∀ i, i < l.length → (-200 ≤ (Ec.ballAt l i).x ∧ (Ec.ballAt l i).x ≤ 200) ∧ (-200 ≤ (Ec.ballAt l i).y ∧ (Ec.ballAt l i).y ≤ 200) ∧ (-200 ≤ (Ec.ballAt l i).r ∧ (Ec.ballAt l i).r ≤ 200)) := Lib.hid fun i hi => by
  obtain ⟨a, b, c, _⟩ := hin i hi
  omega
 have HH := Lib.hid h
 obtain ⟨i0, hi0, hi1, hi2, hi3⟩ := info_parts info_word
 clear hm hin h
 go_enter Tryz.func64, Tryz.ntmps64
 go_wp2_with fail
 refine (e_Balls_ok l A c _ HM.out hc HH.out).mono ?_
 rintro e w1 ⟨rfl, hE1⟩
 have HE1 := Lib.hid hE1
 clear hE1
 go_wp2_with fail
 go_loopw [4, 11] (fun v i wr => ∃ k : Nat, k ≤ l.length ∧ i = .int .i64 k ∧ wr.ownsRow w1.heap.size 96 1 v k (((List.range k).map (Ec.darkest l)).map fun x => .int .i64 x) ∧ Ext w1 wr) (fun _ i _ => l.length - (intOf i).toNat)
 case atStart => exact ⟨0, Nat.zero_le _, rfl, by simp [World.ownsRow], Ext.refl _⟩
 case round =>
  obtain ⟨k, hk, rfl, hown, hX⟩ := hrel
  have hX9 := hX.size
  by_cases hlt : k < l.length
  ·have HX := Lib.hid hX
   have HOW := Lib.hid hown
   clear hX hown
   go_wp2_with fail
   refine (e_darkest_any l k A c _ (HM.out.ext (HE1.out.trans HX.out)) (by omega) hlt HBD.out).mono ?_
   rintro e w3 ⟨rfl, hE3⟩
   have hz3 := hE3.size
   have hown4 := (own_ext HOW.out hE3).alloc (.cells #[.int .i64 (Ec.darkest l k)] 96)
   have HO4 := Lib.hid hown4
   have HX3 := Lib.hid (HX.out.trans hE3)
   clear hE3
   go_wp2_with (at_builtin; refine wpList_append_lies _ rfl _ _ 89 rfl w1.heap.size 96 i0 _ 1 8 Tryz.underlying89 hi0 hi1 hi2 hi3 rfl (by decide) _ k (((List.range k).map (Ec.darkest l)).map fun x => .int .i64 x) rfl hown4 ⟨w3.heap.size, 0, none⟩ 1 1 [.int .i64 (Ec.darkest l k)] rfl rfl (World.news_of_block (cs := #[.int .i64 (Ec.darkest l k)]) (t := 96) (fr := (0, 0)) (heap_alloc_new _ _)) (by simp [Value.oneCell']) (by omega) (by simp only [maxLen]; omega) (by omega) (by simp; omega) _ rfl ?_; intro gg cap w4 hown5 hgrow hat hlt4; have HO5 := Lib.hid hown5; have HG := Lib.hid hgrow; clear hown5 hgrow)
   refine ⟨⟨k + 1, by omega, by go_num, ?_, (HX3.out.alloc _).grown HG.out (fun g hg => (HO4.out.lt g hg).1)⟩, by simp [intOf]; omega⟩
   rw [List.range_succ]
   simpa using HO5.out
  ·obtain rfl : k = l.length := by omega
   have hL : (Ec.darkL l).length = l.length := Ec.darkL_length l
   obtain ⟨B, d, rfl, hI⟩ := Ints.of_ownT (l := Ec.darkL l) (by rw [hL]; exact hown)
   have HI := Lib.hid hI
   have HX := Lib.hid hX
   clear hX hown hI
   go_wp2_with fail
   go_ret2
   exact ⟨B, d, rfl, HI.out, HE1.out.trans HX.out⟩
end Go.Proofs.YtcbodpnmndbgnaaGreatDoor
namespace Go.Proofs.YtcbodpnmndbgnaaGreatDoor
open Go.RowKit
open Sp (rd)
def IntsVal (w : World) (v : Value) (l : List Int) : Prop := ∃ A c, v = .slice A l.length c ∧ Ints w A l
theorem IntsVal.ext {w w' : World} {v : Value} {l : List Int} (h : IntsVal w v l) (he : Ext w w') : IntsVal w' v l := let ⟨A, c, e, hc⟩ := h; ⟨A, c, e, hc.ext he⟩
def intCells (l : List Int) : List Value := l.map fun d => .int .i64 d
theorem IntsVal.of_own {w : World} {base : Nat} {v : Value} {l : List Int} (h : w.ownsRow base 3 1 v l.length (intCells l)) : IntsVal w v l := by
 rcases h.2 with ⟨rfl, h0⟩ | ⟨g, cap, cur, hv, _⟩
 ·exact ⟨none, 0, by rw [h0], fun hh => by omega⟩
 ·refine ⟨some ⟨g, 0, none⟩, cap, hv, fun _ => ⟨g, 0, rfl, fun k hk => ?_⟩⟩
  have hc := h.cells (g := g) (by rw [hv]; rfl)
  have h1 := hc k (.int .i64 (rd l k)) (by simp [intCells, rd, hk])
  rw [add0] at h1
  simpa using h1
theorem map_one {α β : Type} {g : α → β} {l : List α} {a : β} (h : l.map g = [a]) : ∃ x, l = [x] ∧ g x = a := by
 cases l with
 | nil => simp at h
 | cons x l =>
  simp only [List.map_cons, List.cons.injEq, List.map_eq_nil_iff] at h
  exact ⟨x, by rw [h.2], h.1⟩
theorem map_two {α β : Type} {g : α → β} {l : List α} {a b : β} (h : l.map g = [a, b]) : ∃ x y, l = [x, y] ∧ g x = a ∧ g y = b := by
 cases l with
 | nil => simp at h
 | cons x l =>
  simp only [List.map_cons, List.cons.injEq] at h
  obtain ⟨y, rfl, hy⟩ := map_one h.2
  exact ⟨x, y, rfl, h.1, hy⟩
theorem map_three {α β : Type} {g : α → β} {l : List α} {a b c : β} (h : l.map g = [a, b, c]) : ∃ x y z, l = [x, y, z] ∧ g x = a ∧ g y = b ∧ g z = c := by
 cases l with
 | nil => simp at h
 | cons x l =>
  simp only [List.map_cons, List.cons.injEq] at h
  obtain ⟨y, z, rfl, hy, hz⟩ := map_two h.2
  exact ⟨x, y, z, rfl, h.1, hy, hz⟩
theorem field_parts {f : Field} {a : String} {b : TypeId} {c : Nat} (h : (fun f : Field => (f.name, f.type, f.offset)) f = (a, b, c)) : f.name = a ∧ f.type = b ∧ f.offset = c := by
 simpa using h
theorem neq_ecl (a b c d : Int) (x y : Bool) (w : World) : (binOp .neq 59 (.agg #[.int .i64 a, .bool x, .int .i64 c]) (.agg #[.int .i64 b, .bool y, .int .i64 d])).run Tryz.prog w = .ok (.bool (!((a == b) && (x == y) && (c == d)))) w := by
 have hf : (Tryz.prog.fieldsOf 59).toList.map (fun f => (f.name, f.type, f.offset)) = [("Day", 3, 0), ("Full", 4, 1), ("Far", 3, 2)] := by kernel_rfl
 obtain ⟨f1, f2, f3, hfs, p1, p2, p3⟩ := map_three hf
 obtain ⟨n1, t1, o1⟩ := field_parts p1
 obtain ⟨n2, t2, o2⟩ := field_parts p2
 obtain ⟨n3, t3, o3⟩ := field_parts p3
 rw [run_neq_struct, run_equalIn_agg w 9999 _ _ _ (by kernel_rfl) (by kernel_rfl), hfs]
 simp [Op.eqFields, n1, t1, o1, n2, t2, o2, n3, t3, o3, part, go_sem]
 by_cases h : a = b <;> by_cases h2 : x = y <;> by_cases h3 : c = d <;> simp [h, h2, h3]
deriving instance DecidableEq for Sp.Ecl
theorem take_eq_succ {α : Type} {l m : List α} {k : Nat} (h : l.take k = m.take k) (h1 : k < l.length) (h2 : k < m.length) (he : l[k] = m[k]) : l.take (k + 1) = m.take (k + 1) := by
 rw [List.take_succ_eq_append_getElem h1, List.take_succ_eq_append_getElem h2, h, he]
theorem getrd {l : List Int} {k : Nat} (h : k < l.length) : l[k] = rd l k := by
 unfold Sp.rd
 rw [List.getD_eq_getElem?_getD, List.getElem?_eq_getElem h]
 rfl
set_option maxRecDepth 100000 in
theorem r_SameEclipses_any (v1 v2 : Value) (l1 l2 : List Sp.Ecl) (w : World) (h1 : EclVal w v1 l1) (h2 : EclVal w v2 l2) (n1 : l1.length ≤ 100000) (n2 : l2.length ≤ 100000) :
  Calls Tryz.prog 27 #[v1, v2] w fun e w' => e = .returned (.bool (decide (l1 = l2))) ∧ Ext w w' := by
 obtain ⟨A1, c1, rfl, q1⟩ := h1
 obtain ⟨A2, c2, rfl, q2⟩ := h2
 by_cases hl : l1.length = l2.length
 ·have HQ1 := Lib.hid q1
  have HQ2 := Lib.hid q2
  clear q1 q2
  rw [← hl]
  go_enter Tryz.func27, Tryz.ntmps27
  go_wp2_with fail
  go_loopw [5] (fun i wr => ∃ k : Nat, k ≤ l1.length ∧ i = .int .i64 k ∧ l1.take k = l2.take k ∧ Ext w wr) (fun i _ => l1.length - (intOf i).toNat)
  case atStart => exact ⟨0, Nat.zero_le _, rfl, rfl, Ext.refl _⟩
  case round =>
   obtain ⟨k, hk, rfl, htk, hE⟩ := hrel
   by_cases hlt : k < l1.length
   ·obtain ⟨b1, o1, rfl, p1⟩ := HQ1.out (by omega)
    obtain ⟨b2, o2, rfl, p2⟩ := HQ2.out (by omega)
    have hlt2 : k < l2.length := by omega
    have a0 := hE.cell (p1 k hlt).1
    have d0 := hE.cell (p2 k hlt2).1
    have a1 := hE.cell (p1 k hlt).2.1
    have d1 := hE.cell (p2 k hlt2).2.1
    have a2 := hE.cell (p1 k hlt).2.2
    have d2 := hE.cell (p2 k hlt2).2.2
    have HNX := Lib.hid (fun he => take_eq_succ htk hlt hlt2 he)
    have HNE := Lib.hid (fun (he : ¬ l1[k] = l2[k]) (hh : l1 = l2) => he (by subst hh; rfl))
    clear p1 p2 htk
    by_cases he : l1[k] = l2[k]
    ·have HX := Lib.hid (HNX.out he)
     generalize l1[k] = m1 at *
     generalize l2[k] = m2 at *
     subst he
     have hcmp : ∀ w, (binOp .neq 59 (.agg #[.int .i64 m1.day, .bool m1.full, .int .i64 m1.far]) (.agg #[.int .i64 m1.day, .bool m1.full, .int .i64 m1.far])).run Tryz.prog w = .ok (.bool false) w := fun w => by rw [neq_ecl]; simp
     clear HNX HNE
     go_wp2_with fail
     go_quiet (fail)
     go_wp2_with fail
     refine ⟨⟨k + 1, by omega, by go_num, HX.out, hE.drewN _⟩, by simp [intOf]; omega⟩
    ·have HN2 : Hid (¬ l1 = l2) := Lib.hid (HNE.out he)
     generalize l1[k] = m1 at *
     generalize l2[k] = m2 at *
     have hcmp : ∀ w, (binOp .neq 59 (.agg #[.int .i64 m1.day, .bool m1.full, .int .i64 m1.far]) (.agg #[.int .i64 m2.day, .bool m2.full, .int .i64 m2.far])).run Tryz.prog w = .ok (.bool true) w := fun w => by
      rw [neq_ecl]
      cases m1
      cases m2
      simp at he
      simp
      grind
     clear HNX HNE he
     go_wp2_with fail
     go_quiet (fail)
     go_wp2_with fail
     go_ret
     exact ⟨ret_bool (by simp [HN2.out]), hE.drewN _⟩
   ·obtain rfl : k = l1.length := by omega
    have HE := Lib.hid hE
    have HEQ : Hid (l1 = l2) := Lib.hid (by rw [List.take_length] at htk; rw [htk, hl, List.take_length])
    clear htk hE hl
    go_wp2_with fail
    go_ret
    exact ⟨ret_bool (by simp [HEQ.out]), HE.out⟩
 ·have HNE : Hid (¬ l1 = l2) := Lib.hid (fun h => hl (by rw [h]))
  have hl' : ¬ ((l1.length : Int) = (l2.length : Int)) := by omega
  clear q1 q2 hl
  go_enter Tryz.func27, Tryz.ntmps27
  go_wp2_with fail
  go_ret
  exact ⟨ret_bool (by simp [HNE.out]), Ext.refl _⟩
set_option maxRecDepth 100000 in
theorem r_Same_any (v1 v2 : Value) (l1 l2 : List Int) (w : World) (h1 : IntsVal w v1 l1) (h2 : IntsVal w v2 l2) (n1 : l1.length ≤ 100000) (n2 : l2.length ≤ 100000) :
  Calls Tryz.prog 44 #[v1, v2] w fun e w' => e = .returned (.bool (decide (l1 = l2))) ∧ Ext w w' := by
 obtain ⟨A1, c1, rfl, q1⟩ := h1
 obtain ⟨A2, c2, rfl, q2⟩ := h2
 by_cases hl : l1.length = l2.length
 ·have HQ1 := Lib.hid q1
  have HQ2 := Lib.hid q2
  clear q1 q2
  rw [← hl]
  go_enter Tryz.func44, Tryz.ntmps44
  go_wp2_with fail
  go_loopw [5] (fun i wr => ∃ k : Nat, k ≤ l1.length ∧ i = .int .i64 k ∧ l1.take k = l2.take k ∧ Ext w wr) (fun i _ => l1.length - (intOf i).toNat)
  case atStart => exact ⟨0, Nat.zero_le _, rfl, rfl, Ext.refl _⟩
  case round =>
   obtain ⟨k, hk, rfl, htk, hE⟩ := hrel
   by_cases hlt : k < l1.length
   ·obtain ⟨b1, o1, rfl, p1⟩ := HQ1.out (by omega)
    obtain ⟨b2, o2, rfl, p2⟩ := HQ2.out (by omega)
    have hlt2 : k < l2.length := by omega
    have a0 := hE.cell (p1 k hlt)
    have d0 := hE.cell (p2 k hlt2)
    have HNX := Lib.hid (fun he => take_eq_succ htk hlt hlt2 he)
    have HNE := Lib.hid (fun (he : ¬ l1[k] = l2[k]) (hh : l1 = l2) => he (by subst hh; rfl))
    clear p1 p2 htk
    by_cases he : l1[k] = l2[k]
    ·have HX := Lib.hid (HNX.out he)
     rw [getrd hlt] at he HNE HNX
     rw [getrd hlt2] at he HNE HNX
     clear HNX HNE
     rw [he] at a0
     go_wp2_with fail
     go_quiet (fail)
     go_wp2_with fail
     refine ⟨⟨k + 1, by omega, by go_num, HX.out, hE.drewN _⟩, by simp [intOf]; omega⟩
    ·have HN2 : Hid (¬ l1 = l2) := Lib.hid (HNE.out he)
     rw [getrd hlt, getrd hlt2] at he
     clear HNX HNE
     go_wp2_with fail
     go_quiet (fail)
     go_wp2_with fail
     go_ret
     exact ⟨ret_bool (by simp [HN2.out]), hE.drewN _⟩
   ·obtain rfl : k = l1.length := by omega
    have HE := Lib.hid hE
    have HEQ : Hid (l1 = l2) := Lib.hid (by rw [List.take_length] at htk; rw [htk, hl, List.take_length])
    clear htk hE hl
    go_wp2_with fail
    go_ret
    exact ⟨ret_bool (by simp [HEQ.out]), HE.out⟩
 ·have HNE : Hid (¬ l1 = l2) := Lib.hid (fun h => hl (by rw [h]))
  have hl' : ¬ ((l1.length : Int) = (l2.length : Int)) := by omega
  clear q1 q2 hl
  go_enter Tryz.func44, Tryz.ntmps44
  go_wp2_with fail
  go_ret
  exact ⟨ret_bool (by simp [HNE.out]), Ext.refl _⟩
theorem skyOk_no {s : Sp.Sky} {k : Nat} (hk : k < s.bodies.length) (h : Sp.bodyOk (bd s.bodies k) = false) : Sp.skyOk s = false := by
 have hm : bd s.bodies k ∈ s.bodies := by
  unfold bd
  rw [List.getD_eq_getElem?_getD, List.getElem?_eq_getElem hk]
  exact List.getElem_mem hk
 have ha : s.bodies.all Sp.bodyOk = false := by
  rw [List.all_eq_false]
  exact ⟨_, hm, by rw [h]; simp⟩
 simp [Sp.skyOk, ha]
theorem bodies_take_succ {l : List Sp.Body} {k : Nat} (hk : k < l.length) (h : (l.take k).all Sp.bodyOk = true) (hb : Sp.bodyOk (bd l k) = true) : (l.take (k + 1)).all Sp.bodyOk = true := by
 have e : bd l k = l[k] := by
  unfold bd
  rw [List.getD_eq_getElem?_getD, List.getElem?_eq_getElem hk]
  rfl
 rw [List.take_succ_eq_append_getElem hk, List.all_append, h, ← e]
 simp [hb]
theorem road_no {l : List Int} {k : Nat} (hk : k < l.length) (h : Sp.inR (rd l k) (-600) 600 = false) : Sp.roadOk l = false := by
 have e : rd l k = l[k] := by
  unfold Sp.rd
  rw [List.getD_eq_getElem?_getD, List.getElem?_eq_getElem hk]
  rfl
 unfold Sp.roadOk
 rw [List.all_eq_false]
 exact ⟨_, List.getElem_mem hk, by rw [← e, h]; simp⟩
theorem road_take_succ {l : List Int} {k : Nat} (hk : k < l.length) (h : Sp.roadOk (l.take k) = true) (hb : Sp.inR (rd l k) (-600) 600 = true) : Sp.roadOk (l.take (k + 1)) = true := by
 have e : rd l k = l[k] := by
  unfold Sp.rd
  rw [List.getD_eq_getElem?_getD, List.getElem?_eq_getElem hk]
  rfl
 unfold Sp.roadOk at h ⊢
 rw [List.take_succ_eq_append_getElem hk, List.all_append, h, ← e]
 simp [hb]
set_option maxRecDepth 100000 in
set_option maxHeartbeats 1000000 in
theorem r_Sky_any (s : Sp.Sky) (A : Option Addr) (c : Nat) (w : World) (hm : Bodies w A s.bodies) (hl : Short s.bodies) :
  Calls Tryz.prog 56 #[.agg #[.slice A s.bodies.length c, .int .i64 s.nnum, .int .i64 s.nden, .int .i64 s.nstart]] w fun e w' => e = .returned (.bool (Sp.skyOk s)) ∧ Ext w w' := by
 have hl1 := hl.1
 have HL := Lib.hid hl
 have HM := Lib.hid hm
 clear hm hl
 go_enter Tryz.func56, Tryz.ntmps56
 go_wp2_with fail
 have hr0 := Row.new w 28 #[.slice A s.bodies.length c, .int .i64 s.nnum, .int .i64 s.nden, .int .i64 s.nstart]
 have hE0 : Ext w (w.alloc (.cells #[.slice A s.bodies.length c, .int .i64 s.nnum, .int .i64 s.nden, .int .i64 s.nstart] 28)) := (Ext.refl w).alloc _
 generalize w.alloc (.cells #[.slice A s.bodies.length c, .int .i64 s.nnum, .int .i64 s.nden, .int .i64 s.nstart] 28) = w1 at *
 go_loopw [3] (fun i wr => ∃ k : Nat, k ≤ s.bodies.length ∧ i = .int .i64 k ∧ (s.bodies.take k).all Sp.bodyOk = true ∧ Ext w1 wr) (fun i _ => s.bodies.length - (intOf i).toNat)
 case atStart => exact ⟨0, Nat.zero_le _, rfl, rfl, Ext.refl _⟩
 case round =>
  obtain ⟨k, hk, rfl, hall, hE⟩ := hrel
  have b0 := (hr0.ext hE).cell
  have HE := Lib.hid hE
  by_cases hlt : k < s.bodies.length
  ·obtain ⟨b, o, rfl, hB⟩ := HM.out (by omega)
   have HB := (hB k hlt).ext (hE0.trans hE)
   have HNX := Lib.hid (fun h => bodies_take_succ hlt hall h)
   have HNO := Lib.hid (fun h => skyOk_no (s := s) hlt h)
   have hrl := HL.out.2 k hlt
   clear hall hE hB
   generalize bd s.bodies k = B at *
   obtain ⟨A1, r1, hr1, I1⟩ := HB.road
   have HI := Lib.hid I1
   have q0 := HB.num
   have q1 := HB.den
   have q2 := HB.start
   have hbo : (0 : Int) ≤ (k : Int) ∧ (k : Int) < (s.bodies.length : Int) := by omega
   clear HB I1
   go_wp2_with fail
   have hrb := Row.new wr 46 #[.int .i64 B.num, .int .i64 B.den, .int .i64 B.start, .slice A1 B.road.length r1]
   refine (r_period_any _ _ _).mono ?_
   rintro e w3 ⟨rfl, hE3⟩
   have rB := hrb.ext hE3
   have cB := rB.cell
   have I3 := Lib.hid (HI.out.ext (((Ext.refl wr).alloc _).trans hE3))
   have HE3 := Lib.hid (HE.out.trans (((Ext.refl wr).alloc _).trans hE3))
   clear hE3 hrb q0 q1 q2 hr1 b0
   cases p1 : Sp.period B.num B.den
   ·have HN := Lib.hid (HNO.out (by simp [Sp.bodyOk, p1]))
    go_wp2_with fail
    go_ret
    exact ⟨ret_bool HN.out.symm, hE0.trans HE3.out⟩
   ·cases p2 : Sp.spot B.start
    ·have HN := Lib.hid (HNO.out (by simp [Sp.bodyOk, p2]))
     go_wp2_with (go_at_call 79; refine (r_Spot_any _ _).mono ?_; rintro e w' ⟨rfl, rfl⟩)
     go_ret
     exact ⟨ret_bool HN.out.symm, hE0.trans HE3.out⟩
    ·cases p3 : Sp.inR (B.road.length : Int) 1 8
     ·have HN := Lib.hid (HNO.out (by simp [Sp.bodyOk, p3]))
      go_wp2_with (first | (go_at_call 79; refine (r_Spot_any _ _).mono ?_; rintro e w' ⟨rfl, rfl⟩) | (go_at_call 101; refine (r_in_any _ _ _ _).mono ?_; rintro e w' ⟨rfl, rfl⟩))
      go_ret
      exact ⟨ret_bool HN.out.symm, hE0.trans HE3.out⟩
     ·have HBK : Hid (Sp.bodyOk B = Sp.roadOk B.road) := Lib.hid (by simp [Sp.bodyOk, p1, p2, p3])
      go_wp2_with (first | (go_at_call 79; refine (r_Spot_any _ _).mono ?_; rintro e w' ⟨rfl, rfl⟩) | (go_at_call 101; refine (r_in_any _ _ _ _).mono ?_; rintro e w' ⟨rfl, rfl⟩))
      clear cB p1 p2 p3
      go_loopw [5] (fun j ws => ∃ m : Nat, m ≤ B.road.length ∧ j = .int .i64 m ∧ Sp.roadOk (B.road.take m) = true ∧ Ext w3 ws) (fun j _ => B.road.length - (intOf j).toNat)
      case atStart => exact ⟨0, Nat.zero_le _, rfl, rfl, Ext.refl _⟩
      case round =>
       obtain ⟨m, hmm, rfl, hal2, hEs⟩ := hrel
       have cB := (rB.ext hEs).cell
       by_cases hlt2 : m < B.road.length
       ·obtain ⟨g, q, rfl, hI⟩ := I3.out (by omega)
        have x1 := hEs.cell (hI m hlt2)
        have HX := Lib.hid (fun h => road_take_succ hlt2 hal2 h)
        have HY := Lib.hid (fun h => road_no hlt2 h)
        have HES := Lib.hid hEs
        clear hal2 hEs hI
        cases p4 : Sp.inR (rd B.road m) (-600) 600
        ·have HN := Lib.hid (HNO.out (by rw [HBK.out]; exact HY.out p4))
         go_wp2_with (go_at_call 101; refine (r_in_any _ _ _ _).mono ?_; rintro e w' ⟨rfl, rfl⟩)
         go_ret
         exact ⟨ret_bool HN.out.symm, hE0.trans (HE3.out.trans HES.out)⟩
        ·have HN := Lib.hid (HX.out p4)
         go_wp2_with (go_at_call 101; refine (r_in_any _ _ _ _).mono ?_; rintro e w' ⟨rfl, rfl⟩)
         refine ⟨⟨m + 1, by omega, by go_num, HN.out, HES.out⟩, by simp [intOf]; omega⟩
       ·obtain rfl : m = B.road.length := by omega
        rw [List.take_length] at hal2
        have HN := Lib.hid (HNX.out (by rw [HBK.out]; exact hal2))
        have HES := Lib.hid (HE3.out.trans hEs)
        clear hal2 hEs
        go_wp2_with fail
        refine ⟨⟨k + 1, by omega, by go_num, HN.out, HES.out⟩, by simp [intOf]; omega⟩
  ·obtain rfl : k = s.bodies.length := by omega
   rw [List.take_length] at hall
   have HSO : Hid (Sp.skyOk s = (Sp.inR s.bodies.length 2 4 && (Sp.period s.nnum s.nden && Sp.spot s.nstart))) := Lib.hid (by simp [Sp.skyOk, hall])
   clear hall hE
   cases p1 : Sp.inR (s.bodies.length : Int) 2 4
   ·go_wp2_with (go_at_call 101; refine (r_in_any _ _ _ _).mono ?_; rintro e w' ⟨rfl, rfl⟩)
    go_ret
    exact ⟨ret_bool (by rw [HSO.out]; simp_all), hE0.trans HE.out⟩
   ·cases p2 : Sp.period s.nnum s.nden
    ·go_wp2_with (first | (go_at_call 101; refine (r_in_any _ _ _ _).mono ?_; rintro e w' ⟨rfl, rfl⟩) | (go_at_call 112; refine (r_period_any _ _ _).mono ?_; rintro e w3 ⟨rfl, hE3⟩; have b3 := (hr0.ext (HE.out.trans hE3)).cell))
     go_ret
     exact ⟨ret_bool (by rw [HSO.out]; simp_all), hE0.trans (HE.out.trans ‹_›)⟩
    ·go_wp2_with (first | (go_at_call 101; refine (r_in_any _ _ _ _).mono ?_; rintro e w' ⟨rfl, rfl⟩) | (go_at_call 112; refine (r_period_any _ _ _).mono ?_; rintro e w3 ⟨rfl, hE3⟩; have b3 := (hr0.ext (HE.out.trans hE3)).cell) | (go_at_call 79; refine (r_Spot_any _ _).mono ?_; rintro e w' ⟨rfl, rfl⟩))
     go_ret
     exact ⟨ret_bool (by rw [HSO.out]; simp_all), hE0.trans (HE.out.trans ‹_›)⟩
theorem conv1 (b : Nat) (k : Int) (h0 : 0 ≤ k) (h1 : k < 256) (w : World) (h : w.cell? ⟨b, 0, none⟩ = some (.int .u8 k)) : (convert 192 9 (.slice (some ⟨b, 0, none⟩) 1 1)).run Tryz.prog w = .ok (.string (bs [UInt8.ofNat k.toNat])) w :=
 run_convert_bytes_back (P := Tryz.prog) w 192 9 5 ⟨b, 0, none⟩ 1 [UInt8.ofNat k.toNat] Tryz.underlying192 Tryz.underlying5 Tryz.underlying9 (fun j hj => by
  have : j = 0 := by simpa using hj
  subst this
  rw [add0, h]
  simp
  omega)
def front (m : Nat) : Bs := if m < 10 then [] else Lib.decDigits (m / 10)
theorem front_dec (m : Nat) : Lib.decDigits m = front m ++ [UInt8.ofNat (48 + m % 10)] := by
 unfold front
 by_cases h : m < 10
 ·rw [Lib.decDigits, dif_pos h, if_pos h, Nat.mod_eq_of_lt h]
  rfl
 ·rw [Lib.decDigits, dif_neg h, if_neg h]
set_option maxRecDepth 100000 in
theorem r_Decimal_nat (n : Nat) (w : World) (hn : n ≤ 1000000000000000000) :
  Calls Tryz.prog 121 #[.int .i64 (n : Int)] w fun e w' => e = .returned (.string (bs (Lib.decDigits n))) ∧ Ext w w' := by
 obtain ⟨d, hd0⟩ : ∃ d : UInt8, UInt8.ofNat (48 + n % 10) = d := ⟨_, rfl⟩
 have hch : UInt8.ofNat (48 + (n : Int) % 10).toNat = d := by rw [← hd0]; congr 1
 have HD0 := Lib.hid hd0
 clear hd0
 have hcv := conv1 w.heap.size (48 + (n : Int) % 10) (by omega) (by omega) (w.alloc (.cells #[.int .u8 (48 + (n : Int) % 10)] 5)) (by simp)
 rw [hch] at hcv
 clear hch
 go_enter Tryz.func121, Tryz.ntmps121
 go_wp2_with fail
 clear hcv
 have hE1 : Ext w (w.alloc (.cells #[.int .u8 (48 + (n : Int) % 10)] 5)) := (Ext.refl w).alloc _
 generalize w.alloc (.cells #[.int .u8 (48 + (n : Int) % 10)] 5) = w1 at *
 go_loopw [0, 3] (fun m v wr => ∃ (k : Nat) (r : Bs), m = .int .i64 (k : Int) ∧ k ≤ n ∧ v = .string (bs r) ∧ Lib.decDigits n = front k ++ r ∧ Ext w1 wr) (fun m _ _ => (intOf m).toNat)
 case atStart => exact ⟨n, _, rfl, Nat.le_refl _, rfl, by rw [front_dec, HD0.out], Ext.refl _⟩
 case round =>
  obtain ⟨k, r, rfl, hk, rfl, hd, hE⟩ := hrel
  have HD := Lib.hid hd
  have HE := Lib.hid hE
  clear hd hE
  by_cases hlt : 10 ≤ k
  ·have hq : ((k : Int)).tdiv 10 = ((k / 10 : Nat) : Int) := by rw [Int.tdiv_eq_ediv_of_nonneg (by omega)]; omega
   obtain ⟨d2, hd2⟩ : ∃ d : UInt8, UInt8.ofNat (48 + k / 10 % 10) = d := ⟨_, rfl⟩
   have hch : UInt8.ofNat (48 + (k : Int) / 10 % 10).toNat = d2 := by rw [← hd2]; congr 1
   have HN : Hid (Lib.decDigits n = front (k / 10) ++ ([d2] ++ r)) := Lib.hid (by
    rw [HD.out, show front k = Lib.decDigits (k / 10) from if_neg (by omega), front_dec, List.append_assoc, hd2])
   clear hd2
   have hcv := conv1 wr.heap.size (48 + (k : Int) / 10 % 10) (by omega) (by omega) (wr.alloc (.cells #[.int .u8 (48 + (k : Int) / 10 % 10)] 5)) (by simp)
   rw [hch] at hcv
   clear hch
   have hrl : r.length ≤ 21 := by
    have h1 := Lib.itoa_length_le (n : Int) (by omega) (by omega)
    rw [Lib.itoa_nonneg, HD.out, List.length_append] at h1
    omega
   have hadd := add_str [d2] r (by simp; omega)
   go_wp2_with fail
   refine ⟨⟨k / 10, _, by go_num, by omega, rfl, HN.out, HE.out.alloc _⟩, by simp [intOf]; omega⟩
  ·have HN : Hid (Lib.decDigits n = r) := Lib.hid (by rw [HD.out, show front k = [] from if_pos (by omega)]; rfl)
   go_wp2_with fail
   go_ret
   exact ⟨by rw [HN.out]; rfl, hE1.trans HE.out⟩
theorem r_Decimal_any (n : Int) (w : World) (h1 : -1000000000000000000 ≤ n) (h2 : n ≤ 1000000000000000000) :
  Calls Tryz.prog 121 #[.int .i64 n] w fun e w' => e = .returned (.string (bs (Lib.itoa n))) ∧ Ext w w' := by
 by_cases h0 : 0 ≤ n
 ·obtain ⟨u, rfl⟩ := Int.eq_ofNat_of_zero_le h0
  rw [Lib.itoa_nonneg]
  exact r_Decimal_nat u w (by omega)
 ·obtain ⟨u, hu⟩ := Int.eq_ofNat_of_zero_le (show 0 ≤ -n by omega)
  have hn : n = -(u : Int) := by omega
  have hl := Lib.itoa_length_le (u : Int) (by omega) (by omega)
  rw [Lib.itoa_nonneg] at hl
  rw [hn, Lib.itoa_neg u (by omega)]
  have hadd : ∀ W : World, (Op.stringOp .add ⟨#[45]⟩ (bs (Lib.decDigits u))).run Tryz.prog W = .ok (.string (bs (45 :: Lib.decDigits u))) W := add_str [45] (Lib.decDigits u) (by simp; omega)
  have hu1 : 1 ≤ u := by omega
  have hu2 : u ≤ 1000000000000000000 := by omega
  clear hu hn h0 h1 h2
  go_enter Tryz.func121, Tryz.ntmps121
  go_wp2_with fail
  refine (r_Decimal_nat u _ (by omega)).mono ?_
  rintro e w1 ⟨rfl, hE⟩
  go_wp2_with fail
  go_ret
  exact ⟨rfl, hE⟩
def outL (L : List Bs) : Nat → Bs
 | 0 => []
 | k + 1 => outL L k ++ L.getD k [] ++ [10]
theorem outL_length (L : List Bs) (k : Nat) (h : ∀ x ∈ L, x.length ≤ 23000) (hk : k ≤ L.length) : (outL L k).length ≤ k * 23001 := by
 induction k with
 | zero => simp [outL]
 | succ k ih =>
  have h1 := ih (by omega)
  have h2 := h (L.getD k []) (by rw [List.getD_eq_getElem?_getD, List.getElem?_eq_getElem (by omega)]; exact List.getElem_mem _)
  simp only [outL, List.length_append, List.length_cons, List.length_nil]
  omega
theorem outL_flat (L : List Bs) (k : Nat) (hk : k ≤ L.length) : outL L k = ((L.take k).map (· ++ [10])).flatten := by
 induction k with
 | zero => simp [outL]
 | succ k ih =>
  rw [outL, ih (by omega), List.take_succ_eq_append_getElem (by omega), List.map_append, List.flatten_append, List.getD_eq_getElem?_getD, List.getElem?_eq_getElem (by omega), List.append_assoc]
  simp only [List.map_cons, List.map_nil, List.flatten_cons, List.flatten_nil, List.append_nil, Option.getD_some]
theorem flat_ends (r : List Bs) : (r.map ([10] ++ ·)).flatten ++ [10] = [10] ++ (r.map (· ++ [(10 : UInt8)])).flatten := by
 induction r with
 | nil => rfl
 | cons x r ih =>
  simp only [List.map_cons, List.flatten_cons, List.append_assoc] at ih ⊢
  rw [ih]
theorem outL_join (L : List Bs) (h : L ≠ []) : outL L L.length = Lib.join L [10] ++ [10] := by
 rw [outL_flat L _ (Nat.le_refl _), List.take_length]
 cases L with
 | nil => exact absurd rfl h
 | cons x r =>
  rw [Lib.join_cons, Lib.joinTail, List.append_assoc, flat_ends]
  simp
end Go.Proofs.YtcbodpnmndbgnaaGreatDoor
namespace Go.Proofs.YtcbodpnmndbgnaaGreatDoor
open Go.RowKit
open Sp (rd)
set_option maxRecDepth 100000
set_option maxHeartbeats 2000000
set_option linter.unusedVariables false
theorem info_pair : (Tryz.prog.info? 140).map (fun i => (i.zero, i.size, i.bytes)) = some (some (.agg #[.int .i64 0, .int .i64 0]), 2, 16) := by kernel_rfl
def pairCells (l : List Ec.Pair) : List Value := l.flatMap fun m => [.int .i64 m.drives, .int .i64 m.driven]
theorem pairCells_append (l m : List Ec.Pair) : pairCells (l ++ m) = pairCells l ++ pairCells m := by simp [pairCells]
theorem pairCells_get (l : List Ec.Pair) : ∀ k (hk : k < l.length), (pairCells l)[k * 2]? = some (.int .i64 (pd l k).drives) ∧ (pairCells l)[k * 2 + 1]? = some (.int .i64 (pd l k).driven) := by
 induction l with
 | nil => intro k hk; simp at hk
 | cons m l ih =>
  intro k hk
  cases k with
  | zero => simp [pairCells, pd]
  | succ k =>
   have := ih k (by simpa using hk)
   have e : pairCells (m :: l) = [.int .i64 m.drives, .int .i64 m.driven] ++ pairCells l := by simp [pairCells]
   have e2 : pd (m :: l) (k + 1) = pd l k := by simp [pd]
   rw [e, e2, show (k + 1) * 2 = (k * 2) + 2 by omega, show (k * 2) + 2 + 1 = (k * 2 + 1) + 2 by omega]
   simpa using this
def Keeps (B : Nat) (w w' : World) : Prop := ∀ q v, B ≤ q.block → w.cell? q = some v → w'.cell? q = some v
theorem Keeps.of_ext {B : Nat} {w w1 w' : World} (h : Ext w w1) (hk : Keeps B w1 w') : Keeps B w w' := fun q v hq hc => hk q v hq (h.cell hc)
theorem Ext.keeps {w w' : World} (h : Ext w w') (B : Nat) : Keeps B w w' := fun _ _ _ hc => h.cell hc
theorem Keeps.mono {B C : Nat} {w w' : World} (h : Keeps B w w') (hb : B ≤ C) : Keeps C w w' := fun q v hq hc => h q v (by omega) hc
theorem Keeps.trans {B : Nat} {w w1 w' : World} (h : Keeps B w w1) (hk : Keeps B w1 w') : Keeps B w w' := fun q v hq hc => hk q v hq (h q v hq hc)
theorem Keeps.setCell {B : Nat} {w w' : World} (h : Keeps B w w') {p : Addr} (hp : p.block < B) (u : Value) : Keeps B w (w'.setCell p u) := fun q v hq hc => by
 rw [World.cell?_setCell_far w' p q u (by omega)]
 exact h q v hq hc
theorem Keeps.sets {B g : Nat} {w : World} (hg : g < B) : ∀ (vs : List Value) (i : Nat) (W : World), Keeps B w W → Keeps B w (setsAt W g i vs)
 | [], _, _, h => h
 | v :: vs, i, _, h => Keeps.sets hg vs (i + 1) _ (h.setCell (p := ⟨g, i, none⟩) hg v)
def HiP (B : Nat) (w : World) (A : Option Addr) (l : List Ec.Pair) : Prop := ∀ w', Keeps B w w' → Pairs w' A l
theorem HiP.ext {B : Nat} {w w1 : World} {A : Option Addr} {l : List Ec.Pair} (h : HiP B w A l) (he : Ext w w1) : HiP B w1 A l := fun w' hk => h w' (hk.of_ext he)
theorem HiP.mono {B C : Nat} {w : World} {A : Option Addr} {l : List Ec.Pair} (h : HiP B w A l) (hc : C ≤ B) : HiP C w A l := fun w' hk => h w' (hk.mono hc)
theorem Pairs.of_own {w : World} {base : Nat} {v : Value} {l : List Ec.Pair} (h : w.ownsRow base 140 2 v l.length (pairCells l)) : ∃ A c, v = .slice A l.length c ∧ HiP base w A l := by
 rcases h.2 with ⟨rfl, h0⟩ | ⟨g, cap, cur, hv, hb, _⟩
 ·exact ⟨none, 0, by rw [h0], fun _ _ hh => by omega⟩
 ·refine ⟨some ⟨g, 0, none⟩, cap, hv, fun w' hk _ => ⟨g, 0, rfl, fun k hk' => ?_⟩⟩
  have hc := h.cells (g := g) (by rw [hv]; rfl)
  have h1 := hc _ _ (pairCells_get l k hk').1
  have h2 := hc _ _ (pairCells_get l k hk').2
  rw [add0] at h1 h2
  exact ⟨hk _ _ hb (by simpa using h1), hk _ _ hb (by simpa using h2)⟩
theorem l7_train_any (l : List Ec.Pair) (A : Option Addr) (c : Nat) (w : World) (hm : Pairs w A l) (hl : l.length ≤ 1000) :
  Calls Tryz.prog 115 #[.slice A (2 * l.length) c] w fun e w' => ∃ B d, e = .returned (.slice B l.length d) ∧ HiP w.heap.size w' B l ∧ Ext w w' := by
 have HM := Lib.hid hm
 obtain ⟨i0, hi0, hi1, hi2, hi3⟩ := info_parts info_pair
 obtain ⟨N, hN⟩ : ∃ N, 2 * l.length = N := ⟨_, rfl⟩
 rw [hN]
 have hN9 : (N : Int) ≤ 2000 := by omega
 clear hm
 go_enter Tryz.func115, Tryz.ntmps115
 go_wp2_with fail
 go_loopw [3, 4] (fun v i wr => ∃ k : Nat, k ≤ l.length ∧ i = .int .i64 ((2 * k : Nat) : Int) ∧ wr.ownsRow w.heap.size 140 2 v k (pairCells (l.take k)) ∧ Ext w wr) (fun _ i _ => 2 * l.length - (intOf i).toNat)
 case atStart => exact ⟨0, Nat.zero_le _, rfl, by simp [World.ownsRow, pairCells], Ext.refl _⟩
 case round =>
  obtain ⟨k, hk, rfl, hown, hX⟩ := hrel
  have hX9 := hX.size
  by_cases hlt : k < l.length
  ·obtain ⟨b, o, rfl, hcell⟩ := HM.out (by omega)
   obtain ⟨q1, q2⟩ := hcell k hlt
   replace q1 := hX.cell q1
   replace q2 := hX.cell q2
   have htake : l.take (k + 1) = l.take k ++ [pd l k] := by
    rw [List.take_succ_eq_append_getElem hlt]
    unfold pd
    rw [List.getD_eq_getElem?_getD, List.getElem?_eq_getElem hlt]
    rfl
   have HT := Lib.hid htake
   obtain ⟨m, hm⟩ : ∃ m, pd l k = m := ⟨_, rfl⟩
   rw [hm] at q1 q2 HT
   obtain ⟨x, y⟩ := m
   simp only at q1 q2
   obtain ⟨j, hj⟩ : ∃ j : Nat, 2 * k = j := ⟨_, rfl⟩
   rw [hj]
   rw [show o + k * 2 = o + j by omega] at q1
   rw [show o + k * 2 + 1 = o + (j + 1) by omega] at q2
   have hj1 : (j : Int) + 1 < (N : Int) := by omega
   have HJ := Lib.hid hj
   have HNN := Lib.hid hN
   have hj9 : ((j : Int) + 1).toNat = j + 1 := by omega
   have HX := Lib.hid hX
   have HOW := Lib.hid hown
   clear hX hown hcell htake hm hj hN hk
   have q1c := q1
   have q2c := q2
   go_wp2_with fail
   clear q1 q2
   refine wp_region_later_mix (v0 := u3) 11 (by kernel_rfl) (by kernel_rfl) rfl rfl (by kernel_rfl) ?_ (fun W hW => ?_)
   ·intro x
    rfl
   subst hW
   have y1 := fun X : Later W => X.ext.cell q1c
   have y2 := fun X : Later W => X.ext.cell q2c
   clear q1c q2c
   simp only [List.take_succ_cons, List.take_zero, List.drop_succ_cons, List.drop_zero, Act.put, List.setIfInBounds_toArray, List.set_cons_succ, List.set_cons_zero]
   repeat (go_big_quiet_step (fail))
   refine wpQuiet_nil ?_
   rintro ⟨w4, hE4⟩
   dsimp only
   go_wp2
   have hz4 := hE4.size
   refine ⟨⟨⟨_, hE4.alloc _⟩, rfl⟩, ?_⟩
   have hown4 := (ownsRow_of_block HOW.out (fun g hg => hE4.block g (HOW.out.lt g hg).2)).alloc (.cells #[.int .i64 x, .int .i64 y] 140)
   have HO4 := Lib.hid hown4
   clear hown4
   refine wpList_append_lies _ rfl _ _ 29 rfl w.heap.size 140 i0 _ 2 16 Tryz.underlying29 hi0 hi1 hi2 hi3 rfl (by decide) u3 k (pairCells (l.take k)) rfl HO4.out ⟨w4.heap.size, 0, none⟩ 1 1 [.int .i64 x, .int .i64 y] rfl rfl (World.news_of_block (cs := #[.int .i64 x, .int .i64 y]) (t := 140) (fr := (0, 0)) (heap_alloc_new _ _)) (by simp [Value.oneCell']) (by omega) (by simp only [maxLen]; omega) (by omega) (by simp; omega) _ rfl ?_
   intro gg cap w5 hown5 hgrow hat hlt4
   have HO5 := Lib.hid hown5
   have HX5 := Lib.hid (((HX.out.trans hE4).alloc _).grown hgrow (fun g hg => (HO4.out.lt g hg).1))
   clear hown5 hgrow hat hE4 y1 y2
   go_wp2
   refine NoPanic.normal ?_
   go_wp2_with fail
   have hk2 := HJ.out
   refine ⟨⟨k + 1, by omega, by rw [show 2 * (k + 1) = j + 2 by omega]; go_num, ?_, HX5.out⟩, by simp [intOf]; omega⟩
   rw [HT.out]
   simpa [pairCells_append, pairCells] using HO5.out
  ·obtain rfl : k = l.length := by omega
   rw [List.take_length] at hown
   obtain ⟨B, d, rfl, hP⟩ := Pairs.of_own hown
   have HP := Lib.hid hP
   have HX := Lib.hid hX
   clear hX hown hP
   rw [hN]
   go_wp2_with fail
   go_ret
   exact ⟨B, d, rfl, HP.out, HX.out⟩
theorem r7_SameWords_any (A1 A2 : Option Addr) (c1 c2 : Nat) (l1 l2 : List Int) (w : World) (q1 : Ints w A1 l1) (q2 : Ints w A2 l2) (n1 : l1.length ≤ 100000) (n2 : l2.length ≤ 100000) :
  Calls Tryz.prog 67 #[.slice A1 l1.length c1, .slice A2 l2.length c2] w fun e w' => e = .returned (.bool (decide (l1 = l2))) ∧ Ext w w' := by
 by_cases hl : l1.length = l2.length
 ·have HQ1 := Lib.hid q1
  have HQ2 := Lib.hid q2
  clear q1 q2
  rw [← hl]
  go_enter Tryz.func67, Tryz.ntmps67
  go_wp2_with fail
  go_loopw [5] (fun i wr => ∃ k : Nat, k ≤ l1.length ∧ i = .int .i64 k ∧ l1.take k = l2.take k ∧ Ext w wr) (fun i _ => l1.length - (intOf i).toNat)
  case atStart => exact ⟨0, Nat.zero_le _, rfl, rfl, Ext.refl _⟩
  case round =>
   obtain ⟨k, hk, rfl, htk, hE⟩ := hrel
   by_cases hlt : k < l1.length
   ·obtain ⟨b1, o1, rfl, p1⟩ := HQ1.out (by omega)
    obtain ⟨b2, o2, rfl, p2⟩ := HQ2.out (by omega)
    have hlt2 : k < l2.length := by omega
    have a0 := hE.cell (p1 k hlt)
    have d0 := hE.cell (p2 k hlt2)
    have HNX := Lib.hid (fun he => take_eq_succ htk hlt hlt2 he)
    have HNE := Lib.hid (fun (he : ¬ l1[k] = l2[k]) (hh : l1 = l2) => he (by subst hh; rfl))
    clear p1 p2 htk
    by_cases he : l1[k] = l2[k]
    ·have HX := Lib.hid (HNX.out he)
     rw [getrd hlt] at he HNE HNX
     rw [getrd hlt2] at he HNE HNX
     clear HNX HNE
     rw [he] at a0
     go_wp2_with fail
     go_quiet (fail)
     go_wp2_with fail
     refine ⟨⟨k + 1, by omega, by go_num, HX.out, hE.drewN _⟩, by simp [intOf]; omega⟩
    ·have HN2 : Hid (¬ l1 = l2) := Lib.hid (HNE.out he)
     rw [getrd hlt, getrd hlt2] at he
     clear HNX HNE
     go_wp2_with fail
     go_quiet (fail)
     go_wp2_with fail
     go_ret
     exact ⟨ret_bool (by simp [HN2.out]), hE.drewN _⟩
   ·obtain rfl : k = l1.length := by omega
    have HE := Lib.hid hE
    have HEQ : Hid (l1 = l2) := Lib.hid (by rw [List.take_length] at htk; rw [htk, hl, List.take_length])
    clear htk hE hl
    go_wp2_with fail
    go_ret
    exact ⟨ret_bool (by simp [HEQ.out]), HE.out⟩
 ·have HNE : Hid (¬ l1 = l2) := Lib.hid (fun h => hl (by rw [h]))
  have hl' : ¬ ((l1.length : Int) = (l2.length : Int)) := by omega
  clear q1 q2 hl
  go_enter Tryz.func67, Tryz.ntmps67
  go_wp2_with fail
  go_ret
  exact ⟨ret_bool (by simp [HNE.out]), Ext.refl _⟩
end Go.Proofs.YtcbodpnmndbgnaaGreatDoor
namespace Go.Proofs.YtcbodpnmndbgnaaGreatDoor
open Sp (rd)
set_option maxRecDepth 100000
def skyG : Sp.Sky := ⟨[⟨360, 1, 0, [0]⟩, ⟨27, 1, 0, [0, 300, 0, -300]⟩], 1800, 1, 1000⟩
def engG : Ec.Engine := ⟨skyG, [⟨4, 16⟩, ⟨4, 36⟩, ⟨4, 40⟩], [⟨4, 11⟩, ⟨4, 39⟩], [⟨4, 32⟩, ⟨4, 60⟩, ⟨4, 60⟩], [10, 20, 40], 1900, 600, 0⟩
def engH : Ec.Engine := ⟨skyG, [⟨4, 16⟩, ⟨4, 36⟩, ⟨4, 40⟩], [⟨4, 11⟩, ⟨4, 39⟩], [⟨4, 32⟩, ⟨4, 60⟩, ⟨4, 60⟩], [10, 20, 40], 0, 313, 0⟩
def ballsB : List Ec.Ball := [⟨10, 0, 3⟩, ⟨20, 0, 4⟩, ⟨20, 8, 3⟩]
def textKE : Bs := [101, 99, 108, 105, 112, 115, 101, 115, 32, 49, 10, 102, 117, 108, 108, 32, 49, 53, 32, 52, 54, 51, 10, 101, 110, 100, 32, 48, 56, 57, 10]
theorem kG : Ec.engineOk engG = true := by decide +kernel
theorem kH : Ec.engineOk engH = true := by decide +kernel
theorem kHands : Ec.sunAt engG [] 15 = 900 ∧ Ec.moonAt engG [] 15 = 12083 ∧ Ec.nodeAt engG [] 15 = 820 := by decide +kernel
theorem kOffs : Ec.sunOff engG [] 15 = 0 ∧ Ec.moonOff engG [] 15 = 83 ∧ Ec.nodeOff engG [] 15 = 0 := by decide +kernel
theorem kFore : Ec.foreL engG [] 1 44 = [⟨15, true, 463⟩, ⟨29, false, 1110⟩] := by decide +kernel
theorem kMiss : Ec.missedL engG [] 1 44 0 = [⟨30, false, 1893⟩] := by decide +kernel
theorem kWithin : Ec.withinO engG [] 1 44 = some 1 := by decide +kernel
theorem kUntil : Ec.untilI engG [] 1 44 0 = 29 := by decide +kernel
theorem kWidens : Ec.widens engH [] 1 44 0 = 150 := by decide +kernel
theorem kSet : Ec.docSet (goodB engG 1 44 0) 3 = some [0] := by decide +kernel
theorem kSetP : Ec.progSet (goodB engG 1 44 0) 3 = some [0] := by rw [Ec.prog_doc]; exact kSet
theorem kBalls : Ec.ballsOk ballsB = true := by decide +kernel
theorem kDark : Ec.darkL ballsB = [1, 3, 2] := by decide +kernel
theorem kTextE : Ec.textE [⟨15, true, 463⟩] = textKE := by decide +kernel
theorem kNumE : Ec.EclNum [⟨15, true, 463⟩] := ⟨fun e he => by rw [List.mem_singleton.1 he]; decide, fun e he => by rw [List.mem_singleton.1 he]; decide⟩
theorem kParseE : Ec.parseE textKE = some [⟨15, true, 463⟩] := (Ec.parse_iffE _ _).2 ⟨kTextE, kNumE⟩
end Go.Proofs.YtcbodpnmndbgnaaGreatDoor
