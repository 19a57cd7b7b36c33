/- Shelf: Contracts of the library at this seat's dump (printed by the kit's lay-shelf.mjs and lay-plain.mjs; the numbers are this seat's).
Text1: The walks of layer 5: what the library's variables hold; numerals; lines.
Text2: For the walk of a table's text: strings in memory, lines behind k bodies, bounds of the check.
Text3: The walk of a table's text. -/
import Derived.Shelf.Strings.OnBuilder
import Derived.Shelf.LaysM
import Derived.Shelf.Strconv.Itoa3
import Derived.Shelf.Strings.Prefix
import Derived.Shelf.Strings.Split
import Derived.Lib.AppendIntMem
import Derived.Lib.ItoaLen
import Derived.Test.YtlcddcnmoajpjaaGreatDoorProg
import Derived.Test.YtlcddcnmoajpjaaGreatDoorV11
import Derived.Test.YtlcddcnmoajpjaaGreatDoorV14
namespace Go.Proofs
open Go.Shelf
def Tryz.lays156_ren : Go.Shelf.Ren := ⟨fun | 156 => 161 | 165 => 170 | 166 => 171 | 169 => 172 | 240 => 176 | 241 => 177 | 276 => 183 | 277 => 184 | n => n, fun | 31 => 140 | 9 => 9 | 3 => 3 | 4 => 4 | 0 => 0 | 20 => 20 | 72 => 183 | 76 => 187 | 70 => 181 | 37 => 98 | 75 => 186 | 127 => 192 | 164 => 197 | 5 => 5 | 80 => 189 | n => n, fun | n => n⟩
theorem Tryz.lays156 : Go.Proofs.Lays.n156 Tryz.prog Tryz.lays156_ren := {
  mixed := by kernel_rfl
  f156 := Tryz.func161.trans (congrArg some (by kernel_rfl))
  f165 := Tryz.func170.trans (congrArg some (by kernel_rfl))
  f166 := Tryz.func171.trans (congrArg some (by kernel_rfl))
  f169 := Tryz.func172.trans (congrArg some (by kernel_rfl))
  f240 := Tryz.func176.trans (congrArg some (by kernel_rfl))
  f241 := Tryz.func177.trans (congrArg some (by kernel_rfl))
  f276 := Tryz.func183.trans (congrArg some (by kernel_rfl))
  f277 := Tryz.func184.trans (congrArg some (by kernel_rfl))
  t0 := Tryz.underlying0
  a0 := Tryz.isAgg0
  z0 := Tryz.sizeOf0
  v0 := Tryz.zeroValue0
  t3 := Tryz.underlying3
  a3 := Tryz.isAgg3
  z3 := Tryz.sizeOf3
  v3 := Tryz.zeroValue3
  t4 := Tryz.underlying4
  a4 := Tryz.isAgg4
  z4 := Tryz.sizeOf4
  v4 := Tryz.zeroValue4
  t9 := Tryz.underlying9
  a9 := Tryz.isAgg9
  z9 := Tryz.sizeOf9
  v9 := Tryz.zeroValue9
  t20 := Tryz.underlying20
  a20 := Tryz.isAgg20
  z20 := Tryz.sizeOf20
  v20 := Tryz.zeroValue20
  t31 := Tryz.underlying140
  a31 := Tryz.isAgg140
  z31 := Tryz.sizeOf140
  v31 := Tryz.zeroValue140
  t37 := Tryz.underlying98
  a37 := Tryz.isAgg98
  z37 := Tryz.sizeOf98
  v37 := Tryz.zeroValue98
  t70 := Tryz.underlying181
  a70 := Tryz.isAgg181
  z70 := Tryz.sizeOf181
  v70 := Tryz.zeroValue181
  t72 := Tryz.underlying183
  a72 := Tryz.isAgg183
  z72 := Tryz.sizeOf183
  v72 := Tryz.zeroValue183
  t75 := Tryz.underlying186
  a75 := Tryz.isAgg186
  z75 := Tryz.sizeOf186
  v75 := Tryz.zeroValue186
  t76 := Tryz.underlying187
  a76 := Tryz.isAgg187
  z76 := Tryz.sizeOf187
  v76 := Tryz.zeroValue187
  t127 := Tryz.underlying192
  a127 := Tryz.isAgg192
  z127 := Tryz.sizeOf192
  v127 := Tryz.zeroValue192
  t164 := Tryz.underlying197
  a164 := Tryz.isAgg197
  z164 := Tryz.sizeOf197
  v164 := Tryz.zeroValue197 }
theorem Tryz.Builder_Extra_156 : Builder.Extra Tryz.prog Tryz.lays156_ren := {
  sizeBuilder := by kernel_rfl
  liesBuilder := by kernel_rfl
  t5 := Tryz.underlying5
  a5 := Tryz.isAgg5
  z5 := Tryz.sizeOf5
  v5 := Tryz.zeroValue5
  infoByte := by kernel_rfl
  cellsByte := by kernel_rfl
  sizeByte := by kernel_rfl
  neB5 := by decide }
open Go.RowKit in
theorem Tryz.strings_Join_none (a : Option Addr) (c : Nat) (sep : ByteArray) (w : World) :
    Calls Tryz.prog 161 #[.slice a 0 c, .string sep] w fun e w' => e = .returned (.string ⟨#[]⟩) ∧ w' = w := Any.strings_Join_none Tryz.lays156 Tryz.Builder_Extra_156 a c sep w
open Go.RowKit in
theorem Tryz.strings_Join (bk o c : Nat) (xs : List ByteArray) (sep : ByteArray) (w : World) (hcells : ∀ (j : Nat) x, xs[j]? = some x → w.cell? ⟨bk, o + j, none⟩ = some (.string x)) (hbk : bk < w.heap.size) (hN : xs.length ≤ 140737488355328) (hcap : xs.length ≤ c) (hlen : (Lib.join (xs.map (·.data.toList)) sep.data.toList).length ≤ 140737488355328) :
    Calls Tryz.prog 161 #[.slice (some ⟨bk, o, none⟩) xs.length c, .string sep] w fun e w' => e = .returned (.string ⟨(Lib.join (xs.map (·.data.toList)) sep.data.toList).toArray⟩) ∧ Below w.heap.size w w' := Any.strings_Join Tryz.lays156 Tryz.Builder_Extra_156 bk o c xs sep w hcells hbk hN hcap hlen
def Tryz.laysM171_ren : Go.Shelf.Ren := ⟨fun | 171 => 162 | 243 => 173 | 246 => 178 | 283 => 185 | 284 => 186 | 285 => 187 | 286 => 188 | 129 => 195 | 317 => 194 | 318 => 196 | 319 => 197 | 320 => 198 | 337 => 205 | 338 => 206 | n => n, fun | 3 => 3 | 9 => 9 | 2 => 2 | 4 => 4 | 171 => 200 | 0 => 0 | 53 => 201 | 37 => 98 | 5 => 5 | 173 => 204 | 212 => 210 | 51 => 211 | 20 => 20 | 213 => 212 | 46 => 213 | 232 => 223 | 233 => 224 | n => n, fun | 17 => 1 | 18 => 4 | 19 => 5 | n => n⟩
theorem Tryz.laysM171 : Go.Proofs.LaysM.n171 Tryz.prog Tryz.laysM171_ren := {
  mixed := by kernel_rfl
  f129 := Tryz.func195.trans (congrArg some (by kernel_rfl))
  f171 := Tryz.func162.trans (congrArg some (by kernel_rfl))
  f243 := Tryz.func173.trans (congrArg some (by kernel_rfl))
  f246 := Tryz.func178.trans (congrArg some (by kernel_rfl))
  f283 := Tryz.func185.trans (congrArg some (by kernel_rfl))
  f284 := Tryz.func186.trans (congrArg some (by kernel_rfl))
  f285 := Tryz.func187.trans (congrArg some (by kernel_rfl))
  f286 := Tryz.func188.trans (congrArg some (by kernel_rfl))
  f317 := Tryz.func194.trans (congrArg some (by kernel_rfl))
  f318 := Tryz.func196.trans (congrArg some (by kernel_rfl))
  f319 := Tryz.func197.trans (congrArg some (by kernel_rfl))
  f320 := Tryz.func198.trans (congrArg some (by kernel_rfl))
  f337 := Tryz.func205.trans (congrArg some (by kernel_rfl))
  f338 := Tryz.func206.trans (congrArg some (by kernel_rfl))
  t0 := Tryz.underlying0
  a0 := Tryz.isAgg0
  z0 := Tryz.sizeOf0
  v0 := Tryz.zeroValue0
  t2 := Tryz.underlying2
  a2 := Tryz.isAgg2
  z2 := Tryz.sizeOf2
  v2 := Tryz.zeroValue2
  t3 := Tryz.underlying3
  a3 := Tryz.isAgg3
  z3 := Tryz.sizeOf3
  v3 := Tryz.zeroValue3
  t4 := Tryz.underlying4
  a4 := Tryz.isAgg4
  z4 := Tryz.sizeOf4
  v4 := Tryz.zeroValue4
  t5 := Tryz.underlying5
  a5 := Tryz.isAgg5
  z5 := Tryz.sizeOf5
  v5 := Tryz.zeroValue5
  t9 := Tryz.underlying9
  a9 := Tryz.isAgg9
  z9 := Tryz.sizeOf9
  v9 := Tryz.zeroValue9
  t20 := Tryz.underlying20
  a20 := Tryz.isAgg20
  z20 := Tryz.sizeOf20
  v20 := Tryz.zeroValue20
  t37 := Tryz.underlying98
  a37 := Tryz.isAgg98
  z37 := Tryz.sizeOf98
  v37 := Tryz.zeroValue98
  t46 := Tryz.underlying213
  a46 := Tryz.isAgg213
  z46 := Tryz.sizeOf213
  v46 := Tryz.zeroValue213
  t51 := Tryz.underlying211
  a51 := Tryz.isAgg211
  z51 := Tryz.sizeOf211
  v51 := Tryz.zeroValue211
  t53 := Tryz.underlying201
  a53 := Tryz.isAgg201
  z53 := Tryz.sizeOf201
  v53 := Tryz.zeroValue201
  t171 := Tryz.underlying200
  a171 := Tryz.isAgg200
  z171 := Tryz.sizeOf200
  v171 := Tryz.zeroValue200
  t173 := Tryz.underlying204
  a173 := Tryz.isAgg204
  z173 := Tryz.sizeOf204
  v173 := Tryz.zeroValue204
  t212 := Tryz.underlying210
  a212 := Tryz.isAgg210
  z212 := Tryz.sizeOf210
  v212 := Tryz.zeroValue210
  t213 := Tryz.underlying212
  a213 := Tryz.isAgg212
  z213 := Tryz.sizeOf212
  t232 := Tryz.underlying223
  a232 := Tryz.isAgg223
  z232 := Tryz.sizeOf223
  v232 := Tryz.zeroValue223
  t233 := Tryz.underlying224
  a233 := Tryz.isAgg224
  z233 := Tryz.sizeOf224
  v233 := Tryz.zeroValue224
  g17 := by kernel_rfl
  g18 := by kernel_rfl
  g19 := by kernel_rfl
  i0 := by kernel_rfl
  i2 := by kernel_rfl
  i3 := by kernel_rfl
  i4 := by kernel_rfl
  i5 := by kernel_rfl
  i9 := by kernel_rfl
  i20 := by kernel_rfl
  i37 := by kernel_rfl
  i46 := by kernel_rfl
  i51 := by kernel_rfl
  i53 := by kernel_rfl
  i171 := by kernel_rfl
  i173 := by kernel_rfl
  i212 := by kernel_rfl
  i232 := by kernel_rfl
  i233 := by kernel_rfl
  m17 := by kernel_rfl
  m18 := by kernel_rfl
  m19 := by kernel_rfl }
open Go.RowKit Go.Sort Go.Lib in
theorem Tryz.strconv_Itoa (n : Int) (h0 : -9223372036854775808 ≤ n) (h1 : n ≤ 9223372036854775807) (w : World) (htab : Lib.TabIs Tryz.prog w "internal/strconv.uint64pow10" .u64 Lib.pow10Tab) :
    Calls Tryz.prog 162 #[.int .i64 n] w fun e w' => e = .returned (.string ⟨(Lib.itoa n).toArray⟩) ∧ ∃ k os, w' = grow (w.drewN k) os := Any.strconv_Itoa Tryz.laysM171 n h0 h1 w htab
def Tryz.lays101_ren : Go.Shelf.Ren := ⟨fun | 101 => 182 | 208 => 193 | 206 => 204 | n => n, fun | 9 => 9 | 4 => 4 | 3 => 3 | n => n, fun | n => n⟩
theorem Tryz.lays101 : Go.Proofs.Lays.n101 Tryz.prog Tryz.lays101_ren := {
  mixed := by kernel_rfl
  f101 := Tryz.func182.trans (congrArg some (by kernel_rfl))
  f206 := Tryz.func204.trans (congrArg some (by kernel_rfl))
  f208 := Tryz.func193.trans (congrArg some (by kernel_rfl))
  t3 := Tryz.underlying3
  a3 := Tryz.isAgg3
  z3 := Tryz.sizeOf3
  v3 := Tryz.zeroValue3
  t4 := Tryz.underlying4
  a4 := Tryz.isAgg4
  z4 := Tryz.sizeOf4
  v4 := Tryz.zeroValue4
  t9 := Tryz.underlying9
  a9 := Tryz.isAgg9
  z9 := Tryz.sizeOf9
  v9 := Tryz.zeroValue9 }
open Go.RowKit Go.Lib in
theorem Tryz.strings_TrimPrefix (s p : ByteArray) (w : World) :
    Calls Tryz.prog 182 #[.string s, .string p] w fun e w' => e = .returned (.string ⟨(Lib.trimPrefix s.data.toList p.data.toList).toArray⟩) ∧ w' = w := Any.strings_TrimPrefix Tryz.lays101 s p w
def Tryz.lays146_ren : Go.Shelf.Ren := ⟨fun | 146 => 163 | 221 => 174 | 268 => 179 | 138 => 180 | 143 => 181 | 195 => 189 | 197 => 190 | 218 => 191 | 219 => 192 | 260 => 199 | 217 => 200 | 225 => 201 | 224 => 202 | 267 => 203 | 266 => 207 | 314 => 208 | n => n, fun | 9 => 9 | 31 => 140 | 3 => 3 | 4 => 4 | 0 => 0 | 105 => 206 | 21 => 21 | 5 => 5 | 46 => 213 | 119 => 217 | 139 => 220 | 138 => 219 | 146 => 221 | 51 => 211 | n => n, fun | 1 => 0 | 3 => 2 | 4 => 3 | n => n⟩
theorem Tryz.lays146 : Go.Proofs.Lays.n146 Tryz.prog Tryz.lays146_ren := {
  mixed := by kernel_rfl
  f138 := Tryz.func180.trans (congrArg some (by kernel_rfl))
  f143 := Tryz.func181.trans (congrArg some (by kernel_rfl))
  f146 := Tryz.func163.trans (congrArg some (by kernel_rfl))
  f195 := Tryz.func189.trans (congrArg some (by kernel_rfl))
  f197 := Tryz.func190.trans (congrArg some (by kernel_rfl))
  f217 := Tryz.func200.trans (congrArg some (by kernel_rfl))
  f218 := Tryz.func191.trans (congrArg some (by kernel_rfl))
  f219 := Tryz.func192.trans (congrArg some (by kernel_rfl))
  f221 := Tryz.func174.trans (congrArg some (by kernel_rfl))
  f224 := Tryz.func202.trans (congrArg some (by kernel_rfl))
  f225 := Tryz.func201.trans (congrArg some (by kernel_rfl))
  f260 := Tryz.func199.trans (congrArg some (by kernel_rfl))
  f266 := Tryz.func207.trans (congrArg some (by kernel_rfl))
  f267 := Tryz.func203.trans (congrArg some (by kernel_rfl))
  f268 := Tryz.func179.trans (congrArg some (by kernel_rfl))
  f314 := Tryz.func208.trans (congrArg some (by kernel_rfl))
  t0 := Tryz.underlying0
  a0 := Tryz.isAgg0
  z0 := Tryz.sizeOf0
  v0 := Tryz.zeroValue0
  t3 := Tryz.underlying3
  a3 := Tryz.isAgg3
  z3 := Tryz.sizeOf3
  v3 := Tryz.zeroValue3
  t4 := Tryz.underlying4
  a4 := Tryz.isAgg4
  z4 := Tryz.sizeOf4
  v4 := Tryz.zeroValue4
  t5 := Tryz.underlying5
  a5 := Tryz.isAgg5
  z5 := Tryz.sizeOf5
  v5 := Tryz.zeroValue5
  t9 := Tryz.underlying9
  a9 := Tryz.isAgg9
  z9 := Tryz.sizeOf9
  v9 := Tryz.zeroValue9
  t21 := Tryz.underlying21
  a21 := Tryz.isAgg21
  z21 := Tryz.sizeOf21
  v21 := Tryz.zeroValue21
  t31 := Tryz.underlying140
  a31 := Tryz.isAgg140
  z31 := Tryz.sizeOf140
  v31 := Tryz.zeroValue140
  t46 := Tryz.underlying213
  a46 := Tryz.isAgg213
  z46 := Tryz.sizeOf213
  v46 := Tryz.zeroValue213
  t51 := Tryz.underlying211
  a51 := Tryz.isAgg211
  z51 := Tryz.sizeOf211
  v51 := Tryz.zeroValue211
  t105 := Tryz.underlying206
  a105 := Tryz.isAgg206
  z105 := Tryz.sizeOf206
  v105 := Tryz.zeroValue206
  t119 := Tryz.underlying217
  a119 := Tryz.isAgg217
  z119 := Tryz.sizeOf217
  t138 := Tryz.underlying219
  a138 := Tryz.isAgg219
  z138 := Tryz.sizeOf219
  v138 := Tryz.zeroValue219
  t139 := Tryz.underlying220
  a139 := Tryz.isAgg220
  z139 := Tryz.sizeOf220
  v139 := Tryz.zeroValue220
  t146 := Tryz.underlying221
  a146 := Tryz.isAgg221
  z146 := Tryz.sizeOf221
  v146 := Tryz.zeroValue221
  g1 := by kernel_rfl
  g3 := by kernel_rfl
  g4 := by kernel_rfl }
open Go.RowKit Go.Lib in
theorem Tryz.strings_Split (s sep : ByteArray) (m : Int) (w : World) (hs : s.size < 4294967281) (hm : w.cell? ⟨0, 0, none⟩ = some (.int .i64 m)) (h1 : 1 ≤ sep.size) :
    Calls Tryz.prog 163 #[.string s, .string sep] w fun e w' =>
      e = .returned (.slice (some ⟨w.heap.size, 0, none⟩) (Lib.countB s sep + 1) (Lib.countB s sep + 1)) ∧ w' = w.alloc (.cells ((Lib.splitB sep 0 (Lib.countB s sep) s).map Value.string).toArray 9) := Any.strings_Split Tryz.lays146 (by kernel_rfl) s sep m w hs hm h1
end Go.Proofs

namespace Go.Proofs.YtlcddcnmoajpjaaGreatDoor
open Go.RowKit
open Sp (rd)

/-- What the library's own variables hold: the table of powers of ten, and some number. -/
structure Env (w : World) : Prop where
  tab : Lib.TabIs Tryz.prog w "internal/strconv.uint64pow10" .u64 Lib.pow10Tab
  max : ∃ m : Int, w.cell? ⟨0, 0, none⟩ = some (.int .i64 m)
theorem Env.ext {w w1 : World} (h : Env w) (he : Ext w w1) : Env w1 :=
  ⟨Lib.tabBelow_of_tabIs h.tab w1 he, let ⟨m, hm⟩ := h.max; ⟨m, he.cell hm⟩⟩

/-- A string of bytes. -/
def bs (l : Bs) : ByteArray := ⟨l.toArray⟩
theorem bs_size (l : Bs) : (bs l).size = l.length := by simp [bs, ByteArray.size]
theorem bs_data (l : Bs) : (bs l).data.toList = l := rfl
theorem bs_add (a b : Bs) : bs a ++ bs b = bs (a ++ b) := by
  apply ByteArray.ext
  simp [bs]
theorem bs_of (s : ByteArray) : bs s.data.toList = s := rfl
theorem bs_inj {a b : Bs} (h : bs a = bs b) : a = b := by
  have := congrArg (fun s => s.data.toList) h
  exact this
theorem add_str (a b : Bs) (h : a.length + b.length ≤ 9223372036854775807) (w : World) : (Op.stringOp .add (bs a) (bs b)).run Tryz.prog w = .ok (.string (bs (a ++ b))) w := by
  rw [run_string_add_sum _ _ _ (by rw [bs_size, bs_size]; exact h), bs_add]

theorem itoa_any (n : Int) (w : World) (hV : Env w) (h0 : -9223372036854775808 ≤ n) (h1 : n ≤ 9223372036854775807) :
    Calls Tryz.prog 162 #[.int .i64 n] w fun e w' => e = .returned (.string (bs (Lib.itoa n))) ∧ Ext w w' :=
  (Tryz.strconv_Itoa n h0 h1 w hV.tab).mono fun _ _ ⟨he, k, os, hw⟩ => ⟨he, by rw [hw]; exact Lib.below_grow _ w (Nat.le_refl _) k os⟩
theorem lineL_length (name : Bs) (l : List Int) (h : ∀ n ∈ l, -9223372036854775808 ≤ n ∧ n ≤ 9223372036854775807) : (lineL name l).length ≤ name.length + 22 * l.length := by
  induction l generalizing name with
  | nil => simp [lineL]
  | cons n l ih =>
    have h1 := ih (name ++ [32] ++ Lib.itoa n) (fun m hm => h m (by simp [hm]))
    have e : lineL name (n :: l) = lineL (name ++ [32] ++ Lib.itoa n) l := by simp [lineL]
    have h2 := Lib.itoa_length_le n (h n (by simp)).1 (h n (by simp)).2
    rw [e]
    simp only [List.length_append, List.length_cons, List.length_nil] at h1 ⊢
    omega

/-- Behind k numbers. -/
def LineRel (w : World) (name : Bs) (l : List Int) (v i : Value) (wr : World) : Prop :=
  ∃ k : Nat, k ≤ l.length ∧ i = .int .i64 k ∧ v = .string (bs (lineL name (l.take k))) ∧ Ext w wr
theorem line_any (name : Bs) (A : Option Addr) (c : Nat) (l : List Int) (w : World) (hV : Env w) (hm : Ints w A l) (hl : l.length ≤ 100000) (hn : name.length ≤ 100000) (hb : ∀ n ∈ l, -9223372036854775808 ≤ n ∧ n ≤ 9223372036854775807) :
    Calls Tryz.prog 160 #[.string (bs name), .slice A l.length c] w fun e w' => e = .returned (.string (bs (lineL name l))) ∧ Ext w w' := by
  have HV := Lib.hid hV
  have HM := Lib.hid hm
  have HB := Lib.hid hb
  clear hV hm hb
  go_enter Tryz.func160, Tryz.ntmps160
  go_wp2_with fail
  go_loopw [0, 9] (fun v i wr => LineRel w name l v i wr) (fun _ i _ => l.length - (intOf i).toNat)
  case atStart => exact ⟨0, Nat.zero_le _, rfl, by simp [lineL], Ext.refl w⟩
  case round =>
    obtain ⟨k, hk, rfl, rfl, hE⟩ := hrel
    by_cases hlt : k < l.length
    · obtain ⟨b, o, rfl, hc⟩ := (HM.out.ext hE) (by omega)
      have c0 := hc k hlt
      obtain ⟨v1, v2⟩ := HB.out (rd l k) (by unfold rd; rw [List.getD_eq_getElem?_getD, List.getElem?_eq_getElem hlt]; exact List.getElem_mem hlt)
      have hlen := lineL_length name (l.take k) (fun n hn => HB.out n (List.mem_of_mem_take hn))
      have hzl := Lib.itoa_length_le (rd l k) v1 v2
      have HT : Hid (lineL name (l.take (k + 1)) = lineL name (l.take k) ++ (32 :: Lib.itoa (rd l k))) := Lib.hid (by rw [take_snoc_rd l k hlt, lineL_snoc]; simp)
      obtain ⟨v, hv⟩ : ∃ v, rd l k = v := ⟨_, rfl⟩
      rw [hv] at c0 v1 v2 HT hzl
      obtain ⟨s, hs⟩ : ∃ s, lineL name (l.take k) = s := ⟨_, rfl⟩
      rw [hs] at HT hlen ⊢
      have htl : (l.take k).length ≤ 100000 := by rw [List.length_take]; omega
      have f1 : ∀ W : World, (Op.stringOp .add ⟨#[32]⟩ (bs (Lib.itoa v))).run Tryz.prog W = .ok (.string (bs (32 :: Lib.itoa v))) W := add_str [32] (Lib.itoa v) (by simp; omega)
      have f2 : ∀ W : World, (Op.stringOp .add (bs s) (bs (32 :: Lib.itoa v))).run Tryz.prog W = .ok (.string (bs (s ++ 32 :: Lib.itoa v))) W := add_str _ _ (by simp; omega)
      have hlt' : (k : Int) < (l.length : Int) := by omega
      have HE := Lib.hid hE
      clear hc hv hs hE hlen hzl htl hn
      go_wp2_with fail
      refine (itoa_any v _ (HV.out.ext HE.out) v1 v2).mono ?_
      rintro e w1 ⟨rfl, hE1⟩
      have HE1 := Lib.hid (HE.out.trans hE1)
      clear hE1
      go_wp2_with fail
      go_roundw
      case rel => exact ⟨k + 1, by omega, by go_num, by rw [HT.out], HE1.out⟩
      case measure => simp [intOf]; omega
    · obtain rfl : k = l.length := by omega
      rw [List.take_length]
      have HE := Lib.hid hE
      clear hE
      go_wp2_with fail
      go_ret
      exact ⟨rfl, HE.out⟩
end Go.Proofs.YtlcddcnmoajpjaaGreatDoor

namespace Go.Proofs.YtlcddcnmoajpjaaGreatDoor
open Go.RowKit
open Sp (rd)

def strCells1 (l : List Bs) : List Value := l.map fun x => .string (bs x)
theorem info_string : (Tryz.prog.info? 9).map (fun i => (i.zero, i.size, i.bytes)) = some (some (.string ⟨#[]⟩), 1, 16) := by kernel_rfl
/-- A slice that holds strings. -/
def Strs (w : World) (A : Option Addr) (l : List Bs) : Prop :=
  0 < l.length → ∃ b o, A = some ⟨b, o, none⟩ ∧ ∀ k, k < l.length → w.cell? ⟨b, o + k, none⟩ = some (.string (bs (l.getD k [])))
theorem Strs.ext {w w' : World} {A : Option Addr} {l : List Bs} (h : Strs w A l) (he : Ext w w') : Strs w' A l := fun h0 =>
  let ⟨b, o, e, hc⟩ := h h0
  ⟨b, o, e, fun k hk => he.cell (hc k hk)⟩
theorem Strs.of_own {w : World} {base : Nat} {v : Value} {l : List Bs} (h : w.ownsRow base 9 1 v l.length (strCells1 l)) : ∃ A c, v = .slice A l.length c ∧ l.length ≤ c ∧ Strs w A l := by
  rcases h.2 with ⟨rfl, h0⟩ | ⟨g, cap, cur, hv, _, _, hn, _⟩
  · exact ⟨none, 0, by rw [h0], by omega, fun hh => by omega⟩
  · refine ⟨some ⟨g, 0, none⟩, cap, hv, hn, fun _ => ⟨g, 0, rfl, fun k hk => ?_⟩⟩
    have hc := h.cells (g := g) (by rw [hv]; rfl)
    have h1 := hc k (.string (bs (l.getD k []))) (by simp [strCells1, hk])
    rw [add0] at h1
    simpa using h1
/-- A new row that is full. -/
theorem ownsRow_new (w : World) (t : TypeId) (cs : Array Value) (n base : Nat) (hn : cs.size = n) (hm : n ≤ maxLen) (hb : base ≤ w.heap.size) :
    (w.alloc (.cells cs t)).ownsRow base t 1 (.slice (some ⟨w.heap.size, 0, none⟩) n n) n cs.toList := by
  refine ⟨by simp [hn], .inr ⟨w.heap.size, n, cs, rfl, hb, heap_alloc_new w _, Nat.le_refl _, hm, by omega, ?_⟩⟩
  rw [Nat.mul_one, List.take_of_length_le (by simp [hn])]

/-- The lines behind k bodies. -/
def linesK (s : Sp.Sky) (k : Nat) : List Bs := lineL wSky [(s.bodies.length : Int)] :: (s.bodies.take k).map bodyLine
theorem linesK_length (s : Sp.Sky) (k : Nat) (h : k ≤ s.bodies.length) : (linesK s k).length = k + 1 := by simp [linesK]; omega
theorem linesK_succ (s : Sp.Sky) (k : Nat) (h : k < s.bodies.length) : linesK s (k + 1) = linesK s k ++ [bodyLine (bd s.bodies k)] := by
  unfold linesK
  rw [List.take_succ_eq_append_getElem h, List.map_append]
  have e : bd s.bodies k = s.bodies[k] := by unfold bd; rw [List.getD_eq_getElem?_getD, List.getElem?_eq_getElem h]; rfl
  simp [e]
theorem linesK_all (s : Sp.Sky) : linesK s s.bodies.length ++ [lineL wNode [s.nnum, s.nden, s.nstart]] = tabLines s := by simp [linesK, tabLines]

/-- Skies whose table can be written. -/
structure SkyText (s : Sp.Sky) : Prop extends SkyNum s where
  few : s.bodies.length ≤ 1000
  roads : ∀ b ∈ s.bodies, b.road.length ≤ 1000
theorem num_64 {n : Int} (h : numOk n) : -9223372036854775808 ≤ n ∧ n ≤ 9223372036854775807 := by have := h.1; have := h.2; omega
theorem bd_mem {l : List Sp.Body} {k : Nat} (h : k < l.length) : bd l k ∈ l := by
  unfold bd; rw [List.getD_eq_getElem?_getD, List.getElem?_eq_getElem h]; exact List.getElem_mem h
theorem bodyNums_length (b : Sp.Body) : (bodyNums b).length = 3 + b.road.length := by simp [bodyNums]; omega
theorem bodyLine_length {s : Sp.Sky} (h : SkyText s) {b : Sp.Body} (hb : b ∈ s.bodies) : (bodyLine b).length ≤ 23000 := by
  have h1 := lineL_length wBody (bodyNums b) (fun n hn => num_64 (h.body b hb n hn))
  have h2 := h.roads b hb
  rw [bodyNums_length] at h1
  unfold bodyLine
  have : wBody.length = 4 := rfl
  omega
theorem tabLines_short {s : Sp.Sky} (h : SkyText s) : ∀ x ∈ tabLines s, x.length ≤ 23000 := by
  intro x hx
  unfold tabLines at hx
  rcases List.mem_cons.1 hx with rfl | hx
  · have h1 := lineL_length wSky [(s.bodies.length : Int)] (fun n hn => by obtain rfl : n = _ := List.mem_singleton.1 hn; have := h.few; omega)
    have : wSky.length = 3 := rfl
    simp only [List.length_cons, List.length_nil] at h1
    omega
  · rcases List.mem_append.1 hx with hx | hx
    · obtain ⟨b, hb, rfl⟩ := List.mem_map.1 hx
      exact bodyLine_length h hb
    · obtain rfl : x = _ := List.mem_singleton.1 hx
      have h1 := lineL_length wNode [s.nnum, s.nden, s.nstart] (fun n hn => by
        simp only [List.mem_cons, List.not_mem_nil, or_false] at hn
        rcases hn with rfl | rfl | rfl
        · exact num_64 h.num
        · exact num_64 h.den
        · exact num_64 h.start)
      have : wNode.length = 4 := rfl
      simp only [List.length_cons, List.length_nil] at h1
      omega

theorem sumN_bound (x : Bs) (i k : Nat) (hx : x.length ≤ 23000) (hk : k ≤ x.length) (hi : i ≤ 1002) : sumN x i k ≤ 136000000000000 := by
  have h1 := sumN_le x i k 23000 (by omega)
  have h2 : 255 * 23000 * (i + 1) ≤ 255 * 23000 * 1003 := Nat.mul_le_mul (Nat.le_refl _) (by omega)
  have h3 : k * (255 * 23000 * (i + 1)) ≤ 23000 * (255 * 23000 * 1003) := Nat.mul_le_mul (by omega) h2
  omega
theorem checkN_bound (l : List Bs) (i : Nat) (h : ∀ x ∈ l, x.length ≤ 23000) (hi : i ≤ l.length) (hl : l.length ≤ 1002) : checkN l i ≤ i * 136000000000000 := by
  induction i with
  | zero => simp [checkN]
  | succ i ih =>
    rw [checkN, Nat.succ_mul]
    have := ih (by omega)
    have hm : l.getD i [] ∈ l := by rw [List.getD_eq_getElem?_getD, List.getElem?_eq_getElem (by omega)]; exact List.getElem_mem (by omega)
    have := sumN_bound (l.getD i []) i (l.getD i []).length (h _ hm) (Nat.le_refl _) (by omega)
    omega
theorem join_length (c : UInt8) (l : List Bs) (B : Nat) (h : ∀ x ∈ l, x.length ≤ B) : (Lib.join l [c]).length ≤ l.length * (B + 1) := by
  cases l with
  | nil => simp [Lib.join_nil]
  | cons x r =>
    rw [Lib.join_cons, List.length_append]
    have h1 := h x (by simp)
    have h2 : (Lib.joinTail [c] r).length ≤ r.length * (B + 1) := by
      have hr : ∀ y ∈ r, y.length ≤ B := fun y hy => h y (by simp [hy])
      clear h h1
      induction r with
      | nil => simp [Lib.joinTail]
      | cons y r ih =>
        have h3 := ih (fun z hz => hr z (by simp [hz]))
        have h4 := hr y (by simp)
        simp only [Lib.joinTail, List.map_cons, List.flatten_cons, List.length_append, List.length_cons, List.length_nil] at h3 ⊢
        rw [Nat.succ_mul]
        omega
    rw [List.length_cons, Nat.succ_mul]
    omega
theorem bs_get (y : Bs) (j : Nat) (h : j < (bs y).size) : (bs y)[j] = y.getD j 0 := by
  have h' : j < y.length := by rw [bs_size] at h; exact h
  rw [List.getD_eq_getElem?_getD, List.getElem?_eq_getElem h']
  rfl
theorem index_bs (y : Bs) (j : Nat) (h : j < y.length) (w : World) : (Instr.index 9 (.string (bs y)) (.int .i64 (j : Int))).run Tryz.prog w = .ok (.int .u8 ((y.getD j 0).toNat : Int)) w := by
  have hs := bs_size y
  rw [run_index_string _ _ _ _ _ Tryz.underlying9, dif_pos ⟨by omega, by omega⟩]
  have e := bs_get y j (by omega)
  simp only [Int.toNat_natCast, e]
theorem join_any (A : Option Addr) (c : Nat) (L : List Bs) (w : World) (h : Strs w A L) (hc : L.length ≤ c) (hl : L.length ≤ 100000) (hj : (Lib.join L [10]).length ≤ 140737488355328) :
    Calls Tryz.prog 161 #[.slice A L.length c, .string ⟨#[10]⟩] w fun e w' => e = .returned (.string (bs (Lib.join L [10]))) ∧ Ext w w' := by
  rcases Nat.eq_zero_or_pos L.length with h0 | h0
  · obtain rfl := List.eq_nil_of_length_eq_zero h0
    exact (Tryz.strings_Join_none A c _ w).mono fun _ _ ⟨he, hw⟩ => ⟨he, Ext.rfl_of hw.symm⟩
  · obtain ⟨b, o, rfl, hc'⟩ := h h0
    have hm : (L.map bs).map (·.data.toList) = L := by
      rw [List.map_map]
      exact List.map_id L
    have := Tryz.strings_Join b o c (L.map bs) ⟨#[10]⟩ w (fun j x hx => by
      obtain ⟨y, hy, rfl⟩ := List.getElem?_map .. ▸ hx |> Option.map_eq_some_iff.1
      have hj : j < L.length := (List.getElem?_eq_some_iff.1 hy).1
      have e := hc' j hj
      rw [List.getD_eq_getElem?_getD, hy] at e
      exact e) (lt_of_cell (hc' 0 h0)) (by rw [List.length_map]; omega) (by rw [List.length_map]; exact hc) (by rw [hm]; exact hj)
    rw [hm, List.length_map] at this
    exact this
/-- The numeral by its name. -/
theorem itoa_as (n : Int) (I : Bs) (w : World) (hI : Lib.itoa n = I) (hV : Env w) (h0 : -9223372036854775808 ≤ n) (h1 : n ≤ 9223372036854775807) :
    Calls Tryz.prog 162 #[.int .i64 n] w fun e w' => e = .returned (.string (bs I)) ∧ Ext w w' := by
  rw [← hI]
  exact itoa_any n w hV h0 h1
end Go.Proofs.YtlcddcnmoajpjaaGreatDoor

namespace Go.Proofs.YtlcddcnmoajpjaaGreatDoor
open Go.RowKit
open Sp (rd)

/-- An empty Road that is not nil. -/
def RoadsIn (w : World) (A : Option Addr) (l : List Sp.Body) : Prop :=
  ∀ b o, A = some ⟨b, o, none⟩ → ∀ k, k < l.length → (bd l k).road = [] → ∃ b' o' c, w.cell? ⟨b, o + k * 4 + 3, none⟩ = some (.slice (some ⟨b', o', none⟩) 0 c)
theorem RoadsIn.ext {w w' : World} {A : Option Addr} {l : List Sp.Body} (h : RoadsIn w A l) (he : Ext w w') : RoadsIn w' A l := fun b o e k hk hr =>
  let ⟨b', o', c, hc⟩ := h b o e k hk hr
  ⟨b', o', c, he.cell hc⟩

theorem ints_row {w : World} {g : Nat} {t : TypeId} {cs : Array Value} {l : List Int} (h : Row w g t cs) (hc : ∀ k, k < l.length → cs[k]? = some (.int .i64 (rd l k))) : Ints w (some ⟨g, 0, none⟩) l :=
  fun _ => ⟨g, 0, rfl, fun k hk => by rw [Nat.zero_add]; exact (h.cell k).trans (hc k hk)⟩
theorem road_cells {w : World} {A : Option Addr} {l : List Sp.Body} {b o k : Nat} (hA : A = some ⟨b, o, none⟩) (hk : k < l.length) (hB : BodyAt w b (o + k * 4) (bd l k)) (hR : RoadsIn w A l) :
    ∃ b' o' c, w.cell? ⟨b, o + k * 4 + 3, none⟩ = some (.slice (some ⟨b', o', none⟩) (bd l k).road.length c) ∧ ∀ j, j < (bd l k).road.length → w.cell? ⟨b', o' + j, none⟩ = some (.int .i64 (rd (bd l k).road j)) := by
  obtain ⟨RA, rc, h3, hi⟩ := hB.road
  rcases Nat.eq_zero_or_pos (bd l k).road.length with h0 | h0
  · obtain ⟨b', o', c, hc⟩ := hR b o hA k hk (List.eq_nil_of_length_eq_zero h0)
    exact ⟨b', o', c, by rw [h0]; exact hc, fun j hj => by omega⟩
  · obtain ⟨b', o', rfl, hc⟩ := hi h0
    exact ⟨b', o', rc, h3, hc⟩
theorem news_ints {w : World} {b o : Nat} {l : List Int} (h : ∀ j, j < l.length → w.cell? ⟨b, o + j, none⟩ = some (.int .i64 (rd l j))) (j : Nat) (u : Value) (hu : (intCells l)[j]? = some u) : w.cell? ((⟨b, o, none⟩ : Addr).add j) = some u := by
  have hj : j < l.length := by
    rcases Nat.lt_or_ge j l.length with h' | h'
    · exact h'
    · rw [List.getElem?_eq_none (by simpa [intCells] using h')] at hu; cases hu
  have e : (intCells l)[j]? = some (.int .i64 (rd l j)) := by simp [intCells, rd, hj]
  rw [e] at hu
  obtain rfl := Option.some.inj hu
  have e2 : (⟨b, o, none⟩ : Addr).add j = ⟨b, o + j, none⟩ := by
    by_cases h0 : j = 0
    · subst h0; rfl
    · simp [Addr.add, h0]
  rw [e2]
  exact h j hj
theorem intCells_one (l : List Int) : ∀ u ∈ intCells l, u.oneCell' = true := by
  intro u hu
  obtain ⟨n, _, rfl⟩ := List.mem_map.1 hu
  rfl

def TextRel1 (W : World) (s : Sp.Sky) (v i : Value) (wr : World) : Prop :=
  ∃ k : Nat, k ≤ s.bodies.length ∧ i = .int .i64 k ∧ wr.ownsRow W.heap.size 9 1 v (k + 1) (strCells1 (linesK s k)) ∧ Ext W wr

set_option maxRecDepth 100000 in
set_option maxHeartbeats 1000000 in
theorem text_any (s : Sp.Sky) (A : Option Addr) (c : Nat) (w : World) (hV : Env w) (hm : Bodies w A s.bodies) (hR : RoadsIn w A s.bodies) (h : SkyText s) :
    Calls Tryz.prog 119 #[.agg #[.slice A s.bodies.length c, .int .i64 s.nnum, .int .i64 s.nden, .int .i64 s.nstart]] w fun e w' => e = .returned (.string (bs (textL s))) ∧ Ext w w' := by
  have HV := Lib.hid hV
  have HM := Lib.hid hm
  have HR := Lib.hid hR
  have HS := Lib.hid h
  have hfew := h.few
  clear hV hm hR h
  obtain ⟨i0, hi0, hz0, hz1, hz2⟩ := info_parts info_string
  obtain ⟨j0, hj0, hy0, hy1, hy2⟩ := info_parts info_int
  go_enter Tryz.func119, Tryz.ntmps119
  go_wp2_with fail
  have hE0 : Ext w ((w.alloc (.cells #[.slice A s.bodies.length c, .int .i64 s.nnum, .int .i64 s.nden, .int .i64 s.nstart] 28)).alloc (.cells #[.int .i64 s.bodies.length] 3)) := ((Ext.refl w).alloc _).alloc _
  refine (line_any wSky (some ⟨w.heap.size + 1, 0, none⟩) 1 [(s.bodies.length : Int)] _ (HV.out.ext hE0) (ints_row (blocks2 w _ _).2 fun k hk => ?_) (by simp) (by decide) (fun n hn => ?_)).mono ?_
  · obtain rfl : k = 0 := by simpa using hk
    rfl
  · obtain rfl : n = _ := List.mem_singleton.1 hn
    omega
  rintro e w1 ⟨rfl, hE1⟩
  have rS : Row w1 w.heap.size 28 _ := Row.ext (blocks2 w _ _).1 hE1
  have hE := hE0.trans hE1
  have cS := rS.cell
  have HRS := Lib.hid rS
  have HE := Lib.hid hE
  have hzz := rS.lt
  clear hE0 hE1 rS hE
  go_wp2_with fail
  go_loopw [3, 19] (fun v i wr => TextRel1 w1 s v i wr) (fun _ i _ => s.bodies.length - (intOf i).toNat)
  case atStart => exact ⟨0, Nat.zero_le _, rfl, ownsRow_new w1 9 #[.string (bs (lineL wSky [(s.bodies.length : Int)]))] 1 _ rfl (by decide) (Nat.le_refl _), (Ext.refl w1).alloc _⟩
  case round =>
    obtain ⟨k, hk, rfl, hown, hX⟩ := hrel
    clear cS
    have cS := (HRS.out.ext hX).cell
    by_cases hlt : k < s.bodies.length
    · obtain ⟨b, o, hA, hc⟩ := (HM.out.ext (HE.out.trans hX)) (by omega)
      have hB := hc k hlt
      obtain ⟨rb, ro, rc, c3, hroad⟩ := road_cells hA hlt hB (HR.out.ext (HE.out.trans hX))
      obtain ⟨c0, c1, c2, _⟩ := hB
      subst hA
      have hmem := bd_mem hlt
      have hrl := HS.out.roads _ hmem
      have hsz := hX.size
      have HSUCC := Lib.hid (linesK_succ s k hlt)
      have HLEN := Lib.hid (linesK_length s k hk)
      have HNUM := Lib.hid (HS.out.body _ hmem)
      have HROAD := Lib.hid hroad
      have HX := Lib.hid hX
      have HOW := Lib.hid hown
      obtain ⟨B, hBq⟩ : ∃ B, bd s.bodies k = B := ⟨_, rfl⟩
      rw [hBq] at c0 c1 c2 c3 HSUCC HNUM HROAD hrl
      have hlt' : (k : Int) < (s.bodies.length : Int) := by omega
      have z1 := lts (lt_of_cell c0)
      simp only at z1
      clear hc hBq hroad hX hown hmem
      have hE3 : Ext wr ((wr.alloc (.cells #[.int .i64 B.num, .int .i64 B.den, .int .i64 B.start, .slice (some ⟨rb, ro, none⟩) B.road.length rc] 80)).alloc (.cells #[.int .i64 B.num, .int .i64 B.den, .int .i64 B.start] 3)) := ((Ext.refl wr).alloc _).alloc _
      have hnewrow := ownsRow_new (wr.alloc (.cells #[.int .i64 B.num, .int .i64 B.den, .int .i64 B.start, .slice (some ⟨rb, ro, none⟩) B.road.length rc] 80)) 3 #[.int .i64 B.num, .int .i64 B.den, .int .i64 B.start] 3 wr.heap.size rfl (by decide) (by simp)
      have hN := fun j u hu => news_ints (fun j hj => hE3.cell (HROAD.out j hj)) j u hu
      have HNR := Lib.hid hnewrow
      have HN := Lib.hid hN
      have HE3 := Lib.hid hE3
      clear hnewrow hN hE3
      go_wp2_with (at_builtin; refine wpList_append_own_at _ rfl (.tmp 36) (.tmp 38) 64 rfl wr.heap.size 3 j0 _ 1 8 Tryz.underlying64 hj0 hy0 hy1 hy2 rfl (by decide) (.slice (some ⟨wr.heap.size + 1, 0, none⟩) 3 3) 3 [.int .i64 B.num, .int .i64 B.den, .int .i64 B.start] rfl (by simpa using HNR.out) ⟨rb, ro, none⟩ B.road.length rc (intCells B.road) rfl (by simp [intCells]) HN.out (intCells_one _) (by simp only [maxLen]; omega) (by omega) (by simp; omega) ?_; intro v' w3 hown3 hgrow _ _; have HO3 := Lib.hid hown3; have HG3 := Lib.hid hgrow; clear hown3 hgrow)
      have hEw3 : Ext wr w3 := HE3.out.grown HG3.out (fun q hq => (HNR.out.lt q (by simpa using hq)).1)
      have hown4 : w3.ownsRow wr.heap.size 3 1 v' (bodyNums B).length (intCells (bodyNums B)) := by
        rw [bodyNums_length]
        have := HO3.out
        simpa [intCells, bodyNums] using this
      obtain ⟨A', c', rfl, hI⟩ := IntsVal.of_own hown4
      have hblen := bodyNums_length B
      refine (line_any wBody A' c' (bodyNums B) _ (HV.out.ext (HE.out.trans (HX.out.trans hEw3))) hI (by omega) (by decide) (fun n hn => num_64 (HNUM.out n hn))).mono ?_
      rintro e w4 ⟨rfl, hE4⟩
      have HX4 := Lib.hid (hEw3.trans hE4)
      have hown5 := ownsRow_of_block HOW.out (fun q hq' => HX4.out.block q (HOW.out.lt q hq').2)
      have hsz4 := HX4.out.size
      obtain ⟨x, hx⟩ : ∃ x, lineL wBody (bodyNums B) = x := ⟨_, rfl⟩
      have HSUCC2 : Hid (linesK s (k + 1) = linesK s k ++ [x]) := Lib.hid (by rw [← hx]; exact HSUCC.out)
      rw [hx]
      clear hown4 hI hE4 hEw3 hx hblen HO3 HG3 HNR HN HE3 HSUCC c0 c1 c2 c3 cS
      go_wp2_with (at_builtin; refine wpList_append_own_at _ rfl (.tmp 27) (.tmp 41) 140 rfl w1.heap.size 9 i0 _ 1 16 Tryz.underlying140 hi0 hz0 hz1 hz2 rfl (by decide) _ (k + 1) (strCells1 (linesK s k)) rfl (hown5.alloc (.cells #[.string (bs x)] 9)) ⟨w4.heap.size, 0, none⟩ 1 1 [.string (bs x)] rfl rfl (World.news_of_block (cs := #[.string (bs x)]) (t := 9) (fr := (0, 0)) (heap_alloc_new _ _)) (by simp [Value.oneCell']) (by simp only [maxLen]; omega) (by omega) (by simp; omega) ?_; intro v5 w5 hown6 hgrow6 _ _; have HO6 := Lib.hid hown6; have HG6 := Lib.hid hgrow6; clear hown6 hgrow6)
      go_roundw
      case measure => simp [intOf]; omega
      case rel =>
        refine ⟨k + 1, by omega, by go_num, ?_, ((HX.out.trans HX4.out).alloc _).grown HG6.out (fun q hq' => (hown5.lt q hq').1)⟩
        rw [HSUCC2.out]
        simpa [strCells1] using HO6.out
    · obtain rfl : k = s.bodies.length := by omega
      have hsz := hX.size
      have HX := Lib.hid hX
      have HOW := Lib.hid hown
      have hE2 : Ext w1 (wr.alloc (.cells #[.int .i64 s.nnum, .int .i64 s.nden, .int .i64 s.nstart] 3)) := HX.out.alloc _
      have HE2 := Lib.hid hE2
      clear hX hown hlt hE2
      go_wp2_with fail
      refine (line_any wNode (some ⟨wr.heap.size, 0, none⟩) 3 [s.nnum, s.nden, s.nstart] _ (HV.out.ext (HE.out.trans HE2.out)) (ints_row (Row.new wr _ _) fun k hk => ?_) (by simp) (by decide) (fun n hn => ?_)).mono ?_
      · match k, hk with
        | 0, _ => rfl
        | 1, _ => rfl
        | 2, _ => rfl
      · have h := HS.out
        simp only [List.mem_cons, List.not_mem_nil, or_false] at hn
        rcases hn with rfl | rfl | rfl
        · exact num_64 h.num
        · exact num_64 h.den
        · exact num_64 h.start
      rintro e w4 ⟨rfl, hE4⟩
      have hEr4 := ((Ext.refl wr).alloc (.cells #[.int .i64 s.nnum, .int .i64 s.nden, .int .i64 s.nstart] 3)).trans hE4
      have hown5 := ownsRow_of_block HOW.out (fun q hq' => hEr4.block q (HOW.out.lt q hq').2)
      have hsz4 := hEr4.size
      have HX4 := Lib.hid (HX.out.trans hEr4)
      obtain ⟨x, hx⟩ : ∃ x, lineL wNode [s.nnum, s.nden, s.nstart] = x := ⟨_, rfl⟩
      have HALL : Hid (linesK s s.bodies.length ++ [x] = tabLines s) := Lib.hid (by rw [← hx]; exact linesK_all s)
      rw [hx]
      clear hE4 hEr4 hx cS
      go_wp2_with (at_builtin; refine wpList_append_own_at _ rfl (.tmp 44) (.tmp 58) 140 rfl w1.heap.size 9 i0 _ 1 16 Tryz.underlying140 hi0 hz0 hz1 hz2 rfl (by decide) _ (s.bodies.length + 1) (strCells1 (linesK s s.bodies.length)) rfl (hown5.alloc (.cells #[.string (bs x)] 9)) ⟨w4.heap.size, 0, none⟩ 1 1 [.string (bs x)] rfl rfl (World.news_of_block (cs := #[.string (bs x)]) (t := 9) (fr := (0, 0)) (heap_alloc_new _ _)) (by simp [Value.oneCell']) (by simp only [maxLen]; omega) (by omega) (by simp; omega) ?_; intro v5 w5 hown6 hgrow6 _ _; have hown7 : w5.ownsRow w1.heap.size 9 1 v5 (tabLines s).length (strCells1 (tabLines s)) := (by have e := HALL.out; rw [← e, List.length_append, linesK_length s _ (Nat.le_refl _)]; simpa [strCells1] using hown6); have HO6 := Lib.hid hown7; have HG6 := Lib.hid hgrow6; obtain ⟨A5, c5, rfl, hc5, hI5⟩ := Strs.of_own hown7; have HI5 := Lib.hid hI5; clear hown6 hgrow6 hown7 hI5)
      have hshort := tabLines_short HS.out
      have hlenL := tabLines_length s
      have HTX : Hid (textL s = Lib.join (tabLines s) [10] ++ [10] ++ endL (checkL (tabLines s)) ++ [10]) := Lib.hid rfl
      obtain ⟨L, hL⟩ : ∃ L, tabLines s = L := ⟨_, rfl⟩
      rw [hL] at hshort hlenL HTX HI5 hc5 ⊢
      have hLl : L.length ≤ 1002 := by omega
      have hL1 : 1 ≤ L.length := by omega
      have HSH := Lib.hid hshort
      have HEW := Lib.hid ((HX4.out.alloc (.cells #[.string (bs x)] 9)).grown HG6.out (fun q hq' => (hown5.lt q hq').1))
      clear hshort hlenL HALL HO6 HG6 HX4 hown5 hsz4 HOW HE2 hsz
      have hL64 : (L.length : Int) ≤ 1002 := by omega
      go_loop [6, 62] (fun v i => ∃ k : Nat, k ≤ L.length ∧ i = .int .i64 k ∧ v = .int .i64 (checkN L k)) (fun _ i => L.length - (intOf i).toNat)
      case atStart => exact ⟨0, Nat.zero_le _, rfl, rfl⟩
      case round =>
        obtain ⟨k, hk, rfl, rfl⟩ := hrel
        by_cases hlt : k < L.length
        · obtain ⟨b, o, rfl, hc⟩ := HI5.out (by omega)
          have c0 := hc k hlt
          have hxs := HSH.out (L.getD k []) (by rw [List.getD_eq_getElem?_getD, List.getElem?_eq_getElem hlt]; exact List.getElem_mem hlt)
          have hcb := checkN_bound L k HSH.out hk hLl
          have HSTEP : Hid (checkN L (k + 1) = checkN L k + sumN (L.getD k []) k (L.getD k []).length) := Lib.hid rfl
          have HSB : Hid (∀ j, j ≤ (L.getD k []).length → sumN (L.getD k []) k j ≤ 136000000000000) := Lib.hid (fun j hj => sumN_bound _ k j hxs hj (by omega))
          obtain ⟨y, hy⟩ : ∃ y, L.getD k [] = y := ⟨_, rfl⟩
          rw [hy] at c0 hxs HSTEP HSB
          obtain ⟨C, hC⟩ : ∃ C, checkN L k = C := ⟨_, rfl⟩
          rw [hC] at hcb HSTEP ⊢
          have hC9 : (C : Int) ≤ 137000000000000000 := by omega
          have hlt' : (k : Int) < (L.length : Int) := by omega
          have hxs' : (y.length : Int) ≤ 23000 := by omega
          have hsz : (bs y).size = y.length := bs_size y
          clear hc hy hC hcb hxs hlt
          go_wp2_with fail
          go_loop [6, 69] (fun v i => ∃ j : Nat, j ≤ y.length ∧ i = .int .i64 j ∧ v = .int .i64 ((C + sumN y k j : Nat) : Int)) (fun _ i => y.length - (intOf i).toNat)
          case atStart => exact ⟨0, Nat.zero_le _, rfl, rfl⟩
          case round =>
            obtain ⟨j, hj, rfl, rfl⟩ := hrel
            by_cases hlt2 : j < y.length
            · have hix := index_bs y j hlt2
              have hcc : ((y.getD j 0).toNat : Int) ≤ 255 := by have := (y.getD j 0).toNat_lt; omega
              have HST2 : Hid (sumN y k (j + 1) = sumN y k j + (y.getD j 0).toNat * (j + 1) * (k + 1)) := Lib.hid rfl
              have hsb := HSB.out j hj
              obtain ⟨q, hq⟩ : ∃ q, (y.getD j 0).toNat = q := ⟨_, rfl⟩
              rw [hq] at hix hcc HST2
              obtain ⟨D, hD⟩ : ∃ D, C + sumN y k j = D := ⟨_, rfl⟩
              have HD := Lib.hid hD
              rw [hD]
              have hD9 : (D : Int) ≤ 138000000000000000 := by omega
              have p1 : 0 ≤ (q : Int) * ((j : Int) + 1) := Int.mul_nonneg (by omega) (by omega)
              have p2 := mul_bounds (a := (q : Int)) (b := (j : Int) + 1) (A := 255) (B := 23000) (by omega) (by omega) (by omega) (by omega)
              have p3 : 0 ≤ (q : Int) * ((j : Int) + 1) * ((k : Int) + 1) := Int.mul_nonneg p1 (by omega)
              have p4 := mul_bounds (a := (q : Int) * ((j : Int) + 1)) (b := (k : Int) + 1) (A := 5865000) (B := 1003) (by omega) (by omega) (by omega) (by omega)
              have p5 : (q : Int) * ((j : Int) + 1) ≤ 5865000 := by omega
              have p6 : (q : Int) * ((j : Int) + 1) * ((k : Int) + 1) ≤ 5882595000 := by omega
              have hlt3 : (j : Int) < (y.length : Int) := by omega
              have HLT2 := Lib.hid hlt2
              clear hsb hq hD p2 p4 hlt2 hj
              go_wp2_with fail
              go_round
              case rel =>
                refine ⟨j + 1, by have := HLT2.out; omega, by go_num, congrArg (Value.int .i64) ?_⟩
                rw [HST2.out, ← Nat.add_assoc, HD.out]
                simp
              case measure => have := HLT2.out; simp [intOf]; omega
            · obtain rfl : j = y.length := by omega
              rw [← HSTEP.out]
              clear hlt2 hj
              go_wp2_with fail
              go_round
              case rel => exact ⟨k + 1, by omega, by go_num, rfl⟩
              case measure => simp [intOf]; omega
        · obtain rfl : k = L.length := by omega
          clear hlt hk
          have hcb := checkN_bound L L.length HSH.out (Nat.le_refl _) hLl
          have hjl := join_length 10 L 23000 HSH.out
          have hjl2 : L.length * (23000 + 1) ≤ 1002 * 23001 := Nat.mul_le_mul hLl (Nat.le_refl _)
          have hJ9 : (Lib.join L [10]).length ≤ 23047002 := by omega
          obtain ⟨ck, hck⟩ : ∃ ck : Nat, ((checkN L L.length : Nat) : Int) % 137 = (ck : Int) := ⟨checkN L L.length % 137, by omega⟩
          have hck2 : checkL L = ck := by unfold checkL; omega
          have HCK := Lib.hid hck2
          have hck9 : (ck : Int) < 137 := by omega
          have hck0 : (0 : Int) ≤ (ck : Int) := by omega
          clear hck2
          have HJ := Lib.hid hJ9
          have hcb9 : ((checkN L L.length : Nat) : Int) ≤ 137000000000000000 := by omega
          clear hcb hjl hjl2 hJ9
          go_wp2_with fail
          clear hck hcb9
          refine (join_any A5 c5 L w5 HI5.out hc5 (by omega) (by have := HJ.out; omega)).mono ?_
          rintro e w6 ⟨rfl, hE6⟩
          have HE6 := Lib.hid (HE.out.trans (HEW.out.trans hE6))
          have hl1 := Lib.itoa_length_le ((ck : Int) / 100) (by omega) (by omega)
          have hl2 := Lib.itoa_length_le ((ck : Int) / 10 % 10) (by omega) (by omega)
          have hl3 := Lib.itoa_length_le ((ck : Int) % 10) (by omega) (by omega)
          have HJT : Hid (textL s = Lib.join L [10] ++ [10, 101, 110, 100, 32] ++ Lib.itoa ((ck : Int) / 100) ++ Lib.itoa ((ck : Int) / 10 % 10) ++ Lib.itoa ((ck : Int) % 10) ++ [10]) := Lib.hid (by
            rw [HTX.out, HCK.out]
            unfold endL
            have e1 : ((ck / 100 : Nat) : Int) = (ck : Int) / 100 := by omega
            have e2 : ((ck / 10 % 10 : Nat) : Int) = (ck : Int) / 10 % 10 := by omega
            have e3 : ((ck % 10 : Nat) : Int) = (ck : Int) % 10 := by omega
            rw [e1, e2, e3]
            simp)
          have hJ9 := HJ.out
          obtain ⟨J, hJ⟩ : ∃ J, Lib.join L [10] = J := ⟨_, rfl⟩
          obtain ⟨I1, hI1⟩ : ∃ I1, Lib.itoa ((ck : Int) / 100) = I1 := ⟨_, rfl⟩
          obtain ⟨I2, hI2⟩ : ∃ I2, Lib.itoa ((ck : Int) / 10 % 10) = I2 := ⟨_, rfl⟩
          obtain ⟨I3, hI3⟩ : ∃ I3, Lib.itoa ((ck : Int) % 10) = I3 := ⟨_, rfl⟩
          rw [hJ] at HJT hJ9 ⊢
          rw [hI1] at HJT hl1
          rw [hI2] at HJT hl2
          rw [hI3] at HJT hl3
          have f1 : ∀ W : World, (Op.stringOp .add (bs J) ⟨#[10, 101, 110, 100, 32]⟩).run Tryz.prog W = .ok (.string (bs (J ++ [10, 101, 110, 100, 32]))) W := add_str J [10, 101, 110, 100, 32] (by simp; omega)
          have f2 : ∀ W : World, (Op.stringOp .add (bs (J ++ [10, 101, 110, 100, 32])) (bs I1)).run Tryz.prog W = .ok (.string (bs (J ++ [10, 101, 110, 100, 32] ++ I1))) W := add_str _ _ (by simp; omega)
          have f3 : ∀ W : World, (Op.stringOp .add (bs (J ++ [10, 101, 110, 100, 32] ++ I1)) (bs I2)).run Tryz.prog W = .ok (.string (bs (J ++ [10, 101, 110, 100, 32] ++ I1 ++ I2))) W := add_str _ _ (by simp; omega)
          have f4 : ∀ W : World, (Op.stringOp .add (bs (J ++ [10, 101, 110, 100, 32] ++ I1 ++ I2)) (bs I3)).run Tryz.prog W = .ok (.string (bs (J ++ [10, 101, 110, 100, 32] ++ I1 ++ I2 ++ I3))) W := add_str _ _ (by simp; omega)
          have f5 : ∀ W : World, (Op.stringOp .add (bs (J ++ [10, 101, 110, 100, 32] ++ I1 ++ I2 ++ I3)) ⟨#[10]⟩).run Tryz.prog W = .ok (.string (bs (J ++ [10, 101, 110, 100, 32] ++ I1 ++ I2 ++ I3 ++ [10]))) W := add_str _ [10] (by simp; omega)
          generalize J ++ [10, 101, 110, 100, 32] = T1 at *
          generalize T1 ++ I1 = T2 at *
          generalize T2 ++ I2 = T3 at *
          generalize T3 ++ I3 = T4 at *
          generalize T4 ++ [10] = T5 at *
          have HI1 := Lib.hid hI1
          have HI2 := Lib.hid hI2
          have HI3 := Lib.hid hI3
          clear hJ hI1 hI2 hI3 hE6 hJ9
          go_wp2_with fail
          refine (itoa_as _ I1 w6 HI1.out (HV.out.ext HE6.out) (by omega) (by omega)).mono ?_
          rintro e w7 ⟨rfl, hE7⟩
          have HE7 := Lib.hid (HE6.out.trans hE7)
          clear hE7
          go_wp2_with fail
          refine (itoa_as _ I2 w7 HI2.out (HV.out.ext HE7.out) (by omega) (by omega)).mono ?_
          rintro e w8 ⟨rfl, hE8⟩
          have HE8 := Lib.hid (HE7.out.trans hE8)
          clear hE8
          go_wp2_with fail
          refine (itoa_as _ I3 w8 HI3.out (HV.out.ext HE8.out) (by omega) (by omega)).mono ?_
          rintro e w9 ⟨rfl, hE9⟩
          have HE9 := Lib.hid (HE8.out.trans hE9)
          clear hE9
          go_wp2_with fail
          go_ret
          exact ⟨by rw [HJT.out]; rfl, HE9.out⟩
end Go.Proofs.YtlcddcnmoajpjaaGreatDoor
