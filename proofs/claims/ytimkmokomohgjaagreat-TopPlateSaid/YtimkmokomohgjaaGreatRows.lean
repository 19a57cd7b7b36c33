/-
  No cell of these rows narrows 'for every input' (looked for: loops, veiled, ifaces, maps, wideKeys, modest, calm, conditions, laid).
  DERIVED. THE GIVEN ROWS OF THIS SEAT. 3 by the template 'for every input the law returns true; each argument reads behind the call as it read before'; 0 by the template 'total and deterministic' (their statements: YtimkmokomohgjaaGreatTotals.lean).
  GIVEN WITH THE SEED: the statements are not yours to turn. If you find one false, say at which input.
  Laid BY PROGRAM, IN A SANDBOX (cutbox-rows.mjs): the forced cells as the released guide's own fill.sh prints them over the translation 163289446175a91a… (all of the seat's roots in one cut). By AI agents, Wed Nov 11 2026. No macro, syntax, notation, axiom, sorry.
-/
import Derived.Test.YtimkmokomohgjaaGreatChecked
import GoSem.Claim
import GoSem.ClaimJoined
import GoSem.ClaimMapViews
import Derived.JoinedTies
import Derived.KernelRfl
namespace Go.Proofs.YtimkmokomohgjaaGreat
/- THE CELL 'sum', in the pinned program and in every row, IS THE sha256 OF THE DUMP (.gsa) THAT YtimkmokomohgjaaGreatProg.lean LOADS. Nothing in Lean hashes anything: it is a label: what it is worth is what the hold of that sum in a sandbox is worth. -/
noncomputable def Tryz.pinned : Pinned := { name := "ytimkmokomohgjaagreat", sum := "163289446175a91a687ae2bbe39120c22662b0e69087cc819f5aaa59db38a7b0", checked := Tryz.checked }
namespace Rows
def none {H : Type} : Left H := { results := [], args := [] }

/-- 'telluriontop.TopMoons': WHATEVER THE INPUT: true; the input reads as it did. -/
def topMoonsSpec : ChangeSpec := { name := "topMoons", fn := fun _ => fun
  | [d1, d2, d3, d4, d5] => { results := [.lit (.bool true)], args := [d1, d2, d3, d4, d5] }
  | _ => none }
def topMoonsRow : OpenClaim := { program := "ytimkmokomohgjaagreat", sum := "163289446175a91a687ae2bbe39120c22662b0e69087cc819f5aaa59db38a7b0", func := "tellurion/telluriontop.TopMoons", spec := "topMoons", unfollowed := true, recurses := true, plainKeys := false, apart := false }
def TopMoonsSaid : Prop := topMoonsRow.holds Tryz.pinned (OpenSpec.ofChange topMoonsSpec)

/-- ITS FALSE NEIGHBOUR: 'it returns false'. Refute it at one input. -/
def topMoonsWrong : ChangeSpec := { name := "topMoons", fn := fun _ => fun
  | [d1, d2, d3, d4, d5] => { results := [.lit (.bool false)], args := [d1, d2, d3, d4, d5] }
  | _ => none }
def TopMoonsWrongFalsely : Prop := topMoonsRow.holds Tryz.pinned (OpenSpec.ofChange topMoonsWrong)

/-- 'telluriontop.TopPlate': WHATEVER THE INPUT: true; the input reads as it did. -/
def topPlateSpec : ChangeSpec := { name := "topPlate", fn := fun _ => fun
  | [d] => { results := [.lit (.bool true)], args := [d] }
  | _ => none }
def topPlateRow : OpenClaim := { program := "ytimkmokomohgjaagreat", sum := "163289446175a91a687ae2bbe39120c22662b0e69087cc819f5aaa59db38a7b0", func := "tellurion/telluriontop.TopPlate", spec := "topPlate", unfollowed := true, recurses := true, plainKeys := false, apart := false }
def TopPlateSaid : Prop := topPlateRow.holds Tryz.pinned (OpenSpec.ofChange topPlateSpec)

/-- ITS FALSE NEIGHBOUR: 'it returns false'. Refute it at one input. -/
def topPlateWrong : ChangeSpec := { name := "topPlate", fn := fun _ => fun
  | [d] => { results := [.lit (.bool false)], args := [d] }
  | _ => none }
def TopPlateWrongFalsely : Prop := topPlateRow.holds Tryz.pinned (OpenSpec.ofChange topPlateWrong)

/-- 'telluriontop.TopRight': WHATEVER THE INPUT: true; the input reads as it did. -/
def topRightSpec : ChangeSpec := { name := "topRight", fn := fun _ => fun
  | [d1, d2, d3, d4, d5, d6, d7, d8, d9, d10] => { results := [.lit (.bool true)], args := [d1, d2, d3, d4, d5, d6, d7, d8, d9, d10] }
  | _ => none }
def topRightRow : OpenClaim := { program := "ytimkmokomohgjaagreat", sum := "163289446175a91a687ae2bbe39120c22662b0e69087cc819f5aaa59db38a7b0", func := "tellurion/telluriontop.TopRight", spec := "topRight", unfollowed := true, recurses := true, plainKeys := false, apart := false }
def TopRightSaid : Prop := topRightRow.holds Tryz.pinned (OpenSpec.ofChange topRightSpec)

/-- ITS FALSE NEIGHBOUR: 'it returns false'. Refute it at one input. -/
def topRightWrong : ChangeSpec := { name := "topRight", fn := fun _ => fun
  | [d1, d2, d3, d4, d5, d6, d7, d8, d9, d10] => { results := [.lit (.bool false)], args := [d1, d2, d3, d4, d5, d6, d7, d8, d9, d10] }
  | _ => none }
def TopRightWrongFalsely : Prop := topRightRow.holds Tryz.pinned (OpenSpec.ofChange topRightWrong)

/- THE SECOND FORM. 'bulk': how many values and letters a reading holds, each counted each time it is reached (what is shared counts as often as it is met; a slice's spare places count too). A statement '..UptoSaid' is the law's where the arguments, and the package variables that the reading takes, are together of bulk at most 1048576: NARROWER than '..Said'. Prove '..Said' where nothing that the law and all that it calls make is longer than what came in: it says more and counts as full. Else prove '..UptoSaid'. A law counts once. -/
mutual
def uptoBulk {H : Type} : DataW H → Nat
  | .lit (.string bytes) => bytes.length + 1
  | .lit _ => 1
  | .nil => 1
  | .ptr d => uptoBulk d + 1
  | .slice elems spare => uptoBulkAll elems + uptoBulkAll spare + 1
  | .agg parts => uptoBulkAll parts + 1
  | .iface _ d => uptoBulk d + 1
  | .map entries => uptoBulkEntries entries + 1
  | .held _ => 1
def uptoBulkAll {H : Type} : List (DataW H) → Nat
  | [] => 0
  | d :: r => uptoBulk d + uptoBulkAll r
def uptoBulkEntries {H : Type} : List (Lit × DataW H) → Nat
  | [] => 0
  | x :: r => uptoBulkEntry x + uptoBulkEntries r
def uptoBulkEntry {H : Type} : Lit × DataW H → Nat
  | (.string bytes, d) => bytes.length + uptoBulk d + 1
  | (_, d) => uptoBulk d + 1
 end
def uptoSmall : (H : Type) → List (DataW H) → Bool := fun _ ds => decide (uptoBulkAll ds ≤ 1048576)
def OpenSpec.upto (s : _root_.Go.ChangeSpec) : _root_.Go.OpenSpec := { _root_.Go.OpenSpec.ofChange s with cond := some uptoSmall }

/-- 'telluriontop.TopMoons', WHERE WHAT IT READS IS OF BULK AT MOST 1048576: true; the input reads as it did. -/
def topMoonsUptoRow : OpenClaim := { program := "ytimkmokomohgjaagreat", sum := "163289446175a91a687ae2bbe39120c22662b0e69087cc819f5aaa59db38a7b0", func := "tellurion/telluriontop.TopMoons", spec := "topMoons", unfollowed := true, recurses := true, plainKeys := false, apart := false, narrowed := true }
def TopMoonsUptoSaid : Prop := topMoonsUptoRow.holds Tryz.pinned (OpenSpec.upto topMoonsSpec)

/-- 'telluriontop.TopPlate', WHERE WHAT IT READS IS OF BULK AT MOST 1048576: true; the input reads as it did. -/
def topPlateUptoRow : OpenClaim := { program := "ytimkmokomohgjaagreat", sum := "163289446175a91a687ae2bbe39120c22662b0e69087cc819f5aaa59db38a7b0", func := "tellurion/telluriontop.TopPlate", spec := "topPlate", unfollowed := true, recurses := true, plainKeys := false, apart := false, narrowed := true }
def TopPlateUptoSaid : Prop := topPlateUptoRow.holds Tryz.pinned (OpenSpec.upto topPlateSpec)

/-- 'telluriontop.TopRight', WHERE WHAT IT READS IS OF BULK AT MOST 1048576: true; the input reads as it did. -/
def topRightUptoRow : OpenClaim := { program := "ytimkmokomohgjaagreat", sum := "163289446175a91a687ae2bbe39120c22662b0e69087cc819f5aaa59db38a7b0", func := "tellurion/telluriontop.TopRight", spec := "topRight", unfollowed := true, recurses := true, plainKeys := false, apart := false, narrowed := true }
def TopRightUptoSaid : Prop := topRightUptoRow.holds Tryz.pinned (OpenSpec.upto topRightSpec)

end Rows
end Go.Proofs.YtimkmokomohgjaaGreat
