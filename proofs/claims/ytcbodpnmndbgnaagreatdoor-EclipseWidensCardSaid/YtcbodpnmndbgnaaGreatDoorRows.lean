/-
  NARROWER THAN 'FOR EVERY INPUT', by the rows' own cells (each row's printed sentence says how): EclipseKept: laid · EclipseForetells: laid · EclipseTold: laid · EclipseWithins: laid · EclipseTrusted: laid · EclipseWidens: laid · EclipseEnough: laid · EclipseNever: laid · EclipseMore: laid · EclipseHands: laid · EclipseMisses: laid · EclipseFound: laid.
  DERIVED. THE GIVEN ROWS OF THIS SEAT. 12 by the template 'for every input the law returns true; each argument reads behind the call as it read before'; 0 by the template 'total and deterministic' (their statements: YtcbodpnmndbgnaaGreatDoorTotals.lean).
  GIVEN WITH THE SEED: the statements are not yours to turn. If you find one false, say at which input.
  Laid BY PROGRAM, IN A SANDBOX (cutbox-rows.mjs): the forced cells as the released guide's own fill.sh prints them over the translation aa006f6b5a04bb60… (all of the seat's roots in one cut). By AI agents, Wed Nov 11 2026. No macro, syntax, notation, axiom, sorry.
-/
import Derived.Test.YtcbodpnmndbgnaaGreatDoorChecked
import GoSem.PinnedTables
import GoSem.Claim
import GoSem.ClaimJoined
import GoSem.ClaimMapViews
import Derived.JoinedTies
import Derived.KernelRfl
namespace Go.Proofs.YtcbodpnmndbgnaaGreatDoor
/- THE CELL 'sum', in the pinned program and in every row, IS THE sha256 OF THE DUMP (.gsa) THAT YtcbodpnmndbgnaaGreatDoorProg.lean LOADS. Nothing in Lean hashes anything: it is a label: what it is worth is what the hold of that sum in a sandbox is worth. -/
noncomputable def Tryz.pinned : Pinned := { name := "ytcbodpnmndbgnaagreatdoor", sum := "aa006f6b5a04bb60e854f36a2678ca6b216945f5a28cb2b96e7a357bfbe94f38", checked := Tryz.checked }
namespace Rows
def none {H : Type} : Left H := { results := [], args := [] }

/- WHAT THE LISTED PACKAGE-LEVEL VARIABLES READ AS WHEN THE CALL BEGINS. Each datum BY PROGRAM (the guide's laid-datum.mjs) off the statement by which the dump's own 'gosem.cut.vars' lays the variable. In a bare row this is a premise. The card (YtcbodpnmndbgnaaGreatDoorCards.lean) ties it to the program's text. -/
def laid_math_bits_deBruijn32tab {H : Type} : DataW H := .agg [.lit (.int .u8 0), .lit (.int .u8 1), .lit (.int .u8 28), .lit (.int .u8 2), .lit (.int .u8 29), .lit (.int .u8 14), .lit (.int .u8 24), .lit (.int .u8 3), .lit (.int .u8 30), .lit (.int .u8 22), .lit (.int .u8 20), .lit (.int .u8 15), .lit (.int .u8 25), .lit (.int .u8 17), .lit (.int .u8 4), .lit (.int .u8 8), .lit (.int .u8 31), .lit (.int .u8 27), .lit (.int .u8 13), .lit (.int .u8 23), .lit (.int .u8 21), .lit (.int .u8 19), .lit (.int .u8 16), .lit (.int .u8 7), .lit (.int .u8 26), .lit (.int .u8 12), .lit (.int .u8 18), .lit (.int .u8 6), .lit (.int .u8 11), .lit (.int .u8 5), .lit (.int .u8 10), .lit (.int .u8 9)]
def laid_math_bits_deBruijn64tab {H : Type} : DataW H := .agg [.lit (.int .u8 0), .lit (.int .u8 1), .lit (.int .u8 56), .lit (.int .u8 2), .lit (.int .u8 57), .lit (.int .u8 49), .lit (.int .u8 28), .lit (.int .u8 3), .lit (.int .u8 61), .lit (.int .u8 58), .lit (.int .u8 42), .lit (.int .u8 50), .lit (.int .u8 38), .lit (.int .u8 29), .lit (.int .u8 17), .lit (.int .u8 4), .lit (.int .u8 62), .lit (.int .u8 47), .lit (.int .u8 59), .lit (.int .u8 36), .lit (.int .u8 45), .lit (.int .u8 43), .lit (.int .u8 51), .lit (.int .u8 22), .lit (.int .u8 53), .lit (.int .u8 39), .lit (.int .u8 33), .lit (.int .u8 30), .lit (.int .u8 24), .lit (.int .u8 18), .lit (.int .u8 12), .lit (.int .u8 5), .lit (.int .u8 63), .lit (.int .u8 55), .lit (.int .u8 48), .lit (.int .u8 27), .lit (.int .u8 60), .lit (.int .u8 41), .lit (.int .u8 37), .lit (.int .u8 16), .lit (.int .u8 46), .lit (.int .u8 35), .lit (.int .u8 44), .lit (.int .u8 21), .lit (.int .u8 52), .lit (.int .u8 32), .lit (.int .u8 23), .lit (.int .u8 11), .lit (.int .u8 54), .lit (.int .u8 26), .lit (.int .u8 40), .lit (.int .u8 15), .lit (.int .u8 34), .lit (.int .u8 20), .lit (.int .u8 31), .lit (.int .u8 10), .lit (.int .u8 25), .lit (.int .u8 14), .lit (.int .u8 19), .lit (.int .u8 9), .lit (.int .u8 13), .lit (.int .u8 8), .lit (.int .u8 7), .lit (.int .u8 6)]
def laid_internal_strconv_uint64pow10 {H : Type} : DataW H := .agg [.lit (.int .u64 1), .lit (.int .u64 10), .lit (.int .u64 100), .lit (.int .u64 1000), .lit (.int .u64 10000), .lit (.int .u64 100000), .lit (.int .u64 1000000), .lit (.int .u64 10000000), .lit (.int .u64 100000000), .lit (.int .u64 1000000000), .lit (.int .u64 10000000000), .lit (.int .u64 100000000000), .lit (.int .u64 1000000000000), .lit (.int .u64 10000000000000), .lit (.int .u64 100000000000000), .lit (.int .u64 1000000000000000), .lit (.int .u64 10000000000000000), .lit (.int .u64 100000000000000000), .lit (.int .u64 1000000000000000000), .lit (.int .u64 10000000000000000000)]
def laid_unicode_utf8_acceptRanges {H : Type} : DataW H := .agg [.agg [.lit (.int .u8 128), .lit (.int .u8 191)], .agg [.lit (.int .u8 160), .lit (.int .u8 191)], .agg [.lit (.int .u8 128), .lit (.int .u8 159)], .agg [.lit (.int .u8 144), .lit (.int .u8 191)], .agg [.lit (.int .u8 128), .lit (.int .u8 143)], .agg [.lit (.int .u8 0), .lit (.int .u8 0)], .agg [.lit (.int .u8 0), .lit (.int .u8 0)], .agg [.lit (.int .u8 0), .lit (.int .u8 0)], .agg [.lit (.int .u8 0), .lit (.int .u8 0)], .agg [.lit (.int .u8 0), .lit (.int .u8 0)], .agg [.lit (.int .u8 0), .lit (.int .u8 0)], .agg [.lit (.int .u8 0), .lit (.int .u8 0)], .agg [.lit (.int .u8 0), .lit (.int .u8 0)], .agg [.lit (.int .u8 0), .lit (.int .u8 0)], .agg [.lit (.int .u8 0), .lit (.int .u8 0)], .agg [.lit (.int .u8 0), .lit (.int .u8 0)]]
/-- One of Go's own tables, pinned by name: the form's constant. -/
def laid_unicode_utf8_first : DataW Unit := Go.Pinned.utf8First

/-- 'tellurionlaw07.EclipseKept': WHATEVER THE INPUT: true; the input reads as it did. -/
def eclipseKeptSpec : ChangeSpec := { name := "eclipseKept", fn := fun _ => fun
  | [d1, d2, d3, d4] => { results := [.lit (.bool true)], args := [d1, d2, d3, d4] }
  | _ => none }
def eclipseKeptRow : OpenClaim := { program := "ytcbodpnmndbgnaagreatdoor", sum := "aa006f6b5a04bb60e854f36a2678ca6b216945f5a28cb2b96e7a357bfbe94f38", func := "tellurion/tellurionlaw07.EclipseKept", spec := "eclipseKept", inPlace := ["internal/bytealg.CountString", "internal/bytealg.IndexByteString", "internal/bytealg.IndexString", "internal/abi.NoEscape", "internal/bytealg.MakeNoZero"], unfollowed := true, recurses := true, named := ["unicode/utf8.first", "unicode/utf8.acceptRanges", "internal/bytealg.MaxLen", "internal/strconv.uint64pow10", "math/bits.deBruijn32tab", "math/bits.deBruijn64tab"], apart := false, laid := [("math/bits.deBruijn32tab", laid_math_bits_deBruijn32tab), ("math/bits.deBruijn64tab", laid_math_bits_deBruijn64tab), ("internal/strconv.uint64pow10", laid_internal_strconv_uint64pow10), ("unicode/utf8.acceptRanges", laid_unicode_utf8_acceptRanges), ("unicode/utf8.first", laid_unicode_utf8_first)] }
def EclipseKeptSaid : Prop := eclipseKeptRow.holds Tryz.pinned (OpenSpec.ofChange eclipseKeptSpec)

/-- ITS FALSE NEIGHBOUR: 'it returns false'. Refute it at one input. -/
def eclipseKeptWrong : ChangeSpec := { name := "eclipseKept", fn := fun _ => fun
  | [d1, d2, d3, d4] => { results := [.lit (.bool false)], args := [d1, d2, d3, d4] }
  | _ => none }
def EclipseKeptWrongFalsely : Prop := eclipseKeptRow.holds Tryz.pinned (OpenSpec.ofChange eclipseKeptWrong)

/-- 'tellurionlaw07.EclipseForetells': WHATEVER THE INPUT: true; the input reads as it did. -/
def eclipseForetellsSpec : ChangeSpec := { name := "eclipseForetells", fn := fun _ => fun
  | [d1, d2, d3, d4] => { results := [.lit (.bool true)], args := [d1, d2, d3, d4] }
  | _ => none }
def eclipseForetellsRow : OpenClaim := { program := "ytcbodpnmndbgnaagreatdoor", sum := "aa006f6b5a04bb60e854f36a2678ca6b216945f5a28cb2b96e7a357bfbe94f38", func := "tellurion/tellurionlaw07.EclipseForetells", spec := "eclipseForetells", inPlace := ["internal/bytealg.CountString", "internal/bytealg.IndexByteString", "internal/bytealg.IndexString", "internal/abi.NoEscape", "internal/bytealg.MakeNoZero"], unfollowed := true, recurses := true, named := ["unicode/utf8.first", "unicode/utf8.acceptRanges", "internal/bytealg.MaxLen", "internal/strconv.uint64pow10", "math/bits.deBruijn32tab", "math/bits.deBruijn64tab"], apart := false, laid := [("math/bits.deBruijn32tab", laid_math_bits_deBruijn32tab), ("math/bits.deBruijn64tab", laid_math_bits_deBruijn64tab), ("internal/strconv.uint64pow10", laid_internal_strconv_uint64pow10), ("unicode/utf8.acceptRanges", laid_unicode_utf8_acceptRanges), ("unicode/utf8.first", laid_unicode_utf8_first)] }
def EclipseForetellsSaid : Prop := eclipseForetellsRow.holds Tryz.pinned (OpenSpec.ofChange eclipseForetellsSpec)

/-- ITS FALSE NEIGHBOUR: 'it returns false'. Refute it at one input. -/
def eclipseForetellsWrong : ChangeSpec := { name := "eclipseForetells", fn := fun _ => fun
  | [d1, d2, d3, d4] => { results := [.lit (.bool false)], args := [d1, d2, d3, d4] }
  | _ => none }
def EclipseForetellsWrongFalsely : Prop := eclipseForetellsRow.holds Tryz.pinned (OpenSpec.ofChange eclipseForetellsWrong)

/-- 'tellurionlaw07.EclipseTold': WHATEVER THE INPUT: true; the input reads as it did. -/
def eclipseToldSpec : ChangeSpec := { name := "eclipseTold", fn := fun _ => fun
  | [d1, d2, d3, d4, d5, d6] => { results := [.lit (.bool true)], args := [d1, d2, d3, d4, d5, d6] }
  | _ => none }
def eclipseToldRow : OpenClaim := { program := "ytcbodpnmndbgnaagreatdoor", sum := "aa006f6b5a04bb60e854f36a2678ca6b216945f5a28cb2b96e7a357bfbe94f38", func := "tellurion/tellurionlaw07.EclipseTold", spec := "eclipseTold", inPlace := ["internal/bytealg.CountString", "internal/bytealg.IndexByteString", "internal/bytealg.IndexString", "internal/abi.NoEscape", "internal/bytealg.MakeNoZero"], unfollowed := true, recurses := true, named := ["unicode/utf8.first", "unicode/utf8.acceptRanges", "internal/bytealg.MaxLen", "internal/strconv.uint64pow10", "math/bits.deBruijn32tab", "math/bits.deBruijn64tab"], apart := false, laid := [("math/bits.deBruijn32tab", laid_math_bits_deBruijn32tab), ("math/bits.deBruijn64tab", laid_math_bits_deBruijn64tab), ("internal/strconv.uint64pow10", laid_internal_strconv_uint64pow10), ("unicode/utf8.acceptRanges", laid_unicode_utf8_acceptRanges), ("unicode/utf8.first", laid_unicode_utf8_first)] }
def EclipseToldSaid : Prop := eclipseToldRow.holds Tryz.pinned (OpenSpec.ofChange eclipseToldSpec)

/-- ITS FALSE NEIGHBOUR: 'it returns false'. Refute it at one input. -/
def eclipseToldWrong : ChangeSpec := { name := "eclipseTold", fn := fun _ => fun
  | [d1, d2, d3, d4, d5, d6] => { results := [.lit (.bool false)], args := [d1, d2, d3, d4, d5, d6] }
  | _ => none }
def EclipseToldWrongFalsely : Prop := eclipseToldRow.holds Tryz.pinned (OpenSpec.ofChange eclipseToldWrong)

/-- 'tellurionlaw07.EclipseWithins': WHATEVER THE INPUT: true; the input reads as it did. -/
def eclipseWithinsSpec : ChangeSpec := { name := "eclipseWithins", fn := fun _ => fun
  | [d1, d2, d3, d4, d5] => { results := [.lit (.bool true)], args := [d1, d2, d3, d4, d5] }
  | _ => none }
def eclipseWithinsRow : OpenClaim := { program := "ytcbodpnmndbgnaagreatdoor", sum := "aa006f6b5a04bb60e854f36a2678ca6b216945f5a28cb2b96e7a357bfbe94f38", func := "tellurion/tellurionlaw07.EclipseWithins", spec := "eclipseWithins", inPlace := ["internal/bytealg.CountString", "internal/bytealg.IndexByteString", "internal/bytealg.IndexString", "internal/abi.NoEscape", "internal/bytealg.MakeNoZero"], unfollowed := true, recurses := true, named := ["unicode/utf8.first", "unicode/utf8.acceptRanges", "internal/bytealg.MaxLen", "internal/strconv.uint64pow10", "math/bits.deBruijn32tab", "math/bits.deBruijn64tab"], apart := false, laid := [("math/bits.deBruijn32tab", laid_math_bits_deBruijn32tab), ("math/bits.deBruijn64tab", laid_math_bits_deBruijn64tab), ("internal/strconv.uint64pow10", laid_internal_strconv_uint64pow10), ("unicode/utf8.acceptRanges", laid_unicode_utf8_acceptRanges), ("unicode/utf8.first", laid_unicode_utf8_first)] }
def EclipseWithinsSaid : Prop := eclipseWithinsRow.holds Tryz.pinned (OpenSpec.ofChange eclipseWithinsSpec)

/-- ITS FALSE NEIGHBOUR: 'it returns false'. Refute it at one input. -/
def eclipseWithinsWrong : ChangeSpec := { name := "eclipseWithins", fn := fun _ => fun
  | [d1, d2, d3, d4, d5] => { results := [.lit (.bool false)], args := [d1, d2, d3, d4, d5] }
  | _ => none }
def EclipseWithinsWrongFalsely : Prop := eclipseWithinsRow.holds Tryz.pinned (OpenSpec.ofChange eclipseWithinsWrong)

/-- 'tellurionlaw07.EclipseTrusted': WHATEVER THE INPUT: true; the input reads as it did. -/
def eclipseTrustedSpec : ChangeSpec := { name := "eclipseTrusted", fn := fun _ => fun
  | [d1, d2, d3, d4, d5] => { results := [.lit (.bool true)], args := [d1, d2, d3, d4, d5] }
  | _ => none }
def eclipseTrustedRow : OpenClaim := { program := "ytcbodpnmndbgnaagreatdoor", sum := "aa006f6b5a04bb60e854f36a2678ca6b216945f5a28cb2b96e7a357bfbe94f38", func := "tellurion/tellurionlaw07.EclipseTrusted", spec := "eclipseTrusted", inPlace := ["internal/bytealg.CountString", "internal/bytealg.IndexByteString", "internal/bytealg.IndexString", "internal/abi.NoEscape", "internal/bytealg.MakeNoZero"], unfollowed := true, recurses := true, named := ["unicode/utf8.first", "unicode/utf8.acceptRanges", "internal/bytealg.MaxLen", "internal/strconv.uint64pow10", "math/bits.deBruijn32tab", "math/bits.deBruijn64tab"], apart := false, laid := [("math/bits.deBruijn32tab", laid_math_bits_deBruijn32tab), ("math/bits.deBruijn64tab", laid_math_bits_deBruijn64tab), ("internal/strconv.uint64pow10", laid_internal_strconv_uint64pow10), ("unicode/utf8.acceptRanges", laid_unicode_utf8_acceptRanges), ("unicode/utf8.first", laid_unicode_utf8_first)] }
def EclipseTrustedSaid : Prop := eclipseTrustedRow.holds Tryz.pinned (OpenSpec.ofChange eclipseTrustedSpec)

/-- ITS FALSE NEIGHBOUR: 'it returns false'. Refute it at one input. -/
def eclipseTrustedWrong : ChangeSpec := { name := "eclipseTrusted", fn := fun _ => fun
  | [d1, d2, d3, d4, d5] => { results := [.lit (.bool false)], args := [d1, d2, d3, d4, d5] }
  | _ => none }
def EclipseTrustedWrongFalsely : Prop := eclipseTrustedRow.holds Tryz.pinned (OpenSpec.ofChange eclipseTrustedWrong)

/-- 'tellurionlaw07.EclipseWidens': WHATEVER THE INPUT: true; the input reads as it did. -/
def eclipseWidensSpec : ChangeSpec := { name := "eclipseWidens", fn := fun _ => fun
  | [d1, d2, d3, d4, d5] => { results := [.lit (.bool true)], args := [d1, d2, d3, d4, d5] }
  | _ => none }
def eclipseWidensRow : OpenClaim := { program := "ytcbodpnmndbgnaagreatdoor", sum := "aa006f6b5a04bb60e854f36a2678ca6b216945f5a28cb2b96e7a357bfbe94f38", func := "tellurion/tellurionlaw07.EclipseWidens", spec := "eclipseWidens", inPlace := ["internal/bytealg.CountString", "internal/bytealg.IndexByteString", "internal/bytealg.IndexString", "internal/abi.NoEscape", "internal/bytealg.MakeNoZero"], unfollowed := true, recurses := true, named := ["unicode/utf8.first", "unicode/utf8.acceptRanges", "internal/bytealg.MaxLen", "internal/strconv.uint64pow10", "math/bits.deBruijn32tab", "math/bits.deBruijn64tab"], apart := false, laid := [("math/bits.deBruijn32tab", laid_math_bits_deBruijn32tab), ("math/bits.deBruijn64tab", laid_math_bits_deBruijn64tab), ("internal/strconv.uint64pow10", laid_internal_strconv_uint64pow10), ("unicode/utf8.acceptRanges", laid_unicode_utf8_acceptRanges), ("unicode/utf8.first", laid_unicode_utf8_first)] }
def EclipseWidensSaid : Prop := eclipseWidensRow.holds Tryz.pinned (OpenSpec.ofChange eclipseWidensSpec)

/-- ITS FALSE NEIGHBOUR: 'it returns false'. Refute it at one input. -/
def eclipseWidensWrong : ChangeSpec := { name := "eclipseWidens", fn := fun _ => fun
  | [d1, d2, d3, d4, d5] => { results := [.lit (.bool false)], args := [d1, d2, d3, d4, d5] }
  | _ => none }
def EclipseWidensWrongFalsely : Prop := eclipseWidensRow.holds Tryz.pinned (OpenSpec.ofChange eclipseWidensWrong)

/-- 'tellurionlaw07.EclipseEnough': WHATEVER THE INPUT: true; the input reads as it did. -/
def eclipseEnoughSpec : ChangeSpec := { name := "eclipseEnough", fn := fun _ => fun
  | [d1, d2, d3, d4, d5, d6] => { results := [.lit (.bool true)], args := [d1, d2, d3, d4, d5, d6] }
  | _ => none }
def eclipseEnoughRow : OpenClaim := { program := "ytcbodpnmndbgnaagreatdoor", sum := "aa006f6b5a04bb60e854f36a2678ca6b216945f5a28cb2b96e7a357bfbe94f38", func := "tellurion/tellurionlaw07.EclipseEnough", spec := "eclipseEnough", inPlace := ["internal/bytealg.CountString", "internal/bytealg.IndexByteString", "internal/bytealg.IndexString", "internal/abi.NoEscape", "internal/bytealg.MakeNoZero"], unfollowed := true, recurses := true, named := ["unicode/utf8.first", "unicode/utf8.acceptRanges", "internal/bytealg.MaxLen", "internal/strconv.uint64pow10", "math/bits.deBruijn32tab", "math/bits.deBruijn64tab"], apart := false, laid := [("math/bits.deBruijn32tab", laid_math_bits_deBruijn32tab), ("math/bits.deBruijn64tab", laid_math_bits_deBruijn64tab), ("internal/strconv.uint64pow10", laid_internal_strconv_uint64pow10), ("unicode/utf8.acceptRanges", laid_unicode_utf8_acceptRanges), ("unicode/utf8.first", laid_unicode_utf8_first)] }
def EclipseEnoughSaid : Prop := eclipseEnoughRow.holds Tryz.pinned (OpenSpec.ofChange eclipseEnoughSpec)

/-- ITS FALSE NEIGHBOUR: 'it returns false'. Refute it at one input. -/
def eclipseEnoughWrong : ChangeSpec := { name := "eclipseEnough", fn := fun _ => fun
  | [d1, d2, d3, d4, d5, d6] => { results := [.lit (.bool false)], args := [d1, d2, d3, d4, d5, d6] }
  | _ => none }
def EclipseEnoughWrongFalsely : Prop := eclipseEnoughRow.holds Tryz.pinned (OpenSpec.ofChange eclipseEnoughWrong)

/-- 'tellurionlaw07.EclipseNever': WHATEVER THE INPUT: true; the input reads as it did. -/
def eclipseNeverSpec : ChangeSpec := { name := "eclipseNever", fn := fun _ => fun
  | [d1, d2, d3, d4, d5, d6] => { results := [.lit (.bool true)], args := [d1, d2, d3, d4, d5, d6] }
  | _ => none }
def eclipseNeverRow : OpenClaim := { program := "ytcbodpnmndbgnaagreatdoor", sum := "aa006f6b5a04bb60e854f36a2678ca6b216945f5a28cb2b96e7a357bfbe94f38", func := "tellurion/tellurionlaw07.EclipseNever", spec := "eclipseNever", inPlace := ["internal/bytealg.CountString", "internal/bytealg.IndexByteString", "internal/bytealg.IndexString", "internal/abi.NoEscape", "internal/bytealg.MakeNoZero"], unfollowed := true, recurses := true, named := ["unicode/utf8.first", "unicode/utf8.acceptRanges", "internal/bytealg.MaxLen", "internal/strconv.uint64pow10", "math/bits.deBruijn32tab", "math/bits.deBruijn64tab"], apart := false, laid := [("math/bits.deBruijn32tab", laid_math_bits_deBruijn32tab), ("math/bits.deBruijn64tab", laid_math_bits_deBruijn64tab), ("internal/strconv.uint64pow10", laid_internal_strconv_uint64pow10), ("unicode/utf8.acceptRanges", laid_unicode_utf8_acceptRanges), ("unicode/utf8.first", laid_unicode_utf8_first)] }
def EclipseNeverSaid : Prop := eclipseNeverRow.holds Tryz.pinned (OpenSpec.ofChange eclipseNeverSpec)

/-- ITS FALSE NEIGHBOUR: 'it returns false'. Refute it at one input. -/
def eclipseNeverWrong : ChangeSpec := { name := "eclipseNever", fn := fun _ => fun
  | [d1, d2, d3, d4, d5, d6] => { results := [.lit (.bool false)], args := [d1, d2, d3, d4, d5, d6] }
  | _ => none }
def EclipseNeverWrongFalsely : Prop := eclipseNeverRow.holds Tryz.pinned (OpenSpec.ofChange eclipseNeverWrong)

/-- 'tellurionlaw07.EclipseMore': WHATEVER THE INPUT: true; the input reads as it did. -/
def eclipseMoreSpec : ChangeSpec := { name := "eclipseMore", fn := fun _ => fun
  | [d1, d2, d3, d4, d5, d6, d7] => { results := [.lit (.bool true)], args := [d1, d2, d3, d4, d5, d6, d7] }
  | _ => none }
def eclipseMoreRow : OpenClaim := { program := "ytcbodpnmndbgnaagreatdoor", sum := "aa006f6b5a04bb60e854f36a2678ca6b216945f5a28cb2b96e7a357bfbe94f38", func := "tellurion/tellurionlaw07.EclipseMore", spec := "eclipseMore", inPlace := ["internal/bytealg.CountString", "internal/bytealg.IndexByteString", "internal/bytealg.IndexString", "internal/abi.NoEscape", "internal/bytealg.MakeNoZero"], unfollowed := true, recurses := true, named := ["unicode/utf8.first", "unicode/utf8.acceptRanges", "internal/bytealg.MaxLen", "internal/strconv.uint64pow10", "math/bits.deBruijn32tab", "math/bits.deBruijn64tab"], apart := false, laid := [("math/bits.deBruijn32tab", laid_math_bits_deBruijn32tab), ("math/bits.deBruijn64tab", laid_math_bits_deBruijn64tab), ("internal/strconv.uint64pow10", laid_internal_strconv_uint64pow10), ("unicode/utf8.acceptRanges", laid_unicode_utf8_acceptRanges), ("unicode/utf8.first", laid_unicode_utf8_first)] }
def EclipseMoreSaid : Prop := eclipseMoreRow.holds Tryz.pinned (OpenSpec.ofChange eclipseMoreSpec)

/-- ITS FALSE NEIGHBOUR: 'it returns false'. Refute it at one input. -/
def eclipseMoreWrong : ChangeSpec := { name := "eclipseMore", fn := fun _ => fun
  | [d1, d2, d3, d4, d5, d6, d7] => { results := [.lit (.bool false)], args := [d1, d2, d3, d4, d5, d6, d7] }
  | _ => none }
def EclipseMoreWrongFalsely : Prop := eclipseMoreRow.holds Tryz.pinned (OpenSpec.ofChange eclipseMoreWrong)

/-- 'tellurionlaw07.EclipseHands': WHATEVER THE INPUT: true; the input reads as it did. -/
def eclipseHandsSpec : ChangeSpec := { name := "eclipseHands", fn := fun _ => fun
  | [d1, d2, d3] => { results := [.lit (.bool true)], args := [d1, d2, d3] }
  | _ => none }
def eclipseHandsRow : OpenClaim := { program := "ytcbodpnmndbgnaagreatdoor", sum := "aa006f6b5a04bb60e854f36a2678ca6b216945f5a28cb2b96e7a357bfbe94f38", func := "tellurion/tellurionlaw07.EclipseHands", spec := "eclipseHands", inPlace := ["internal/bytealg.CountString", "internal/bytealg.IndexByteString", "internal/bytealg.IndexString", "internal/abi.NoEscape", "internal/bytealg.MakeNoZero"], unfollowed := true, recurses := true, named := ["unicode/utf8.first", "unicode/utf8.acceptRanges", "internal/bytealg.MaxLen", "internal/strconv.uint64pow10", "math/bits.deBruijn32tab", "math/bits.deBruijn64tab"], apart := false, laid := [("math/bits.deBruijn32tab", laid_math_bits_deBruijn32tab), ("math/bits.deBruijn64tab", laid_math_bits_deBruijn64tab), ("internal/strconv.uint64pow10", laid_internal_strconv_uint64pow10), ("unicode/utf8.acceptRanges", laid_unicode_utf8_acceptRanges), ("unicode/utf8.first", laid_unicode_utf8_first)] }
def EclipseHandsSaid : Prop := eclipseHandsRow.holds Tryz.pinned (OpenSpec.ofChange eclipseHandsSpec)

/-- ITS FALSE NEIGHBOUR: 'it returns false'. Refute it at one input. -/
def eclipseHandsWrong : ChangeSpec := { name := "eclipseHands", fn := fun _ => fun
  | [d1, d2, d3] => { results := [.lit (.bool false)], args := [d1, d2, d3] }
  | _ => none }
def EclipseHandsWrongFalsely : Prop := eclipseHandsRow.holds Tryz.pinned (OpenSpec.ofChange eclipseHandsWrong)

/-- 'tellurionlaw07.EclipseMisses': WHATEVER THE INPUT: true; the input reads as it did. -/
def eclipseMissesSpec : ChangeSpec := { name := "eclipseMisses", fn := fun _ => fun
  | [d1, d2, d3, d4, d5] => { results := [.lit (.bool true)], args := [d1, d2, d3, d4, d5] }
  | _ => none }
def eclipseMissesRow : OpenClaim := { program := "ytcbodpnmndbgnaagreatdoor", sum := "aa006f6b5a04bb60e854f36a2678ca6b216945f5a28cb2b96e7a357bfbe94f38", func := "tellurion/tellurionlaw07.EclipseMisses", spec := "eclipseMisses", inPlace := ["internal/bytealg.CountString", "internal/bytealg.IndexByteString", "internal/bytealg.IndexString", "internal/abi.NoEscape", "internal/bytealg.MakeNoZero"], unfollowed := true, recurses := true, named := ["unicode/utf8.first", "unicode/utf8.acceptRanges", "internal/bytealg.MaxLen", "internal/strconv.uint64pow10", "math/bits.deBruijn32tab", "math/bits.deBruijn64tab"], apart := false, laid := [("math/bits.deBruijn32tab", laid_math_bits_deBruijn32tab), ("math/bits.deBruijn64tab", laid_math_bits_deBruijn64tab), ("internal/strconv.uint64pow10", laid_internal_strconv_uint64pow10), ("unicode/utf8.acceptRanges", laid_unicode_utf8_acceptRanges), ("unicode/utf8.first", laid_unicode_utf8_first)] }
def EclipseMissesSaid : Prop := eclipseMissesRow.holds Tryz.pinned (OpenSpec.ofChange eclipseMissesSpec)

/-- ITS FALSE NEIGHBOUR: 'it returns false'. Refute it at one input. -/
def eclipseMissesWrong : ChangeSpec := { name := "eclipseMisses", fn := fun _ => fun
  | [d1, d2, d3, d4, d5] => { results := [.lit (.bool false)], args := [d1, d2, d3, d4, d5] }
  | _ => none }
def EclipseMissesWrongFalsely : Prop := eclipseMissesRow.holds Tryz.pinned (OpenSpec.ofChange eclipseMissesWrong)

/-- 'tellurionlaw07.EclipseFound': WHATEVER THE INPUT: true; the input reads as it did. -/
def eclipseFoundSpec : ChangeSpec := { name := "eclipseFound", fn := fun _ => fun
  | [d1, d2, d3, d4, d5] => { results := [.lit (.bool true)], args := [d1, d2, d3, d4, d5] }
  | _ => none }
def eclipseFoundRow : OpenClaim := { program := "ytcbodpnmndbgnaagreatdoor", sum := "aa006f6b5a04bb60e854f36a2678ca6b216945f5a28cb2b96e7a357bfbe94f38", func := "tellurion/tellurionlaw07.EclipseFound", spec := "eclipseFound", inPlace := ["internal/bytealg.CountString", "internal/bytealg.IndexByteString", "internal/bytealg.IndexString", "internal/abi.NoEscape", "internal/bytealg.MakeNoZero"], unfollowed := true, recurses := true, named := ["unicode/utf8.first", "unicode/utf8.acceptRanges", "internal/bytealg.MaxLen", "internal/strconv.uint64pow10", "math/bits.deBruijn32tab", "math/bits.deBruijn64tab"], apart := false, laid := [("math/bits.deBruijn32tab", laid_math_bits_deBruijn32tab), ("math/bits.deBruijn64tab", laid_math_bits_deBruijn64tab), ("internal/strconv.uint64pow10", laid_internal_strconv_uint64pow10), ("unicode/utf8.acceptRanges", laid_unicode_utf8_acceptRanges), ("unicode/utf8.first", laid_unicode_utf8_first)] }
def EclipseFoundSaid : Prop := eclipseFoundRow.holds Tryz.pinned (OpenSpec.ofChange eclipseFoundSpec)

/-- ITS FALSE NEIGHBOUR: 'it returns false'. Refute it at one input. -/
def eclipseFoundWrong : ChangeSpec := { name := "eclipseFound", fn := fun _ => fun
  | [d1, d2, d3, d4, d5] => { results := [.lit (.bool false)], args := [d1, d2, d3, d4, d5] }
  | _ => none }
def EclipseFoundWrongFalsely : Prop := eclipseFoundRow.holds Tryz.pinned (OpenSpec.ofChange eclipseFoundWrong)

/- THE SECOND FORM. 'bulk': how many values and letters a reading holds, each counted each time it is reached (what is shared counts as often as it is met; a slice's spare places count too). A statement '..UptoSaid' is the law's where the arguments, and the package variables that the reading takes, are together of bulk at most 1048576: NARROWER than '..Said'. Prove '..Said' where nothing that the law and all that it calls make is longer than what came in: it says more and counts as full. Else prove '..UptoSaid'. A law counts once. -/
mutual
def uptoBulk {H : Type} : DataW H → Nat
  | .lit (.string bytes) => bytes.length + 1
  | .lit _ => 1
  | .nil => 1
  | .ptr d => uptoBulk d + 1
  | .slice elems spare => uptoBulkAll elems + uptoBulkAll spare + 1
  | .agg parts => uptoBulkAll parts + 1
  | .iface _ d => uptoBulk d + 1
  | .map entries => uptoBulkEntries entries + 1
  | .held _ => 1
def uptoBulkAll {H : Type} : List (DataW H) → Nat
  | [] => 0
  | d :: r => uptoBulk d + uptoBulkAll r
def uptoBulkEntries {H : Type} : List (Lit × DataW H) → Nat
  | [] => 0
  | x :: r => uptoBulkEntry x + uptoBulkEntries r
def uptoBulkEntry {H : Type} : Lit × DataW H → Nat
  | (.string bytes, d) => bytes.length + uptoBulk d + 1
  | (_, d) => uptoBulk d + 1
 end
def uptoSmall : (H : Type) → List (DataW H) → Bool := fun _ ds => decide (uptoBulkAll ds ≤ 1048576)
def OpenSpec.upto (s : _root_.Go.ChangeSpec) : _root_.Go.OpenSpec := { _root_.Go.OpenSpec.ofChange s with cond := some uptoSmall }

/-- 'tellurionlaw07.EclipseKept', WHERE WHAT IT READS IS OF BULK AT MOST 1048576: true; the input reads as it did. -/
def eclipseKeptUptoRow : OpenClaim := { program := "ytcbodpnmndbgnaagreatdoor", sum := "aa006f6b5a04bb60e854f36a2678ca6b216945f5a28cb2b96e7a357bfbe94f38", func := "tellurion/tellurionlaw07.EclipseKept", spec := "eclipseKept", inPlace := ["internal/bytealg.CountString", "internal/bytealg.IndexByteString", "internal/bytealg.IndexString", "internal/abi.NoEscape", "internal/bytealg.MakeNoZero"], unfollowed := true, recurses := true, named := ["unicode/utf8.first", "unicode/utf8.acceptRanges", "internal/bytealg.MaxLen", "internal/strconv.uint64pow10", "math/bits.deBruijn32tab", "math/bits.deBruijn64tab"], apart := false, laid := [("math/bits.deBruijn32tab", laid_math_bits_deBruijn32tab), ("math/bits.deBruijn64tab", laid_math_bits_deBruijn64tab), ("internal/strconv.uint64pow10", laid_internal_strconv_uint64pow10), ("unicode/utf8.acceptRanges", laid_unicode_utf8_acceptRanges), ("unicode/utf8.first", laid_unicode_utf8_first)], narrowed := true }
def EclipseKeptUptoSaid : Prop := eclipseKeptUptoRow.holds Tryz.pinned (OpenSpec.upto eclipseKeptSpec)

/-- 'tellurionlaw07.EclipseForetells', WHERE WHAT IT READS IS OF BULK AT MOST 1048576: true; the input reads as it did. -/
def eclipseForetellsUptoRow : OpenClaim := { program := "ytcbodpnmndbgnaagreatdoor", sum := "aa006f6b5a04bb60e854f36a2678ca6b216945f5a28cb2b96e7a357bfbe94f38", func := "tellurion/tellurionlaw07.EclipseForetells", spec := "eclipseForetells", inPlace := ["internal/bytealg.CountString", "internal/bytealg.IndexByteString", "internal/bytealg.IndexString", "internal/abi.NoEscape", "internal/bytealg.MakeNoZero"], unfollowed := true, recurses := true, named := ["unicode/utf8.first", "unicode/utf8.acceptRanges", "internal/bytealg.MaxLen", "internal/strconv.uint64pow10", "math/bits.deBruijn32tab", "math/bits.deBruijn64tab"], apart := false, laid := [("math/bits.deBruijn32tab", laid_math_bits_deBruijn32tab), ("math/bits.deBruijn64tab", laid_math_bits_deBruijn64tab), ("internal/strconv.uint64pow10", laid_internal_strconv_uint64pow10), ("unicode/utf8.acceptRanges", laid_unicode_utf8_acceptRanges), ("unicode/utf8.first", laid_unicode_utf8_first)], narrowed := true }
def EclipseForetellsUptoSaid : Prop := eclipseForetellsUptoRow.holds Tryz.pinned (OpenSpec.upto eclipseForetellsSpec)

/-- 'tellurionlaw07.EclipseTold', WHERE WHAT IT READS IS OF BULK AT MOST 1048576: true; the input reads as it did. -/
def eclipseToldUptoRow : OpenClaim := { program := "ytcbodpnmndbgnaagreatdoor", sum := "aa006f6b5a04bb60e854f36a2678ca6b216945f5a28cb2b96e7a357bfbe94f38", func := "tellurion/tellurionlaw07.EclipseTold", spec := "eclipseTold", inPlace := ["internal/bytealg.CountString", "internal/bytealg.IndexByteString", "internal/bytealg.IndexString", "internal/abi.NoEscape", "internal/bytealg.MakeNoZero"], unfollowed := true, recurses := true, named := ["unicode/utf8.first", "unicode/utf8.acceptRanges", "internal/bytealg.MaxLen", "internal/strconv.uint64pow10", "math/bits.deBruijn32tab", "math/bits.deBruijn64tab"], apart := false, laid := [("math/bits.deBruijn32tab", laid_math_bits_deBruijn32tab), ("math/bits.deBruijn64tab", laid_math_bits_deBruijn64tab), ("internal/strconv.uint64pow10", laid_internal_strconv_uint64pow10), ("unicode/utf8.acceptRanges", laid_unicode_utf8_acceptRanges), ("unicode/utf8.first", laid_unicode_utf8_first)], narrowed := true }
def EclipseToldUptoSaid : Prop := eclipseToldUptoRow.holds Tryz.pinned (OpenSpec.upto eclipseToldSpec)

/-- 'tellurionlaw07.EclipseWithins', WHERE WHAT IT READS IS OF BULK AT MOST 1048576: true; the input reads as it did. -/
def eclipseWithinsUptoRow : OpenClaim := { program := "ytcbodpnmndbgnaagreatdoor", sum := "aa006f6b5a04bb60e854f36a2678ca6b216945f5a28cb2b96e7a357bfbe94f38", func := "tellurion/tellurionlaw07.EclipseWithins", spec := "eclipseWithins", inPlace := ["internal/bytealg.CountString", "internal/bytealg.IndexByteString", "internal/bytealg.IndexString", "internal/abi.NoEscape", "internal/bytealg.MakeNoZero"], unfollowed := true, recurses := true, named := ["unicode/utf8.first", "unicode/utf8.acceptRanges", "internal/bytealg.MaxLen", "internal/strconv.uint64pow10", "math/bits.deBruijn32tab", "math/bits.deBruijn64tab"], apart := false, laid := [("math/bits.deBruijn32tab", laid_math_bits_deBruijn32tab), ("math/bits.deBruijn64tab", laid_math_bits_deBruijn64tab), ("internal/strconv.uint64pow10", laid_internal_strconv_uint64pow10), ("unicode/utf8.acceptRanges", laid_unicode_utf8_acceptRanges), ("unicode/utf8.first", laid_unicode_utf8_first)], narrowed := true }
def EclipseWithinsUptoSaid : Prop := eclipseWithinsUptoRow.holds Tryz.pinned (OpenSpec.upto eclipseWithinsSpec)

/-- 'tellurionlaw07.EclipseTrusted', WHERE WHAT IT READS IS OF BULK AT MOST 1048576: true; the input reads as it did. -/
def eclipseTrustedUptoRow : OpenClaim := { program := "ytcbodpnmndbgnaagreatdoor", sum := "aa006f6b5a04bb60e854f36a2678ca6b216945f5a28cb2b96e7a357bfbe94f38", func := "tellurion/tellurionlaw07.EclipseTrusted", spec := "eclipseTrusted", inPlace := ["internal/bytealg.CountString", "internal/bytealg.IndexByteString", "internal/bytealg.IndexString", "internal/abi.NoEscape", "internal/bytealg.MakeNoZero"], unfollowed := true, recurses := true, named := ["unicode/utf8.first", "unicode/utf8.acceptRanges", "internal/bytealg.MaxLen", "internal/strconv.uint64pow10", "math/bits.deBruijn32tab", "math/bits.deBruijn64tab"], apart := false, laid := [("math/bits.deBruijn32tab", laid_math_bits_deBruijn32tab), ("math/bits.deBruijn64tab", laid_math_bits_deBruijn64tab), ("internal/strconv.uint64pow10", laid_internal_strconv_uint64pow10), ("unicode/utf8.acceptRanges", laid_unicode_utf8_acceptRanges), ("unicode/utf8.first", laid_unicode_utf8_first)], narrowed := true }
def EclipseTrustedUptoSaid : Prop := eclipseTrustedUptoRow.holds Tryz.pinned (OpenSpec.upto eclipseTrustedSpec)

/-- 'tellurionlaw07.EclipseWidens', WHERE WHAT IT READS IS OF BULK AT MOST 1048576: true; the input reads as it did. -/
def eclipseWidensUptoRow : OpenClaim := { program := "ytcbodpnmndbgnaagreatdoor", sum := "aa006f6b5a04bb60e854f36a2678ca6b216945f5a28cb2b96e7a357bfbe94f38", func := "tellurion/tellurionlaw07.EclipseWidens", spec := "eclipseWidens", inPlace := ["internal/bytealg.CountString", "internal/bytealg.IndexByteString", "internal/bytealg.IndexString", "internal/abi.NoEscape", "internal/bytealg.MakeNoZero"], unfollowed := true, recurses := true, named := ["unicode/utf8.first", "unicode/utf8.acceptRanges", "internal/bytealg.MaxLen", "internal/strconv.uint64pow10", "math/bits.deBruijn32tab", "math/bits.deBruijn64tab"], apart := false, laid := [("math/bits.deBruijn32tab", laid_math_bits_deBruijn32tab), ("math/bits.deBruijn64tab", laid_math_bits_deBruijn64tab), ("internal/strconv.uint64pow10", laid_internal_strconv_uint64pow10), ("unicode/utf8.acceptRanges", laid_unicode_utf8_acceptRanges), ("unicode/utf8.first", laid_unicode_utf8_first)], narrowed := true }
def EclipseWidensUptoSaid : Prop := eclipseWidensUptoRow.holds Tryz.pinned (OpenSpec.upto eclipseWidensSpec)

/-- 'tellurionlaw07.EclipseEnough', WHERE WHAT IT READS IS OF BULK AT MOST 1048576: true; the input reads as it did. -/
def eclipseEnoughUptoRow : OpenClaim := { program := "ytcbodpnmndbgnaagreatdoor", sum := "aa006f6b5a04bb60e854f36a2678ca6b216945f5a28cb2b96e7a357bfbe94f38", func := "tellurion/tellurionlaw07.EclipseEnough", spec := "eclipseEnough", inPlace := ["internal/bytealg.CountString", "internal/bytealg.IndexByteString", "internal/bytealg.IndexString", "internal/abi.NoEscape", "internal/bytealg.MakeNoZero"], unfollowed := true, recurses := true, named := ["unicode/utf8.first", "unicode/utf8.acceptRanges", "internal/bytealg.MaxLen", "internal/strconv.uint64pow10", "math/bits.deBruijn32tab", "math/bits.deBruijn64tab"], apart := false, laid := [("math/bits.deBruijn32tab", laid_math_bits_deBruijn32tab), ("math/bits.deBruijn64tab", laid_math_bits_deBruijn64tab), ("internal/strconv.uint64pow10", laid_internal_strconv_uint64pow10), ("unicode/utf8.acceptRanges", laid_unicode_utf8_acceptRanges), ("unicode/utf8.first", laid_unicode_utf8_first)], narrowed := true }
def EclipseEnoughUptoSaid : Prop := eclipseEnoughUptoRow.holds Tryz.pinned (OpenSpec.upto eclipseEnoughSpec)

/-- 'tellurionlaw07.EclipseNever', WHERE WHAT IT READS IS OF BULK AT MOST 1048576: true; the input reads as it did. -/
def eclipseNeverUptoRow : OpenClaim := { program := "ytcbodpnmndbgnaagreatdoor", sum := "aa006f6b5a04bb60e854f36a2678ca6b216945f5a28cb2b96e7a357bfbe94f38", func := "tellurion/tellurionlaw07.EclipseNever", spec := "eclipseNever", inPlace := ["internal/bytealg.CountString", "internal/bytealg.IndexByteString", "internal/bytealg.IndexString", "internal/abi.NoEscape", "internal/bytealg.MakeNoZero"], unfollowed := true, recurses := true, named := ["unicode/utf8.first", "unicode/utf8.acceptRanges", "internal/bytealg.MaxLen", "internal/strconv.uint64pow10", "math/bits.deBruijn32tab", "math/bits.deBruijn64tab"], apart := false, laid := [("math/bits.deBruijn32tab", laid_math_bits_deBruijn32tab), ("math/bits.deBruijn64tab", laid_math_bits_deBruijn64tab), ("internal/strconv.uint64pow10", laid_internal_strconv_uint64pow10), ("unicode/utf8.acceptRanges", laid_unicode_utf8_acceptRanges), ("unicode/utf8.first", laid_unicode_utf8_first)], narrowed := true }
def EclipseNeverUptoSaid : Prop := eclipseNeverUptoRow.holds Tryz.pinned (OpenSpec.upto eclipseNeverSpec)

/-- 'tellurionlaw07.EclipseMore', WHERE WHAT IT READS IS OF BULK AT MOST 1048576: true; the input reads as it did. -/
def eclipseMoreUptoRow : OpenClaim := { program := "ytcbodpnmndbgnaagreatdoor", sum := "aa006f6b5a04bb60e854f36a2678ca6b216945f5a28cb2b96e7a357bfbe94f38", func := "tellurion/tellurionlaw07.EclipseMore", spec := "eclipseMore", inPlace := ["internal/bytealg.CountString", "internal/bytealg.IndexByteString", "internal/bytealg.IndexString", "internal/abi.NoEscape", "internal/bytealg.MakeNoZero"], unfollowed := true, recurses := true, named := ["unicode/utf8.first", "unicode/utf8.acceptRanges", "internal/bytealg.MaxLen", "internal/strconv.uint64pow10", "math/bits.deBruijn32tab", "math/bits.deBruijn64tab"], apart := false, laid := [("math/bits.deBruijn32tab", laid_math_bits_deBruijn32tab), ("math/bits.deBruijn64tab", laid_math_bits_deBruijn64tab), ("internal/strconv.uint64pow10", laid_internal_strconv_uint64pow10), ("unicode/utf8.acceptRanges", laid_unicode_utf8_acceptRanges), ("unicode/utf8.first", laid_unicode_utf8_first)], narrowed := true }
def EclipseMoreUptoSaid : Prop := eclipseMoreUptoRow.holds Tryz.pinned (OpenSpec.upto eclipseMoreSpec)

/-- 'tellurionlaw07.EclipseHands', WHERE WHAT IT READS IS OF BULK AT MOST 1048576: true; the input reads as it did. -/
def eclipseHandsUptoRow : OpenClaim := { program := "ytcbodpnmndbgnaagreatdoor", sum := "aa006f6b5a04bb60e854f36a2678ca6b216945f5a28cb2b96e7a357bfbe94f38", func := "tellurion/tellurionlaw07.EclipseHands", spec := "eclipseHands", inPlace := ["internal/bytealg.CountString", "internal/bytealg.IndexByteString", "internal/bytealg.IndexString", "internal/abi.NoEscape", "internal/bytealg.MakeNoZero"], unfollowed := true, recurses := true, named := ["unicode/utf8.first", "unicode/utf8.acceptRanges", "internal/bytealg.MaxLen", "internal/strconv.uint64pow10", "math/bits.deBruijn32tab", "math/bits.deBruijn64tab"], apart := false, laid := [("math/bits.deBruijn32tab", laid_math_bits_deBruijn32tab), ("math/bits.deBruijn64tab", laid_math_bits_deBruijn64tab), ("internal/strconv.uint64pow10", laid_internal_strconv_uint64pow10), ("unicode/utf8.acceptRanges", laid_unicode_utf8_acceptRanges), ("unicode/utf8.first", laid_unicode_utf8_first)], narrowed := true }
def EclipseHandsUptoSaid : Prop := eclipseHandsUptoRow.holds Tryz.pinned (OpenSpec.upto eclipseHandsSpec)

/-- 'tellurionlaw07.EclipseMisses', WHERE WHAT IT READS IS OF BULK AT MOST 1048576: true; the input reads as it did. -/
def eclipseMissesUptoRow : OpenClaim := { program := "ytcbodpnmndbgnaagreatdoor", sum := "aa006f6b5a04bb60e854f36a2678ca6b216945f5a28cb2b96e7a357bfbe94f38", func := "tellurion/tellurionlaw07.EclipseMisses", spec := "eclipseMisses", inPlace := ["internal/bytealg.CountString", "internal/bytealg.IndexByteString", "internal/bytealg.IndexString", "internal/abi.NoEscape", "internal/bytealg.MakeNoZero"], unfollowed := true, recurses := true, named := ["unicode/utf8.first", "unicode/utf8.acceptRanges", "internal/bytealg.MaxLen", "internal/strconv.uint64pow10", "math/bits.deBruijn32tab", "math/bits.deBruijn64tab"], apart := false, laid := [("math/bits.deBruijn32tab", laid_math_bits_deBruijn32tab), ("math/bits.deBruijn64tab", laid_math_bits_deBruijn64tab), ("internal/strconv.uint64pow10", laid_internal_strconv_uint64pow10), ("unicode/utf8.acceptRanges", laid_unicode_utf8_acceptRanges), ("unicode/utf8.first", laid_unicode_utf8_first)], narrowed := true }
def EclipseMissesUptoSaid : Prop := eclipseMissesUptoRow.holds Tryz.pinned (OpenSpec.upto eclipseMissesSpec)

/-- 'tellurionlaw07.EclipseFound', WHERE WHAT IT READS IS OF BULK AT MOST 1048576: true; the input reads as it did. -/
def eclipseFoundUptoRow : OpenClaim := { program := "ytcbodpnmndbgnaagreatdoor", sum := "aa006f6b5a04bb60e854f36a2678ca6b216945f5a28cb2b96e7a357bfbe94f38", func := "tellurion/tellurionlaw07.EclipseFound", spec := "eclipseFound", inPlace := ["internal/bytealg.CountString", "internal/bytealg.IndexByteString", "internal/bytealg.IndexString", "internal/abi.NoEscape", "internal/bytealg.MakeNoZero"], unfollowed := true, recurses := true, named := ["unicode/utf8.first", "unicode/utf8.acceptRanges", "internal/bytealg.MaxLen", "internal/strconv.uint64pow10", "math/bits.deBruijn32tab", "math/bits.deBruijn64tab"], apart := false, laid := [("math/bits.deBruijn32tab", laid_math_bits_deBruijn32tab), ("math/bits.deBruijn64tab", laid_math_bits_deBruijn64tab), ("internal/strconv.uint64pow10", laid_internal_strconv_uint64pow10), ("unicode/utf8.acceptRanges", laid_unicode_utf8_acceptRanges), ("unicode/utf8.first", laid_unicode_utf8_first)], narrowed := true }
def EclipseFoundUptoSaid : Prop := eclipseFoundUptoRow.holds Tryz.pinned (OpenSpec.upto eclipseFoundSpec)

end Rows
end Go.Proofs.YtcbodpnmndbgnaaGreatDoor
