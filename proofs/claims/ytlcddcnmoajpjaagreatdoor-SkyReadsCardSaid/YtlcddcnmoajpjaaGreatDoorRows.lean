/-
  NARROWER THAN 'FOR EVERY INPUT', by the rows' own cells (each row's printed sentence says how): SkyMoons: laid · SkyCrossed: laid · SkyEclipses: laid · SkyShadows: laid · SkySpeeds: laid · SkyAgrees: laid · SkyWatches: laid · SkyWatched: laid · SkyMore: laid · SkyTurned: laid · SkyEven: laid · SkyPrints: laid · SkyReads: laid · SkySpoilt: laid · SkyMeets: laid · SkyMet: laid · SkyMonths: laid · SkyCycles: laid · SkyPlaces: laid · SkyNexts: laid · SkyFirst: laid.
  DERIVED. THE GIVEN ROWS OF THIS SEAT. 21 by the template 'for every input the law returns true; each argument reads behind the call as it read before'; 0 by the template 'total and deterministic' (their statements: YtlcddcnmoajpjaaGreatDoorTotals.lean).
  GIVEN WITH THE SEED: the statements are not yours to turn. If you find one false, say at which input.
  Laid BY PROGRAM, IN A SANDBOX (cutbox-rows.mjs): the forced cells as the released guide's own fill.sh prints them over the translation c6350785a9339ad8… (all of the seat's roots in one cut). By AI agents, Wed Nov 11 2026. No macro, syntax, notation, axiom, sorry.
-/
import Derived.Test.YtlcddcnmoajpjaaGreatDoorChecked
import GoSem.PinnedTables
import GoSem.Claim
import GoSem.ClaimJoined
import GoSem.ClaimMapViews
import Derived.JoinedTies
import Derived.KernelRfl
namespace Go.Proofs.YtlcddcnmoajpjaaGreatDoor
/- THE CELL 'sum', in the pinned program and in every row, IS THE sha256 OF THE DUMP (.gsa) THAT YtlcddcnmoajpjaaGreatDoorProg.lean LOADS. Nothing in Lean hashes anything: it is a label: what it is worth is what the hold of that sum in a sandbox is worth. -/
noncomputable def Tryz.pinned : Pinned := { name := "ytlcddcnmoajpjaagreatdoor", sum := "c6350785a9339ad89311141a4e6c2b9f04848f46dffe0fde58392092be07eb5d", checked := Tryz.checked }
namespace Rows
def none {H : Type} : Left H := { results := [], args := [] }

/- WHAT THE LISTED PACKAGE-LEVEL VARIABLES READ AS WHEN THE CALL BEGINS. Each datum BY PROGRAM (the guide's laid-datum.mjs) off the statement by which the dump's own 'gosem.cut.vars' lays the variable. In a bare row this is a premise. The card (YtlcddcnmoajpjaaGreatDoorCards.lean) ties it to the program's text. -/
def laid_math_bits_deBruijn32tab {H : Type} : DataW H := .agg [.lit (.int .u8 0), .lit (.int .u8 1), .lit (.int .u8 28), .lit (.int .u8 2), .lit (.int .u8 29), .lit (.int .u8 14), .lit (.int .u8 24), .lit (.int .u8 3), .lit (.int .u8 30), .lit (.int .u8 22), .lit (.int .u8 20), .lit (.int .u8 15), .lit (.int .u8 25), .lit (.int .u8 17), .lit (.int .u8 4), .lit (.int .u8 8), .lit (.int .u8 31), .lit (.int .u8 27), .lit (.int .u8 13), .lit (.int .u8 23), .lit (.int .u8 21), .lit (.int .u8 19), .lit (.int .u8 16), .lit (.int .u8 7), .lit (.int .u8 26), .lit (.int .u8 12), .lit (.int .u8 18), .lit (.int .u8 6), .lit (.int .u8 11), .lit (.int .u8 5), .lit (.int .u8 10), .lit (.int .u8 9)]
def laid_math_bits_deBruijn64tab {H : Type} : DataW H := .agg [.lit (.int .u8 0), .lit (.int .u8 1), .lit (.int .u8 56), .lit (.int .u8 2), .lit (.int .u8 57), .lit (.int .u8 49), .lit (.int .u8 28), .lit (.int .u8 3), .lit (.int .u8 61), .lit (.int .u8 58), .lit (.int .u8 42), .lit (.int .u8 50), .lit (.int .u8 38), .lit (.int .u8 29), .lit (.int .u8 17), .lit (.int .u8 4), .lit (.int .u8 62), .lit (.int .u8 47), .lit (.int .u8 59), .lit (.int .u8 36), .lit (.int .u8 45), .lit (.int .u8 43), .lit (.int .u8 51), .lit (.int .u8 22), .lit (.int .u8 53), .lit (.int .u8 39), .lit (.int .u8 33), .lit (.int .u8 30), .lit (.int .u8 24), .lit (.int .u8 18), .lit (.int .u8 12), .lit (.int .u8 5), .lit (.int .u8 63), .lit (.int .u8 55), .lit (.int .u8 48), .lit (.int .u8 27), .lit (.int .u8 60), .lit (.int .u8 41), .lit (.int .u8 37), .lit (.int .u8 16), .lit (.int .u8 46), .lit (.int .u8 35), .lit (.int .u8 44), .lit (.int .u8 21), .lit (.int .u8 52), .lit (.int .u8 32), .lit (.int .u8 23), .lit (.int .u8 11), .lit (.int .u8 54), .lit (.int .u8 26), .lit (.int .u8 40), .lit (.int .u8 15), .lit (.int .u8 34), .lit (.int .u8 20), .lit (.int .u8 31), .lit (.int .u8 10), .lit (.int .u8 25), .lit (.int .u8 14), .lit (.int .u8 19), .lit (.int .u8 9), .lit (.int .u8 13), .lit (.int .u8 8), .lit (.int .u8 7), .lit (.int .u8 6)]
def laid_internal_strconv_uint64pow10 {H : Type} : DataW H := .agg [.lit (.int .u64 1), .lit (.int .u64 10), .lit (.int .u64 100), .lit (.int .u64 1000), .lit (.int .u64 10000), .lit (.int .u64 100000), .lit (.int .u64 1000000), .lit (.int .u64 10000000), .lit (.int .u64 100000000), .lit (.int .u64 1000000000), .lit (.int .u64 10000000000), .lit (.int .u64 100000000000), .lit (.int .u64 1000000000000), .lit (.int .u64 10000000000000), .lit (.int .u64 100000000000000), .lit (.int .u64 1000000000000000), .lit (.int .u64 10000000000000000), .lit (.int .u64 100000000000000000), .lit (.int .u64 1000000000000000000), .lit (.int .u64 10000000000000000000)]
def laid_unicode_utf8_acceptRanges {H : Type} : DataW H := .agg [.agg [.lit (.int .u8 128), .lit (.int .u8 191)], .agg [.lit (.int .u8 160), .lit (.int .u8 191)], .agg [.lit (.int .u8 128), .lit (.int .u8 159)], .agg [.lit (.int .u8 144), .lit (.int .u8 191)], .agg [.lit (.int .u8 128), .lit (.int .u8 143)], .agg [.lit (.int .u8 0), .lit (.int .u8 0)], .agg [.lit (.int .u8 0), .lit (.int .u8 0)], .agg [.lit (.int .u8 0), .lit (.int .u8 0)], .agg [.lit (.int .u8 0), .lit (.int .u8 0)], .agg [.lit (.int .u8 0), .lit (.int .u8 0)], .agg [.lit (.int .u8 0), .lit (.int .u8 0)], .agg [.lit (.int .u8 0), .lit (.int .u8 0)], .agg [.lit (.int .u8 0), .lit (.int .u8 0)], .agg [.lit (.int .u8 0), .lit (.int .u8 0)], .agg [.lit (.int .u8 0), .lit (.int .u8 0)], .agg [.lit (.int .u8 0), .lit (.int .u8 0)]]
/-- One of Go's own tables, pinned by name: the form's constant. -/
def laid_unicode_utf8_first : DataW Unit := Go.Pinned.utf8First

/-- 'tellurionlaw05.SkyMoons': WHATEVER THE INPUT: true; the input reads as it did. -/
def skyMoonsSpec : ChangeSpec := { name := "skyMoons", fn := fun _ => fun
  | [d1, d2, d3] => { results := [.lit (.bool true)], args := [d1, d2, d3] }
  | _ => none }
def skyMoonsRow : OpenClaim := { program := "ytlcddcnmoajpjaagreatdoor", sum := "c6350785a9339ad89311141a4e6c2b9f04848f46dffe0fde58392092be07eb5d", func := "tellurion/tellurionlaw05.SkyMoons", spec := "skyMoons", inPlace := ["internal/bytealg.CountString", "internal/bytealg.IndexByteString", "internal/bytealg.IndexString", "internal/abi.NoEscape", "internal/bytealg.MakeNoZero"], unfollowed := true, recurses := true, named := ["unicode/utf8.first", "unicode/utf8.acceptRanges", "internal/bytealg.MaxLen", "internal/strconv.uint64pow10", "math/bits.deBruijn32tab", "math/bits.deBruijn64tab"], apart := false, laid := [("math/bits.deBruijn32tab", laid_math_bits_deBruijn32tab), ("math/bits.deBruijn64tab", laid_math_bits_deBruijn64tab), ("internal/strconv.uint64pow10", laid_internal_strconv_uint64pow10), ("unicode/utf8.acceptRanges", laid_unicode_utf8_acceptRanges), ("unicode/utf8.first", laid_unicode_utf8_first)] }
def SkyMoonsSaid : Prop := skyMoonsRow.holds Tryz.pinned (OpenSpec.ofChange skyMoonsSpec)

/-- ITS FALSE NEIGHBOUR: 'it returns false'. Refute it at one input. -/
def skyMoonsWrong : ChangeSpec := { name := "skyMoons", fn := fun _ => fun
  | [d1, d2, d3] => { results := [.lit (.bool false)], args := [d1, d2, d3] }
  | _ => none }
def SkyMoonsWrongFalsely : Prop := skyMoonsRow.holds Tryz.pinned (OpenSpec.ofChange skyMoonsWrong)

/-- 'tellurionlaw05.SkyCrossed': WHATEVER THE INPUT: true; the input reads as it did. -/
def skyCrossedSpec : ChangeSpec := { name := "skyCrossed", fn := fun _ => fun
  | [d1, d2, d3, d4, d5] => { results := [.lit (.bool true)], args := [d1, d2, d3, d4, d5] }
  | _ => none }
def skyCrossedRow : OpenClaim := { program := "ytlcddcnmoajpjaagreatdoor", sum := "c6350785a9339ad89311141a4e6c2b9f04848f46dffe0fde58392092be07eb5d", func := "tellurion/tellurionlaw05.SkyCrossed", spec := "skyCrossed", inPlace := ["internal/bytealg.CountString", "internal/bytealg.IndexByteString", "internal/bytealg.IndexString", "internal/abi.NoEscape", "internal/bytealg.MakeNoZero"], unfollowed := true, recurses := true, named := ["unicode/utf8.first", "unicode/utf8.acceptRanges", "internal/bytealg.MaxLen", "internal/strconv.uint64pow10", "math/bits.deBruijn32tab", "math/bits.deBruijn64tab"], apart := false, laid := [("math/bits.deBruijn32tab", laid_math_bits_deBruijn32tab), ("math/bits.deBruijn64tab", laid_math_bits_deBruijn64tab), ("internal/strconv.uint64pow10", laid_internal_strconv_uint64pow10), ("unicode/utf8.acceptRanges", laid_unicode_utf8_acceptRanges), ("unicode/utf8.first", laid_unicode_utf8_first)] }
def SkyCrossedSaid : Prop := skyCrossedRow.holds Tryz.pinned (OpenSpec.ofChange skyCrossedSpec)

/-- ITS FALSE NEIGHBOUR: 'it returns false'. Refute it at one input. -/
def skyCrossedWrong : ChangeSpec := { name := "skyCrossed", fn := fun _ => fun
  | [d1, d2, d3, d4, d5] => { results := [.lit (.bool false)], args := [d1, d2, d3, d4, d5] }
  | _ => none }
def SkyCrossedWrongFalsely : Prop := skyCrossedRow.holds Tryz.pinned (OpenSpec.ofChange skyCrossedWrong)

/-- 'tellurionlaw05.SkyEclipses': WHATEVER THE INPUT: true; the input reads as it did. -/
def skyEclipsesSpec : ChangeSpec := { name := "skyEclipses", fn := fun _ => fun
  | [d1, d2, d3, d4, d5] => { results := [.lit (.bool true)], args := [d1, d2, d3, d4, d5] }
  | _ => none }
def skyEclipsesRow : OpenClaim := { program := "ytlcddcnmoajpjaagreatdoor", sum := "c6350785a9339ad89311141a4e6c2b9f04848f46dffe0fde58392092be07eb5d", func := "tellurion/tellurionlaw05.SkyEclipses", spec := "skyEclipses", inPlace := ["internal/bytealg.CountString", "internal/bytealg.IndexByteString", "internal/bytealg.IndexString", "internal/abi.NoEscape", "internal/bytealg.MakeNoZero"], unfollowed := true, recurses := true, named := ["unicode/utf8.first", "unicode/utf8.acceptRanges", "internal/bytealg.MaxLen", "internal/strconv.uint64pow10", "math/bits.deBruijn32tab", "math/bits.deBruijn64tab"], apart := false, laid := [("math/bits.deBruijn32tab", laid_math_bits_deBruijn32tab), ("math/bits.deBruijn64tab", laid_math_bits_deBruijn64tab), ("internal/strconv.uint64pow10", laid_internal_strconv_uint64pow10), ("unicode/utf8.acceptRanges", laid_unicode_utf8_acceptRanges), ("unicode/utf8.first", laid_unicode_utf8_first)] }
def SkyEclipsesSaid : Prop := skyEclipsesRow.holds Tryz.pinned (OpenSpec.ofChange skyEclipsesSpec)

/-- ITS FALSE NEIGHBOUR: 'it returns false'. Refute it at one input. -/
def skyEclipsesWrong : ChangeSpec := { name := "skyEclipses", fn := fun _ => fun
  | [d1, d2, d3, d4, d5] => { results := [.lit (.bool false)], args := [d1, d2, d3, d4, d5] }
  | _ => none }
def SkyEclipsesWrongFalsely : Prop := skyEclipsesRow.holds Tryz.pinned (OpenSpec.ofChange skyEclipsesWrong)

/-- 'tellurionlaw05.SkyShadows': WHATEVER THE INPUT: true; the input reads as it did. -/
def skyShadowsSpec : ChangeSpec := { name := "skyShadows", fn := fun _ => fun
  | [d1, d2, d3, d4, d5, d6, d7] => { results := [.lit (.bool true)], args := [d1, d2, d3, d4, d5, d6, d7] }
  | _ => none }
def skyShadowsRow : OpenClaim := { program := "ytlcddcnmoajpjaagreatdoor", sum := "c6350785a9339ad89311141a4e6c2b9f04848f46dffe0fde58392092be07eb5d", func := "tellurion/tellurionlaw05.SkyShadows", spec := "skyShadows", inPlace := ["internal/bytealg.CountString", "internal/bytealg.IndexByteString", "internal/bytealg.IndexString", "internal/abi.NoEscape", "internal/bytealg.MakeNoZero"], unfollowed := true, recurses := true, named := ["unicode/utf8.first", "unicode/utf8.acceptRanges", "internal/bytealg.MaxLen", "internal/strconv.uint64pow10", "math/bits.deBruijn32tab", "math/bits.deBruijn64tab"], apart := false, laid := [("math/bits.deBruijn32tab", laid_math_bits_deBruijn32tab), ("math/bits.deBruijn64tab", laid_math_bits_deBruijn64tab), ("internal/strconv.uint64pow10", laid_internal_strconv_uint64pow10), ("unicode/utf8.acceptRanges", laid_unicode_utf8_acceptRanges), ("unicode/utf8.first", laid_unicode_utf8_first)] }
def SkyShadowsSaid : Prop := skyShadowsRow.holds Tryz.pinned (OpenSpec.ofChange skyShadowsSpec)

/-- ITS FALSE NEIGHBOUR: 'it returns false'. Refute it at one input. -/
def skyShadowsWrong : ChangeSpec := { name := "skyShadows", fn := fun _ => fun
  | [d1, d2, d3, d4, d5, d6, d7] => { results := [.lit (.bool false)], args := [d1, d2, d3, d4, d5, d6, d7] }
  | _ => none }
def SkyShadowsWrongFalsely : Prop := skyShadowsRow.holds Tryz.pinned (OpenSpec.ofChange skyShadowsWrong)

/-- 'tellurionlaw05.SkySpeeds': WHATEVER THE INPUT: true; the input reads as it did. -/
def skySpeedsSpec : ChangeSpec := { name := "skySpeeds", fn := fun _ => fun
  | [d1, d2, d3, d4] => { results := [.lit (.bool true)], args := [d1, d2, d3, d4] }
  | _ => none }
def skySpeedsRow : OpenClaim := { program := "ytlcddcnmoajpjaagreatdoor", sum := "c6350785a9339ad89311141a4e6c2b9f04848f46dffe0fde58392092be07eb5d", func := "tellurion/tellurionlaw05.SkySpeeds", spec := "skySpeeds", inPlace := ["internal/bytealg.CountString", "internal/bytealg.IndexByteString", "internal/bytealg.IndexString", "internal/abi.NoEscape", "internal/bytealg.MakeNoZero"], unfollowed := true, recurses := true, named := ["unicode/utf8.first", "unicode/utf8.acceptRanges", "internal/bytealg.MaxLen", "internal/strconv.uint64pow10", "math/bits.deBruijn32tab", "math/bits.deBruijn64tab"], apart := false, laid := [("math/bits.deBruijn32tab", laid_math_bits_deBruijn32tab), ("math/bits.deBruijn64tab", laid_math_bits_deBruijn64tab), ("internal/strconv.uint64pow10", laid_internal_strconv_uint64pow10), ("unicode/utf8.acceptRanges", laid_unicode_utf8_acceptRanges), ("unicode/utf8.first", laid_unicode_utf8_first)] }
def SkySpeedsSaid : Prop := skySpeedsRow.holds Tryz.pinned (OpenSpec.ofChange skySpeedsSpec)

/-- ITS FALSE NEIGHBOUR: 'it returns false'. Refute it at one input. -/
def skySpeedsWrong : ChangeSpec := { name := "skySpeeds", fn := fun _ => fun
  | [d1, d2, d3, d4] => { results := [.lit (.bool false)], args := [d1, d2, d3, d4] }
  | _ => none }
def SkySpeedsWrongFalsely : Prop := skySpeedsRow.holds Tryz.pinned (OpenSpec.ofChange skySpeedsWrong)

/-- 'tellurionlaw05.SkyAgrees': WHATEVER THE INPUT: true; the input reads as it did. -/
def skyAgreesSpec : ChangeSpec := { name := "skyAgrees", fn := fun _ => fun
  | [d1, d2, d3, d4, d5] => { results := [.lit (.bool true)], args := [d1, d2, d3, d4, d5] }
  | _ => none }
def skyAgreesRow : OpenClaim := { program := "ytlcddcnmoajpjaagreatdoor", sum := "c6350785a9339ad89311141a4e6c2b9f04848f46dffe0fde58392092be07eb5d", func := "tellurion/tellurionlaw05.SkyAgrees", spec := "skyAgrees", inPlace := ["internal/bytealg.CountString", "internal/bytealg.IndexByteString", "internal/bytealg.IndexString", "internal/abi.NoEscape", "internal/bytealg.MakeNoZero"], unfollowed := true, recurses := true, named := ["unicode/utf8.first", "unicode/utf8.acceptRanges", "internal/bytealg.MaxLen", "internal/strconv.uint64pow10", "math/bits.deBruijn32tab", "math/bits.deBruijn64tab"], apart := false, laid := [("math/bits.deBruijn32tab", laid_math_bits_deBruijn32tab), ("math/bits.deBruijn64tab", laid_math_bits_deBruijn64tab), ("internal/strconv.uint64pow10", laid_internal_strconv_uint64pow10), ("unicode/utf8.acceptRanges", laid_unicode_utf8_acceptRanges), ("unicode/utf8.first", laid_unicode_utf8_first)] }
def SkyAgreesSaid : Prop := skyAgreesRow.holds Tryz.pinned (OpenSpec.ofChange skyAgreesSpec)

/-- ITS FALSE NEIGHBOUR: 'it returns false'. Refute it at one input. -/
def skyAgreesWrong : ChangeSpec := { name := "skyAgrees", fn := fun _ => fun
  | [d1, d2, d3, d4, d5] => { results := [.lit (.bool false)], args := [d1, d2, d3, d4, d5] }
  | _ => none }
def SkyAgreesWrongFalsely : Prop := skyAgreesRow.holds Tryz.pinned (OpenSpec.ofChange skyAgreesWrong)

/-- 'tellurionlaw05.SkyWatches': WHATEVER THE INPUT: true; the input reads as it did. -/
def skyWatchesSpec : ChangeSpec := { name := "skyWatches", fn := fun _ => fun
  | [d1, d2, d3, d4, d5, d6] => { results := [.lit (.bool true)], args := [d1, d2, d3, d4, d5, d6] }
  | _ => none }
def skyWatchesRow : OpenClaim := { program := "ytlcddcnmoajpjaagreatdoor", sum := "c6350785a9339ad89311141a4e6c2b9f04848f46dffe0fde58392092be07eb5d", func := "tellurion/tellurionlaw05.SkyWatches", spec := "skyWatches", inPlace := ["internal/bytealg.CountString", "internal/bytealg.IndexByteString", "internal/bytealg.IndexString", "internal/abi.NoEscape", "internal/bytealg.MakeNoZero"], unfollowed := true, recurses := true, named := ["unicode/utf8.first", "unicode/utf8.acceptRanges", "internal/bytealg.MaxLen", "internal/strconv.uint64pow10", "math/bits.deBruijn32tab", "math/bits.deBruijn64tab"], apart := false, laid := [("math/bits.deBruijn32tab", laid_math_bits_deBruijn32tab), ("math/bits.deBruijn64tab", laid_math_bits_deBruijn64tab), ("internal/strconv.uint64pow10", laid_internal_strconv_uint64pow10), ("unicode/utf8.acceptRanges", laid_unicode_utf8_acceptRanges), ("unicode/utf8.first", laid_unicode_utf8_first)] }
def SkyWatchesSaid : Prop := skyWatchesRow.holds Tryz.pinned (OpenSpec.ofChange skyWatchesSpec)

/-- ITS FALSE NEIGHBOUR: 'it returns false'. Refute it at one input. -/
def skyWatchesWrong : ChangeSpec := { name := "skyWatches", fn := fun _ => fun
  | [d1, d2, d3, d4, d5, d6] => { results := [.lit (.bool false)], args := [d1, d2, d3, d4, d5, d6] }
  | _ => none }
def SkyWatchesWrongFalsely : Prop := skyWatchesRow.holds Tryz.pinned (OpenSpec.ofChange skyWatchesWrong)

/-- 'tellurionlaw05.SkyWatched': WHATEVER THE INPUT: true; the input reads as it did. -/
def skyWatchedSpec : ChangeSpec := { name := "skyWatched", fn := fun _ => fun
  | [d1, d2, d3, d4, d5, d6, d7, d8] => { results := [.lit (.bool true)], args := [d1, d2, d3, d4, d5, d6, d7, d8] }
  | _ => none }
def skyWatchedRow : OpenClaim := { program := "ytlcddcnmoajpjaagreatdoor", sum := "c6350785a9339ad89311141a4e6c2b9f04848f46dffe0fde58392092be07eb5d", func := "tellurion/tellurionlaw05.SkyWatched", spec := "skyWatched", inPlace := ["internal/bytealg.CountString", "internal/bytealg.IndexByteString", "internal/bytealg.IndexString", "internal/abi.NoEscape", "internal/bytealg.MakeNoZero"], unfollowed := true, recurses := true, named := ["unicode/utf8.first", "unicode/utf8.acceptRanges", "internal/bytealg.MaxLen", "internal/strconv.uint64pow10", "math/bits.deBruijn32tab", "math/bits.deBruijn64tab"], apart := false, laid := [("math/bits.deBruijn32tab", laid_math_bits_deBruijn32tab), ("math/bits.deBruijn64tab", laid_math_bits_deBruijn64tab), ("internal/strconv.uint64pow10", laid_internal_strconv_uint64pow10), ("unicode/utf8.acceptRanges", laid_unicode_utf8_acceptRanges), ("unicode/utf8.first", laid_unicode_utf8_first)] }
def SkyWatchedSaid : Prop := skyWatchedRow.holds Tryz.pinned (OpenSpec.ofChange skyWatchedSpec)

/-- ITS FALSE NEIGHBOUR: 'it returns false'. Refute it at one input. -/
def skyWatchedWrong : ChangeSpec := { name := "skyWatched", fn := fun _ => fun
  | [d1, d2, d3, d4, d5, d6, d7, d8] => { results := [.lit (.bool false)], args := [d1, d2, d3, d4, d5, d6, d7, d8] }
  | _ => none }
def SkyWatchedWrongFalsely : Prop := skyWatchedRow.holds Tryz.pinned (OpenSpec.ofChange skyWatchedWrong)

/-- 'tellurionlaw05.SkyMore': WHATEVER THE INPUT: true; the input reads as it did. -/
def skyMoreSpec : ChangeSpec := { name := "skyMore", fn := fun _ => fun
  | [d1, d2, d3, d4, d5, d6] => { results := [.lit (.bool true)], args := [d1, d2, d3, d4, d5, d6] }
  | _ => none }
def skyMoreRow : OpenClaim := { program := "ytlcddcnmoajpjaagreatdoor", sum := "c6350785a9339ad89311141a4e6c2b9f04848f46dffe0fde58392092be07eb5d", func := "tellurion/tellurionlaw05.SkyMore", spec := "skyMore", inPlace := ["internal/bytealg.CountString", "internal/bytealg.IndexByteString", "internal/bytealg.IndexString", "internal/abi.NoEscape", "internal/bytealg.MakeNoZero"], unfollowed := true, recurses := true, named := ["unicode/utf8.first", "unicode/utf8.acceptRanges", "internal/bytealg.MaxLen", "internal/strconv.uint64pow10", "math/bits.deBruijn32tab", "math/bits.deBruijn64tab"], apart := false, laid := [("math/bits.deBruijn32tab", laid_math_bits_deBruijn32tab), ("math/bits.deBruijn64tab", laid_math_bits_deBruijn64tab), ("internal/strconv.uint64pow10", laid_internal_strconv_uint64pow10), ("unicode/utf8.acceptRanges", laid_unicode_utf8_acceptRanges), ("unicode/utf8.first", laid_unicode_utf8_first)] }
def SkyMoreSaid : Prop := skyMoreRow.holds Tryz.pinned (OpenSpec.ofChange skyMoreSpec)

/-- ITS FALSE NEIGHBOUR: 'it returns false'. Refute it at one input. -/
def skyMoreWrong : ChangeSpec := { name := "skyMore", fn := fun _ => fun
  | [d1, d2, d3, d4, d5, d6] => { results := [.lit (.bool false)], args := [d1, d2, d3, d4, d5, d6] }
  | _ => none }
def SkyMoreWrongFalsely : Prop := skyMoreRow.holds Tryz.pinned (OpenSpec.ofChange skyMoreWrong)

/-- 'tellurionlaw05.SkyTurned': WHATEVER THE INPUT: true; the input reads as it did. -/
def skyTurnedSpec : ChangeSpec := { name := "skyTurned", fn := fun _ => fun
  | [d1, d2, d3, d4, d5, d6] => { results := [.lit (.bool true)], args := [d1, d2, d3, d4, d5, d6] }
  | _ => none }
def skyTurnedRow : OpenClaim := { program := "ytlcddcnmoajpjaagreatdoor", sum := "c6350785a9339ad89311141a4e6c2b9f04848f46dffe0fde58392092be07eb5d", func := "tellurion/tellurionlaw05.SkyTurned", spec := "skyTurned", inPlace := ["internal/bytealg.CountString", "internal/bytealg.IndexByteString", "internal/bytealg.IndexString", "internal/abi.NoEscape", "internal/bytealg.MakeNoZero"], unfollowed := true, recurses := true, named := ["unicode/utf8.first", "unicode/utf8.acceptRanges", "internal/bytealg.MaxLen", "internal/strconv.uint64pow10", "math/bits.deBruijn32tab", "math/bits.deBruijn64tab"], apart := false, laid := [("math/bits.deBruijn32tab", laid_math_bits_deBruijn32tab), ("math/bits.deBruijn64tab", laid_math_bits_deBruijn64tab), ("internal/strconv.uint64pow10", laid_internal_strconv_uint64pow10), ("unicode/utf8.acceptRanges", laid_unicode_utf8_acceptRanges), ("unicode/utf8.first", laid_unicode_utf8_first)] }
def SkyTurnedSaid : Prop := skyTurnedRow.holds Tryz.pinned (OpenSpec.ofChange skyTurnedSpec)

/-- ITS FALSE NEIGHBOUR: 'it returns false'. Refute it at one input. -/
def skyTurnedWrong : ChangeSpec := { name := "skyTurned", fn := fun _ => fun
  | [d1, d2, d3, d4, d5, d6] => { results := [.lit (.bool false)], args := [d1, d2, d3, d4, d5, d6] }
  | _ => none }
def SkyTurnedWrongFalsely : Prop := skyTurnedRow.holds Tryz.pinned (OpenSpec.ofChange skyTurnedWrong)

/-- 'tellurionlaw05.SkyEven': WHATEVER THE INPUT: true; the input reads as it did. -/
def skyEvenSpec : ChangeSpec := { name := "skyEven", fn := fun _ => fun
  | [d1, d2, d3, d4] => { results := [.lit (.bool true)], args := [d1, d2, d3, d4] }
  | _ => none }
def skyEvenRow : OpenClaim := { program := "ytlcddcnmoajpjaagreatdoor", sum := "c6350785a9339ad89311141a4e6c2b9f04848f46dffe0fde58392092be07eb5d", func := "tellurion/tellurionlaw05.SkyEven", spec := "skyEven", inPlace := ["internal/bytealg.CountString", "internal/bytealg.IndexByteString", "internal/bytealg.IndexString", "internal/abi.NoEscape", "internal/bytealg.MakeNoZero"], unfollowed := true, recurses := true, named := ["unicode/utf8.first", "unicode/utf8.acceptRanges", "internal/bytealg.MaxLen", "internal/strconv.uint64pow10", "math/bits.deBruijn32tab", "math/bits.deBruijn64tab"], apart := false, laid := [("math/bits.deBruijn32tab", laid_math_bits_deBruijn32tab), ("math/bits.deBruijn64tab", laid_math_bits_deBruijn64tab), ("internal/strconv.uint64pow10", laid_internal_strconv_uint64pow10), ("unicode/utf8.acceptRanges", laid_unicode_utf8_acceptRanges), ("unicode/utf8.first", laid_unicode_utf8_first)] }
def SkyEvenSaid : Prop := skyEvenRow.holds Tryz.pinned (OpenSpec.ofChange skyEvenSpec)

/-- ITS FALSE NEIGHBOUR: 'it returns false'. Refute it at one input. -/
def skyEvenWrong : ChangeSpec := { name := "skyEven", fn := fun _ => fun
  | [d1, d2, d3, d4] => { results := [.lit (.bool false)], args := [d1, d2, d3, d4] }
  | _ => none }
def SkyEvenWrongFalsely : Prop := skyEvenRow.holds Tryz.pinned (OpenSpec.ofChange skyEvenWrong)

/-- 'tellurionlaw05.SkyPrints': WHATEVER THE INPUT: true; the input reads as it did. -/
def skyPrintsSpec : ChangeSpec := { name := "skyPrints", fn := fun _ => fun
  | [d] => { results := [.lit (.bool true)], args := [d] }
  | _ => none }
def skyPrintsRow : OpenClaim := { program := "ytlcddcnmoajpjaagreatdoor", sum := "c6350785a9339ad89311141a4e6c2b9f04848f46dffe0fde58392092be07eb5d", func := "tellurion/tellurionlaw05.SkyPrints", spec := "skyPrints", inPlace := ["internal/bytealg.CountString", "internal/bytealg.IndexByteString", "internal/bytealg.IndexString", "internal/abi.NoEscape", "internal/bytealg.MakeNoZero"], unfollowed := true, recurses := true, named := ["unicode/utf8.first", "unicode/utf8.acceptRanges", "internal/bytealg.MaxLen", "internal/strconv.uint64pow10", "math/bits.deBruijn32tab", "math/bits.deBruijn64tab"], apart := false, laid := [("math/bits.deBruijn32tab", laid_math_bits_deBruijn32tab), ("math/bits.deBruijn64tab", laid_math_bits_deBruijn64tab), ("internal/strconv.uint64pow10", laid_internal_strconv_uint64pow10), ("unicode/utf8.acceptRanges", laid_unicode_utf8_acceptRanges), ("unicode/utf8.first", laid_unicode_utf8_first)] }
def SkyPrintsSaid : Prop := skyPrintsRow.holds Tryz.pinned (OpenSpec.ofChange skyPrintsSpec)

/-- ITS FALSE NEIGHBOUR: 'it returns false'. Refute it at one input. -/
def skyPrintsWrong : ChangeSpec := { name := "skyPrints", fn := fun _ => fun
  | [d] => { results := [.lit (.bool false)], args := [d] }
  | _ => none }
def SkyPrintsWrongFalsely : Prop := skyPrintsRow.holds Tryz.pinned (OpenSpec.ofChange skyPrintsWrong)

/-- 'tellurionlaw05.SkyReads': WHATEVER THE INPUT: true; the input reads as it did. -/
def skyReadsSpec : ChangeSpec := { name := "skyReads", fn := fun _ => fun
  | [d] => { results := [.lit (.bool true)], args := [d] }
  | _ => none }
def skyReadsRow : OpenClaim := { program := "ytlcddcnmoajpjaagreatdoor", sum := "c6350785a9339ad89311141a4e6c2b9f04848f46dffe0fde58392092be07eb5d", func := "tellurion/tellurionlaw05.SkyReads", spec := "skyReads", inPlace := ["internal/bytealg.CountString", "internal/bytealg.IndexByteString", "internal/bytealg.IndexString", "internal/abi.NoEscape", "internal/bytealg.MakeNoZero"], unfollowed := true, recurses := true, named := ["unicode/utf8.first", "unicode/utf8.acceptRanges", "internal/bytealg.MaxLen", "internal/strconv.uint64pow10", "math/bits.deBruijn32tab", "math/bits.deBruijn64tab"], apart := false, laid := [("math/bits.deBruijn32tab", laid_math_bits_deBruijn32tab), ("math/bits.deBruijn64tab", laid_math_bits_deBruijn64tab), ("internal/strconv.uint64pow10", laid_internal_strconv_uint64pow10), ("unicode/utf8.acceptRanges", laid_unicode_utf8_acceptRanges), ("unicode/utf8.first", laid_unicode_utf8_first)] }
def SkyReadsSaid : Prop := skyReadsRow.holds Tryz.pinned (OpenSpec.ofChange skyReadsSpec)

/-- ITS FALSE NEIGHBOUR: 'it returns false'. Refute it at one input. -/
def skyReadsWrong : ChangeSpec := { name := "skyReads", fn := fun _ => fun
  | [d] => { results := [.lit (.bool false)], args := [d] }
  | _ => none }
def SkyReadsWrongFalsely : Prop := skyReadsRow.holds Tryz.pinned (OpenSpec.ofChange skyReadsWrong)

/-- 'tellurionlaw05.SkySpoilt': WHATEVER THE INPUT: true; the input reads as it did. -/
def skySpoiltSpec : ChangeSpec := { name := "skySpoilt", fn := fun _ => fun
  | [d1, d2, d3] => { results := [.lit (.bool true)], args := [d1, d2, d3] }
  | _ => none }
def skySpoiltRow : OpenClaim := { program := "ytlcddcnmoajpjaagreatdoor", sum := "c6350785a9339ad89311141a4e6c2b9f04848f46dffe0fde58392092be07eb5d", func := "tellurion/tellurionlaw05.SkySpoilt", spec := "skySpoilt", inPlace := ["internal/bytealg.CountString", "internal/bytealg.IndexByteString", "internal/bytealg.IndexString", "internal/abi.NoEscape", "internal/bytealg.MakeNoZero"], unfollowed := true, recurses := true, named := ["unicode/utf8.first", "unicode/utf8.acceptRanges", "internal/bytealg.MaxLen", "internal/strconv.uint64pow10", "math/bits.deBruijn32tab", "math/bits.deBruijn64tab"], apart := false, laid := [("math/bits.deBruijn32tab", laid_math_bits_deBruijn32tab), ("math/bits.deBruijn64tab", laid_math_bits_deBruijn64tab), ("internal/strconv.uint64pow10", laid_internal_strconv_uint64pow10), ("unicode/utf8.acceptRanges", laid_unicode_utf8_acceptRanges), ("unicode/utf8.first", laid_unicode_utf8_first)] }
def SkySpoiltSaid : Prop := skySpoiltRow.holds Tryz.pinned (OpenSpec.ofChange skySpoiltSpec)

/-- ITS FALSE NEIGHBOUR: 'it returns false'. Refute it at one input. -/
def skySpoiltWrong : ChangeSpec := { name := "skySpoilt", fn := fun _ => fun
  | [d1, d2, d3] => { results := [.lit (.bool false)], args := [d1, d2, d3] }
  | _ => none }
def SkySpoiltWrongFalsely : Prop := skySpoiltRow.holds Tryz.pinned (OpenSpec.ofChange skySpoiltWrong)

/-- 'tellurionlaw05.SkyMeets': WHATEVER THE INPUT: true; the input reads as it did. -/
def skyMeetsSpec : ChangeSpec := { name := "skyMeets", fn := fun _ => fun
  | [d1, d2, d3, d4, d5] => { results := [.lit (.bool true)], args := [d1, d2, d3, d4, d5] }
  | _ => none }
def skyMeetsRow : OpenClaim := { program := "ytlcddcnmoajpjaagreatdoor", sum := "c6350785a9339ad89311141a4e6c2b9f04848f46dffe0fde58392092be07eb5d", func := "tellurion/tellurionlaw05.SkyMeets", spec := "skyMeets", inPlace := ["internal/bytealg.CountString", "internal/bytealg.IndexByteString", "internal/bytealg.IndexString", "internal/abi.NoEscape", "internal/bytealg.MakeNoZero"], unfollowed := true, recurses := true, named := ["unicode/utf8.first", "unicode/utf8.acceptRanges", "internal/bytealg.MaxLen", "internal/strconv.uint64pow10", "math/bits.deBruijn32tab", "math/bits.deBruijn64tab"], apart := false, laid := [("math/bits.deBruijn32tab", laid_math_bits_deBruijn32tab), ("math/bits.deBruijn64tab", laid_math_bits_deBruijn64tab), ("internal/strconv.uint64pow10", laid_internal_strconv_uint64pow10), ("unicode/utf8.acceptRanges", laid_unicode_utf8_acceptRanges), ("unicode/utf8.first", laid_unicode_utf8_first)] }
def SkyMeetsSaid : Prop := skyMeetsRow.holds Tryz.pinned (OpenSpec.ofChange skyMeetsSpec)

/-- ITS FALSE NEIGHBOUR: 'it returns false'. Refute it at one input. -/
def skyMeetsWrong : ChangeSpec := { name := "skyMeets", fn := fun _ => fun
  | [d1, d2, d3, d4, d5] => { results := [.lit (.bool false)], args := [d1, d2, d3, d4, d5] }
  | _ => none }
def SkyMeetsWrongFalsely : Prop := skyMeetsRow.holds Tryz.pinned (OpenSpec.ofChange skyMeetsWrong)

/-- 'tellurionlaw05.SkyMet': WHATEVER THE INPUT: true; the input reads as it did. -/
def skyMetSpec : ChangeSpec := { name := "skyMet", fn := fun _ => fun
  | [d1, d2, d3, d4, d5, d6] => { results := [.lit (.bool true)], args := [d1, d2, d3, d4, d5, d6] }
  | _ => none }
def skyMetRow : OpenClaim := { program := "ytlcddcnmoajpjaagreatdoor", sum := "c6350785a9339ad89311141a4e6c2b9f04848f46dffe0fde58392092be07eb5d", func := "tellurion/tellurionlaw05.SkyMet", spec := "skyMet", inPlace := ["internal/bytealg.CountString", "internal/bytealg.IndexByteString", "internal/bytealg.IndexString", "internal/abi.NoEscape", "internal/bytealg.MakeNoZero"], unfollowed := true, recurses := true, named := ["unicode/utf8.first", "unicode/utf8.acceptRanges", "internal/bytealg.MaxLen", "internal/strconv.uint64pow10", "math/bits.deBruijn32tab", "math/bits.deBruijn64tab"], apart := false, laid := [("math/bits.deBruijn32tab", laid_math_bits_deBruijn32tab), ("math/bits.deBruijn64tab", laid_math_bits_deBruijn64tab), ("internal/strconv.uint64pow10", laid_internal_strconv_uint64pow10), ("unicode/utf8.acceptRanges", laid_unicode_utf8_acceptRanges), ("unicode/utf8.first", laid_unicode_utf8_first)] }
def SkyMetSaid : Prop := skyMetRow.holds Tryz.pinned (OpenSpec.ofChange skyMetSpec)

/-- ITS FALSE NEIGHBOUR: 'it returns false'. Refute it at one input. -/
def skyMetWrong : ChangeSpec := { name := "skyMet", fn := fun _ => fun
  | [d1, d2, d3, d4, d5, d6] => { results := [.lit (.bool false)], args := [d1, d2, d3, d4, d5, d6] }
  | _ => none }
def SkyMetWrongFalsely : Prop := skyMetRow.holds Tryz.pinned (OpenSpec.ofChange skyMetWrong)

/-- 'tellurionlaw05.SkyMonths': WHATEVER THE INPUT: true; the input reads as it did. -/
def skyMonthsSpec : ChangeSpec := { name := "skyMonths", fn := fun _ => fun
  | [d1, d2, d3] => { results := [.lit (.bool true)], args := [d1, d2, d3] }
  | _ => none }
def skyMonthsRow : OpenClaim := { program := "ytlcddcnmoajpjaagreatdoor", sum := "c6350785a9339ad89311141a4e6c2b9f04848f46dffe0fde58392092be07eb5d", func := "tellurion/tellurionlaw05.SkyMonths", spec := "skyMonths", inPlace := ["internal/bytealg.CountString", "internal/bytealg.IndexByteString", "internal/bytealg.IndexString", "internal/abi.NoEscape", "internal/bytealg.MakeNoZero"], unfollowed := true, recurses := true, named := ["unicode/utf8.first", "unicode/utf8.acceptRanges", "internal/bytealg.MaxLen", "internal/strconv.uint64pow10", "math/bits.deBruijn32tab", "math/bits.deBruijn64tab"], apart := false, laid := [("math/bits.deBruijn32tab", laid_math_bits_deBruijn32tab), ("math/bits.deBruijn64tab", laid_math_bits_deBruijn64tab), ("internal/strconv.uint64pow10", laid_internal_strconv_uint64pow10), ("unicode/utf8.acceptRanges", laid_unicode_utf8_acceptRanges), ("unicode/utf8.first", laid_unicode_utf8_first)] }
def SkyMonthsSaid : Prop := skyMonthsRow.holds Tryz.pinned (OpenSpec.ofChange skyMonthsSpec)

/-- ITS FALSE NEIGHBOUR: 'it returns false'. Refute it at one input. -/
def skyMonthsWrong : ChangeSpec := { name := "skyMonths", fn := fun _ => fun
  | [d1, d2, d3] => { results := [.lit (.bool false)], args := [d1, d2, d3] }
  | _ => none }
def SkyMonthsWrongFalsely : Prop := skyMonthsRow.holds Tryz.pinned (OpenSpec.ofChange skyMonthsWrong)

/-- 'tellurionlaw05.SkyCycles': WHATEVER THE INPUT: true; the input reads as it did. -/
def skyCyclesSpec : ChangeSpec := { name := "skyCycles", fn := fun _ => fun
  | [d1, d2, d3, d4] => { results := [.lit (.bool true)], args := [d1, d2, d3, d4] }
  | _ => none }
def skyCyclesRow : OpenClaim := { program := "ytlcddcnmoajpjaagreatdoor", sum := "c6350785a9339ad89311141a4e6c2b9f04848f46dffe0fde58392092be07eb5d", func := "tellurion/tellurionlaw05.SkyCycles", spec := "skyCycles", inPlace := ["internal/bytealg.CountString", "internal/bytealg.IndexByteString", "internal/bytealg.IndexString", "internal/abi.NoEscape", "internal/bytealg.MakeNoZero"], unfollowed := true, recurses := true, named := ["unicode/utf8.first", "unicode/utf8.acceptRanges", "internal/bytealg.MaxLen", "internal/strconv.uint64pow10", "math/bits.deBruijn32tab", "math/bits.deBruijn64tab"], apart := false, laid := [("math/bits.deBruijn32tab", laid_math_bits_deBruijn32tab), ("math/bits.deBruijn64tab", laid_math_bits_deBruijn64tab), ("internal/strconv.uint64pow10", laid_internal_strconv_uint64pow10), ("unicode/utf8.acceptRanges", laid_unicode_utf8_acceptRanges), ("unicode/utf8.first", laid_unicode_utf8_first)] }
def SkyCyclesSaid : Prop := skyCyclesRow.holds Tryz.pinned (OpenSpec.ofChange skyCyclesSpec)

/-- ITS FALSE NEIGHBOUR: 'it returns false'. Refute it at one input. -/
def skyCyclesWrong : ChangeSpec := { name := "skyCycles", fn := fun _ => fun
  | [d1, d2, d3, d4] => { results := [.lit (.bool false)], args := [d1, d2, d3, d4] }
  | _ => none }
def SkyCyclesWrongFalsely : Prop := skyCyclesRow.holds Tryz.pinned (OpenSpec.ofChange skyCyclesWrong)

/-- 'tellurionlaw05.SkyPlaces': WHATEVER THE INPUT: true; the input reads as it did. -/
def skyPlacesSpec : ChangeSpec := { name := "skyPlaces", fn := fun _ => fun
  | [d1, d2, d3, d4] => { results := [.lit (.bool true)], args := [d1, d2, d3, d4] }
  | _ => none }
def skyPlacesRow : OpenClaim := { program := "ytlcddcnmoajpjaagreatdoor", sum := "c6350785a9339ad89311141a4e6c2b9f04848f46dffe0fde58392092be07eb5d", func := "tellurion/tellurionlaw05.SkyPlaces", spec := "skyPlaces", inPlace := ["internal/bytealg.CountString", "internal/bytealg.IndexByteString", "internal/bytealg.IndexString", "internal/abi.NoEscape", "internal/bytealg.MakeNoZero"], unfollowed := true, recurses := true, named := ["unicode/utf8.first", "unicode/utf8.acceptRanges", "internal/bytealg.MaxLen", "internal/strconv.uint64pow10", "math/bits.deBruijn32tab", "math/bits.deBruijn64tab"], apart := false, laid := [("math/bits.deBruijn32tab", laid_math_bits_deBruijn32tab), ("math/bits.deBruijn64tab", laid_math_bits_deBruijn64tab), ("internal/strconv.uint64pow10", laid_internal_strconv_uint64pow10), ("unicode/utf8.acceptRanges", laid_unicode_utf8_acceptRanges), ("unicode/utf8.first", laid_unicode_utf8_first)] }
def SkyPlacesSaid : Prop := skyPlacesRow.holds Tryz.pinned (OpenSpec.ofChange skyPlacesSpec)

/-- ITS FALSE NEIGHBOUR: 'it returns false'. Refute it at one input. -/
def skyPlacesWrong : ChangeSpec := { name := "skyPlaces", fn := fun _ => fun
  | [d1, d2, d3, d4] => { results := [.lit (.bool false)], args := [d1, d2, d3, d4] }
  | _ => none }
def SkyPlacesWrongFalsely : Prop := skyPlacesRow.holds Tryz.pinned (OpenSpec.ofChange skyPlacesWrong)

/-- 'tellurionlaw05.SkyNexts': WHATEVER THE INPUT: true; the input reads as it did. -/
def skyNextsSpec : ChangeSpec := { name := "skyNexts", fn := fun _ => fun
  | [d1, d2, d3] => { results := [.lit (.bool true)], args := [d1, d2, d3] }
  | _ => none }
def skyNextsRow : OpenClaim := { program := "ytlcddcnmoajpjaagreatdoor", sum := "c6350785a9339ad89311141a4e6c2b9f04848f46dffe0fde58392092be07eb5d", func := "tellurion/tellurionlaw05.SkyNexts", spec := "skyNexts", inPlace := ["internal/bytealg.CountString", "internal/bytealg.IndexByteString", "internal/bytealg.IndexString", "internal/abi.NoEscape", "internal/bytealg.MakeNoZero"], unfollowed := true, recurses := true, named := ["unicode/utf8.first", "unicode/utf8.acceptRanges", "internal/bytealg.MaxLen", "internal/strconv.uint64pow10", "math/bits.deBruijn32tab", "math/bits.deBruijn64tab"], apart := false, laid := [("math/bits.deBruijn32tab", laid_math_bits_deBruijn32tab), ("math/bits.deBruijn64tab", laid_math_bits_deBruijn64tab), ("internal/strconv.uint64pow10", laid_internal_strconv_uint64pow10), ("unicode/utf8.acceptRanges", laid_unicode_utf8_acceptRanges), ("unicode/utf8.first", laid_unicode_utf8_first)] }
def SkyNextsSaid : Prop := skyNextsRow.holds Tryz.pinned (OpenSpec.ofChange skyNextsSpec)

/-- ITS FALSE NEIGHBOUR: 'it returns false'. Refute it at one input. -/
def skyNextsWrong : ChangeSpec := { name := "skyNexts", fn := fun _ => fun
  | [d1, d2, d3] => { results := [.lit (.bool false)], args := [d1, d2, d3] }
  | _ => none }
def SkyNextsWrongFalsely : Prop := skyNextsRow.holds Tryz.pinned (OpenSpec.ofChange skyNextsWrong)

/-- 'tellurionlaw05.SkyFirst': WHATEVER THE INPUT: true; the input reads as it did. -/
def skyFirstSpec : ChangeSpec := { name := "skyFirst", fn := fun _ => fun
  | [d1, d2, d3, d4] => { results := [.lit (.bool true)], args := [d1, d2, d3, d4] }
  | _ => none }
def skyFirstRow : OpenClaim := { program := "ytlcddcnmoajpjaagreatdoor", sum := "c6350785a9339ad89311141a4e6c2b9f04848f46dffe0fde58392092be07eb5d", func := "tellurion/tellurionlaw05.SkyFirst", spec := "skyFirst", inPlace := ["internal/bytealg.CountString", "internal/bytealg.IndexByteString", "internal/bytealg.IndexString", "internal/abi.NoEscape", "internal/bytealg.MakeNoZero"], unfollowed := true, recurses := true, named := ["unicode/utf8.first", "unicode/utf8.acceptRanges", "internal/bytealg.MaxLen", "internal/strconv.uint64pow10", "math/bits.deBruijn32tab", "math/bits.deBruijn64tab"], apart := false, laid := [("math/bits.deBruijn32tab", laid_math_bits_deBruijn32tab), ("math/bits.deBruijn64tab", laid_math_bits_deBruijn64tab), ("internal/strconv.uint64pow10", laid_internal_strconv_uint64pow10), ("unicode/utf8.acceptRanges", laid_unicode_utf8_acceptRanges), ("unicode/utf8.first", laid_unicode_utf8_first)] }
def SkyFirstSaid : Prop := skyFirstRow.holds Tryz.pinned (OpenSpec.ofChange skyFirstSpec)

/-- ITS FALSE NEIGHBOUR: 'it returns false'. Refute it at one input. -/
def skyFirstWrong : ChangeSpec := { name := "skyFirst", fn := fun _ => fun
  | [d1, d2, d3, d4] => { results := [.lit (.bool false)], args := [d1, d2, d3, d4] }
  | _ => none }
def SkyFirstWrongFalsely : Prop := skyFirstRow.holds Tryz.pinned (OpenSpec.ofChange skyFirstWrong)

/- THE SECOND FORM. 'bulk': how many values and letters a reading holds, each counted each time it is reached (what is shared counts as often as it is met; a slice's spare places count too). A statement '..UptoSaid' is the law's where the arguments, and the package variables that the reading takes, are together of bulk at most 1048576: NARROWER than '..Said'. Prove '..Said' where nothing that the law and all that it calls make is longer than what came in: it says more and counts as full. Else prove '..UptoSaid'. A law counts once. -/
mutual
def uptoBulk {H : Type} : DataW H → Nat
  | .lit (.string bytes) => bytes.length + 1
  | .lit _ => 1
  | .nil => 1
  | .ptr d => uptoBulk d + 1
  | .slice elems spare => uptoBulkAll elems + uptoBulkAll spare + 1
  | .agg parts => uptoBulkAll parts + 1
  | .iface _ d => uptoBulk d + 1
  | .map entries => uptoBulkEntries entries + 1
  | .held _ => 1
def uptoBulkAll {H : Type} : List (DataW H) → Nat
  | [] => 0
  | d :: r => uptoBulk d + uptoBulkAll r
def uptoBulkEntries {H : Type} : List (Lit × DataW H) → Nat
  | [] => 0
  | x :: r => uptoBulkEntry x + uptoBulkEntries r
def uptoBulkEntry {H : Type} : Lit × DataW H → Nat
  | (.string bytes, d) => bytes.length + uptoBulk d + 1
  | (_, d) => uptoBulk d + 1
 end
def uptoSmall : (H : Type) → List (DataW H) → Bool := fun _ ds => decide (uptoBulkAll ds ≤ 1048576)
def OpenSpec.upto (s : _root_.Go.ChangeSpec) : _root_.Go.OpenSpec := { _root_.Go.OpenSpec.ofChange s with cond := some uptoSmall }

/-- 'tellurionlaw05.SkyMoons', WHERE WHAT IT READS IS OF BULK AT MOST 1048576: true; the input reads as it did. -/
def skyMoonsUptoRow : OpenClaim := { program := "ytlcddcnmoajpjaagreatdoor", sum := "c6350785a9339ad89311141a4e6c2b9f04848f46dffe0fde58392092be07eb5d", func := "tellurion/tellurionlaw05.SkyMoons", spec := "skyMoons", inPlace := ["internal/bytealg.CountString", "internal/bytealg.IndexByteString", "internal/bytealg.IndexString", "internal/abi.NoEscape", "internal/bytealg.MakeNoZero"], unfollowed := true, recurses := true, named := ["unicode/utf8.first", "unicode/utf8.acceptRanges", "internal/bytealg.MaxLen", "internal/strconv.uint64pow10", "math/bits.deBruijn32tab", "math/bits.deBruijn64tab"], apart := false, laid := [("math/bits.deBruijn32tab", laid_math_bits_deBruijn32tab), ("math/bits.deBruijn64tab", laid_math_bits_deBruijn64tab), ("internal/strconv.uint64pow10", laid_internal_strconv_uint64pow10), ("unicode/utf8.acceptRanges", laid_unicode_utf8_acceptRanges), ("unicode/utf8.first", laid_unicode_utf8_first)], narrowed := true }
def SkyMoonsUptoSaid : Prop := skyMoonsUptoRow.holds Tryz.pinned (OpenSpec.upto skyMoonsSpec)

/-- 'tellurionlaw05.SkyCrossed', WHERE WHAT IT READS IS OF BULK AT MOST 1048576: true; the input reads as it did. -/
def skyCrossedUptoRow : OpenClaim := { program := "ytlcddcnmoajpjaagreatdoor", sum := "c6350785a9339ad89311141a4e6c2b9f04848f46dffe0fde58392092be07eb5d", func := "tellurion/tellurionlaw05.SkyCrossed", spec := "skyCrossed", inPlace := ["internal/bytealg.CountString", "internal/bytealg.IndexByteString", "internal/bytealg.IndexString", "internal/abi.NoEscape", "internal/bytealg.MakeNoZero"], unfollowed := true, recurses := true, named := ["unicode/utf8.first", "unicode/utf8.acceptRanges", "internal/bytealg.MaxLen", "internal/strconv.uint64pow10", "math/bits.deBruijn32tab", "math/bits.deBruijn64tab"], apart := false, laid := [("math/bits.deBruijn32tab", laid_math_bits_deBruijn32tab), ("math/bits.deBruijn64tab", laid_math_bits_deBruijn64tab), ("internal/strconv.uint64pow10", laid_internal_strconv_uint64pow10), ("unicode/utf8.acceptRanges", laid_unicode_utf8_acceptRanges), ("unicode/utf8.first", laid_unicode_utf8_first)], narrowed := true }
def SkyCrossedUptoSaid : Prop := skyCrossedUptoRow.holds Tryz.pinned (OpenSpec.upto skyCrossedSpec)

/-- 'tellurionlaw05.SkyEclipses', WHERE WHAT IT READS IS OF BULK AT MOST 1048576: true; the input reads as it did. -/
def skyEclipsesUptoRow : OpenClaim := { program := "ytlcddcnmoajpjaagreatdoor", sum := "c6350785a9339ad89311141a4e6c2b9f04848f46dffe0fde58392092be07eb5d", func := "tellurion/tellurionlaw05.SkyEclipses", spec := "skyEclipses", inPlace := ["internal/bytealg.CountString", "internal/bytealg.IndexByteString", "internal/bytealg.IndexString", "internal/abi.NoEscape", "internal/bytealg.MakeNoZero"], unfollowed := true, recurses := true, named := ["unicode/utf8.first", "unicode/utf8.acceptRanges", "internal/bytealg.MaxLen", "internal/strconv.uint64pow10", "math/bits.deBruijn32tab", "math/bits.deBruijn64tab"], apart := false, laid := [("math/bits.deBruijn32tab", laid_math_bits_deBruijn32tab), ("math/bits.deBruijn64tab", laid_math_bits_deBruijn64tab), ("internal/strconv.uint64pow10", laid_internal_strconv_uint64pow10), ("unicode/utf8.acceptRanges", laid_unicode_utf8_acceptRanges), ("unicode/utf8.first", laid_unicode_utf8_first)], narrowed := true }
def SkyEclipsesUptoSaid : Prop := skyEclipsesUptoRow.holds Tryz.pinned (OpenSpec.upto skyEclipsesSpec)

/-- 'tellurionlaw05.SkyShadows', WHERE WHAT IT READS IS OF BULK AT MOST 1048576: true; the input reads as it did. -/
def skyShadowsUptoRow : OpenClaim := { program := "ytlcddcnmoajpjaagreatdoor", sum := "c6350785a9339ad89311141a4e6c2b9f04848f46dffe0fde58392092be07eb5d", func := "tellurion/tellurionlaw05.SkyShadows", spec := "skyShadows", inPlace := ["internal/bytealg.CountString", "internal/bytealg.IndexByteString", "internal/bytealg.IndexString", "internal/abi.NoEscape", "internal/bytealg.MakeNoZero"], unfollowed := true, recurses := true, named := ["unicode/utf8.first", "unicode/utf8.acceptRanges", "internal/bytealg.MaxLen", "internal/strconv.uint64pow10", "math/bits.deBruijn32tab", "math/bits.deBruijn64tab"], apart := false, laid := [("math/bits.deBruijn32tab", laid_math_bits_deBruijn32tab), ("math/bits.deBruijn64tab", laid_math_bits_deBruijn64tab), ("internal/strconv.uint64pow10", laid_internal_strconv_uint64pow10), ("unicode/utf8.acceptRanges", laid_unicode_utf8_acceptRanges), ("unicode/utf8.first", laid_unicode_utf8_first)], narrowed := true }
def SkyShadowsUptoSaid : Prop := skyShadowsUptoRow.holds Tryz.pinned (OpenSpec.upto skyShadowsSpec)

/-- 'tellurionlaw05.SkySpeeds', WHERE WHAT IT READS IS OF BULK AT MOST 1048576: true; the input reads as it did. -/
def skySpeedsUptoRow : OpenClaim := { program := "ytlcddcnmoajpjaagreatdoor", sum := "c6350785a9339ad89311141a4e6c2b9f04848f46dffe0fde58392092be07eb5d", func := "tellurion/tellurionlaw05.SkySpeeds", spec := "skySpeeds", inPlace := ["internal/bytealg.CountString", "internal/bytealg.IndexByteString", "internal/bytealg.IndexString", "internal/abi.NoEscape", "internal/bytealg.MakeNoZero"], unfollowed := true, recurses := true, named := ["unicode/utf8.first", "unicode/utf8.acceptRanges", "internal/bytealg.MaxLen", "internal/strconv.uint64pow10", "math/bits.deBruijn32tab", "math/bits.deBruijn64tab"], apart := false, laid := [("math/bits.deBruijn32tab", laid_math_bits_deBruijn32tab), ("math/bits.deBruijn64tab", laid_math_bits_deBruijn64tab), ("internal/strconv.uint64pow10", laid_internal_strconv_uint64pow10), ("unicode/utf8.acceptRanges", laid_unicode_utf8_acceptRanges), ("unicode/utf8.first", laid_unicode_utf8_first)], narrowed := true }
def SkySpeedsUptoSaid : Prop := skySpeedsUptoRow.holds Tryz.pinned (OpenSpec.upto skySpeedsSpec)

/-- 'tellurionlaw05.SkyAgrees', WHERE WHAT IT READS IS OF BULK AT MOST 1048576: true; the input reads as it did. -/
def skyAgreesUptoRow : OpenClaim := { program := "ytlcddcnmoajpjaagreatdoor", sum := "c6350785a9339ad89311141a4e6c2b9f04848f46dffe0fde58392092be07eb5d", func := "tellurion/tellurionlaw05.SkyAgrees", spec := "skyAgrees", inPlace := ["internal/bytealg.CountString", "internal/bytealg.IndexByteString", "internal/bytealg.IndexString", "internal/abi.NoEscape", "internal/bytealg.MakeNoZero"], unfollowed := true, recurses := true, named := ["unicode/utf8.first", "unicode/utf8.acceptRanges", "internal/bytealg.MaxLen", "internal/strconv.uint64pow10", "math/bits.deBruijn32tab", "math/bits.deBruijn64tab"], apart := false, laid := [("math/bits.deBruijn32tab", laid_math_bits_deBruijn32tab), ("math/bits.deBruijn64tab", laid_math_bits_deBruijn64tab), ("internal/strconv.uint64pow10", laid_internal_strconv_uint64pow10), ("unicode/utf8.acceptRanges", laid_unicode_utf8_acceptRanges), ("unicode/utf8.first", laid_unicode_utf8_first)], narrowed := true }
def SkyAgreesUptoSaid : Prop := skyAgreesUptoRow.holds Tryz.pinned (OpenSpec.upto skyAgreesSpec)

/-- 'tellurionlaw05.SkyWatches', WHERE WHAT IT READS IS OF BULK AT MOST 1048576: true; the input reads as it did. -/
def skyWatchesUptoRow : OpenClaim := { program := "ytlcddcnmoajpjaagreatdoor", sum := "c6350785a9339ad89311141a4e6c2b9f04848f46dffe0fde58392092be07eb5d", func := "tellurion/tellurionlaw05.SkyWatches", spec := "skyWatches", inPlace := ["internal/bytealg.CountString", "internal/bytealg.IndexByteString", "internal/bytealg.IndexString", "internal/abi.NoEscape", "internal/bytealg.MakeNoZero"], unfollowed := true, recurses := true, named := ["unicode/utf8.first", "unicode/utf8.acceptRanges", "internal/bytealg.MaxLen", "internal/strconv.uint64pow10", "math/bits.deBruijn32tab", "math/bits.deBruijn64tab"], apart := false, laid := [("math/bits.deBruijn32tab", laid_math_bits_deBruijn32tab), ("math/bits.deBruijn64tab", laid_math_bits_deBruijn64tab), ("internal/strconv.uint64pow10", laid_internal_strconv_uint64pow10), ("unicode/utf8.acceptRanges", laid_unicode_utf8_acceptRanges), ("unicode/utf8.first", laid_unicode_utf8_first)], narrowed := true }
def SkyWatchesUptoSaid : Prop := skyWatchesUptoRow.holds Tryz.pinned (OpenSpec.upto skyWatchesSpec)

/-- 'tellurionlaw05.SkyWatched', WHERE WHAT IT READS IS OF BULK AT MOST 1048576: true; the input reads as it did. -/
def skyWatchedUptoRow : OpenClaim := { program := "ytlcddcnmoajpjaagreatdoor", sum := "c6350785a9339ad89311141a4e6c2b9f04848f46dffe0fde58392092be07eb5d", func := "tellurion/tellurionlaw05.SkyWatched", spec := "skyWatched", inPlace := ["internal/bytealg.CountString", "internal/bytealg.IndexByteString", "internal/bytealg.IndexString", "internal/abi.NoEscape", "internal/bytealg.MakeNoZero"], unfollowed := true, recurses := true, named := ["unicode/utf8.first", "unicode/utf8.acceptRanges", "internal/bytealg.MaxLen", "internal/strconv.uint64pow10", "math/bits.deBruijn32tab", "math/bits.deBruijn64tab"], apart := false, laid := [("math/bits.deBruijn32tab", laid_math_bits_deBruijn32tab), ("math/bits.deBruijn64tab", laid_math_bits_deBruijn64tab), ("internal/strconv.uint64pow10", laid_internal_strconv_uint64pow10), ("unicode/utf8.acceptRanges", laid_unicode_utf8_acceptRanges), ("unicode/utf8.first", laid_unicode_utf8_first)], narrowed := true }
def SkyWatchedUptoSaid : Prop := skyWatchedUptoRow.holds Tryz.pinned (OpenSpec.upto skyWatchedSpec)

/-- 'tellurionlaw05.SkyMore', WHERE WHAT IT READS IS OF BULK AT MOST 1048576: true; the input reads as it did. -/
def skyMoreUptoRow : OpenClaim := { program := "ytlcddcnmoajpjaagreatdoor", sum := "c6350785a9339ad89311141a4e6c2b9f04848f46dffe0fde58392092be07eb5d", func := "tellurion/tellurionlaw05.SkyMore", spec := "skyMore", inPlace := ["internal/bytealg.CountString", "internal/bytealg.IndexByteString", "internal/bytealg.IndexString", "internal/abi.NoEscape", "internal/bytealg.MakeNoZero"], unfollowed := true, recurses := true, named := ["unicode/utf8.first", "unicode/utf8.acceptRanges", "internal/bytealg.MaxLen", "internal/strconv.uint64pow10", "math/bits.deBruijn32tab", "math/bits.deBruijn64tab"], apart := false, laid := [("math/bits.deBruijn32tab", laid_math_bits_deBruijn32tab), ("math/bits.deBruijn64tab", laid_math_bits_deBruijn64tab), ("internal/strconv.uint64pow10", laid_internal_strconv_uint64pow10), ("unicode/utf8.acceptRanges", laid_unicode_utf8_acceptRanges), ("unicode/utf8.first", laid_unicode_utf8_first)], narrowed := true }
def SkyMoreUptoSaid : Prop := skyMoreUptoRow.holds Tryz.pinned (OpenSpec.upto skyMoreSpec)

/-- 'tellurionlaw05.SkyTurned', WHERE WHAT IT READS IS OF BULK AT MOST 1048576: true; the input reads as it did. -/
def skyTurnedUptoRow : OpenClaim := { program := "ytlcddcnmoajpjaagreatdoor", sum := "c6350785a9339ad89311141a4e6c2b9f04848f46dffe0fde58392092be07eb5d", func := "tellurion/tellurionlaw05.SkyTurned", spec := "skyTurned", inPlace := ["internal/bytealg.CountString", "internal/bytealg.IndexByteString", "internal/bytealg.IndexString", "internal/abi.NoEscape", "internal/bytealg.MakeNoZero"], unfollowed := true, recurses := true, named := ["unicode/utf8.first", "unicode/utf8.acceptRanges", "internal/bytealg.MaxLen", "internal/strconv.uint64pow10", "math/bits.deBruijn32tab", "math/bits.deBruijn64tab"], apart := false, laid := [("math/bits.deBruijn32tab", laid_math_bits_deBruijn32tab), ("math/bits.deBruijn64tab", laid_math_bits_deBruijn64tab), ("internal/strconv.uint64pow10", laid_internal_strconv_uint64pow10), ("unicode/utf8.acceptRanges", laid_unicode_utf8_acceptRanges), ("unicode/utf8.first", laid_unicode_utf8_first)], narrowed := true }
def SkyTurnedUptoSaid : Prop := skyTurnedUptoRow.holds Tryz.pinned (OpenSpec.upto skyTurnedSpec)

/-- 'tellurionlaw05.SkyEven', WHERE WHAT IT READS IS OF BULK AT MOST 1048576: true; the input reads as it did. -/
def skyEvenUptoRow : OpenClaim := { program := "ytlcddcnmoajpjaagreatdoor", sum := "c6350785a9339ad89311141a4e6c2b9f04848f46dffe0fde58392092be07eb5d", func := "tellurion/tellurionlaw05.SkyEven", spec := "skyEven", inPlace := ["internal/bytealg.CountString", "internal/bytealg.IndexByteString", "internal/bytealg.IndexString", "internal/abi.NoEscape", "internal/bytealg.MakeNoZero"], unfollowed := true, recurses := true, named := ["unicode/utf8.first", "unicode/utf8.acceptRanges", "internal/bytealg.MaxLen", "internal/strconv.uint64pow10", "math/bits.deBruijn32tab", "math/bits.deBruijn64tab"], apart := false, laid := [("math/bits.deBruijn32tab", laid_math_bits_deBruijn32tab), ("math/bits.deBruijn64tab", laid_math_bits_deBruijn64tab), ("internal/strconv.uint64pow10", laid_internal_strconv_uint64pow10), ("unicode/utf8.acceptRanges", laid_unicode_utf8_acceptRanges), ("unicode/utf8.first", laid_unicode_utf8_first)], narrowed := true }
def SkyEvenUptoSaid : Prop := skyEvenUptoRow.holds Tryz.pinned (OpenSpec.upto skyEvenSpec)

/-- 'tellurionlaw05.SkyPrints', WHERE WHAT IT READS IS OF BULK AT MOST 1048576: true; the input reads as it did. -/
def skyPrintsUptoRow : OpenClaim := { program := "ytlcddcnmoajpjaagreatdoor", sum := "c6350785a9339ad89311141a4e6c2b9f04848f46dffe0fde58392092be07eb5d", func := "tellurion/tellurionlaw05.SkyPrints", spec := "skyPrints", inPlace := ["internal/bytealg.CountString", "internal/bytealg.IndexByteString", "internal/bytealg.IndexString", "internal/abi.NoEscape", "internal/bytealg.MakeNoZero"], unfollowed := true, recurses := true, named := ["unicode/utf8.first", "unicode/utf8.acceptRanges", "internal/bytealg.MaxLen", "internal/strconv.uint64pow10", "math/bits.deBruijn32tab", "math/bits.deBruijn64tab"], apart := false, laid := [("math/bits.deBruijn32tab", laid_math_bits_deBruijn32tab), ("math/bits.deBruijn64tab", laid_math_bits_deBruijn64tab), ("internal/strconv.uint64pow10", laid_internal_strconv_uint64pow10), ("unicode/utf8.acceptRanges", laid_unicode_utf8_acceptRanges), ("unicode/utf8.first", laid_unicode_utf8_first)], narrowed := true }
def SkyPrintsUptoSaid : Prop := skyPrintsUptoRow.holds Tryz.pinned (OpenSpec.upto skyPrintsSpec)

/-- 'tellurionlaw05.SkyReads', WHERE WHAT IT READS IS OF BULK AT MOST 1048576: true; the input reads as it did. -/
def skyReadsUptoRow : OpenClaim := { program := "ytlcddcnmoajpjaagreatdoor", sum := "c6350785a9339ad89311141a4e6c2b9f04848f46dffe0fde58392092be07eb5d", func := "tellurion/tellurionlaw05.SkyReads", spec := "skyReads", inPlace := ["internal/bytealg.CountString", "internal/bytealg.IndexByteString", "internal/bytealg.IndexString", "internal/abi.NoEscape", "internal/bytealg.MakeNoZero"], unfollowed := true, recurses := true, named := ["unicode/utf8.first", "unicode/utf8.acceptRanges", "internal/bytealg.MaxLen", "internal/strconv.uint64pow10", "math/bits.deBruijn32tab", "math/bits.deBruijn64tab"], apart := false, laid := [("math/bits.deBruijn32tab", laid_math_bits_deBruijn32tab), ("math/bits.deBruijn64tab", laid_math_bits_deBruijn64tab), ("internal/strconv.uint64pow10", laid_internal_strconv_uint64pow10), ("unicode/utf8.acceptRanges", laid_unicode_utf8_acceptRanges), ("unicode/utf8.first", laid_unicode_utf8_first)], narrowed := true }
def SkyReadsUptoSaid : Prop := skyReadsUptoRow.holds Tryz.pinned (OpenSpec.upto skyReadsSpec)

/-- 'tellurionlaw05.SkySpoilt', WHERE WHAT IT READS IS OF BULK AT MOST 1048576: true; the input reads as it did. -/
def skySpoiltUptoRow : OpenClaim := { program := "ytlcddcnmoajpjaagreatdoor", sum := "c6350785a9339ad89311141a4e6c2b9f04848f46dffe0fde58392092be07eb5d", func := "tellurion/tellurionlaw05.SkySpoilt", spec := "skySpoilt", inPlace := ["internal/bytealg.CountString", "internal/bytealg.IndexByteString", "internal/bytealg.IndexString", "internal/abi.NoEscape", "internal/bytealg.MakeNoZero"], unfollowed := true, recurses := true, named := ["unicode/utf8.first", "unicode/utf8.acceptRanges", "internal/bytealg.MaxLen", "internal/strconv.uint64pow10", "math/bits.deBruijn32tab", "math/bits.deBruijn64tab"], apart := false, laid := [("math/bits.deBruijn32tab", laid_math_bits_deBruijn32tab), ("math/bits.deBruijn64tab", laid_math_bits_deBruijn64tab), ("internal/strconv.uint64pow10", laid_internal_strconv_uint64pow10), ("unicode/utf8.acceptRanges", laid_unicode_utf8_acceptRanges), ("unicode/utf8.first", laid_unicode_utf8_first)], narrowed := true }
def SkySpoiltUptoSaid : Prop := skySpoiltUptoRow.holds Tryz.pinned (OpenSpec.upto skySpoiltSpec)

/-- 'tellurionlaw05.SkyMeets', WHERE WHAT IT READS IS OF BULK AT MOST 1048576: true; the input reads as it did. -/
def skyMeetsUptoRow : OpenClaim := { program := "ytlcddcnmoajpjaagreatdoor", sum := "c6350785a9339ad89311141a4e6c2b9f04848f46dffe0fde58392092be07eb5d", func := "tellurion/tellurionlaw05.SkyMeets", spec := "skyMeets", inPlace := ["internal/bytealg.CountString", "internal/bytealg.IndexByteString", "internal/bytealg.IndexString", "internal/abi.NoEscape", "internal/bytealg.MakeNoZero"], unfollowed := true, recurses := true, named := ["unicode/utf8.first", "unicode/utf8.acceptRanges", "internal/bytealg.MaxLen", "internal/strconv.uint64pow10", "math/bits.deBruijn32tab", "math/bits.deBruijn64tab"], apart := false, laid := [("math/bits.deBruijn32tab", laid_math_bits_deBruijn32tab), ("math/bits.deBruijn64tab", laid_math_bits_deBruijn64tab), ("internal/strconv.uint64pow10", laid_internal_strconv_uint64pow10), ("unicode/utf8.acceptRanges", laid_unicode_utf8_acceptRanges), ("unicode/utf8.first", laid_unicode_utf8_first)], narrowed := true }
def SkyMeetsUptoSaid : Prop := skyMeetsUptoRow.holds Tryz.pinned (OpenSpec.upto skyMeetsSpec)

/-- 'tellurionlaw05.SkyMet', WHERE WHAT IT READS IS OF BULK AT MOST 1048576: true; the input reads as it did. -/
def skyMetUptoRow : OpenClaim := { program := "ytlcddcnmoajpjaagreatdoor", sum := "c6350785a9339ad89311141a4e6c2b9f04848f46dffe0fde58392092be07eb5d", func := "tellurion/tellurionlaw05.SkyMet", spec := "skyMet", inPlace := ["internal/bytealg.CountString", "internal/bytealg.IndexByteString", "internal/bytealg.IndexString", "internal/abi.NoEscape", "internal/bytealg.MakeNoZero"], unfollowed := true, recurses := true, named := ["unicode/utf8.first", "unicode/utf8.acceptRanges", "internal/bytealg.MaxLen", "internal/strconv.uint64pow10", "math/bits.deBruijn32tab", "math/bits.deBruijn64tab"], apart := false, laid := [("math/bits.deBruijn32tab", laid_math_bits_deBruijn32tab), ("math/bits.deBruijn64tab", laid_math_bits_deBruijn64tab), ("internal/strconv.uint64pow10", laid_internal_strconv_uint64pow10), ("unicode/utf8.acceptRanges", laid_unicode_utf8_acceptRanges), ("unicode/utf8.first", laid_unicode_utf8_first)], narrowed := true }
def SkyMetUptoSaid : Prop := skyMetUptoRow.holds Tryz.pinned (OpenSpec.upto skyMetSpec)

/-- 'tellurionlaw05.SkyMonths', WHERE WHAT IT READS IS OF BULK AT MOST 1048576: true; the input reads as it did. -/
def skyMonthsUptoRow : OpenClaim := { program := "ytlcddcnmoajpjaagreatdoor", sum := "c6350785a9339ad89311141a4e6c2b9f04848f46dffe0fde58392092be07eb5d", func := "tellurion/tellurionlaw05.SkyMonths", spec := "skyMonths", inPlace := ["internal/bytealg.CountString", "internal/bytealg.IndexByteString", "internal/bytealg.IndexString", "internal/abi.NoEscape", "internal/bytealg.MakeNoZero"], unfollowed := true, recurses := true, named := ["unicode/utf8.first", "unicode/utf8.acceptRanges", "internal/bytealg.MaxLen", "internal/strconv.uint64pow10", "math/bits.deBruijn32tab", "math/bits.deBruijn64tab"], apart := false, laid := [("math/bits.deBruijn32tab", laid_math_bits_deBruijn32tab), ("math/bits.deBruijn64tab", laid_math_bits_deBruijn64tab), ("internal/strconv.uint64pow10", laid_internal_strconv_uint64pow10), ("unicode/utf8.acceptRanges", laid_unicode_utf8_acceptRanges), ("unicode/utf8.first", laid_unicode_utf8_first)], narrowed := true }
def SkyMonthsUptoSaid : Prop := skyMonthsUptoRow.holds Tryz.pinned (OpenSpec.upto skyMonthsSpec)

/-- 'tellurionlaw05.SkyCycles', WHERE WHAT IT READS IS OF BULK AT MOST 1048576: true; the input reads as it did. -/
def skyCyclesUptoRow : OpenClaim := { program := "ytlcddcnmoajpjaagreatdoor", sum := "c6350785a9339ad89311141a4e6c2b9f04848f46dffe0fde58392092be07eb5d", func := "tellurion/tellurionlaw05.SkyCycles", spec := "skyCycles", inPlace := ["internal/bytealg.CountString", "internal/bytealg.IndexByteString", "internal/bytealg.IndexString", "internal/abi.NoEscape", "internal/bytealg.MakeNoZero"], unfollowed := true, recurses := true, named := ["unicode/utf8.first", "unicode/utf8.acceptRanges", "internal/bytealg.MaxLen", "internal/strconv.uint64pow10", "math/bits.deBruijn32tab", "math/bits.deBruijn64tab"], apart := false, laid := [("math/bits.deBruijn32tab", laid_math_bits_deBruijn32tab), ("math/bits.deBruijn64tab", laid_math_bits_deBruijn64tab), ("internal/strconv.uint64pow10", laid_internal_strconv_uint64pow10), ("unicode/utf8.acceptRanges", laid_unicode_utf8_acceptRanges), ("unicode/utf8.first", laid_unicode_utf8_first)], narrowed := true }
def SkyCyclesUptoSaid : Prop := skyCyclesUptoRow.holds Tryz.pinned (OpenSpec.upto skyCyclesSpec)

/-- 'tellurionlaw05.SkyPlaces', WHERE WHAT IT READS IS OF BULK AT MOST 1048576: true; the input reads as it did. -/
def skyPlacesUptoRow : OpenClaim := { program := "ytlcddcnmoajpjaagreatdoor", sum := "c6350785a9339ad89311141a4e6c2b9f04848f46dffe0fde58392092be07eb5d", func := "tellurion/tellurionlaw05.SkyPlaces", spec := "skyPlaces", inPlace := ["internal/bytealg.CountString", "internal/bytealg.IndexByteString", "internal/bytealg.IndexString", "internal/abi.NoEscape", "internal/bytealg.MakeNoZero"], unfollowed := true, recurses := true, named := ["unicode/utf8.first", "unicode/utf8.acceptRanges", "internal/bytealg.MaxLen", "internal/strconv.uint64pow10", "math/bits.deBruijn32tab", "math/bits.deBruijn64tab"], apart := false, laid := [("math/bits.deBruijn32tab", laid_math_bits_deBruijn32tab), ("math/bits.deBruijn64tab", laid_math_bits_deBruijn64tab), ("internal/strconv.uint64pow10", laid_internal_strconv_uint64pow10), ("unicode/utf8.acceptRanges", laid_unicode_utf8_acceptRanges), ("unicode/utf8.first", laid_unicode_utf8_first)], narrowed := true }
def SkyPlacesUptoSaid : Prop := skyPlacesUptoRow.holds Tryz.pinned (OpenSpec.upto skyPlacesSpec)

/-- 'tellurionlaw05.SkyNexts', WHERE WHAT IT READS IS OF BULK AT MOST 1048576: true; the input reads as it did. -/
def skyNextsUptoRow : OpenClaim := { program := "ytlcddcnmoajpjaagreatdoor", sum := "c6350785a9339ad89311141a4e6c2b9f04848f46dffe0fde58392092be07eb5d", func := "tellurion/tellurionlaw05.SkyNexts", spec := "skyNexts", inPlace := ["internal/bytealg.CountString", "internal/bytealg.IndexByteString", "internal/bytealg.IndexString", "internal/abi.NoEscape", "internal/bytealg.MakeNoZero"], unfollowed := true, recurses := true, named := ["unicode/utf8.first", "unicode/utf8.acceptRanges", "internal/bytealg.MaxLen", "internal/strconv.uint64pow10", "math/bits.deBruijn32tab", "math/bits.deBruijn64tab"], apart := false, laid := [("math/bits.deBruijn32tab", laid_math_bits_deBruijn32tab), ("math/bits.deBruijn64tab", laid_math_bits_deBruijn64tab), ("internal/strconv.uint64pow10", laid_internal_strconv_uint64pow10), ("unicode/utf8.acceptRanges", laid_unicode_utf8_acceptRanges), ("unicode/utf8.first", laid_unicode_utf8_first)], narrowed := true }
def SkyNextsUptoSaid : Prop := skyNextsUptoRow.holds Tryz.pinned (OpenSpec.upto skyNextsSpec)

/-- 'tellurionlaw05.SkyFirst', WHERE WHAT IT READS IS OF BULK AT MOST 1048576: true; the input reads as it did. -/
def skyFirstUptoRow : OpenClaim := { program := "ytlcddcnmoajpjaagreatdoor", sum := "c6350785a9339ad89311141a4e6c2b9f04848f46dffe0fde58392092be07eb5d", func := "tellurion/tellurionlaw05.SkyFirst", spec := "skyFirst", inPlace := ["internal/bytealg.CountString", "internal/bytealg.IndexByteString", "internal/bytealg.IndexString", "internal/abi.NoEscape", "internal/bytealg.MakeNoZero"], unfollowed := true, recurses := true, named := ["unicode/utf8.first", "unicode/utf8.acceptRanges", "internal/bytealg.MaxLen", "internal/strconv.uint64pow10", "math/bits.deBruijn32tab", "math/bits.deBruijn64tab"], apart := false, laid := [("math/bits.deBruijn32tab", laid_math_bits_deBruijn32tab), ("math/bits.deBruijn64tab", laid_math_bits_deBruijn64tab), ("internal/strconv.uint64pow10", laid_internal_strconv_uint64pow10), ("unicode/utf8.acceptRanges", laid_unicode_utf8_acceptRanges), ("unicode/utf8.first", laid_unicode_utf8_first)], narrowed := true }
def SkyFirstUptoSaid : Prop := skyFirstUptoRow.holds Tryz.pinned (OpenSpec.upto skyFirstSpec)

end Rows
end Go.Proofs.YtlcddcnmoajpjaaGreatDoor
