/-
  DERIVED. GIVEN WITH THE SEED: THE CARDS: each row of YtlcddcnmoajpjaaGreatDoorRows.lean that lists a variable, with what it lists TIED to the program's text (the seventh form; the later family's looks); each row that meets fmt, with fmt's text TOLD by the authors' own Lean function (tested against real Go, not proved from fmt's source: count such statements apart). THE CARD IS WHAT COUNTS. Prove the row's statement (the work); the ties are given (YtlcddcnmoajpjaaGreatDoorTie.lean); close each card by the builder's one call (the guide's Derived/Test/ToyasCard.lean, 'card_holds'). Laid BY PROGRAM, IN A SANDBOX (cutbox-door.mjs). By AI agents, Wed Nov 11 2026. No macro, syntax, notation, axiom, sorry.
-/
import Derived.Test.YtlcddcnmoajpjaaGreatDoorRows
import GoSem.ClaimSeven
namespace Go.Proofs.YtlcddcnmoajpjaaGreatDoor
namespace Rows

/-- THE TIED CARD OF 'tellurionlaw05.SkyMoons'. -/
def skyMoonsCard : Claim7 := { stood := { row := skyMoonsRow, standIns := [], harness := (true, "24726bc524473073bf03be47ef6a8c31fdf41f59a4ac5aff40414c94ace79ea9"), looks := true }, kinds := [], alts := [], laidByText := true, laidKinds := [.data, .data, .data, .data, .pinned], laidTests := true, laidLooks := .later }
def SkyMoonsCardSaid : Prop := Claim7.holds Tryz.pinned (.plain (OpenSpec.ofChange skyMoonsSpec)) skyMoonsCard

/-- THE TIED CARD OF 'tellurionlaw05.SkyCrossed'. -/
def skyCrossedCard : Claim7 := { stood := { row := skyCrossedRow, standIns := [], harness := (true, "24726bc524473073bf03be47ef6a8c31fdf41f59a4ac5aff40414c94ace79ea9"), looks := true }, kinds := [], alts := [], laidByText := true, laidKinds := [.data, .data, .data, .data, .pinned], laidTests := true, laidLooks := .later }
def SkyCrossedCardSaid : Prop := Claim7.holds Tryz.pinned (.plain (OpenSpec.ofChange skyCrossedSpec)) skyCrossedCard

/-- THE TIED CARD OF 'tellurionlaw05.SkyEclipses'. -/
def skyEclipsesCard : Claim7 := { stood := { row := skyEclipsesRow, standIns := [], harness := (true, "24726bc524473073bf03be47ef6a8c31fdf41f59a4ac5aff40414c94ace79ea9"), looks := true }, kinds := [], alts := [], laidByText := true, laidKinds := [.data, .data, .data, .data, .pinned], laidTests := true, laidLooks := .later }
def SkyEclipsesCardSaid : Prop := Claim7.holds Tryz.pinned (.plain (OpenSpec.ofChange skyEclipsesSpec)) skyEclipsesCard

/-- THE TIED CARD OF 'tellurionlaw05.SkyShadows'. -/
def skyShadowsCard : Claim7 := { stood := { row := skyShadowsRow, standIns := [], harness := (true, "24726bc524473073bf03be47ef6a8c31fdf41f59a4ac5aff40414c94ace79ea9"), looks := true }, kinds := [], alts := [], laidByText := true, laidKinds := [.data, .data, .data, .data, .pinned], laidTests := true, laidLooks := .later }
def SkyShadowsCardSaid : Prop := Claim7.holds Tryz.pinned (.plain (OpenSpec.ofChange skyShadowsSpec)) skyShadowsCard

/-- THE TIED CARD OF 'tellurionlaw05.SkySpeeds'. -/
def skySpeedsCard : Claim7 := { stood := { row := skySpeedsRow, standIns := [], harness := (true, "24726bc524473073bf03be47ef6a8c31fdf41f59a4ac5aff40414c94ace79ea9"), looks := true }, kinds := [], alts := [], laidByText := true, laidKinds := [.data, .data, .data, .data, .pinned], laidTests := true, laidLooks := .later }
def SkySpeedsCardSaid : Prop := Claim7.holds Tryz.pinned (.plain (OpenSpec.ofChange skySpeedsSpec)) skySpeedsCard

/-- THE TIED CARD OF 'tellurionlaw05.SkyAgrees'. -/
def skyAgreesCard : Claim7 := { stood := { row := skyAgreesRow, standIns := [], harness := (true, "24726bc524473073bf03be47ef6a8c31fdf41f59a4ac5aff40414c94ace79ea9"), looks := true }, kinds := [], alts := [], laidByText := true, laidKinds := [.data, .data, .data, .data, .pinned], laidTests := true, laidLooks := .later }
def SkyAgreesCardSaid : Prop := Claim7.holds Tryz.pinned (.plain (OpenSpec.ofChange skyAgreesSpec)) skyAgreesCard

/-- THE TIED CARD OF 'tellurionlaw05.SkyWatches'. -/
def skyWatchesCard : Claim7 := { stood := { row := skyWatchesRow, standIns := [], harness := (true, "24726bc524473073bf03be47ef6a8c31fdf41f59a4ac5aff40414c94ace79ea9"), looks := true }, kinds := [], alts := [], laidByText := true, laidKinds := [.data, .data, .data, .data, .pinned], laidTests := true, laidLooks := .later }
def SkyWatchesCardSaid : Prop := Claim7.holds Tryz.pinned (.plain (OpenSpec.ofChange skyWatchesSpec)) skyWatchesCard

/-- THE TIED CARD OF 'tellurionlaw05.SkyWatched'. -/
def skyWatchedCard : Claim7 := { stood := { row := skyWatchedRow, standIns := [], harness := (true, "24726bc524473073bf03be47ef6a8c31fdf41f59a4ac5aff40414c94ace79ea9"), looks := true }, kinds := [], alts := [], laidByText := true, laidKinds := [.data, .data, .data, .data, .pinned], laidTests := true, laidLooks := .later }
def SkyWatchedCardSaid : Prop := Claim7.holds Tryz.pinned (.plain (OpenSpec.ofChange skyWatchedSpec)) skyWatchedCard

/-- THE TIED CARD OF 'tellurionlaw05.SkyMore'. -/
def skyMoreCard : Claim7 := { stood := { row := skyMoreRow, standIns := [], harness := (true, "24726bc524473073bf03be47ef6a8c31fdf41f59a4ac5aff40414c94ace79ea9"), looks := true }, kinds := [], alts := [], laidByText := true, laidKinds := [.data, .data, .data, .data, .pinned], laidTests := true, laidLooks := .later }
def SkyMoreCardSaid : Prop := Claim7.holds Tryz.pinned (.plain (OpenSpec.ofChange skyMoreSpec)) skyMoreCard

/-- THE TIED CARD OF 'tellurionlaw05.SkyTurned'. -/
def skyTurnedCard : Claim7 := { stood := { row := skyTurnedRow, standIns := [], harness := (true, "24726bc524473073bf03be47ef6a8c31fdf41f59a4ac5aff40414c94ace79ea9"), looks := true }, kinds := [], alts := [], laidByText := true, laidKinds := [.data, .data, .data, .data, .pinned], laidTests := true, laidLooks := .later }
def SkyTurnedCardSaid : Prop := Claim7.holds Tryz.pinned (.plain (OpenSpec.ofChange skyTurnedSpec)) skyTurnedCard

/-- THE TIED CARD OF 'tellurionlaw05.SkyEven'. -/
def skyEvenCard : Claim7 := { stood := { row := skyEvenRow, standIns := [], harness := (true, "24726bc524473073bf03be47ef6a8c31fdf41f59a4ac5aff40414c94ace79ea9"), looks := true }, kinds := [], alts := [], laidByText := true, laidKinds := [.data, .data, .data, .data, .pinned], laidTests := true, laidLooks := .later }
def SkyEvenCardSaid : Prop := Claim7.holds Tryz.pinned (.plain (OpenSpec.ofChange skyEvenSpec)) skyEvenCard

/-- THE TIED CARD OF 'tellurionlaw05.SkyPrints'. -/
def skyPrintsCard : Claim7 := { stood := { row := skyPrintsRow, standIns := [], harness := (true, "24726bc524473073bf03be47ef6a8c31fdf41f59a4ac5aff40414c94ace79ea9"), looks := true }, kinds := [], alts := [], laidByText := true, laidKinds := [.data, .data, .data, .data, .pinned], laidTests := true, laidLooks := .later }
def SkyPrintsCardSaid : Prop := Claim7.holds Tryz.pinned (.plain (OpenSpec.ofChange skyPrintsSpec)) skyPrintsCard

/-- THE TIED CARD OF 'tellurionlaw05.SkyReads'. -/
def skyReadsCard : Claim7 := { stood := { row := skyReadsRow, standIns := [], harness := (true, "24726bc524473073bf03be47ef6a8c31fdf41f59a4ac5aff40414c94ace79ea9"), looks := true }, kinds := [], alts := [], laidByText := true, laidKinds := [.data, .data, .data, .data, .pinned], laidTests := true, laidLooks := .later }
def SkyReadsCardSaid : Prop := Claim7.holds Tryz.pinned (.plain (OpenSpec.ofChange skyReadsSpec)) skyReadsCard

/-- THE TIED CARD OF 'tellurionlaw05.SkySpoilt'. -/
def skySpoiltCard : Claim7 := { stood := { row := skySpoiltRow, standIns := [], harness := (true, "24726bc524473073bf03be47ef6a8c31fdf41f59a4ac5aff40414c94ace79ea9"), looks := true }, kinds := [], alts := [], laidByText := true, laidKinds := [.data, .data, .data, .data, .pinned], laidTests := true, laidLooks := .later }
def SkySpoiltCardSaid : Prop := Claim7.holds Tryz.pinned (.plain (OpenSpec.ofChange skySpoiltSpec)) skySpoiltCard

/-- THE TIED CARD OF 'tellurionlaw05.SkyMeets'. -/
def skyMeetsCard : Claim7 := { stood := { row := skyMeetsRow, standIns := [], harness := (true, "24726bc524473073bf03be47ef6a8c31fdf41f59a4ac5aff40414c94ace79ea9"), looks := true }, kinds := [], alts := [], laidByText := true, laidKinds := [.data, .data, .data, .data, .pinned], laidTests := true, laidLooks := .later }
def SkyMeetsCardSaid : Prop := Claim7.holds Tryz.pinned (.plain (OpenSpec.ofChange skyMeetsSpec)) skyMeetsCard

/-- THE TIED CARD OF 'tellurionlaw05.SkyMet'. -/
def skyMetCard : Claim7 := { stood := { row := skyMetRow, standIns := [], harness := (true, "24726bc524473073bf03be47ef6a8c31fdf41f59a4ac5aff40414c94ace79ea9"), looks := true }, kinds := [], alts := [], laidByText := true, laidKinds := [.data, .data, .data, .data, .pinned], laidTests := true, laidLooks := .later }
def SkyMetCardSaid : Prop := Claim7.holds Tryz.pinned (.plain (OpenSpec.ofChange skyMetSpec)) skyMetCard

/-- THE TIED CARD OF 'tellurionlaw05.SkyMonths'. -/
def skyMonthsCard : Claim7 := { stood := { row := skyMonthsRow, standIns := [], harness := (true, "24726bc524473073bf03be47ef6a8c31fdf41f59a4ac5aff40414c94ace79ea9"), looks := true }, kinds := [], alts := [], laidByText := true, laidKinds := [.data, .data, .data, .data, .pinned], laidTests := true, laidLooks := .later }
def SkyMonthsCardSaid : Prop := Claim7.holds Tryz.pinned (.plain (OpenSpec.ofChange skyMonthsSpec)) skyMonthsCard

/-- THE TIED CARD OF 'tellurionlaw05.SkyCycles'. -/
def skyCyclesCard : Claim7 := { stood := { row := skyCyclesRow, standIns := [], harness := (true, "24726bc524473073bf03be47ef6a8c31fdf41f59a4ac5aff40414c94ace79ea9"), looks := true }, kinds := [], alts := [], laidByText := true, laidKinds := [.data, .data, .data, .data, .pinned], laidTests := true, laidLooks := .later }
def SkyCyclesCardSaid : Prop := Claim7.holds Tryz.pinned (.plain (OpenSpec.ofChange skyCyclesSpec)) skyCyclesCard

/-- THE TIED CARD OF 'tellurionlaw05.SkyPlaces'. -/
def skyPlacesCard : Claim7 := { stood := { row := skyPlacesRow, standIns := [], harness := (true, "24726bc524473073bf03be47ef6a8c31fdf41f59a4ac5aff40414c94ace79ea9"), looks := true }, kinds := [], alts := [], laidByText := true, laidKinds := [.data, .data, .data, .data, .pinned], laidTests := true, laidLooks := .later }
def SkyPlacesCardSaid : Prop := Claim7.holds Tryz.pinned (.plain (OpenSpec.ofChange skyPlacesSpec)) skyPlacesCard

/-- THE TIED CARD OF 'tellurionlaw05.SkyNexts'. -/
def skyNextsCard : Claim7 := { stood := { row := skyNextsRow, standIns := [], harness := (true, "24726bc524473073bf03be47ef6a8c31fdf41f59a4ac5aff40414c94ace79ea9"), looks := true }, kinds := [], alts := [], laidByText := true, laidKinds := [.data, .data, .data, .data, .pinned], laidTests := true, laidLooks := .later }
def SkyNextsCardSaid : Prop := Claim7.holds Tryz.pinned (.plain (OpenSpec.ofChange skyNextsSpec)) skyNextsCard

/-- THE TIED CARD OF 'tellurionlaw05.SkyFirst'. -/
def skyFirstCard : Claim7 := { stood := { row := skyFirstRow, standIns := [], harness := (true, "24726bc524473073bf03be47ef6a8c31fdf41f59a4ac5aff40414c94ace79ea9"), looks := true }, kinds := [], alts := [], laidByText := true, laidKinds := [.data, .data, .data, .data, .pinned], laidTests := true, laidLooks := .later }
def SkyFirstCardSaid : Prop := Claim7.holds Tryz.pinned (.plain (OpenSpec.ofChange skyFirstSpec)) skyFirstCard

/-- THE SECOND FORM's CARD OF 'tellurionlaw05.SkyMoons'. -/
def skyMoonsUptoCard : Claim7 := { stood := { row := skyMoonsUptoRow, standIns := [], harness := (true, "24726bc524473073bf03be47ef6a8c31fdf41f59a4ac5aff40414c94ace79ea9"), looks := true }, kinds := [], alts := [], laidByText := true, laidKinds := [.data, .data, .data, .data, .pinned], laidTests := true, laidLooks := .later }
def SkyMoonsUptoCardSaid : Prop := Claim7.holds Tryz.pinned (.plain (OpenSpec.upto skyMoonsSpec)) skyMoonsUptoCard

/-- THE SECOND FORM's CARD OF 'tellurionlaw05.SkyCrossed'. -/
def skyCrossedUptoCard : Claim7 := { stood := { row := skyCrossedUptoRow, standIns := [], harness := (true, "24726bc524473073bf03be47ef6a8c31fdf41f59a4ac5aff40414c94ace79ea9"), looks := true }, kinds := [], alts := [], laidByText := true, laidKinds := [.data, .data, .data, .data, .pinned], laidTests := true, laidLooks := .later }
def SkyCrossedUptoCardSaid : Prop := Claim7.holds Tryz.pinned (.plain (OpenSpec.upto skyCrossedSpec)) skyCrossedUptoCard

/-- THE SECOND FORM's CARD OF 'tellurionlaw05.SkyEclipses'. -/
def skyEclipsesUptoCard : Claim7 := { stood := { row := skyEclipsesUptoRow, standIns := [], harness := (true, "24726bc524473073bf03be47ef6a8c31fdf41f59a4ac5aff40414c94ace79ea9"), looks := true }, kinds := [], alts := [], laidByText := true, laidKinds := [.data, .data, .data, .data, .pinned], laidTests := true, laidLooks := .later }
def SkyEclipsesUptoCardSaid : Prop := Claim7.holds Tryz.pinned (.plain (OpenSpec.upto skyEclipsesSpec)) skyEclipsesUptoCard

/-- THE SECOND FORM's CARD OF 'tellurionlaw05.SkyShadows'. -/
def skyShadowsUptoCard : Claim7 := { stood := { row := skyShadowsUptoRow, standIns := [], harness := (true, "24726bc524473073bf03be47ef6a8c31fdf41f59a4ac5aff40414c94ace79ea9"), looks := true }, kinds := [], alts := [], laidByText := true, laidKinds := [.data, .data, .data, .data, .pinned], laidTests := true, laidLooks := .later }
def SkyShadowsUptoCardSaid : Prop := Claim7.holds Tryz.pinned (.plain (OpenSpec.upto skyShadowsSpec)) skyShadowsUptoCard

/-- THE SECOND FORM's CARD OF 'tellurionlaw05.SkySpeeds'. -/
def skySpeedsUptoCard : Claim7 := { stood := { row := skySpeedsUptoRow, standIns := [], harness := (true, "24726bc524473073bf03be47ef6a8c31fdf41f59a4ac5aff40414c94ace79ea9"), looks := true }, kinds := [], alts := [], laidByText := true, laidKinds := [.data, .data, .data, .data, .pinned], laidTests := true, laidLooks := .later }
def SkySpeedsUptoCardSaid : Prop := Claim7.holds Tryz.pinned (.plain (OpenSpec.upto skySpeedsSpec)) skySpeedsUptoCard

/-- THE SECOND FORM's CARD OF 'tellurionlaw05.SkyAgrees'. -/
def skyAgreesUptoCard : Claim7 := { stood := { row := skyAgreesUptoRow, standIns := [], harness := (true, "24726bc524473073bf03be47ef6a8c31fdf41f59a4ac5aff40414c94ace79ea9"), looks := true }, kinds := [], alts := [], laidByText := true, laidKinds := [.data, .data, .data, .data, .pinned], laidTests := true, laidLooks := .later }
def SkyAgreesUptoCardSaid : Prop := Claim7.holds Tryz.pinned (.plain (OpenSpec.upto skyAgreesSpec)) skyAgreesUptoCard

/-- THE SECOND FORM's CARD OF 'tellurionlaw05.SkyWatches'. -/
def skyWatchesUptoCard : Claim7 := { stood := { row := skyWatchesUptoRow, standIns := [], harness := (true, "24726bc524473073bf03be47ef6a8c31fdf41f59a4ac5aff40414c94ace79ea9"), looks := true }, kinds := [], alts := [], laidByText := true, laidKinds := [.data, .data, .data, .data, .pinned], laidTests := true, laidLooks := .later }
def SkyWatchesUptoCardSaid : Prop := Claim7.holds Tryz.pinned (.plain (OpenSpec.upto skyWatchesSpec)) skyWatchesUptoCard

/-- THE SECOND FORM's CARD OF 'tellurionlaw05.SkyWatched'. -/
def skyWatchedUptoCard : Claim7 := { stood := { row := skyWatchedUptoRow, standIns := [], harness := (true, "24726bc524473073bf03be47ef6a8c31fdf41f59a4ac5aff40414c94ace79ea9"), looks := true }, kinds := [], alts := [], laidByText := true, laidKinds := [.data, .data, .data, .data, .pinned], laidTests := true, laidLooks := .later }
def SkyWatchedUptoCardSaid : Prop := Claim7.holds Tryz.pinned (.plain (OpenSpec.upto skyWatchedSpec)) skyWatchedUptoCard

/-- THE SECOND FORM's CARD OF 'tellurionlaw05.SkyMore'. -/
def skyMoreUptoCard : Claim7 := { stood := { row := skyMoreUptoRow, standIns := [], harness := (true, "24726bc524473073bf03be47ef6a8c31fdf41f59a4ac5aff40414c94ace79ea9"), looks := true }, kinds := [], alts := [], laidByText := true, laidKinds := [.data, .data, .data, .data, .pinned], laidTests := true, laidLooks := .later }
def SkyMoreUptoCardSaid : Prop := Claim7.holds Tryz.pinned (.plain (OpenSpec.upto skyMoreSpec)) skyMoreUptoCard

/-- THE SECOND FORM's CARD OF 'tellurionlaw05.SkyTurned'. -/
def skyTurnedUptoCard : Claim7 := { stood := { row := skyTurnedUptoRow, standIns := [], harness := (true, "24726bc524473073bf03be47ef6a8c31fdf41f59a4ac5aff40414c94ace79ea9"), looks := true }, kinds := [], alts := [], laidByText := true, laidKinds := [.data, .data, .data, .data, .pinned], laidTests := true, laidLooks := .later }
def SkyTurnedUptoCardSaid : Prop := Claim7.holds Tryz.pinned (.plain (OpenSpec.upto skyTurnedSpec)) skyTurnedUptoCard

/-- THE SECOND FORM's CARD OF 'tellurionlaw05.SkyEven'. -/
def skyEvenUptoCard : Claim7 := { stood := { row := skyEvenUptoRow, standIns := [], harness := (true, "24726bc524473073bf03be47ef6a8c31fdf41f59a4ac5aff40414c94ace79ea9"), looks := true }, kinds := [], alts := [], laidByText := true, laidKinds := [.data, .data, .data, .data, .pinned], laidTests := true, laidLooks := .later }
def SkyEvenUptoCardSaid : Prop := Claim7.holds Tryz.pinned (.plain (OpenSpec.upto skyEvenSpec)) skyEvenUptoCard

/-- THE SECOND FORM's CARD OF 'tellurionlaw05.SkyPrints'. -/
def skyPrintsUptoCard : Claim7 := { stood := { row := skyPrintsUptoRow, standIns := [], harness := (true, "24726bc524473073bf03be47ef6a8c31fdf41f59a4ac5aff40414c94ace79ea9"), looks := true }, kinds := [], alts := [], laidByText := true, laidKinds := [.data, .data, .data, .data, .pinned], laidTests := true, laidLooks := .later }
def SkyPrintsUptoCardSaid : Prop := Claim7.holds Tryz.pinned (.plain (OpenSpec.upto skyPrintsSpec)) skyPrintsUptoCard

/-- THE SECOND FORM's CARD OF 'tellurionlaw05.SkyReads'. -/
def skyReadsUptoCard : Claim7 := { stood := { row := skyReadsUptoRow, standIns := [], harness := (true, "24726bc524473073bf03be47ef6a8c31fdf41f59a4ac5aff40414c94ace79ea9"), looks := true }, kinds := [], alts := [], laidByText := true, laidKinds := [.data, .data, .data, .data, .pinned], laidTests := true, laidLooks := .later }
def SkyReadsUptoCardSaid : Prop := Claim7.holds Tryz.pinned (.plain (OpenSpec.upto skyReadsSpec)) skyReadsUptoCard

/-- THE SECOND FORM's CARD OF 'tellurionlaw05.SkySpoilt'. -/
def skySpoiltUptoCard : Claim7 := { stood := { row := skySpoiltUptoRow, standIns := [], harness := (true, "24726bc524473073bf03be47ef6a8c31fdf41f59a4ac5aff40414c94ace79ea9"), looks := true }, kinds := [], alts := [], laidByText := true, laidKinds := [.data, .data, .data, .data, .pinned], laidTests := true, laidLooks := .later }
def SkySpoiltUptoCardSaid : Prop := Claim7.holds Tryz.pinned (.plain (OpenSpec.upto skySpoiltSpec)) skySpoiltUptoCard

/-- THE SECOND FORM's CARD OF 'tellurionlaw05.SkyMeets'. -/
def skyMeetsUptoCard : Claim7 := { stood := { row := skyMeetsUptoRow, standIns := [], harness := (true, "24726bc524473073bf03be47ef6a8c31fdf41f59a4ac5aff40414c94ace79ea9"), looks := true }, kinds := [], alts := [], laidByText := true, laidKinds := [.data, .data, .data, .data, .pinned], laidTests := true, laidLooks := .later }
def SkyMeetsUptoCardSaid : Prop := Claim7.holds Tryz.pinned (.plain (OpenSpec.upto skyMeetsSpec)) skyMeetsUptoCard

/-- THE SECOND FORM's CARD OF 'tellurionlaw05.SkyMet'. -/
def skyMetUptoCard : Claim7 := { stood := { row := skyMetUptoRow, standIns := [], harness := (true, "24726bc524473073bf03be47ef6a8c31fdf41f59a4ac5aff40414c94ace79ea9"), looks := true }, kinds := [], alts := [], laidByText := true, laidKinds := [.data, .data, .data, .data, .pinned], laidTests := true, laidLooks := .later }
def SkyMetUptoCardSaid : Prop := Claim7.holds Tryz.pinned (.plain (OpenSpec.upto skyMetSpec)) skyMetUptoCard

/-- THE SECOND FORM's CARD OF 'tellurionlaw05.SkyMonths'. -/
def skyMonthsUptoCard : Claim7 := { stood := { row := skyMonthsUptoRow, standIns := [], harness := (true, "24726bc524473073bf03be47ef6a8c31fdf41f59a4ac5aff40414c94ace79ea9"), looks := true }, kinds := [], alts := [], laidByText := true, laidKinds := [.data, .data, .data, .data, .pinned], laidTests := true, laidLooks := .later }
def SkyMonthsUptoCardSaid : Prop := Claim7.holds Tryz.pinned (.plain (OpenSpec.upto skyMonthsSpec)) skyMonthsUptoCard

/-- THE SECOND FORM's CARD OF 'tellurionlaw05.SkyCycles'. -/
def skyCyclesUptoCard : Claim7 := { stood := { row := skyCyclesUptoRow, standIns := [], harness := (true, "24726bc524473073bf03be47ef6a8c31fdf41f59a4ac5aff40414c94ace79ea9"), looks := true }, kinds := [], alts := [], laidByText := true, laidKinds := [.data, .data, .data, .data, .pinned], laidTests := true, laidLooks := .later }
def SkyCyclesUptoCardSaid : Prop := Claim7.holds Tryz.pinned (.plain (OpenSpec.upto skyCyclesSpec)) skyCyclesUptoCard

/-- THE SECOND FORM's CARD OF 'tellurionlaw05.SkyPlaces'. -/
def skyPlacesUptoCard : Claim7 := { stood := { row := skyPlacesUptoRow, standIns := [], harness := (true, "24726bc524473073bf03be47ef6a8c31fdf41f59a4ac5aff40414c94ace79ea9"), looks := true }, kinds := [], alts := [], laidByText := true, laidKinds := [.data, .data, .data, .data, .pinned], laidTests := true, laidLooks := .later }
def SkyPlacesUptoCardSaid : Prop := Claim7.holds Tryz.pinned (.plain (OpenSpec.upto skyPlacesSpec)) skyPlacesUptoCard

/-- THE SECOND FORM's CARD OF 'tellurionlaw05.SkyNexts'. -/
def skyNextsUptoCard : Claim7 := { stood := { row := skyNextsUptoRow, standIns := [], harness := (true, "24726bc524473073bf03be47ef6a8c31fdf41f59a4ac5aff40414c94ace79ea9"), looks := true }, kinds := [], alts := [], laidByText := true, laidKinds := [.data, .data, .data, .data, .pinned], laidTests := true, laidLooks := .later }
def SkyNextsUptoCardSaid : Prop := Claim7.holds Tryz.pinned (.plain (OpenSpec.upto skyNextsSpec)) skyNextsUptoCard

/-- THE SECOND FORM's CARD OF 'tellurionlaw05.SkyFirst'. -/
def skyFirstUptoCard : Claim7 := { stood := { row := skyFirstUptoRow, standIns := [], harness := (true, "24726bc524473073bf03be47ef6a8c31fdf41f59a4ac5aff40414c94ace79ea9"), looks := true }, kinds := [], alts := [], laidByText := true, laidKinds := [.data, .data, .data, .data, .pinned], laidTests := true, laidLooks := .later }
def SkyFirstUptoCardSaid : Prop := Claim7.holds Tryz.pinned (.plain (OpenSpec.upto skyFirstSpec)) skyFirstUptoCard
end Rows
end Go.Proofs.YtlcddcnmoajpjaaGreatDoor
