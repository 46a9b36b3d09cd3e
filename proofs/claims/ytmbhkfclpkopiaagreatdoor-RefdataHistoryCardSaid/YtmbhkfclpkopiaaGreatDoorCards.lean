/-
  DERIVED. GIVEN WITH THE SEED: THE CARDS: each row of YtmbhkfclpkopiaaGreatDoorRows.lean that lists a variable, with what it lists TIED to the program's text (the seventh form; the later family's looks); each row that meets fmt, with fmt's text TOLD by the authors' own Lean function (tested against real Go, not proved from fmt's source: count such statements apart). THE CARD IS WHAT COUNTS. Prove the row's statement (the work); the ties are given (YtmbhkfclpkopiaaGreatDoorTie.lean); close each card by the builder's one call (the guide's Derived/Test/ToyasCard.lean, 'card_holds'). Laid BY PROGRAM, IN A SANDBOX (cutbox-door.mjs). By AI agents, Wed Nov 11 2026. No macro, syntax, notation, axiom, sorry.
-/
import Derived.Test.YtmbhkfclpkopiaaGreatDoorRows
import GoSem.ClaimSeven
namespace Go.Proofs.YtmbhkfclpkopiaaGreatDoor
namespace Rows

/-- THE TIED CARD OF 'girolaw21.RefdataLookup'. -/
def refdataLookupCard : Claim7 := { stood := { row := refdataLookupRow, standIns := [], harness := (true, "dcf4bccd9396559be0947e60cc08540ff570da1892a2d2c22751d42d717b54e4"), looks := true }, kinds := [], alts := [], laidByText := true, laidKinds := [.data, .data, .data], laidTests := true, laidLooks := .later }
def RefdataLookupCardSaid : Prop := Claim7.holds Tryz.pinned (.plain (OpenSpec.ofChange refdataLookupSpec)) refdataLookupCard

/-- THE TIED CARD OF 'girolaw21.RefdataHistory'. -/
def refdataHistoryCard : Claim7 := { stood := { row := refdataHistoryRow, standIns := [], harness := (true, "dcf4bccd9396559be0947e60cc08540ff570da1892a2d2c22751d42d717b54e4"), looks := true }, kinds := [], alts := [], laidByText := true, laidKinds := [.data, .data, .data], laidTests := true, laidLooks := .later }
def RefdataHistoryCardSaid : Prop := Claim7.holds Tryz.pinned (.plain (OpenSpec.ofChange refdataHistorySpec)) refdataHistoryCard

/-- THE TIED CARD OF 'girolaw21.RefdataOpenEnded'. -/
def refdataOpenEndedCard : Claim7 := { stood := { row := refdataOpenEndedRow, standIns := [], harness := (true, "dcf4bccd9396559be0947e60cc08540ff570da1892a2d2c22751d42d717b54e4"), looks := true }, kinds := [], alts := [], laidByText := true, laidKinds := [.data, .data, .data], laidTests := true, laidLooks := .later }
def RefdataOpenEndedCardSaid : Prop := Claim7.holds Tryz.pinned (.plain (OpenSpec.ofChange refdataOpenEndedSpec)) refdataOpenEndedCard

/-- THE TIED CARD OF 'girolaw21.RefdataAtomic'. -/
def refdataAtomicCard : Claim7 := { stood := { row := refdataAtomicRow, standIns := [], harness := (true, "dcf4bccd9396559be0947e60cc08540ff570da1892a2d2c22751d42d717b54e4"), looks := true }, kinds := [], alts := [], laidByText := true, laidKinds := [.data, .data, .data], laidTests := true, laidLooks := .later }
def RefdataAtomicCardSaid : Prop := Claim7.holds Tryz.pinned (.plain (OpenSpec.ofChange refdataAtomicSpec)) refdataAtomicCard

/-- THE TIED CARD OF 'girolaw22.ValidationRequests'. -/
def validationRequestsCard : Claim7 := { stood := { row := validationRequestsRow, standIns := [], harness := (true, "dcf4bccd9396559be0947e60cc08540ff570da1892a2d2c22751d42d717b54e4"), looks := true }, kinds := [], alts := [], laidByText := true, laidKinds := [.data, .data, .data, .funcs], laidTests := true, laidLooks := .later }
def ValidationRequestsCardSaid : Prop := Claim7.holds Tryz.pinned (.plain (OpenSpec.ofChange validationRequestsSpec)) validationRequestsCard

/-- THE TIED CARD OF 'girolaw21.RefdataReplace'. -/
def refdataReplaceCard : Claim7 := { stood := { row := refdataReplaceRow, standIns := [], harness := (true, "dcf4bccd9396559be0947e60cc08540ff570da1892a2d2c22751d42d717b54e4"), looks := true }, kinds := [], alts := [], laidByText := true, laidKinds := [.data, .data, .data], laidTests := true, laidLooks := .later }
def RefdataReplaceCardSaid : Prop := Claim7.holds Tryz.pinned (.plain (OpenSpec.ofChange refdataReplaceSpec)) refdataReplaceCard

/-- THE TIED CARD OF 'girolaw22.ValidationEnv'. -/
def validationEnvCard : Claim7 := { stood := { row := validationEnvRow, standIns := [], harness := (true, "dcf4bccd9396559be0947e60cc08540ff570da1892a2d2c22751d42d717b54e4"), looks := true }, kinds := [], alts := [], laidByText := true, laidKinds := [.data, .data, .data, .funcs], laidTests := true, laidLooks := .later }
def ValidationEnvCardSaid : Prop := Claim7.holds Tryz.pinned (.plain (OpenSpec.ofChange validationEnvSpec)) validationEnvCard

/-- THE TIED CARD OF 'girolaw21.RefdataCommute'. -/
def refdataCommuteCard : Claim7 := { stood := { row := refdataCommuteRow, standIns := [], harness := (true, "dcf4bccd9396559be0947e60cc08540ff570da1892a2d2c22751d42d717b54e4"), looks := true }, kinds := [], alts := [], laidByText := true, laidKinds := [.data, .data, .data], laidTests := true, laidLooks := .later }
def RefdataCommuteCardSaid : Prop := Claim7.holds Tryz.pinned (.plain (OpenSpec.ofChange refdataCommuteSpec)) refdataCommuteCard

/-- THE TIED CARD OF 'girolaw21.RefdataLists'. -/
def refdataListsCard : Claim7 := { stood := { row := refdataListsRow, standIns := [], harness := (true, "dcf4bccd9396559be0947e60cc08540ff570da1892a2d2c22751d42d717b54e4"), looks := true }, kinds := [], alts := [], laidByText := true, laidKinds := [.data, .data, .data], laidTests := true, laidLooks := .later }
def RefdataListsCardSaid : Prop := Claim7.holds Tryz.pinned (.plain (OpenSpec.ofChange refdataListsSpec)) refdataListsCard

/-- THE TIED CARD OF 'girolaw21.RefdataNilClone'. -/
def refdataNilCloneCard : Claim7 := { stood := { row := refdataNilCloneRow, standIns := [], harness := (true, "dcf4bccd9396559be0947e60cc08540ff570da1892a2d2c22751d42d717b54e4"), looks := true }, kinds := [], alts := [], laidByText := true, laidKinds := [.data, .data, .data], laidTests := true, laidLooks := .later }
def RefdataNilCloneCardSaid : Prop := Claim7.holds Tryz.pinned (.plain (OpenSpec.ofChange refdataNilCloneSpec)) refdataNilCloneCard

/-- THE TIED CARD OF 'girolaw22.ValidationNames'. -/
def validationNamesCard : Claim7 := { stood := { row := validationNamesRow, standIns := [], harness := (true, "dcf4bccd9396559be0947e60cc08540ff570da1892a2d2c22751d42d717b54e4"), looks := true }, kinds := [], alts := [], laidByText := true, laidKinds := [.data, .data, .data, .funcs], laidTests := true, laidLooks := .later }
def ValidationNamesCardSaid : Prop := Claim7.holds Tryz.pinned (.plain (OpenSpec.ofChange validationNamesSpec)) validationNamesCard

/-- THE TIED CARD OF 'girolaw22.ValidationCheck'. -/
def validationCheckCard : Claim7 := { stood := { row := validationCheckRow, standIns := [], harness := (true, "dcf4bccd9396559be0947e60cc08540ff570da1892a2d2c22751d42d717b54e4"), looks := true }, kinds := [], alts := [], laidByText := true, laidKinds := [.data, .data, .data, .funcs], laidTests := true, laidLooks := .later }
def ValidationCheckCardSaid : Prop := Claim7.holds Tryz.pinned (.plain (OpenSpec.ofChange validationCheckSpec)) validationCheckCard

/-- THE TIED CARD OF 'girolaw22.ValidationMirror'. -/
def validationMirrorCard : Claim7 := { stood := { row := validationMirrorRow, standIns := [], harness := (true, "dcf4bccd9396559be0947e60cc08540ff570da1892a2d2c22751d42d717b54e4"), looks := true }, kinds := [], alts := [], laidByText := true, laidKinds := [.data, .data, .data, .funcs], laidTests := true, laidLooks := .later }
def ValidationMirrorCardSaid : Prop := Claim7.holds Tryz.pinned (.plain (OpenSpec.ofChange validationMirrorSpec)) validationMirrorCard

/-- THE TIED CARD OF 'girolaw22.ValidationFailures'. -/
def validationFailuresCard : Claim7 := { stood := { row := validationFailuresRow, standIns := [], harness := (true, "dcf4bccd9396559be0947e60cc08540ff570da1892a2d2c22751d42d717b54e4"), looks := true }, kinds := [], alts := [], laidByText := true, laidKinds := [.data, .data, .data, .funcs], laidTests := true, laidLooks := .later }
def ValidationFailuresCardSaid : Prop := Claim7.holds Tryz.pinned (.plain (OpenSpec.ofChange validationFailuresSpec)) validationFailuresCard

/-- THE TIED CARD OF 'girolaw22.ValidationFuture'. -/
def validationFutureCard : Claim7 := { stood := { row := validationFutureRow, standIns := [], harness := (true, "dcf4bccd9396559be0947e60cc08540ff570da1892a2d2c22751d42d717b54e4"), looks := true }, kinds := [], alts := [], laidByText := true, laidKinds := [.data, .data, .data, .funcs], laidTests := true, laidLooks := .later }
def ValidationFutureCardSaid : Prop := Claim7.holds Tryz.pinned (.plain (OpenSpec.ofChange validationFutureSpec)) validationFutureCard

/-- THE TIED CARD OF 'girolaw22.ValidationNextDay'. -/
def validationNextDayCard : Claim7 := { stood := { row := validationNextDayRow, standIns := [], harness := (true, "dcf4bccd9396559be0947e60cc08540ff570da1892a2d2c22751d42d717b54e4"), looks := true }, kinds := [], alts := [], laidByText := true, laidKinds := [.data, .data, .data, .funcs], laidTests := true, laidLooks := .later }
def ValidationNextDayCardSaid : Prop := Claim7.holds Tryz.pinned (.plain (OpenSpec.ofChange validationNextDaySpec)) validationNextDayCard

/-- THE TIED CARD OF 'girolaw22.ValidationAmend'. -/
def validationAmendCard : Claim7 := { stood := { row := validationAmendRow, standIns := [], harness := (true, "dcf4bccd9396559be0947e60cc08540ff570da1892a2d2c22751d42d717b54e4"), looks := true }, kinds := [], alts := [], laidByText := true, laidKinds := [.data, .data, .data, .funcs], laidTests := true, laidLooks := .later }
def ValidationAmendCardSaid : Prop := Claim7.holds Tryz.pinned (.plain (OpenSpec.ofChange validationAmendSpec)) validationAmendCard

/-- THE SECOND FORM's CARD OF 'girolaw21.RefdataLookup'. -/
def refdataLookupUptoCard : Claim7 := { stood := { row := refdataLookupUptoRow, standIns := [], harness := (true, "dcf4bccd9396559be0947e60cc08540ff570da1892a2d2c22751d42d717b54e4"), looks := true }, kinds := [], alts := [], laidByText := true, laidKinds := [.data, .data, .data], laidTests := true, laidLooks := .later }
def RefdataLookupUptoCardSaid : Prop := Claim7.holds Tryz.pinned (.plain (OpenSpec.upto refdataLookupSpec)) refdataLookupUptoCard

/-- THE SECOND FORM's CARD OF 'girolaw21.RefdataHistory'. -/
def refdataHistoryUptoCard : Claim7 := { stood := { row := refdataHistoryUptoRow, standIns := [], harness := (true, "dcf4bccd9396559be0947e60cc08540ff570da1892a2d2c22751d42d717b54e4"), looks := true }, kinds := [], alts := [], laidByText := true, laidKinds := [.data, .data, .data], laidTests := true, laidLooks := .later }
def RefdataHistoryUptoCardSaid : Prop := Claim7.holds Tryz.pinned (.plain (OpenSpec.upto refdataHistorySpec)) refdataHistoryUptoCard

/-- THE SECOND FORM's CARD OF 'girolaw21.RefdataOpenEnded'. -/
def refdataOpenEndedUptoCard : Claim7 := { stood := { row := refdataOpenEndedUptoRow, standIns := [], harness := (true, "dcf4bccd9396559be0947e60cc08540ff570da1892a2d2c22751d42d717b54e4"), looks := true }, kinds := [], alts := [], laidByText := true, laidKinds := [.data, .data, .data], laidTests := true, laidLooks := .later }
def RefdataOpenEndedUptoCardSaid : Prop := Claim7.holds Tryz.pinned (.plain (OpenSpec.upto refdataOpenEndedSpec)) refdataOpenEndedUptoCard

/-- THE SECOND FORM's CARD OF 'girolaw21.RefdataAtomic'. -/
def refdataAtomicUptoCard : Claim7 := { stood := { row := refdataAtomicUptoRow, standIns := [], harness := (true, "dcf4bccd9396559be0947e60cc08540ff570da1892a2d2c22751d42d717b54e4"), looks := true }, kinds := [], alts := [], laidByText := true, laidKinds := [.data, .data, .data], laidTests := true, laidLooks := .later }
def RefdataAtomicUptoCardSaid : Prop := Claim7.holds Tryz.pinned (.plain (OpenSpec.upto refdataAtomicSpec)) refdataAtomicUptoCard

/-- THE SECOND FORM's CARD OF 'girolaw22.ValidationRequests'. -/
def validationRequestsUptoCard : Claim7 := { stood := { row := validationRequestsUptoRow, standIns := [], harness := (true, "dcf4bccd9396559be0947e60cc08540ff570da1892a2d2c22751d42d717b54e4"), looks := true }, kinds := [], alts := [], laidByText := true, laidKinds := [.data, .data, .data, .funcs], laidTests := true, laidLooks := .later }
def ValidationRequestsUptoCardSaid : Prop := Claim7.holds Tryz.pinned (.plain (OpenSpec.upto validationRequestsSpec)) validationRequestsUptoCard

/-- THE SECOND FORM's CARD OF 'girolaw21.RefdataReplace'. -/
def refdataReplaceUptoCard : Claim7 := { stood := { row := refdataReplaceUptoRow, standIns := [], harness := (true, "dcf4bccd9396559be0947e60cc08540ff570da1892a2d2c22751d42d717b54e4"), looks := true }, kinds := [], alts := [], laidByText := true, laidKinds := [.data, .data, .data], laidTests := true, laidLooks := .later }
def RefdataReplaceUptoCardSaid : Prop := Claim7.holds Tryz.pinned (.plain (OpenSpec.upto refdataReplaceSpec)) refdataReplaceUptoCard

/-- THE SECOND FORM's CARD OF 'girolaw22.ValidationEnv'. -/
def validationEnvUptoCard : Claim7 := { stood := { row := validationEnvUptoRow, standIns := [], harness := (true, "dcf4bccd9396559be0947e60cc08540ff570da1892a2d2c22751d42d717b54e4"), looks := true }, kinds := [], alts := [], laidByText := true, laidKinds := [.data, .data, .data, .funcs], laidTests := true, laidLooks := .later }
def ValidationEnvUptoCardSaid : Prop := Claim7.holds Tryz.pinned (.plain (OpenSpec.upto validationEnvSpec)) validationEnvUptoCard

/-- THE SECOND FORM's CARD OF 'girolaw21.RefdataCommute'. -/
def refdataCommuteUptoCard : Claim7 := { stood := { row := refdataCommuteUptoRow, standIns := [], harness := (true, "dcf4bccd9396559be0947e60cc08540ff570da1892a2d2c22751d42d717b54e4"), looks := true }, kinds := [], alts := [], laidByText := true, laidKinds := [.data, .data, .data], laidTests := true, laidLooks := .later }
def RefdataCommuteUptoCardSaid : Prop := Claim7.holds Tryz.pinned (.plain (OpenSpec.upto refdataCommuteSpec)) refdataCommuteUptoCard

/-- THE SECOND FORM's CARD OF 'girolaw21.RefdataLists'. -/
def refdataListsUptoCard : Claim7 := { stood := { row := refdataListsUptoRow, standIns := [], harness := (true, "dcf4bccd9396559be0947e60cc08540ff570da1892a2d2c22751d42d717b54e4"), looks := true }, kinds := [], alts := [], laidByText := true, laidKinds := [.data, .data, .data], laidTests := true, laidLooks := .later }
def RefdataListsUptoCardSaid : Prop := Claim7.holds Tryz.pinned (.plain (OpenSpec.upto refdataListsSpec)) refdataListsUptoCard

/-- THE SECOND FORM's CARD OF 'girolaw21.RefdataNilClone'. -/
def refdataNilCloneUptoCard : Claim7 := { stood := { row := refdataNilCloneUptoRow, standIns := [], harness := (true, "dcf4bccd9396559be0947e60cc08540ff570da1892a2d2c22751d42d717b54e4"), looks := true }, kinds := [], alts := [], laidByText := true, laidKinds := [.data, .data, .data], laidTests := true, laidLooks := .later }
def RefdataNilCloneUptoCardSaid : Prop := Claim7.holds Tryz.pinned (.plain (OpenSpec.upto refdataNilCloneSpec)) refdataNilCloneUptoCard

/-- THE SECOND FORM's CARD OF 'girolaw22.ValidationNames'. -/
def validationNamesUptoCard : Claim7 := { stood := { row := validationNamesUptoRow, standIns := [], harness := (true, "dcf4bccd9396559be0947e60cc08540ff570da1892a2d2c22751d42d717b54e4"), looks := true }, kinds := [], alts := [], laidByText := true, laidKinds := [.data, .data, .data, .funcs], laidTests := true, laidLooks := .later }
def ValidationNamesUptoCardSaid : Prop := Claim7.holds Tryz.pinned (.plain (OpenSpec.upto validationNamesSpec)) validationNamesUptoCard

/-- THE SECOND FORM's CARD OF 'girolaw22.ValidationCheck'. -/
def validationCheckUptoCard : Claim7 := { stood := { row := validationCheckUptoRow, standIns := [], harness := (true, "dcf4bccd9396559be0947e60cc08540ff570da1892a2d2c22751d42d717b54e4"), looks := true }, kinds := [], alts := [], laidByText := true, laidKinds := [.data, .data, .data, .funcs], laidTests := true, laidLooks := .later }
def ValidationCheckUptoCardSaid : Prop := Claim7.holds Tryz.pinned (.plain (OpenSpec.upto validationCheckSpec)) validationCheckUptoCard

/-- THE SECOND FORM's CARD OF 'girolaw22.ValidationMirror'. -/
def validationMirrorUptoCard : Claim7 := { stood := { row := validationMirrorUptoRow, standIns := [], harness := (true, "dcf4bccd9396559be0947e60cc08540ff570da1892a2d2c22751d42d717b54e4"), looks := true }, kinds := [], alts := [], laidByText := true, laidKinds := [.data, .data, .data, .funcs], laidTests := true, laidLooks := .later }
def ValidationMirrorUptoCardSaid : Prop := Claim7.holds Tryz.pinned (.plain (OpenSpec.upto validationMirrorSpec)) validationMirrorUptoCard

/-- THE SECOND FORM's CARD OF 'girolaw22.ValidationFailures'. -/
def validationFailuresUptoCard : Claim7 := { stood := { row := validationFailuresUptoRow, standIns := [], harness := (true, "dcf4bccd9396559be0947e60cc08540ff570da1892a2d2c22751d42d717b54e4"), looks := true }, kinds := [], alts := [], laidByText := true, laidKinds := [.data, .data, .data, .funcs], laidTests := true, laidLooks := .later }
def ValidationFailuresUptoCardSaid : Prop := Claim7.holds Tryz.pinned (.plain (OpenSpec.upto validationFailuresSpec)) validationFailuresUptoCard

/-- THE SECOND FORM's CARD OF 'girolaw22.ValidationFuture'. -/
def validationFutureUptoCard : Claim7 := { stood := { row := validationFutureUptoRow, standIns := [], harness := (true, "dcf4bccd9396559be0947e60cc08540ff570da1892a2d2c22751d42d717b54e4"), looks := true }, kinds := [], alts := [], laidByText := true, laidKinds := [.data, .data, .data, .funcs], laidTests := true, laidLooks := .later }
def ValidationFutureUptoCardSaid : Prop := Claim7.holds Tryz.pinned (.plain (OpenSpec.upto validationFutureSpec)) validationFutureUptoCard

/-- THE SECOND FORM's CARD OF 'girolaw22.ValidationNextDay'. -/
def validationNextDayUptoCard : Claim7 := { stood := { row := validationNextDayUptoRow, standIns := [], harness := (true, "dcf4bccd9396559be0947e60cc08540ff570da1892a2d2c22751d42d717b54e4"), looks := true }, kinds := [], alts := [], laidByText := true, laidKinds := [.data, .data, .data, .funcs], laidTests := true, laidLooks := .later }
def ValidationNextDayUptoCardSaid : Prop := Claim7.holds Tryz.pinned (.plain (OpenSpec.upto validationNextDaySpec)) validationNextDayUptoCard

/-- THE SECOND FORM's CARD OF 'girolaw22.ValidationAmend'. -/
def validationAmendUptoCard : Claim7 := { stood := { row := validationAmendUptoRow, standIns := [], harness := (true, "dcf4bccd9396559be0947e60cc08540ff570da1892a2d2c22751d42d717b54e4"), looks := true }, kinds := [], alts := [], laidByText := true, laidKinds := [.data, .data, .data, .funcs], laidTests := true, laidLooks := .later }
def ValidationAmendUptoCardSaid : Prop := Claim7.holds Tryz.pinned (.plain (OpenSpec.upto validationAmendSpec)) validationAmendUptoCard
end Rows
end Go.Proofs.YtmbhkfclpkopiaaGreatDoor
