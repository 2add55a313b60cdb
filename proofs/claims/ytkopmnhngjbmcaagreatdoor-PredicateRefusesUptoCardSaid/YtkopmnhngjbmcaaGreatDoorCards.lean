/-
  DERIVED. GIVEN WITH THE SEED: THE CARDS: each row of YtkopmnhngjbmcaaGreatDoorRows.lean that lists a variable, with what it lists TIED to the program's text (the seventh form; the later family's looks); each row that meets fmt, with fmt's text TOLD by the authors' own Lean function (tested against real Go, not proved from fmt's source: count such statements apart). THE CARD IS WHAT COUNTS. Prove the row's statement (the work); the ties are given (YtkopmnhngjbmcaaGreatDoorTie.lean); close each card by the builder's one call (the guide's Derived/Test/ToyasCard.lean, 'card_holds'). Laid BY PROGRAM, IN A SANDBOX (cutbox-door.mjs). By AI agents, Wed Nov 11 2026. No macro, syntax, notation, axiom, sorry.
-/
import Derived.Test.YtkopmnhngjbmcaaGreatDoorRows
import GoSem.ClaimSeven
namespace Go.Proofs.YtkopmnhngjbmcaaGreatDoor
namespace Rows

/-- THE TIED CARD OF 'parolelaw28.PredicateTexts'. -/
def predicateTextsCard : Claim7 := { stood := { row := predicateTextsRow, standIns := [], harness := (true, "e72d5470c65ec12a14538fc686d632b0904c9fa5a8d667d0d65dafd93cc99751"), looks := true }, kinds := [], alts := [], laidByText := true, laidKinds := [.data, .data, .data, .sentinel, .sentinel], laidTests := true, laidLooks := .later }
def PredicateTextsCardSaid : Prop := Claim7.holds Tryz.pinned (.plain (OpenSpec.ofChange predicateTextsSpec)) predicateTextsCard

/-- THE TIED CARD OF 'parolelaw28.PredicateRefuses'. -/
def predicateRefusesCard : Claim7 := { stood := { row := predicateRefusesRow, standIns := [], harness := (true, "e72d5470c65ec12a14538fc686d632b0904c9fa5a8d667d0d65dafd93cc99751"), looks := true }, kinds := [], alts := [], laidByText := true, laidKinds := [.data, .data, .data, .sentinel, .sentinel], laidTests := true, laidLooks := .later }
def PredicateRefusesCardSaid : Prop := Claim7.holds Tryz.pinned (.plain (OpenSpec.ofChange predicateRefusesSpec)) predicateRefusesCard

/-- THE TIED CARD OF 'parolelaw29.PromiseBooks'. -/
def promiseBooksCard : Claim7 := { stood := { row := promiseBooksRow, standIns := [], harness := (true, "e72d5470c65ec12a14538fc686d632b0904c9fa5a8d667d0d65dafd93cc99751"), looks := true }, kinds := [], alts := [], laidByText := true, laidKinds := [.data, .data, .data, .sentinel, .sentinel], laidTests := true, laidLooks := .later }
def PromiseBooksCardSaid : Prop := Claim7.holds Tryz.pinned (.plain (OpenSpec.ofChange promiseBooksSpec)) promiseBooksCard

/-- THE TIED CARD OF 'parolelaw29.PromiseTimes'. -/
def promiseTimesCard : Claim7 := { stood := { row := promiseTimesRow, standIns := [], harness := (true, "e72d5470c65ec12a14538fc686d632b0904c9fa5a8d667d0d65dafd93cc99751"), looks := true }, kinds := [], alts := [], laidByText := true, laidKinds := [.data, .data, .data, .sentinel, .sentinel], laidTests := true, laidLooks := .later }
def PromiseTimesCardSaid : Prop := Claim7.holds Tryz.pinned (.plain (OpenSpec.ofChange promiseTimesSpec)) promiseTimesCard

/-- THE TIED CARD OF 'parolelaw29.PromiseScopes'. -/
def promiseScopesCard : Claim7 := { stood := { row := promiseScopesRow, standIns := [], harness := (true, "e72d5470c65ec12a14538fc686d632b0904c9fa5a8d667d0d65dafd93cc99751"), looks := true }, kinds := [], alts := [], laidByText := true, laidKinds := [.data, .data, .data, .sentinel, .sentinel], laidTests := true, laidLooks := .later }
def PromiseScopesCardSaid : Prop := Claim7.holds Tryz.pinned (.plain (OpenSpec.ofChange promiseScopesSpec)) promiseScopesCard

/-- THE TIED CARD OF 'parolelaw29.PromiseTexts'. -/
def promiseTextsCard : Claim7 := { stood := { row := promiseTextsRow, standIns := [], harness := (true, "e72d5470c65ec12a14538fc686d632b0904c9fa5a8d667d0d65dafd93cc99751"), looks := true }, kinds := [], alts := [], laidByText := true, laidKinds := [.data, .data, .data, .sentinel, .sentinel], laidTests := true, laidLooks := .later }
def PromiseTextsCardSaid : Prop := Claim7.holds Tryz.pinned (.plain (OpenSpec.ofChange promiseTextsSpec)) promiseTextsCard

/-- THE TIED CARD OF 'parolelaw29.PromiseMatchesReference'. -/
def promiseMatchesReferenceCard : Claim7 := { stood := { row := promiseMatchesReferenceRow, standIns := [], harness := (true, "e72d5470c65ec12a14538fc686d632b0904c9fa5a8d667d0d65dafd93cc99751"), looks := true }, kinds := [], alts := [], laidByText := true, laidKinds := [.data, .data, .data, .sentinel, .sentinel], laidTests := true, laidLooks := .later }
def PromiseMatchesReferenceCardSaid : Prop := Claim7.holds Tryz.pinned (.plain (OpenSpec.ofChange promiseMatchesReferenceSpec)) promiseMatchesReferenceCard

/-- THE TIED CARD OF 'parolelaw29.PromiseRight'. -/
def promiseRightCard : Claim7 := { stood := { row := promiseRightRow, standIns := [], harness := (true, "e72d5470c65ec12a14538fc686d632b0904c9fa5a8d667d0d65dafd93cc99751"), looks := true }, kinds := [], alts := [], laidByText := true, laidKinds := [.data, .data, .data, .sentinel, .sentinel], laidTests := true, laidLooks := .later }
def PromiseRightCardSaid : Prop := Claim7.holds Tryz.pinned (.plain (OpenSpec.ofChange promiseRightSpec)) promiseRightCard

/-- THE TIED CARD OF 'parolelaw28.PredicateLogic'. -/
def predicateLogicCard : Claim7 := { stood := { row := predicateLogicRow, standIns := [], harness := (true, "e72d5470c65ec12a14538fc686d632b0904c9fa5a8d667d0d65dafd93cc99751"), looks := true }, kinds := [], alts := [], laidByText := true, laidKinds := [.data, .data, .data, .sentinel, .sentinel], laidTests := true, laidLooks := .later }
def PredicateLogicCardSaid : Prop := Claim7.holds Tryz.pinned (.plain (OpenSpec.ofChange predicateLogicSpec)) predicateLogicCard

/-- THE TIED CARD OF 'parolelaw28.PredicateSound'. -/
def predicateSoundCard : Claim7 := { stood := { row := predicateSoundRow, standIns := [], harness := (true, "e72d5470c65ec12a14538fc686d632b0904c9fa5a8d667d0d65dafd93cc99751"), looks := true }, kinds := [], alts := [], laidByText := true, laidKinds := [.data, .data, .data, .sentinel, .sentinel], laidTests := true, laidLooks := .later }
def PredicateSoundCardSaid : Prop := Claim7.holds Tryz.pinned (.plain (OpenSpec.ofChange predicateSoundSpec)) predicateSoundCard

/-- THE SECOND FORM's CARD OF 'parolelaw28.PredicateTexts'. -/
def predicateTextsUptoCard : Claim7 := { stood := { row := predicateTextsUptoRow, standIns := [], harness := (true, "e72d5470c65ec12a14538fc686d632b0904c9fa5a8d667d0d65dafd93cc99751"), looks := true }, kinds := [], alts := [], laidByText := true, laidKinds := [.data, .data, .data, .sentinel, .sentinel], laidTests := true, laidLooks := .later }
def PredicateTextsUptoCardSaid : Prop := Claim7.holds Tryz.pinned (.plain (OpenSpec.upto predicateTextsSpec)) predicateTextsUptoCard

/-- THE SECOND FORM's CARD OF 'parolelaw28.PredicateRefuses'. -/
def predicateRefusesUptoCard : Claim7 := { stood := { row := predicateRefusesUptoRow, standIns := [], harness := (true, "e72d5470c65ec12a14538fc686d632b0904c9fa5a8d667d0d65dafd93cc99751"), looks := true }, kinds := [], alts := [], laidByText := true, laidKinds := [.data, .data, .data, .sentinel, .sentinel], laidTests := true, laidLooks := .later }
def PredicateRefusesUptoCardSaid : Prop := Claim7.holds Tryz.pinned (.plain (OpenSpec.upto predicateRefusesSpec)) predicateRefusesUptoCard

/-- THE SECOND FORM's CARD OF 'parolelaw29.PromiseBooks'. -/
def promiseBooksUptoCard : Claim7 := { stood := { row := promiseBooksUptoRow, standIns := [], harness := (true, "e72d5470c65ec12a14538fc686d632b0904c9fa5a8d667d0d65dafd93cc99751"), looks := true }, kinds := [], alts := [], laidByText := true, laidKinds := [.data, .data, .data, .sentinel, .sentinel], laidTests := true, laidLooks := .later }
def PromiseBooksUptoCardSaid : Prop := Claim7.holds Tryz.pinned (.plain (OpenSpec.upto promiseBooksSpec)) promiseBooksUptoCard

/-- THE SECOND FORM's CARD OF 'parolelaw29.PromiseTimes'. -/
def promiseTimesUptoCard : Claim7 := { stood := { row := promiseTimesUptoRow, standIns := [], harness := (true, "e72d5470c65ec12a14538fc686d632b0904c9fa5a8d667d0d65dafd93cc99751"), looks := true }, kinds := [], alts := [], laidByText := true, laidKinds := [.data, .data, .data, .sentinel, .sentinel], laidTests := true, laidLooks := .later }
def PromiseTimesUptoCardSaid : Prop := Claim7.holds Tryz.pinned (.plain (OpenSpec.upto promiseTimesSpec)) promiseTimesUptoCard

/-- THE SECOND FORM's CARD OF 'parolelaw29.PromiseScopes'. -/
def promiseScopesUptoCard : Claim7 := { stood := { row := promiseScopesUptoRow, standIns := [], harness := (true, "e72d5470c65ec12a14538fc686d632b0904c9fa5a8d667d0d65dafd93cc99751"), looks := true }, kinds := [], alts := [], laidByText := true, laidKinds := [.data, .data, .data, .sentinel, .sentinel], laidTests := true, laidLooks := .later }
def PromiseScopesUptoCardSaid : Prop := Claim7.holds Tryz.pinned (.plain (OpenSpec.upto promiseScopesSpec)) promiseScopesUptoCard

/-- THE SECOND FORM's CARD OF 'parolelaw29.PromiseTexts'. -/
def promiseTextsUptoCard : Claim7 := { stood := { row := promiseTextsUptoRow, standIns := [], harness := (true, "e72d5470c65ec12a14538fc686d632b0904c9fa5a8d667d0d65dafd93cc99751"), looks := true }, kinds := [], alts := [], laidByText := true, laidKinds := [.data, .data, .data, .sentinel, .sentinel], laidTests := true, laidLooks := .later }
def PromiseTextsUptoCardSaid : Prop := Claim7.holds Tryz.pinned (.plain (OpenSpec.upto promiseTextsSpec)) promiseTextsUptoCard

/-- THE SECOND FORM's CARD OF 'parolelaw29.PromiseMatchesReference'. -/
def promiseMatchesReferenceUptoCard : Claim7 := { stood := { row := promiseMatchesReferenceUptoRow, standIns := [], harness := (true, "e72d5470c65ec12a14538fc686d632b0904c9fa5a8d667d0d65dafd93cc99751"), looks := true }, kinds := [], alts := [], laidByText := true, laidKinds := [.data, .data, .data, .sentinel, .sentinel], laidTests := true, laidLooks := .later }
def PromiseMatchesReferenceUptoCardSaid : Prop := Claim7.holds Tryz.pinned (.plain (OpenSpec.upto promiseMatchesReferenceSpec)) promiseMatchesReferenceUptoCard

/-- THE SECOND FORM's CARD OF 'parolelaw29.PromiseRight'. -/
def promiseRightUptoCard : Claim7 := { stood := { row := promiseRightUptoRow, standIns := [], harness := (true, "e72d5470c65ec12a14538fc686d632b0904c9fa5a8d667d0d65dafd93cc99751"), looks := true }, kinds := [], alts := [], laidByText := true, laidKinds := [.data, .data, .data, .sentinel, .sentinel], laidTests := true, laidLooks := .later }
def PromiseRightUptoCardSaid : Prop := Claim7.holds Tryz.pinned (.plain (OpenSpec.upto promiseRightSpec)) promiseRightUptoCard

/-- THE SECOND FORM's CARD OF 'parolelaw28.PredicateLogic'. -/
def predicateLogicUptoCard : Claim7 := { stood := { row := predicateLogicUptoRow, standIns := [], harness := (true, "e72d5470c65ec12a14538fc686d632b0904c9fa5a8d667d0d65dafd93cc99751"), looks := true }, kinds := [], alts := [], laidByText := true, laidKinds := [.data, .data, .data, .sentinel, .sentinel], laidTests := true, laidLooks := .later }
def PredicateLogicUptoCardSaid : Prop := Claim7.holds Tryz.pinned (.plain (OpenSpec.upto predicateLogicSpec)) predicateLogicUptoCard

/-- THE SECOND FORM's CARD OF 'parolelaw28.PredicateSound'. -/
def predicateSoundUptoCard : Claim7 := { stood := { row := predicateSoundUptoRow, standIns := [], harness := (true, "e72d5470c65ec12a14538fc686d632b0904c9fa5a8d667d0d65dafd93cc99751"), looks := true }, kinds := [], alts := [], laidByText := true, laidKinds := [.data, .data, .data, .sentinel, .sentinel], laidTests := true, laidLooks := .later }
def PredicateSoundUptoCardSaid : Prop := Claim7.holds Tryz.pinned (.plain (OpenSpec.upto predicateSoundSpec)) predicateSoundUptoCard
end Rows
end Go.Proofs.YtkopmnhngjbmcaaGreatDoor
