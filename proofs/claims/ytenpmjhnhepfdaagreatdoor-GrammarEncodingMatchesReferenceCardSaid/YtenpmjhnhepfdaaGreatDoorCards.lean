/-
  DERIVED. GIVEN WITH THE SEED: THE CARDS: each row of YtenpmjhnhepfdaaGreatDoorRows.lean that lists a variable, with what it lists TIED to the program's text (the seventh form; the later family's looks); each row that meets fmt, with fmt's text TOLD by the authors' own Lean function (tested against real Go, not proved from fmt's source: count such statements apart). THE CARD IS WHAT COUNTS. Prove the row's statement (the work); the ties are given (YtenpmjhnhepfdaaGreatDoorTie.lean); close each card by the builder's one call (the guide's Derived/Test/ToyasCard.lean, 'card_holds'). Laid BY PROGRAM, IN A SANDBOX (cutbox-door.mjs). By AI agents, Wed Nov 11 2026. No macro, syntax, notation, axiom, sorry.
-/
import Derived.Test.YtenpmjhnhepfdaaGreatDoorRows
import GoSem.ClaimSeven
namespace Go.Proofs.YtenpmjhnhepfdaaGreatDoor
namespace Rows

/-- THE TIED CARD OF 'koinelaw05.GrammarEncodingMatchesReference'. -/
def grammarEncodingMatchesReferenceCard : Claim7 := { stood := { row := grammarEncodingMatchesReferenceRow, standIns := [], harness := (true, "d5f1b50e323889bc6b99359835e51e16937d01c75c23e972f5b914523aca0c6e"), looks := false }, kinds := [], alts := [], laidByText := true, laidKinds := [.data], laidTests := true, laidLooks := .later }
def GrammarEncodingMatchesReferenceCardSaid : Prop := Claim7.holds Tryz.pinned (.plain (OpenSpec.ofChange grammarEncodingMatchesReferenceSpec)) grammarEncodingMatchesReferenceCard

/-- THE TIED CARD OF 'koinelaw05.GrammarRoundTrip'. -/
def grammarRoundTripCard : Claim7 := { stood := { row := grammarRoundTripRow, standIns := [], harness := (true, "d5f1b50e323889bc6b99359835e51e16937d01c75c23e972f5b914523aca0c6e"), looks := false }, kinds := [], alts := [], laidByText := true, laidKinds := [.data], laidTests := true, laidLooks := .later }
def GrammarRoundTripCardSaid : Prop := Claim7.holds Tryz.pinned (.plain (OpenSpec.ofChange grammarRoundTripSpec)) grammarRoundTripCard

/-- THE TIED CARD OF 'koinelaw05.GrammarBytes'. -/
def grammarBytesCard : Claim7 := { stood := { row := grammarBytesRow, standIns := [], harness := (true, "d5f1b50e323889bc6b99359835e51e16937d01c75c23e972f5b914523aca0c6e"), looks := false }, kinds := [], alts := [], laidByText := true, laidKinds := [.data], laidTests := true, laidLooks := .later }
def GrammarBytesCardSaid : Prop := Claim7.holds Tryz.pinned (.plain (OpenSpec.ofChange grammarBytesSpec)) grammarBytesCard

/-- THE TIED CARD OF 'koinelaw05.GrammarPartsMatchReference'. -/
def grammarPartsMatchReferenceCard : Claim7 := { stood := { row := grammarPartsMatchReferenceRow, standIns := [], harness := (true, "d5f1b50e323889bc6b99359835e51e16937d01c75c23e972f5b914523aca0c6e"), looks := false }, kinds := [], alts := [], laidByText := true, laidKinds := [.data], laidTests := true, laidLooks := .later }
def GrammarPartsMatchReferenceCardSaid : Prop := Claim7.holds Tryz.pinned (.plain (OpenSpec.ofChange grammarPartsMatchReferenceSpec)) grammarPartsMatchReferenceCard

/-- THE TIED CARD OF 'koinelaw05.GrammarDamage'. -/
def grammarDamageCard : Claim7 := { stood := { row := grammarDamageRow, standIns := [], harness := (true, "d5f1b50e323889bc6b99359835e51e16937d01c75c23e972f5b914523aca0c6e"), looks := false }, kinds := [], alts := [], laidByText := true, laidKinds := [.data], laidTests := true, laidLooks := .later }
def GrammarDamageCardSaid : Prop := Claim7.holds Tryz.pinned (.plain (OpenSpec.ofChange grammarDamageSpec)) grammarDamageCard

/-- THE TIED CARD OF 'koinelaw05.GrammarKeepsValidity'. -/
def grammarKeepsValidityCard : Claim7 := { stood := { row := grammarKeepsValidityRow, standIns := [], harness := (true, "d5f1b50e323889bc6b99359835e51e16937d01c75c23e972f5b914523aca0c6e"), looks := false }, kinds := [], alts := [], laidByText := true, laidKinds := [.data], laidTests := true, laidLooks := .later }
def GrammarKeepsValidityCardSaid : Prop := Claim7.holds Tryz.pinned (.plain (OpenSpec.ofChange grammarKeepsValiditySpec)) grammarKeepsValidityCard

/-- THE TIED CARD OF 'koinelaw05.GrammarConfigurations'. -/
def grammarConfigurationsCard : Claim7 := { stood := { row := grammarConfigurationsRow, standIns := [], harness := (true, "d5f1b50e323889bc6b99359835e51e16937d01c75c23e972f5b914523aca0c6e"), looks := false }, kinds := [], alts := [], laidByText := true, laidKinds := [.data], laidTests := true, laidLooks := .later }
def GrammarConfigurationsCardSaid : Prop := Claim7.holds Tryz.pinned (.plain (OpenSpec.ofChange grammarConfigurationsSpec)) grammarConfigurationsCard

/-- THE TIED CARD OF 'koinelaw05.GrammarFamilies'. -/
def grammarFamiliesCard : Claim7 := { stood := { row := grammarFamiliesRow, standIns := [], harness := (true, "d5f1b50e323889bc6b99359835e51e16937d01c75c23e972f5b914523aca0c6e"), looks := false }, kinds := [], alts := [], laidByText := true, laidKinds := [.data], laidTests := true, laidLooks := .later }
def GrammarFamiliesCardSaid : Prop := Claim7.holds Tryz.pinned (.plain (OpenSpec.ofChange grammarFamiliesSpec)) grammarFamiliesCard

/-- THE SECOND FORM's CARD OF 'koinelaw05.GrammarEncodingMatchesReference'. -/
def grammarEncodingMatchesReferenceUptoCard : Claim7 := { stood := { row := grammarEncodingMatchesReferenceUptoRow, standIns := [], harness := (true, "d5f1b50e323889bc6b99359835e51e16937d01c75c23e972f5b914523aca0c6e"), looks := false }, kinds := [], alts := [], laidByText := true, laidKinds := [.data], laidTests := true, laidLooks := .later }
def GrammarEncodingMatchesReferenceUptoCardSaid : Prop := Claim7.holds Tryz.pinned (.plain (OpenSpec.upto grammarEncodingMatchesReferenceSpec)) grammarEncodingMatchesReferenceUptoCard

/-- THE SECOND FORM's CARD OF 'koinelaw05.GrammarRoundTrip'. -/
def grammarRoundTripUptoCard : Claim7 := { stood := { row := grammarRoundTripUptoRow, standIns := [], harness := (true, "d5f1b50e323889bc6b99359835e51e16937d01c75c23e972f5b914523aca0c6e"), looks := false }, kinds := [], alts := [], laidByText := true, laidKinds := [.data], laidTests := true, laidLooks := .later }
def GrammarRoundTripUptoCardSaid : Prop := Claim7.holds Tryz.pinned (.plain (OpenSpec.upto grammarRoundTripSpec)) grammarRoundTripUptoCard

/-- THE SECOND FORM's CARD OF 'koinelaw05.GrammarBytes'. -/
def grammarBytesUptoCard : Claim7 := { stood := { row := grammarBytesUptoRow, standIns := [], harness := (true, "d5f1b50e323889bc6b99359835e51e16937d01c75c23e972f5b914523aca0c6e"), looks := false }, kinds := [], alts := [], laidByText := true, laidKinds := [.data], laidTests := true, laidLooks := .later }
def GrammarBytesUptoCardSaid : Prop := Claim7.holds Tryz.pinned (.plain (OpenSpec.upto grammarBytesSpec)) grammarBytesUptoCard

/-- THE SECOND FORM's CARD OF 'koinelaw05.GrammarPartsMatchReference'. -/
def grammarPartsMatchReferenceUptoCard : Claim7 := { stood := { row := grammarPartsMatchReferenceUptoRow, standIns := [], harness := (true, "d5f1b50e323889bc6b99359835e51e16937d01c75c23e972f5b914523aca0c6e"), looks := false }, kinds := [], alts := [], laidByText := true, laidKinds := [.data], laidTests := true, laidLooks := .later }
def GrammarPartsMatchReferenceUptoCardSaid : Prop := Claim7.holds Tryz.pinned (.plain (OpenSpec.upto grammarPartsMatchReferenceSpec)) grammarPartsMatchReferenceUptoCard

/-- THE SECOND FORM's CARD OF 'koinelaw05.GrammarDamage'. -/
def grammarDamageUptoCard : Claim7 := { stood := { row := grammarDamageUptoRow, standIns := [], harness := (true, "d5f1b50e323889bc6b99359835e51e16937d01c75c23e972f5b914523aca0c6e"), looks := false }, kinds := [], alts := [], laidByText := true, laidKinds := [.data], laidTests := true, laidLooks := .later }
def GrammarDamageUptoCardSaid : Prop := Claim7.holds Tryz.pinned (.plain (OpenSpec.upto grammarDamageSpec)) grammarDamageUptoCard

/-- THE SECOND FORM's CARD OF 'koinelaw05.GrammarKeepsValidity'. -/
def grammarKeepsValidityUptoCard : Claim7 := { stood := { row := grammarKeepsValidityUptoRow, standIns := [], harness := (true, "d5f1b50e323889bc6b99359835e51e16937d01c75c23e972f5b914523aca0c6e"), looks := false }, kinds := [], alts := [], laidByText := true, laidKinds := [.data], laidTests := true, laidLooks := .later }
def GrammarKeepsValidityUptoCardSaid : Prop := Claim7.holds Tryz.pinned (.plain (OpenSpec.upto grammarKeepsValiditySpec)) grammarKeepsValidityUptoCard

/-- THE SECOND FORM's CARD OF 'koinelaw05.GrammarConfigurations'. -/
def grammarConfigurationsUptoCard : Claim7 := { stood := { row := grammarConfigurationsUptoRow, standIns := [], harness := (true, "d5f1b50e323889bc6b99359835e51e16937d01c75c23e972f5b914523aca0c6e"), looks := false }, kinds := [], alts := [], laidByText := true, laidKinds := [.data], laidTests := true, laidLooks := .later }
def GrammarConfigurationsUptoCardSaid : Prop := Claim7.holds Tryz.pinned (.plain (OpenSpec.upto grammarConfigurationsSpec)) grammarConfigurationsUptoCard

/-- THE SECOND FORM's CARD OF 'koinelaw05.GrammarFamilies'. -/
def grammarFamiliesUptoCard : Claim7 := { stood := { row := grammarFamiliesUptoRow, standIns := [], harness := (true, "d5f1b50e323889bc6b99359835e51e16937d01c75c23e972f5b914523aca0c6e"), looks := false }, kinds := [], alts := [], laidByText := true, laidKinds := [.data], laidTests := true, laidLooks := .later }
def GrammarFamiliesUptoCardSaid : Prop := Claim7.holds Tryz.pinned (.plain (OpenSpec.upto grammarFamiliesSpec)) grammarFamiliesUptoCard
end Rows
end Go.Proofs.YtenpmjhnhepfdaaGreatDoor
