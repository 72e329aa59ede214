/-
  DERIVED. GIVEN WITH THE SEED: THE CARDS: each row of YtcemhghkipgdiaaGreatDoorRows.lean that lists a variable, with what it lists TIED to the program's text (the seventh form; the later family's looks); each row that meets fmt, with fmt's text TOLD by the authors' own Lean function (tested against real Go, not proved from fmt's source: count such statements apart). THE CARD IS WHAT COUNTS. Prove the row's statement (the work); the ties are given (YtcemhghkipgdiaaGreatDoorTie.lean); close each card by the builder's one call (the guide's Derived/Test/ToyasCard.lean, 'card_holds'). Laid BY PROGRAM, IN A SANDBOX (cutbox-door.mjs). By AI agents, Wed Nov 11 2026. No macro, syntax, notation, axiom, sorry.
-/
import Derived.Test.YtcemhghkipgdiaaGreatDoorRows
import GoSem.ClaimSeven
namespace Go.Proofs.YtcemhghkipgdiaaGreatDoor
namespace Rows

/-- THE TIED CARD OF 'koinelaw06.FactsMatchReference'. -/
def factsMatchReferenceCard : Claim7 := { stood := { row := factsMatchReferenceRow, standIns := [], harness := (true, "4ffb3938bcd1adf7ebfffc8631b70f6a38b5d1a5f20b426475762a3381ec5eb5"), looks := true }, kinds := [], alts := [], laidByText := true, laidKinds := [.data], laidTests := true, laidLooks := .later }
def FactsMatchReferenceCardSaid : Prop := Claim7.holds Tryz.pinned (.plain (OpenSpec.ofChange factsMatchReferenceSpec)) factsMatchReferenceCard

/-- THE TIED CARD OF 'koinelaw06.FactsFirstMatchesReference'. -/
def factsFirstMatchesReferenceCard : Claim7 := { stood := { row := factsFirstMatchesReferenceRow, standIns := [], harness := (true, "4ffb3938bcd1adf7ebfffc8631b70f6a38b5d1a5f20b426475762a3381ec5eb5"), looks := true }, kinds := [], alts := [], laidByText := true, laidKinds := [.data], laidTests := true, laidLooks := .later }
def FactsFirstMatchesReferenceCardSaid : Prop := Claim7.holds Tryz.pinned (.plain (OpenSpec.ofChange factsFirstMatchesReferenceSpec)) factsFirstMatchesReferenceCard

/-- THE TIED CARD OF 'koinelaw06.FactsFixedPoint'. -/
def factsFixedPointCard : Claim7 := { stood := { row := factsFixedPointRow, standIns := [], harness := (true, "4ffb3938bcd1adf7ebfffc8631b70f6a38b5d1a5f20b426475762a3381ec5eb5"), looks := true }, kinds := [], alts := [], laidByText := true, laidKinds := [.data], laidTests := true, laidLooks := .later }
def FactsFixedPointCardSaid : Prop := Claim7.holds Tryz.pinned (.plain (OpenSpec.ofChange factsFixedPointSpec)) factsFixedPointCard

/-- THE TIED CARD OF 'koinelaw06.FactsCycles'. -/
def factsCyclesCard : Claim7 := { stood := { row := factsCyclesRow, standIns := [], harness := (true, "4ffb3938bcd1adf7ebfffc8631b70f6a38b5d1a5f20b426475762a3381ec5eb5"), looks := true }, kinds := [], alts := [], laidByText := true, laidKinds := [.data], laidTests := true, laidLooks := .later }
def FactsCyclesCardSaid : Prop := Claim7.holds Tryz.pinned (.plain (OpenSpec.ofChange factsCyclesSpec)) factsCyclesCard

/-- THE TIED CARD OF 'koinelaw06.FactsErrors'. -/
def factsErrorsCard : Claim7 := { stood := { row := factsErrorsRow, standIns := [], harness := (true, "4ffb3938bcd1adf7ebfffc8631b70f6a38b5d1a5f20b426475762a3381ec5eb5"), looks := true }, kinds := [], alts := [], laidByText := true, laidKinds := [.data], laidTests := true, laidLooks := .later }
def FactsErrorsCardSaid : Prop := Claim7.holds Tryz.pinned (.plain (OpenSpec.ofChange factsErrorsSpec)) factsErrorsCard

/-- THE TIED CARD OF 'koinelaw06.FactsUseful'. -/
def factsUsefulCard : Claim7 := { stood := { row := factsUsefulRow, standIns := [], harness := (true, "4ffb3938bcd1adf7ebfffc8631b70f6a38b5d1a5f20b426475762a3381ec5eb5"), looks := true }, kinds := [], alts := [], laidByText := true, laidKinds := [.data], laidTests := true, laidLooks := .later }
def FactsUsefulCardSaid : Prop := Claim7.holds Tryz.pinned (.plain (OpenSpec.ofChange factsUsefulSpec)) factsUsefulCard

/-- THE TIED CARD OF 'koinelaw06.FactsGrow'. -/
def factsGrowCard : Claim7 := { stood := { row := factsGrowRow, standIns := [], harness := (true, "4ffb3938bcd1adf7ebfffc8631b70f6a38b5d1a5f20b426475762a3381ec5eb5"), looks := true }, kinds := [], alts := [], laidByText := true, laidKinds := [.data], laidTests := true, laidLooks := .later }
def FactsGrowCardSaid : Prop := Claim7.holds Tryz.pinned (.plain (OpenSpec.ofChange factsGrowSpec)) factsGrowCard

/-- THE TIED CARD OF 'koinelaw06.FactsDerivations'. -/
def factsDerivationsCard : Claim7 := { stood := { row := factsDerivationsRow, standIns := [], harness := (true, "4ffb3938bcd1adf7ebfffc8631b70f6a38b5d1a5f20b426475762a3381ec5eb5"), looks := true }, kinds := [], alts := [], laidByText := true, laidKinds := [.data], laidTests := true, laidLooks := .later }
def FactsDerivationsCardSaid : Prop := Claim7.holds Tryz.pinned (.plain (OpenSpec.ofChange factsDerivationsSpec)) factsDerivationsCard

/-- THE TIED CARD OF 'koinelaw06.FactsPerConfiguration'. -/
def factsPerConfigurationCard : Claim7 := { stood := { row := factsPerConfigurationRow, standIns := [], harness := (true, "4ffb3938bcd1adf7ebfffc8631b70f6a38b5d1a5f20b426475762a3381ec5eb5"), looks := true }, kinds := [], alts := [], laidByText := true, laidKinds := [.data], laidTests := true, laidLooks := .later }
def FactsPerConfigurationCardSaid : Prop := Claim7.holds Tryz.pinned (.plain (OpenSpec.ofChange factsPerConfigurationSpec)) factsPerConfigurationCard

/-- THE SECOND FORM's CARD OF 'koinelaw06.FactsMatchReference'. -/
def factsMatchReferenceUptoCard : Claim7 := { stood := { row := factsMatchReferenceUptoRow, standIns := [], harness := (true, "4ffb3938bcd1adf7ebfffc8631b70f6a38b5d1a5f20b426475762a3381ec5eb5"), looks := true }, kinds := [], alts := [], laidByText := true, laidKinds := [.data], laidTests := true, laidLooks := .later }
def FactsMatchReferenceUptoCardSaid : Prop := Claim7.holds Tryz.pinned (.plain (OpenSpec.upto factsMatchReferenceSpec)) factsMatchReferenceUptoCard

/-- THE SECOND FORM's CARD OF 'koinelaw06.FactsFirstMatchesReference'. -/
def factsFirstMatchesReferenceUptoCard : Claim7 := { stood := { row := factsFirstMatchesReferenceUptoRow, standIns := [], harness := (true, "4ffb3938bcd1adf7ebfffc8631b70f6a38b5d1a5f20b426475762a3381ec5eb5"), looks := true }, kinds := [], alts := [], laidByText := true, laidKinds := [.data], laidTests := true, laidLooks := .later }
def FactsFirstMatchesReferenceUptoCardSaid : Prop := Claim7.holds Tryz.pinned (.plain (OpenSpec.upto factsFirstMatchesReferenceSpec)) factsFirstMatchesReferenceUptoCard

/-- THE SECOND FORM's CARD OF 'koinelaw06.FactsFixedPoint'. -/
def factsFixedPointUptoCard : Claim7 := { stood := { row := factsFixedPointUptoRow, standIns := [], harness := (true, "4ffb3938bcd1adf7ebfffc8631b70f6a38b5d1a5f20b426475762a3381ec5eb5"), looks := true }, kinds := [], alts := [], laidByText := true, laidKinds := [.data], laidTests := true, laidLooks := .later }
def FactsFixedPointUptoCardSaid : Prop := Claim7.holds Tryz.pinned (.plain (OpenSpec.upto factsFixedPointSpec)) factsFixedPointUptoCard

/-- THE SECOND FORM's CARD OF 'koinelaw06.FactsCycles'. -/
def factsCyclesUptoCard : Claim7 := { stood := { row := factsCyclesUptoRow, standIns := [], harness := (true, "4ffb3938bcd1adf7ebfffc8631b70f6a38b5d1a5f20b426475762a3381ec5eb5"), looks := true }, kinds := [], alts := [], laidByText := true, laidKinds := [.data], laidTests := true, laidLooks := .later }
def FactsCyclesUptoCardSaid : Prop := Claim7.holds Tryz.pinned (.plain (OpenSpec.upto factsCyclesSpec)) factsCyclesUptoCard

/-- THE SECOND FORM's CARD OF 'koinelaw06.FactsErrors'. -/
def factsErrorsUptoCard : Claim7 := { stood := { row := factsErrorsUptoRow, standIns := [], harness := (true, "4ffb3938bcd1adf7ebfffc8631b70f6a38b5d1a5f20b426475762a3381ec5eb5"), looks := true }, kinds := [], alts := [], laidByText := true, laidKinds := [.data], laidTests := true, laidLooks := .later }
def FactsErrorsUptoCardSaid : Prop := Claim7.holds Tryz.pinned (.plain (OpenSpec.upto factsErrorsSpec)) factsErrorsUptoCard

/-- THE SECOND FORM's CARD OF 'koinelaw06.FactsUseful'. -/
def factsUsefulUptoCard : Claim7 := { stood := { row := factsUsefulUptoRow, standIns := [], harness := (true, "4ffb3938bcd1adf7ebfffc8631b70f6a38b5d1a5f20b426475762a3381ec5eb5"), looks := true }, kinds := [], alts := [], laidByText := true, laidKinds := [.data], laidTests := true, laidLooks := .later }
def FactsUsefulUptoCardSaid : Prop := Claim7.holds Tryz.pinned (.plain (OpenSpec.upto factsUsefulSpec)) factsUsefulUptoCard

/-- THE SECOND FORM's CARD OF 'koinelaw06.FactsGrow'. -/
def factsGrowUptoCard : Claim7 := { stood := { row := factsGrowUptoRow, standIns := [], harness := (true, "4ffb3938bcd1adf7ebfffc8631b70f6a38b5d1a5f20b426475762a3381ec5eb5"), looks := true }, kinds := [], alts := [], laidByText := true, laidKinds := [.data], laidTests := true, laidLooks := .later }
def FactsGrowUptoCardSaid : Prop := Claim7.holds Tryz.pinned (.plain (OpenSpec.upto factsGrowSpec)) factsGrowUptoCard

/-- THE SECOND FORM's CARD OF 'koinelaw06.FactsDerivations'. -/
def factsDerivationsUptoCard : Claim7 := { stood := { row := factsDerivationsUptoRow, standIns := [], harness := (true, "4ffb3938bcd1adf7ebfffc8631b70f6a38b5d1a5f20b426475762a3381ec5eb5"), looks := true }, kinds := [], alts := [], laidByText := true, laidKinds := [.data], laidTests := true, laidLooks := .later }
def FactsDerivationsUptoCardSaid : Prop := Claim7.holds Tryz.pinned (.plain (OpenSpec.upto factsDerivationsSpec)) factsDerivationsUptoCard

/-- THE SECOND FORM's CARD OF 'koinelaw06.FactsPerConfiguration'. -/
def factsPerConfigurationUptoCard : Claim7 := { stood := { row := factsPerConfigurationUptoRow, standIns := [], harness := (true, "4ffb3938bcd1adf7ebfffc8631b70f6a38b5d1a5f20b426475762a3381ec5eb5"), looks := true }, kinds := [], alts := [], laidByText := true, laidKinds := [.data], laidTests := true, laidLooks := .later }
def FactsPerConfigurationUptoCardSaid : Prop := Claim7.holds Tryz.pinned (.plain (OpenSpec.upto factsPerConfigurationSpec)) factsPerConfigurationUptoCard
end Rows
end Go.Proofs.YtcemhghkipgdiaaGreatDoor
