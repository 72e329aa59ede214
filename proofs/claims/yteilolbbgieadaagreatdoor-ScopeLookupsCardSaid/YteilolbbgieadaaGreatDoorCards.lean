/-
  DERIVED. GIVEN WITH THE SEED: THE CARDS: each row of YteilolbbgieadaaGreatDoorRows.lean that lists a variable, with what it lists TIED to the program's text (the seventh form; the later family's looks); each row that meets fmt, with fmt's text TOLD by the authors' own Lean function (tested against real Go, not proved from fmt's source: count such statements apart). THE CARD IS WHAT COUNTS. Prove the row's statement (the work); the ties are given (YteilolbbgieadaaGreatDoorTie.lean); close each card by the builder's one call (the guide's Derived/Test/ToyasCard.lean, 'card_holds'). Laid BY PROGRAM, IN A SANDBOX (cutbox-door.mjs). By AI agents, Wed Nov 11 2026. No macro, syntax, notation, axiom, sorry.
-/
import Derived.Test.YteilolbbgieadaaGreatDoorRows
import GoSem.ClaimSeven
namespace Go.Proofs.YteilolbbgieadaaGreatDoor
namespace Rows

/-- THE TIED CARD OF 'koinelaw15.ScopeMatchesReference'. -/
def scopeMatchesReferenceCard : Claim7 := { stood := { row := scopeMatchesReferenceRow, standIns := [], harness := (true, "4ebcb19afcba4c60349e53288f74d9cd1be96ebf6d4a5840a5d779fc3440609e"), looks := true }, kinds := [], alts := [], laidByText := true, laidKinds := [.data], laidTests := true, laidLooks := .later }
def ScopeMatchesReferenceCardSaid : Prop := Claim7.holds Tryz.pinned (.plain (OpenSpec.ofChange scopeMatchesReferenceSpec)) scopeMatchesReferenceCard

/-- THE TIED CARD OF 'koinelaw15.ScopePermissions'. -/
def scopePermissionsCard : Claim7 := { stood := { row := scopePermissionsRow, standIns := [], harness := (true, "4ebcb19afcba4c60349e53288f74d9cd1be96ebf6d4a5840a5d779fc3440609e"), looks := true }, kinds := [], alts := [], laidByText := true, laidKinds := [.data], laidTests := true, laidLooks := .later }
def ScopePermissionsCardSaid : Prop := Claim7.holds Tryz.pinned (.plain (OpenSpec.ofChange scopePermissionsSpec)) scopePermissionsCard

/-- THE TIED CARD OF 'koinelaw15.ScopeExchange'. -/
def scopeExchangeCard : Claim7 := { stood := { row := scopeExchangeRow, standIns := [], harness := (true, "4ebcb19afcba4c60349e53288f74d9cd1be96ebf6d4a5840a5d779fc3440609e"), looks := true }, kinds := [], alts := [], laidByText := true, laidKinds := [.data], laidTests := true, laidLooks := .later }
def ScopeExchangeCardSaid : Prop := Claim7.holds Tryz.pinned (.plain (OpenSpec.ofChange scopeExchangeSpec)) scopeExchangeCard

/-- THE TIED CARD OF 'koinelaw15.ScopeOrder'. -/
def scopeOrderCard : Claim7 := { stood := { row := scopeOrderRow, standIns := [], harness := (true, "4ebcb19afcba4c60349e53288f74d9cd1be96ebf6d4a5840a5d779fc3440609e"), looks := true }, kinds := [], alts := [], laidByText := true, laidKinds := [.data], laidTests := true, laidLooks := .later }
def ScopeOrderCardSaid : Prop := Claim7.holds Tryz.pinned (.plain (OpenSpec.ofChange scopeOrderSpec)) scopeOrderCard

/-- THE TIED CARD OF 'koinelaw15.ScopeLookups'. -/
def scopeLookupsCard : Claim7 := { stood := { row := scopeLookupsRow, standIns := [], harness := (true, "4ebcb19afcba4c60349e53288f74d9cd1be96ebf6d4a5840a5d779fc3440609e"), looks := true }, kinds := [], alts := [], laidByText := true, laidKinds := [.data], laidTests := true, laidLooks := .later }
def ScopeLookupsCardSaid : Prop := Claim7.holds Tryz.pinned (.plain (OpenSpec.ofChange scopeLookupsSpec)) scopeLookupsCard

/-- THE TIED CARD OF 'koinelaw15.ScopeParts'. -/
def scopePartsCard : Claim7 := { stood := { row := scopePartsRow, standIns := [], harness := (true, "4ebcb19afcba4c60349e53288f74d9cd1be96ebf6d4a5840a5d779fc3440609e"), looks := true }, kinds := [], alts := [], laidByText := true, laidKinds := [.data], laidTests := true, laidLooks := .later }
def ScopePartsCardSaid : Prop := Claim7.holds Tryz.pinned (.plain (OpenSpec.ofChange scopePartsSpec)) scopePartsCard

/-- THE SECOND FORM's CARD OF 'koinelaw15.ScopeMatchesReference'. -/
def scopeMatchesReferenceUptoCard : Claim7 := { stood := { row := scopeMatchesReferenceUptoRow, standIns := [], harness := (true, "4ebcb19afcba4c60349e53288f74d9cd1be96ebf6d4a5840a5d779fc3440609e"), looks := true }, kinds := [], alts := [], laidByText := true, laidKinds := [.data], laidTests := true, laidLooks := .later }
def ScopeMatchesReferenceUptoCardSaid : Prop := Claim7.holds Tryz.pinned (.plain (OpenSpec.upto scopeMatchesReferenceSpec)) scopeMatchesReferenceUptoCard

/-- THE SECOND FORM's CARD OF 'koinelaw15.ScopePermissions'. -/
def scopePermissionsUptoCard : Claim7 := { stood := { row := scopePermissionsUptoRow, standIns := [], harness := (true, "4ebcb19afcba4c60349e53288f74d9cd1be96ebf6d4a5840a5d779fc3440609e"), looks := true }, kinds := [], alts := [], laidByText := true, laidKinds := [.data], laidTests := true, laidLooks := .later }
def ScopePermissionsUptoCardSaid : Prop := Claim7.holds Tryz.pinned (.plain (OpenSpec.upto scopePermissionsSpec)) scopePermissionsUptoCard

/-- THE SECOND FORM's CARD OF 'koinelaw15.ScopeExchange'. -/
def scopeExchangeUptoCard : Claim7 := { stood := { row := scopeExchangeUptoRow, standIns := [], harness := (true, "4ebcb19afcba4c60349e53288f74d9cd1be96ebf6d4a5840a5d779fc3440609e"), looks := true }, kinds := [], alts := [], laidByText := true, laidKinds := [.data], laidTests := true, laidLooks := .later }
def ScopeExchangeUptoCardSaid : Prop := Claim7.holds Tryz.pinned (.plain (OpenSpec.upto scopeExchangeSpec)) scopeExchangeUptoCard

/-- THE SECOND FORM's CARD OF 'koinelaw15.ScopeOrder'. -/
def scopeOrderUptoCard : Claim7 := { stood := { row := scopeOrderUptoRow, standIns := [], harness := (true, "4ebcb19afcba4c60349e53288f74d9cd1be96ebf6d4a5840a5d779fc3440609e"), looks := true }, kinds := [], alts := [], laidByText := true, laidKinds := [.data], laidTests := true, laidLooks := .later }
def ScopeOrderUptoCardSaid : Prop := Claim7.holds Tryz.pinned (.plain (OpenSpec.upto scopeOrderSpec)) scopeOrderUptoCard

/-- THE SECOND FORM's CARD OF 'koinelaw15.ScopeLookups'. -/
def scopeLookupsUptoCard : Claim7 := { stood := { row := scopeLookupsUptoRow, standIns := [], harness := (true, "4ebcb19afcba4c60349e53288f74d9cd1be96ebf6d4a5840a5d779fc3440609e"), looks := true }, kinds := [], alts := [], laidByText := true, laidKinds := [.data], laidTests := true, laidLooks := .later }
def ScopeLookupsUptoCardSaid : Prop := Claim7.holds Tryz.pinned (.plain (OpenSpec.upto scopeLookupsSpec)) scopeLookupsUptoCard

/-- THE SECOND FORM's CARD OF 'koinelaw15.ScopeParts'. -/
def scopePartsUptoCard : Claim7 := { stood := { row := scopePartsUptoRow, standIns := [], harness := (true, "4ebcb19afcba4c60349e53288f74d9cd1be96ebf6d4a5840a5d779fc3440609e"), looks := true }, kinds := [], alts := [], laidByText := true, laidKinds := [.data], laidTests := true, laidLooks := .later }
def ScopePartsUptoCardSaid : Prop := Claim7.holds Tryz.pinned (.plain (OpenSpec.upto scopePartsSpec)) scopePartsUptoCard
end Rows
end Go.Proofs.YteilolbbgieadaaGreatDoor
