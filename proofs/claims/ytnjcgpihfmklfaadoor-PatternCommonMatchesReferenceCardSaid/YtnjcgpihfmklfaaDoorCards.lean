/-
  DERIVED. GIVEN WITH THE SEED: THE CARDS: each row of YtnjcgpihfmklfaaDoorRows.lean that lists a variable, with what it lists TIED to the program's text (the seventh form; the later family's looks); each row that meets fmt, with fmt's text TOLD by the authors' own Lean function (tested against real Go, not proved from fmt's source: count such statements apart). THE CARD IS WHAT COUNTS. Prove the row's statement (the work); the ties are given (YtnjcgpihfmklfaaDoorTie.lean); close each card by the builder's one call (the guide's Derived/Test/ToyasCard.lean, 'card_holds'). Laid BY PROGRAM, IN A SANDBOX (cutbox-door.mjs). By AI agents, Wed Nov 11 2026. No macro, syntax, notation, axiom, sorry.
-/
import Derived.Test.YtnjcgpihfmklfaaDoorRows
import GoSem.ClaimSeven
namespace Go.Proofs.YtnjcgpihfmklfaaDoor
namespace Rows

/-- THE TIED CARD OF 'koinelaw04.PatternMatchesReference'. -/
def patternMatchesReferenceCard : Claim7 := { stood := { row := patternMatchesReferenceRow, standIns := [], harness := (true, "886bce3f6eff7da80223bec5ff4ccb772f4565bf6bac3b7e0f440fae3f41d69b"), looks := false }, kinds := [], alts := [], laidByText := true, laidKinds := [.data], laidTests := true, laidLooks := .later }
def PatternMatchesReferenceCardSaid : Prop := Claim7.holds Tryd.pinned (.plain (OpenSpec.ofChange patternMatchesReferenceSpec)) patternMatchesReferenceCard

/-- THE TIED CARD OF 'koinelaw04.PatternSyntaxMatchesReference'. -/
def patternSyntaxMatchesReferenceCard : Claim7 := { stood := { row := patternSyntaxMatchesReferenceRow, standIns := [], harness := (true, "886bce3f6eff7da80223bec5ff4ccb772f4565bf6bac3b7e0f440fae3f41d69b"), looks := false }, kinds := [], alts := [], laidByText := true, laidKinds := [.data], laidTests := true, laidLooks := .later }
def PatternSyntaxMatchesReferenceCardSaid : Prop := Claim7.holds Tryd.pinned (.plain (OpenSpec.ofChange patternSyntaxMatchesReferenceSpec)) patternSyntaxMatchesReferenceCard

/-- THE TIED CARD OF 'koinelaw04.PatternLimits'. -/
def patternLimitsCard : Claim7 := { stood := { row := patternLimitsRow, standIns := [], harness := (true, "886bce3f6eff7da80223bec5ff4ccb772f4565bf6bac3b7e0f440fae3f41d69b"), looks := false }, kinds := [], alts := [], laidByText := true, laidKinds := [.data], laidTests := true, laidLooks := .later }
def PatternLimitsCardSaid : Prop := Claim7.holds Tryd.pinned (.plain (OpenSpec.ofChange patternLimitsSpec)) patternLimitsCard

/-- THE TIED CARD OF 'koinelaw04.PatternCommonMatchesReference'. -/
def patternCommonMatchesReferenceCard : Claim7 := { stood := { row := patternCommonMatchesReferenceRow, standIns := [], harness := (true, "886bce3f6eff7da80223bec5ff4ccb772f4565bf6bac3b7e0f440fae3f41d69b"), looks := false }, kinds := [], alts := [], laidByText := true, laidKinds := [.data], laidTests := true, laidLooks := .later }
def PatternCommonMatchesReferenceCardSaid : Prop := Claim7.holds Tryd.pinned (.plain (OpenSpec.ofChange patternCommonMatchesReferenceSpec)) patternCommonMatchesReferenceCard

/-- THE TIED CARD OF 'koinelaw04.PatternMeaning'. -/
def patternMeaningCard : Claim7 := { stood := { row := patternMeaningRow, standIns := [], harness := (true, "886bce3f6eff7da80223bec5ff4ccb772f4565bf6bac3b7e0f440fae3f41d69b"), looks := false }, kinds := [], alts := [], laidByText := true, laidKinds := [.data], laidTests := true, laidLooks := .later }
def PatternMeaningCardSaid : Prop := Claim7.holds Tryd.pinned (.plain (OpenSpec.ofChange patternMeaningSpec)) patternMeaningCard

/-- THE TIED CARD OF 'koinelaw04.PatternLongest'. -/
def patternLongestCard : Claim7 := { stood := { row := patternLongestRow, standIns := [], harness := (true, "886bce3f6eff7da80223bec5ff4ccb772f4565bf6bac3b7e0f440fae3f41d69b"), looks := false }, kinds := [], alts := [], laidByText := true, laidKinds := [.data], laidTests := true, laidLooks := .later }
def PatternLongestCardSaid : Prop := Claim7.holds Tryd.pinned (.plain (OpenSpec.ofChange patternLongestSpec)) patternLongestCard

/-- THE TIED CARD OF 'koinelaw04.PatternShortest'. -/
def patternShortestCard : Claim7 := { stood := { row := patternShortestRow, standIns := [], harness := (true, "886bce3f6eff7da80223bec5ff4ccb772f4565bf6bac3b7e0f440fae3f41d69b"), looks := false }, kinds := [], alts := [], laidByText := true, laidKinds := [.data], laidTests := true, laidLooks := .later }
def PatternShortestCardSaid : Prop := Claim7.holds Tryd.pinned (.plain (OpenSpec.ofChange patternShortestSpec)) patternShortestCard

/-- THE TIED CARD OF 'koinelaw04.PatternCommon'. -/
def patternCommonCard : Claim7 := { stood := { row := patternCommonRow, standIns := [], harness := (true, "886bce3f6eff7da80223bec5ff4ccb772f4565bf6bac3b7e0f440fae3f41d69b"), looks := false }, kinds := [], alts := [], laidByText := true, laidKinds := [.data], laidTests := true, laidLooks := .later }
def PatternCommonCardSaid : Prop := Claim7.holds Tryd.pinned (.plain (OpenSpec.ofChange patternCommonSpec)) patternCommonCard

/-- THE TIED CARD OF 'koinelaw04.PatternStrings'. -/
def patternStringsCard : Claim7 := { stood := { row := patternStringsRow, standIns := [], harness := (true, "886bce3f6eff7da80223bec5ff4ccb772f4565bf6bac3b7e0f440fae3f41d69b"), looks := false }, kinds := [], alts := [], laidByText := true, laidKinds := [.data], laidTests := true, laidLooks := .later }
def PatternStringsCardSaid : Prop := Claim7.holds Tryd.pinned (.plain (OpenSpec.ofChange patternStringsSpec)) patternStringsCard

/-- THE TIED CARD OF 'koinelaw04.PatternParentheses'. -/
def patternParenthesesCard : Claim7 := { stood := { row := patternParenthesesRow, standIns := [], harness := (true, "886bce3f6eff7da80223bec5ff4ccb772f4565bf6bac3b7e0f440fae3f41d69b"), looks := false }, kinds := [], alts := [], laidByText := true, laidKinds := [.data], laidTests := true, laidLooks := .later }
def PatternParenthesesCardSaid : Prop := Claim7.holds Tryd.pinned (.plain (OpenSpec.ofChange patternParenthesesSpec)) patternParenthesesCard

/-- THE TIED CARD OF 'koinelaw04.PatternAnyMatchesReference'. -/
def patternAnyMatchesReferenceCard : Claim7 := { stood := { row := patternAnyMatchesReferenceRow, standIns := [], harness := (true, "886bce3f6eff7da80223bec5ff4ccb772f4565bf6bac3b7e0f440fae3f41d69b"), looks := false }, kinds := [], alts := [], laidByText := true, laidKinds := [.data], laidTests := true, laidLooks := .later }
def PatternAnyMatchesReferenceCardSaid : Prop := Claim7.holds Tryd.pinned (.plain (OpenSpec.ofChange patternAnyMatchesReferenceSpec)) patternAnyMatchesReferenceCard

/-- THE TIED CARD OF 'koinelaw04.PatternLiterals'. -/
def patternLiteralsCard : Claim7 := { stood := { row := patternLiteralsRow, standIns := [], harness := (true, "886bce3f6eff7da80223bec5ff4ccb772f4565bf6bac3b7e0f440fae3f41d69b"), looks := false }, kinds := [], alts := [], laidByText := true, laidKinds := [.data], laidTests := true, laidLooks := .later }
def PatternLiteralsCardSaid : Prop := Claim7.holds Tryd.pinned (.plain (OpenSpec.ofChange patternLiteralsSpec)) patternLiteralsCard

/-- THE SECOND FORM's CARD OF 'koinelaw04.PatternMatchesReference'. -/
def patternMatchesReferenceUptoCard : Claim7 := { stood := { row := patternMatchesReferenceUptoRow, standIns := [], harness := (true, "886bce3f6eff7da80223bec5ff4ccb772f4565bf6bac3b7e0f440fae3f41d69b"), looks := false }, kinds := [], alts := [], laidByText := true, laidKinds := [.data], laidTests := true, laidLooks := .later }
def PatternMatchesReferenceUptoCardSaid : Prop := Claim7.holds Tryd.pinned (.plain (OpenSpec.upto patternMatchesReferenceSpec)) patternMatchesReferenceUptoCard

/-- THE SECOND FORM's CARD OF 'koinelaw04.PatternSyntaxMatchesReference'. -/
def patternSyntaxMatchesReferenceUptoCard : Claim7 := { stood := { row := patternSyntaxMatchesReferenceUptoRow, standIns := [], harness := (true, "886bce3f6eff7da80223bec5ff4ccb772f4565bf6bac3b7e0f440fae3f41d69b"), looks := false }, kinds := [], alts := [], laidByText := true, laidKinds := [.data], laidTests := true, laidLooks := .later }
def PatternSyntaxMatchesReferenceUptoCardSaid : Prop := Claim7.holds Tryd.pinned (.plain (OpenSpec.upto patternSyntaxMatchesReferenceSpec)) patternSyntaxMatchesReferenceUptoCard

/-- THE SECOND FORM's CARD OF 'koinelaw04.PatternLimits'. -/
def patternLimitsUptoCard : Claim7 := { stood := { row := patternLimitsUptoRow, standIns := [], harness := (true, "886bce3f6eff7da80223bec5ff4ccb772f4565bf6bac3b7e0f440fae3f41d69b"), looks := false }, kinds := [], alts := [], laidByText := true, laidKinds := [.data], laidTests := true, laidLooks := .later }
def PatternLimitsUptoCardSaid : Prop := Claim7.holds Tryd.pinned (.plain (OpenSpec.upto patternLimitsSpec)) patternLimitsUptoCard

/-- THE SECOND FORM's CARD OF 'koinelaw04.PatternCommonMatchesReference'. -/
def patternCommonMatchesReferenceUptoCard : Claim7 := { stood := { row := patternCommonMatchesReferenceUptoRow, standIns := [], harness := (true, "886bce3f6eff7da80223bec5ff4ccb772f4565bf6bac3b7e0f440fae3f41d69b"), looks := false }, kinds := [], alts := [], laidByText := true, laidKinds := [.data], laidTests := true, laidLooks := .later }
def PatternCommonMatchesReferenceUptoCardSaid : Prop := Claim7.holds Tryd.pinned (.plain (OpenSpec.upto patternCommonMatchesReferenceSpec)) patternCommonMatchesReferenceUptoCard

/-- THE SECOND FORM's CARD OF 'koinelaw04.PatternMeaning'. -/
def patternMeaningUptoCard : Claim7 := { stood := { row := patternMeaningUptoRow, standIns := [], harness := (true, "886bce3f6eff7da80223bec5ff4ccb772f4565bf6bac3b7e0f440fae3f41d69b"), looks := false }, kinds := [], alts := [], laidByText := true, laidKinds := [.data], laidTests := true, laidLooks := .later }
def PatternMeaningUptoCardSaid : Prop := Claim7.holds Tryd.pinned (.plain (OpenSpec.upto patternMeaningSpec)) patternMeaningUptoCard

/-- THE SECOND FORM's CARD OF 'koinelaw04.PatternLongest'. -/
def patternLongestUptoCard : Claim7 := { stood := { row := patternLongestUptoRow, standIns := [], harness := (true, "886bce3f6eff7da80223bec5ff4ccb772f4565bf6bac3b7e0f440fae3f41d69b"), looks := false }, kinds := [], alts := [], laidByText := true, laidKinds := [.data], laidTests := true, laidLooks := .later }
def PatternLongestUptoCardSaid : Prop := Claim7.holds Tryd.pinned (.plain (OpenSpec.upto patternLongestSpec)) patternLongestUptoCard

/-- THE SECOND FORM's CARD OF 'koinelaw04.PatternShortest'. -/
def patternShortestUptoCard : Claim7 := { stood := { row := patternShortestUptoRow, standIns := [], harness := (true, "886bce3f6eff7da80223bec5ff4ccb772f4565bf6bac3b7e0f440fae3f41d69b"), looks := false }, kinds := [], alts := [], laidByText := true, laidKinds := [.data], laidTests := true, laidLooks := .later }
def PatternShortestUptoCardSaid : Prop := Claim7.holds Tryd.pinned (.plain (OpenSpec.upto patternShortestSpec)) patternShortestUptoCard

/-- THE SECOND FORM's CARD OF 'koinelaw04.PatternCommon'. -/
def patternCommonUptoCard : Claim7 := { stood := { row := patternCommonUptoRow, standIns := [], harness := (true, "886bce3f6eff7da80223bec5ff4ccb772f4565bf6bac3b7e0f440fae3f41d69b"), looks := false }, kinds := [], alts := [], laidByText := true, laidKinds := [.data], laidTests := true, laidLooks := .later }
def PatternCommonUptoCardSaid : Prop := Claim7.holds Tryd.pinned (.plain (OpenSpec.upto patternCommonSpec)) patternCommonUptoCard

/-- THE SECOND FORM's CARD OF 'koinelaw04.PatternStrings'. -/
def patternStringsUptoCard : Claim7 := { stood := { row := patternStringsUptoRow, standIns := [], harness := (true, "886bce3f6eff7da80223bec5ff4ccb772f4565bf6bac3b7e0f440fae3f41d69b"), looks := false }, kinds := [], alts := [], laidByText := true, laidKinds := [.data], laidTests := true, laidLooks := .later }
def PatternStringsUptoCardSaid : Prop := Claim7.holds Tryd.pinned (.plain (OpenSpec.upto patternStringsSpec)) patternStringsUptoCard

/-- THE SECOND FORM's CARD OF 'koinelaw04.PatternParentheses'. -/
def patternParenthesesUptoCard : Claim7 := { stood := { row := patternParenthesesUptoRow, standIns := [], harness := (true, "886bce3f6eff7da80223bec5ff4ccb772f4565bf6bac3b7e0f440fae3f41d69b"), looks := false }, kinds := [], alts := [], laidByText := true, laidKinds := [.data], laidTests := true, laidLooks := .later }
def PatternParenthesesUptoCardSaid : Prop := Claim7.holds Tryd.pinned (.plain (OpenSpec.upto patternParenthesesSpec)) patternParenthesesUptoCard

/-- THE SECOND FORM's CARD OF 'koinelaw04.PatternAnyMatchesReference'. -/
def patternAnyMatchesReferenceUptoCard : Claim7 := { stood := { row := patternAnyMatchesReferenceUptoRow, standIns := [], harness := (true, "886bce3f6eff7da80223bec5ff4ccb772f4565bf6bac3b7e0f440fae3f41d69b"), looks := false }, kinds := [], alts := [], laidByText := true, laidKinds := [.data], laidTests := true, laidLooks := .later }
def PatternAnyMatchesReferenceUptoCardSaid : Prop := Claim7.holds Tryd.pinned (.plain (OpenSpec.upto patternAnyMatchesReferenceSpec)) patternAnyMatchesReferenceUptoCard

/-- THE SECOND FORM's CARD OF 'koinelaw04.PatternLiterals'. -/
def patternLiteralsUptoCard : Claim7 := { stood := { row := patternLiteralsUptoRow, standIns := [], harness := (true, "886bce3f6eff7da80223bec5ff4ccb772f4565bf6bac3b7e0f440fae3f41d69b"), looks := false }, kinds := [], alts := [], laidByText := true, laidKinds := [.data], laidTests := true, laidLooks := .later }
def PatternLiteralsUptoCardSaid : Prop := Claim7.holds Tryd.pinned (.plain (OpenSpec.upto patternLiteralsSpec)) patternLiteralsUptoCard
end Rows
end Go.Proofs.YtnjcgpihfmklfaaDoor
