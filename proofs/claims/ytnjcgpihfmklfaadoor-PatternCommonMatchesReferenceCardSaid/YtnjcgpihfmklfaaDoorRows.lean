/-
  NARROWER THAN 'FOR EVERY INPUT', by the rows' own cells (each row's printed sentence says how): PatternMatchesReference: laid · PatternSyntaxMatchesReference: laid · PatternLimits: laid · PatternCommonMatchesReference: laid · PatternMeaning: laid · PatternLongest: laid · PatternShortest: laid · PatternCommon: laid · PatternStrings: laid · PatternParentheses: laid · PatternAnyMatchesReference: laid · PatternLiterals: laid.
  DERIVED. THE GIVEN ROWS OF THIS SEAT. 12 by the template 'for every input the law returns true; each argument reads behind the call as it read before'; 0 by the template 'total and deterministic' (their statements: YtnjcgpihfmklfaaDoorTotals.lean).
  GIVEN WITH THE SEED: the statements are not yours to turn. If you find one false, say at which input.
  Laid BY PROGRAM, IN A SANDBOX (cutbox-rows.mjs): the forced cells as the released guide's own fill.sh prints them over the translation d790833d2af9bbbe… (all of the seat's roots in one cut). By AI agents, Wed Nov 11 2026. No macro, syntax, notation, axiom, sorry.
-/
import Derived.Test.YtnjcgpihfmklfaaDoorChecked
import GoSem.Claim
import GoSem.ClaimJoined
import GoSem.ClaimMapViews
import Derived.JoinedTies
import Derived.KernelRfl
namespace Go.Proofs.YtnjcgpihfmklfaaDoor
/- THE CELL 'sum', in the pinned program and in every row, IS THE sha256 OF THE DUMP (.gsa) THAT YtnjcgpihfmklfaaDoorProg.lean LOADS. Nothing in Lean hashes anything: it is a label: what it is worth is what the hold of that sum in a sandbox is worth. -/
noncomputable def Tryd.pinned : Pinned := { name := "ytnjcgpihfmklfaadoor", sum := "d790833d2af9bbbefba898aec5669af3d021634d1ced54329cf960243c464ee3", checked := Tryd.checked }
namespace Rows
def none {H : Type} : Left H := { results := [], args := [] }

/- WHAT THE LISTED PACKAGE-LEVEL VARIABLES READ AS WHEN THE CALL BEGINS. Each datum BY PROGRAM (the guide's laid-datum.mjs) off the statement by which the dump's own 'gosem.cut.vars' lays the variable. In a bare row this is a premise. The card (YtnjcgpihfmklfaaDoorCards.lean) ties it to the program's text. -/
def laid_math_bits_deBruijn64tab {H : Type} : DataW H := .agg [.lit (.int .u8 0), .lit (.int .u8 1), .lit (.int .u8 56), .lit (.int .u8 2), .lit (.int .u8 57), .lit (.int .u8 49), .lit (.int .u8 28), .lit (.int .u8 3), .lit (.int .u8 61), .lit (.int .u8 58), .lit (.int .u8 42), .lit (.int .u8 50), .lit (.int .u8 38), .lit (.int .u8 29), .lit (.int .u8 17), .lit (.int .u8 4), .lit (.int .u8 62), .lit (.int .u8 47), .lit (.int .u8 59), .lit (.int .u8 36), .lit (.int .u8 45), .lit (.int .u8 43), .lit (.int .u8 51), .lit (.int .u8 22), .lit (.int .u8 53), .lit (.int .u8 39), .lit (.int .u8 33), .lit (.int .u8 30), .lit (.int .u8 24), .lit (.int .u8 18), .lit (.int .u8 12), .lit (.int .u8 5), .lit (.int .u8 63), .lit (.int .u8 55), .lit (.int .u8 48), .lit (.int .u8 27), .lit (.int .u8 60), .lit (.int .u8 41), .lit (.int .u8 37), .lit (.int .u8 16), .lit (.int .u8 46), .lit (.int .u8 35), .lit (.int .u8 44), .lit (.int .u8 21), .lit (.int .u8 52), .lit (.int .u8 32), .lit (.int .u8 23), .lit (.int .u8 11), .lit (.int .u8 54), .lit (.int .u8 26), .lit (.int .u8 40), .lit (.int .u8 15), .lit (.int .u8 34), .lit (.int .u8 20), .lit (.int .u8 31), .lit (.int .u8 10), .lit (.int .u8 25), .lit (.int .u8 14), .lit (.int .u8 19), .lit (.int .u8 9), .lit (.int .u8 13), .lit (.int .u8 8), .lit (.int .u8 7), .lit (.int .u8 6)]

/-- 'koinelaw04.PatternMatchesReference': WHATEVER THE INPUT: true; the input reads as it did. -/
def patternMatchesReferenceSpec : ChangeSpec := { name := "patternMatchesReference", fn := fun _ => fun
  | [d1, d2, d3] => { results := [.lit (.bool true)], args := [d1, d2, d3] }
  | _ => none }
def patternMatchesReferenceRow : OpenClaim := { program := "ytnjcgpihfmklfaadoor", sum := "d790833d2af9bbbefba898aec5669af3d021634d1ced54329cf960243c464ee3", func := "koine/koinelaw04.PatternMatchesReference", spec := "patternMatchesReference", unfollowed := true, recurses := true, named := ["math/bits.deBruijn64tab"], plainKeys := false, apart := false, laid := [("math/bits.deBruijn64tab", laid_math_bits_deBruijn64tab)] }
def PatternMatchesReferenceSaid : Prop := patternMatchesReferenceRow.holds Tryd.pinned (OpenSpec.ofChange patternMatchesReferenceSpec)

/-- ITS FALSE NEIGHBOUR: 'it returns false'. Refute it at one input. -/
def patternMatchesReferenceWrong : ChangeSpec := { name := "patternMatchesReference", fn := fun _ => fun
  | [d1, d2, d3] => { results := [.lit (.bool false)], args := [d1, d2, d3] }
  | _ => none }
def PatternMatchesReferenceWrongFalsely : Prop := patternMatchesReferenceRow.holds Tryd.pinned (OpenSpec.ofChange patternMatchesReferenceWrong)

/-- 'koinelaw04.PatternSyntaxMatchesReference': WHATEVER THE INPUT: true; the input reads as it did. -/
def patternSyntaxMatchesReferenceSpec : ChangeSpec := { name := "patternSyntaxMatchesReference", fn := fun _ => fun
  | [d] => { results := [.lit (.bool true)], args := [d] }
  | _ => none }
def patternSyntaxMatchesReferenceRow : OpenClaim := { program := "ytnjcgpihfmklfaadoor", sum := "d790833d2af9bbbefba898aec5669af3d021634d1ced54329cf960243c464ee3", func := "koine/koinelaw04.PatternSyntaxMatchesReference", spec := "patternSyntaxMatchesReference", unfollowed := true, recurses := true, named := ["math/bits.deBruijn64tab"], plainKeys := false, apart := false, laid := [("math/bits.deBruijn64tab", laid_math_bits_deBruijn64tab)] }
def PatternSyntaxMatchesReferenceSaid : Prop := patternSyntaxMatchesReferenceRow.holds Tryd.pinned (OpenSpec.ofChange patternSyntaxMatchesReferenceSpec)

/-- ITS FALSE NEIGHBOUR: 'it returns false'. Refute it at one input. -/
def patternSyntaxMatchesReferenceWrong : ChangeSpec := { name := "patternSyntaxMatchesReference", fn := fun _ => fun
  | [d] => { results := [.lit (.bool false)], args := [d] }
  | _ => none }
def PatternSyntaxMatchesReferenceWrongFalsely : Prop := patternSyntaxMatchesReferenceRow.holds Tryd.pinned (OpenSpec.ofChange patternSyntaxMatchesReferenceWrong)

/-- 'koinelaw04.PatternLimits': WHATEVER THE INPUT: true; the input reads as it did. -/
def patternLimitsSpec : ChangeSpec := { name := "patternLimits", fn := fun _ => fun
  | [d1, d2] => { results := [.lit (.bool true)], args := [d1, d2] }
  | _ => none }
def patternLimitsRow : OpenClaim := { program := "ytnjcgpihfmklfaadoor", sum := "d790833d2af9bbbefba898aec5669af3d021634d1ced54329cf960243c464ee3", func := "koine/koinelaw04.PatternLimits", spec := "patternLimits", unfollowed := true, recurses := true, named := ["math/bits.deBruijn64tab"], plainKeys := false, apart := false, laid := [("math/bits.deBruijn64tab", laid_math_bits_deBruijn64tab)] }
def PatternLimitsSaid : Prop := patternLimitsRow.holds Tryd.pinned (OpenSpec.ofChange patternLimitsSpec)

/-- ITS FALSE NEIGHBOUR: 'it returns false'. Refute it at one input. -/
def patternLimitsWrong : ChangeSpec := { name := "patternLimits", fn := fun _ => fun
  | [d1, d2] => { results := [.lit (.bool false)], args := [d1, d2] }
  | _ => none }
def PatternLimitsWrongFalsely : Prop := patternLimitsRow.holds Tryd.pinned (OpenSpec.ofChange patternLimitsWrong)

/-- 'koinelaw04.PatternCommonMatchesReference': WHATEVER THE INPUT: true; the input reads as it did. -/
def patternCommonMatchesReferenceSpec : ChangeSpec := { name := "patternCommonMatchesReference", fn := fun _ => fun
  | [d1, d2] => { results := [.lit (.bool true)], args := [d1, d2] }
  | _ => none }
def patternCommonMatchesReferenceRow : OpenClaim := { program := "ytnjcgpihfmklfaadoor", sum := "d790833d2af9bbbefba898aec5669af3d021634d1ced54329cf960243c464ee3", func := "koine/koinelaw04.PatternCommonMatchesReference", spec := "patternCommonMatchesReference", unfollowed := true, recurses := true, named := ["math/bits.deBruijn64tab"], plainKeys := false, apart := false, laid := [("math/bits.deBruijn64tab", laid_math_bits_deBruijn64tab)] }
def PatternCommonMatchesReferenceSaid : Prop := patternCommonMatchesReferenceRow.holds Tryd.pinned (OpenSpec.ofChange patternCommonMatchesReferenceSpec)

/-- ITS FALSE NEIGHBOUR: 'it returns false'. Refute it at one input. -/
def patternCommonMatchesReferenceWrong : ChangeSpec := { name := "patternCommonMatchesReference", fn := fun _ => fun
  | [d1, d2] => { results := [.lit (.bool false)], args := [d1, d2] }
  | _ => none }
def PatternCommonMatchesReferenceWrongFalsely : Prop := patternCommonMatchesReferenceRow.holds Tryd.pinned (OpenSpec.ofChange patternCommonMatchesReferenceWrong)

/-- 'koinelaw04.PatternMeaning': WHATEVER THE INPUT: true; the input reads as it did. -/
def patternMeaningSpec : ChangeSpec := { name := "patternMeaning", fn := fun _ => fun
  | [d1, d2, d3] => { results := [.lit (.bool true)], args := [d1, d2, d3] }
  | _ => none }
def patternMeaningRow : OpenClaim := { program := "ytnjcgpihfmklfaadoor", sum := "d790833d2af9bbbefba898aec5669af3d021634d1ced54329cf960243c464ee3", func := "koine/koinelaw04.PatternMeaning", spec := "patternMeaning", unfollowed := true, recurses := true, named := ["math/bits.deBruijn64tab"], plainKeys := false, apart := false, laid := [("math/bits.deBruijn64tab", laid_math_bits_deBruijn64tab)] }
def PatternMeaningSaid : Prop := patternMeaningRow.holds Tryd.pinned (OpenSpec.ofChange patternMeaningSpec)

/-- ITS FALSE NEIGHBOUR: 'it returns false'. Refute it at one input. -/
def patternMeaningWrong : ChangeSpec := { name := "patternMeaning", fn := fun _ => fun
  | [d1, d2, d3] => { results := [.lit (.bool false)], args := [d1, d2, d3] }
  | _ => none }
def PatternMeaningWrongFalsely : Prop := patternMeaningRow.holds Tryd.pinned (OpenSpec.ofChange patternMeaningWrong)

/-- 'koinelaw04.PatternLongest': WHATEVER THE INPUT: true; the input reads as it did. -/
def patternLongestSpec : ChangeSpec := { name := "patternLongest", fn := fun _ => fun
  | [d1, d2, d3] => { results := [.lit (.bool true)], args := [d1, d2, d3] }
  | _ => none }
def patternLongestRow : OpenClaim := { program := "ytnjcgpihfmklfaadoor", sum := "d790833d2af9bbbefba898aec5669af3d021634d1ced54329cf960243c464ee3", func := "koine/koinelaw04.PatternLongest", spec := "patternLongest", unfollowed := true, recurses := true, named := ["math/bits.deBruijn64tab"], plainKeys := false, apart := false, laid := [("math/bits.deBruijn64tab", laid_math_bits_deBruijn64tab)] }
def PatternLongestSaid : Prop := patternLongestRow.holds Tryd.pinned (OpenSpec.ofChange patternLongestSpec)

/-- ITS FALSE NEIGHBOUR: 'it returns false'. Refute it at one input. -/
def patternLongestWrong : ChangeSpec := { name := "patternLongest", fn := fun _ => fun
  | [d1, d2, d3] => { results := [.lit (.bool false)], args := [d1, d2, d3] }
  | _ => none }
def PatternLongestWrongFalsely : Prop := patternLongestRow.holds Tryd.pinned (OpenSpec.ofChange patternLongestWrong)

/-- 'koinelaw04.PatternShortest': WHATEVER THE INPUT: true; the input reads as it did. -/
def patternShortestSpec : ChangeSpec := { name := "patternShortest", fn := fun _ => fun
  | [d] => { results := [.lit (.bool true)], args := [d] }
  | _ => none }
def patternShortestRow : OpenClaim := { program := "ytnjcgpihfmklfaadoor", sum := "d790833d2af9bbbefba898aec5669af3d021634d1ced54329cf960243c464ee3", func := "koine/koinelaw04.PatternShortest", spec := "patternShortest", unfollowed := true, recurses := true, named := ["math/bits.deBruijn64tab"], plainKeys := false, apart := false, laid := [("math/bits.deBruijn64tab", laid_math_bits_deBruijn64tab)] }
def PatternShortestSaid : Prop := patternShortestRow.holds Tryd.pinned (OpenSpec.ofChange patternShortestSpec)

/-- ITS FALSE NEIGHBOUR: 'it returns false'. Refute it at one input. -/
def patternShortestWrong : ChangeSpec := { name := "patternShortest", fn := fun _ => fun
  | [d] => { results := [.lit (.bool false)], args := [d] }
  | _ => none }
def PatternShortestWrongFalsely : Prop := patternShortestRow.holds Tryd.pinned (OpenSpec.ofChange patternShortestWrong)

/-- 'koinelaw04.PatternCommon': WHATEVER THE INPUT: true; the input reads as it did. -/
def patternCommonSpec : ChangeSpec := { name := "patternCommon", fn := fun _ => fun
  | [d1, d2] => { results := [.lit (.bool true)], args := [d1, d2] }
  | _ => none }
def patternCommonRow : OpenClaim := { program := "ytnjcgpihfmklfaadoor", sum := "d790833d2af9bbbefba898aec5669af3d021634d1ced54329cf960243c464ee3", func := "koine/koinelaw04.PatternCommon", spec := "patternCommon", unfollowed := true, recurses := true, named := ["math/bits.deBruijn64tab"], plainKeys := false, apart := false, laid := [("math/bits.deBruijn64tab", laid_math_bits_deBruijn64tab)] }
def PatternCommonSaid : Prop := patternCommonRow.holds Tryd.pinned (OpenSpec.ofChange patternCommonSpec)

/-- ITS FALSE NEIGHBOUR: 'it returns false'. Refute it at one input. -/
def patternCommonWrong : ChangeSpec := { name := "patternCommon", fn := fun _ => fun
  | [d1, d2] => { results := [.lit (.bool false)], args := [d1, d2] }
  | _ => none }
def PatternCommonWrongFalsely : Prop := patternCommonRow.holds Tryd.pinned (OpenSpec.ofChange patternCommonWrong)

/-- 'koinelaw04.PatternStrings': WHATEVER THE INPUT: true; the input reads as it did. -/
def patternStringsSpec : ChangeSpec := { name := "patternStrings", fn := fun _ => fun
  | [d1, d2] => { results := [.lit (.bool true)], args := [d1, d2] }
  | _ => none }
def patternStringsRow : OpenClaim := { program := "ytnjcgpihfmklfaadoor", sum := "d790833d2af9bbbefba898aec5669af3d021634d1ced54329cf960243c464ee3", func := "koine/koinelaw04.PatternStrings", spec := "patternStrings", unfollowed := true, recurses := true, named := ["math/bits.deBruijn64tab"], plainKeys := false, apart := false, laid := [("math/bits.deBruijn64tab", laid_math_bits_deBruijn64tab)] }
def PatternStringsSaid : Prop := patternStringsRow.holds Tryd.pinned (OpenSpec.ofChange patternStringsSpec)

/-- ITS FALSE NEIGHBOUR: 'it returns false'. Refute it at one input. -/
def patternStringsWrong : ChangeSpec := { name := "patternStrings", fn := fun _ => fun
  | [d1, d2] => { results := [.lit (.bool false)], args := [d1, d2] }
  | _ => none }
def PatternStringsWrongFalsely : Prop := patternStringsRow.holds Tryd.pinned (OpenSpec.ofChange patternStringsWrong)

/-- 'koinelaw04.PatternParentheses': WHATEVER THE INPUT: true; the input reads as it did. -/
def patternParenthesesSpec : ChangeSpec := { name := "patternParentheses", fn := fun _ => fun
  | [d] => { results := [.lit (.bool true)], args := [d] }
  | _ => none }
def patternParenthesesRow : OpenClaim := { program := "ytnjcgpihfmklfaadoor", sum := "d790833d2af9bbbefba898aec5669af3d021634d1ced54329cf960243c464ee3", func := "koine/koinelaw04.PatternParentheses", spec := "patternParentheses", unfollowed := true, recurses := true, named := ["math/bits.deBruijn64tab"], plainKeys := false, apart := false, laid := [("math/bits.deBruijn64tab", laid_math_bits_deBruijn64tab)] }
def PatternParenthesesSaid : Prop := patternParenthesesRow.holds Tryd.pinned (OpenSpec.ofChange patternParenthesesSpec)

/-- ITS FALSE NEIGHBOUR: 'it returns false'. Refute it at one input. -/
def patternParenthesesWrong : ChangeSpec := { name := "patternParentheses", fn := fun _ => fun
  | [d] => { results := [.lit (.bool false)], args := [d] }
  | _ => none }
def PatternParenthesesWrongFalsely : Prop := patternParenthesesRow.holds Tryd.pinned (OpenSpec.ofChange patternParenthesesWrong)

/-- 'koinelaw04.PatternAnyMatchesReference': WHATEVER THE INPUT: true; the input reads as it did. -/
def patternAnyMatchesReferenceSpec : ChangeSpec := { name := "patternAnyMatchesReference", fn := fun _ => fun
  | [d1, d2, d3] => { results := [.lit (.bool true)], args := [d1, d2, d3] }
  | _ => none }
def patternAnyMatchesReferenceRow : OpenClaim := { program := "ytnjcgpihfmklfaadoor", sum := "d790833d2af9bbbefba898aec5669af3d021634d1ced54329cf960243c464ee3", func := "koine/koinelaw04.PatternAnyMatchesReference", spec := "patternAnyMatchesReference", unfollowed := true, recurses := true, named := ["math/bits.deBruijn64tab"], plainKeys := false, apart := false, laid := [("math/bits.deBruijn64tab", laid_math_bits_deBruijn64tab)] }
def PatternAnyMatchesReferenceSaid : Prop := patternAnyMatchesReferenceRow.holds Tryd.pinned (OpenSpec.ofChange patternAnyMatchesReferenceSpec)

/-- ITS FALSE NEIGHBOUR: 'it returns false'. Refute it at one input. -/
def patternAnyMatchesReferenceWrong : ChangeSpec := { name := "patternAnyMatchesReference", fn := fun _ => fun
  | [d1, d2, d3] => { results := [.lit (.bool false)], args := [d1, d2, d3] }
  | _ => none }
def PatternAnyMatchesReferenceWrongFalsely : Prop := patternAnyMatchesReferenceRow.holds Tryd.pinned (OpenSpec.ofChange patternAnyMatchesReferenceWrong)

/-- 'koinelaw04.PatternLiterals': WHATEVER THE INPUT: true; the input reads as it did. -/
def patternLiteralsSpec : ChangeSpec := { name := "patternLiterals", fn := fun _ => fun
  | [d1, d2] => { results := [.lit (.bool true)], args := [d1, d2] }
  | _ => none }
def patternLiteralsRow : OpenClaim := { program := "ytnjcgpihfmklfaadoor", sum := "d790833d2af9bbbefba898aec5669af3d021634d1ced54329cf960243c464ee3", func := "koine/koinelaw04.PatternLiterals", spec := "patternLiterals", unfollowed := true, recurses := true, named := ["math/bits.deBruijn64tab"], plainKeys := false, apart := false, laid := [("math/bits.deBruijn64tab", laid_math_bits_deBruijn64tab)] }
def PatternLiteralsSaid : Prop := patternLiteralsRow.holds Tryd.pinned (OpenSpec.ofChange patternLiteralsSpec)

/-- ITS FALSE NEIGHBOUR: 'it returns false'. Refute it at one input. -/
def patternLiteralsWrong : ChangeSpec := { name := "patternLiterals", fn := fun _ => fun
  | [d1, d2] => { results := [.lit (.bool false)], args := [d1, d2] }
  | _ => none }
def PatternLiteralsWrongFalsely : Prop := patternLiteralsRow.holds Tryd.pinned (OpenSpec.ofChange patternLiteralsWrong)

/- THE SECOND FORM. 'bulk': how many values and letters a reading holds, each counted each time it is reached (what is shared counts as often as it is met; a slice's spare places count too). A statement '..UptoSaid' is the law's where the arguments, and the package variables that the reading takes, are together of bulk at most 1048576: NARROWER than '..Said'. Prove '..Said' where nothing that the law and all that it calls make is longer than what came in: it says more and counts as full. Else prove '..UptoSaid'. A law counts once. -/
mutual
def uptoBulk {H : Type} : DataW H → Nat
  | .lit (.string bytes) => bytes.length + 1
  | .lit _ => 1
  | .nil => 1
  | .ptr d => uptoBulk d + 1
  | .slice elems spare => uptoBulkAll elems + uptoBulkAll spare + 1
  | .agg parts => uptoBulkAll parts + 1
  | .iface _ d => uptoBulk d + 1
  | .map entries => uptoBulkEntries entries + 1
  | .held _ => 1
def uptoBulkAll {H : Type} : List (DataW H) → Nat
  | [] => 0
  | d :: r => uptoBulk d + uptoBulkAll r
def uptoBulkEntries {H : Type} : List (Lit × DataW H) → Nat
  | [] => 0
  | x :: r => uptoBulkEntry x + uptoBulkEntries r
def uptoBulkEntry {H : Type} : Lit × DataW H → Nat
  | (.string bytes, d) => bytes.length + uptoBulk d + 1
  | (_, d) => uptoBulk d + 1
 end
def uptoSmall : (H : Type) → List (DataW H) → Bool := fun _ ds => decide (uptoBulkAll ds ≤ 1048576)
def OpenSpec.upto (s : _root_.Go.ChangeSpec) : _root_.Go.OpenSpec := { _root_.Go.OpenSpec.ofChange s with cond := some uptoSmall }

/-- 'koinelaw04.PatternMatchesReference', WHERE WHAT IT READS IS OF BULK AT MOST 1048576: true; the input reads as it did. -/
def patternMatchesReferenceUptoRow : OpenClaim := { program := "ytnjcgpihfmklfaadoor", sum := "d790833d2af9bbbefba898aec5669af3d021634d1ced54329cf960243c464ee3", func := "koine/koinelaw04.PatternMatchesReference", spec := "patternMatchesReference", unfollowed := true, recurses := true, named := ["math/bits.deBruijn64tab"], plainKeys := false, apart := false, laid := [("math/bits.deBruijn64tab", laid_math_bits_deBruijn64tab)], narrowed := true }
def PatternMatchesReferenceUptoSaid : Prop := patternMatchesReferenceUptoRow.holds Tryd.pinned (OpenSpec.upto patternMatchesReferenceSpec)

/-- 'koinelaw04.PatternSyntaxMatchesReference', WHERE WHAT IT READS IS OF BULK AT MOST 1048576: true; the input reads as it did. -/
def patternSyntaxMatchesReferenceUptoRow : OpenClaim := { program := "ytnjcgpihfmklfaadoor", sum := "d790833d2af9bbbefba898aec5669af3d021634d1ced54329cf960243c464ee3", func := "koine/koinelaw04.PatternSyntaxMatchesReference", spec := "patternSyntaxMatchesReference", unfollowed := true, recurses := true, named := ["math/bits.deBruijn64tab"], plainKeys := false, apart := false, laid := [("math/bits.deBruijn64tab", laid_math_bits_deBruijn64tab)], narrowed := true }
def PatternSyntaxMatchesReferenceUptoSaid : Prop := patternSyntaxMatchesReferenceUptoRow.holds Tryd.pinned (OpenSpec.upto patternSyntaxMatchesReferenceSpec)

/-- 'koinelaw04.PatternLimits', WHERE WHAT IT READS IS OF BULK AT MOST 1048576: true; the input reads as it did. -/
def patternLimitsUptoRow : OpenClaim := { program := "ytnjcgpihfmklfaadoor", sum := "d790833d2af9bbbefba898aec5669af3d021634d1ced54329cf960243c464ee3", func := "koine/koinelaw04.PatternLimits", spec := "patternLimits", unfollowed := true, recurses := true, named := ["math/bits.deBruijn64tab"], plainKeys := false, apart := false, laid := [("math/bits.deBruijn64tab", laid_math_bits_deBruijn64tab)], narrowed := true }
def PatternLimitsUptoSaid : Prop := patternLimitsUptoRow.holds Tryd.pinned (OpenSpec.upto patternLimitsSpec)

/-- 'koinelaw04.PatternCommonMatchesReference', WHERE WHAT IT READS IS OF BULK AT MOST 1048576: true; the input reads as it did. -/
def patternCommonMatchesReferenceUptoRow : OpenClaim := { program := "ytnjcgpihfmklfaadoor", sum := "d790833d2af9bbbefba898aec5669af3d021634d1ced54329cf960243c464ee3", func := "koine/koinelaw04.PatternCommonMatchesReference", spec := "patternCommonMatchesReference", unfollowed := true, recurses := true, named := ["math/bits.deBruijn64tab"], plainKeys := false, apart := false, laid := [("math/bits.deBruijn64tab", laid_math_bits_deBruijn64tab)], narrowed := true }
def PatternCommonMatchesReferenceUptoSaid : Prop := patternCommonMatchesReferenceUptoRow.holds Tryd.pinned (OpenSpec.upto patternCommonMatchesReferenceSpec)

/-- 'koinelaw04.PatternMeaning', WHERE WHAT IT READS IS OF BULK AT MOST 1048576: true; the input reads as it did. -/
def patternMeaningUptoRow : OpenClaim := { program := "ytnjcgpihfmklfaadoor", sum := "d790833d2af9bbbefba898aec5669af3d021634d1ced54329cf960243c464ee3", func := "koine/koinelaw04.PatternMeaning", spec := "patternMeaning", unfollowed := true, recurses := true, named := ["math/bits.deBruijn64tab"], plainKeys := false, apart := false, laid := [("math/bits.deBruijn64tab", laid_math_bits_deBruijn64tab)], narrowed := true }
def PatternMeaningUptoSaid : Prop := patternMeaningUptoRow.holds Tryd.pinned (OpenSpec.upto patternMeaningSpec)

/-- 'koinelaw04.PatternLongest', WHERE WHAT IT READS IS OF BULK AT MOST 1048576: true; the input reads as it did. -/
def patternLongestUptoRow : OpenClaim := { program := "ytnjcgpihfmklfaadoor", sum := "d790833d2af9bbbefba898aec5669af3d021634d1ced54329cf960243c464ee3", func := "koine/koinelaw04.PatternLongest", spec := "patternLongest", unfollowed := true, recurses := true, named := ["math/bits.deBruijn64tab"], plainKeys := false, apart := false, laid := [("math/bits.deBruijn64tab", laid_math_bits_deBruijn64tab)], narrowed := true }
def PatternLongestUptoSaid : Prop := patternLongestUptoRow.holds Tryd.pinned (OpenSpec.upto patternLongestSpec)

/-- 'koinelaw04.PatternShortest', WHERE WHAT IT READS IS OF BULK AT MOST 1048576: true; the input reads as it did. -/
def patternShortestUptoRow : OpenClaim := { program := "ytnjcgpihfmklfaadoor", sum := "d790833d2af9bbbefba898aec5669af3d021634d1ced54329cf960243c464ee3", func := "koine/koinelaw04.PatternShortest", spec := "patternShortest", unfollowed := true, recurses := true, named := ["math/bits.deBruijn64tab"], plainKeys := false, apart := false, laid := [("math/bits.deBruijn64tab", laid_math_bits_deBruijn64tab)], narrowed := true }
def PatternShortestUptoSaid : Prop := patternShortestUptoRow.holds Tryd.pinned (OpenSpec.upto patternShortestSpec)

/-- 'koinelaw04.PatternCommon', WHERE WHAT IT READS IS OF BULK AT MOST 1048576: true; the input reads as it did. -/
def patternCommonUptoRow : OpenClaim := { program := "ytnjcgpihfmklfaadoor", sum := "d790833d2af9bbbefba898aec5669af3d021634d1ced54329cf960243c464ee3", func := "koine/koinelaw04.PatternCommon", spec := "patternCommon", unfollowed := true, recurses := true, named := ["math/bits.deBruijn64tab"], plainKeys := false, apart := false, laid := [("math/bits.deBruijn64tab", laid_math_bits_deBruijn64tab)], narrowed := true }
def PatternCommonUptoSaid : Prop := patternCommonUptoRow.holds Tryd.pinned (OpenSpec.upto patternCommonSpec)

/-- 'koinelaw04.PatternStrings', WHERE WHAT IT READS IS OF BULK AT MOST 1048576: true; the input reads as it did. -/
def patternStringsUptoRow : OpenClaim := { program := "ytnjcgpihfmklfaadoor", sum := "d790833d2af9bbbefba898aec5669af3d021634d1ced54329cf960243c464ee3", func := "koine/koinelaw04.PatternStrings", spec := "patternStrings", unfollowed := true, recurses := true, named := ["math/bits.deBruijn64tab"], plainKeys := false, apart := false, laid := [("math/bits.deBruijn64tab", laid_math_bits_deBruijn64tab)], narrowed := true }
def PatternStringsUptoSaid : Prop := patternStringsUptoRow.holds Tryd.pinned (OpenSpec.upto patternStringsSpec)

/-- 'koinelaw04.PatternParentheses', WHERE WHAT IT READS IS OF BULK AT MOST 1048576: true; the input reads as it did. -/
def patternParenthesesUptoRow : OpenClaim := { program := "ytnjcgpihfmklfaadoor", sum := "d790833d2af9bbbefba898aec5669af3d021634d1ced54329cf960243c464ee3", func := "koine/koinelaw04.PatternParentheses", spec := "patternParentheses", unfollowed := true, recurses := true, named := ["math/bits.deBruijn64tab"], plainKeys := false, apart := false, laid := [("math/bits.deBruijn64tab", laid_math_bits_deBruijn64tab)], narrowed := true }
def PatternParenthesesUptoSaid : Prop := patternParenthesesUptoRow.holds Tryd.pinned (OpenSpec.upto patternParenthesesSpec)

/-- 'koinelaw04.PatternAnyMatchesReference', WHERE WHAT IT READS IS OF BULK AT MOST 1048576: true; the input reads as it did. -/
def patternAnyMatchesReferenceUptoRow : OpenClaim := { program := "ytnjcgpihfmklfaadoor", sum := "d790833d2af9bbbefba898aec5669af3d021634d1ced54329cf960243c464ee3", func := "koine/koinelaw04.PatternAnyMatchesReference", spec := "patternAnyMatchesReference", unfollowed := true, recurses := true, named := ["math/bits.deBruijn64tab"], plainKeys := false, apart := false, laid := [("math/bits.deBruijn64tab", laid_math_bits_deBruijn64tab)], narrowed := true }
def PatternAnyMatchesReferenceUptoSaid : Prop := patternAnyMatchesReferenceUptoRow.holds Tryd.pinned (OpenSpec.upto patternAnyMatchesReferenceSpec)

/-- 'koinelaw04.PatternLiterals', WHERE WHAT IT READS IS OF BULK AT MOST 1048576: true; the input reads as it did. -/
def patternLiteralsUptoRow : OpenClaim := { program := "ytnjcgpihfmklfaadoor", sum := "d790833d2af9bbbefba898aec5669af3d021634d1ced54329cf960243c464ee3", func := "koine/koinelaw04.PatternLiterals", spec := "patternLiterals", unfollowed := true, recurses := true, named := ["math/bits.deBruijn64tab"], plainKeys := false, apart := false, laid := [("math/bits.deBruijn64tab", laid_math_bits_deBruijn64tab)], narrowed := true }
def PatternLiteralsUptoSaid : Prop := patternLiteralsUptoRow.holds Tryd.pinned (OpenSpec.upto patternLiteralsSpec)

end Rows
end Go.Proofs.YtnjcgpihfmklfaaDoor
