/-
  NARROWER THAN 'FOR EVERY INPUT', by the rows' own cells (each row's printed sentence says how): FactsMatchReference: laid · FactsFirstMatchesReference: laid · FactsFixedPoint: laid · FactsCycles: laid · FactsErrors: laid · FactsUseful: laid · FactsGrow: laid · FactsDerivations: laid · FactsPerConfiguration: laid.
  DERIVED. THE GIVEN ROWS OF THIS SEAT. 9 by the template 'for every input the law returns true; each argument reads behind the call as it read before'; 0 by the template 'total and deterministic' (their statements: YtcemhghkipgdiaaGreatDoorTotals.lean).
  GIVEN WITH THE SEED: the statements are not yours to turn. If you find one false, say at which input.
  Laid BY PROGRAM, IN A SANDBOX (cutbox-rows.mjs): the forced cells as the released guide's own fill.sh prints them over the translation 37ec3b07ec4fa34e… (all of the seat's roots in one cut). By AI agents, Wed Nov 11 2026. No macro, syntax, notation, axiom, sorry.
-/
import Derived.Test.YtcemhghkipgdiaaGreatDoorChecked
import GoSem.Claim
import GoSem.ClaimJoined
import GoSem.ClaimMapViews
import Derived.JoinedTies
import Derived.KernelRfl
namespace Go.Proofs.YtcemhghkipgdiaaGreatDoor
/- THE CELL 'sum', in the pinned program and in every row, IS THE sha256 OF THE DUMP (.gsa) THAT YtcemhghkipgdiaaGreatDoorProg.lean LOADS. Nothing in Lean hashes anything: it is a label: what it is worth is what the hold of that sum in a sandbox is worth. -/
noncomputable def Tryz.pinned : Pinned := { name := "ytcemhghkipgdiaagreatdoor", sum := "37ec3b07ec4fa34e2f73b3cd7fe08b3ed2d6132894153d755d1bcf51fb8b17d8", checked := Tryz.checked }
namespace Rows
def none {H : Type} : Left H := { results := [], args := [] }

/- WHAT THE LISTED PACKAGE-LEVEL VARIABLES READ AS WHEN THE CALL BEGINS. Each datum BY PROGRAM (the guide's laid-datum.mjs) off the statement by which the dump's own 'gosem.cut.vars' lays the variable. In a bare row this is a premise. The card (YtcemhghkipgdiaaGreatDoorCards.lean) ties it to the program's text. -/
def laid_math_bits_deBruijn64tab {H : Type} : DataW H := .agg [.lit (.int .u8 0), .lit (.int .u8 1), .lit (.int .u8 56), .lit (.int .u8 2), .lit (.int .u8 57), .lit (.int .u8 49), .lit (.int .u8 28), .lit (.int .u8 3), .lit (.int .u8 61), .lit (.int .u8 58), .lit (.int .u8 42), .lit (.int .u8 50), .lit (.int .u8 38), .lit (.int .u8 29), .lit (.int .u8 17), .lit (.int .u8 4), .lit (.int .u8 62), .lit (.int .u8 47), .lit (.int .u8 59), .lit (.int .u8 36), .lit (.int .u8 45), .lit (.int .u8 43), .lit (.int .u8 51), .lit (.int .u8 22), .lit (.int .u8 53), .lit (.int .u8 39), .lit (.int .u8 33), .lit (.int .u8 30), .lit (.int .u8 24), .lit (.int .u8 18), .lit (.int .u8 12), .lit (.int .u8 5), .lit (.int .u8 63), .lit (.int .u8 55), .lit (.int .u8 48), .lit (.int .u8 27), .lit (.int .u8 60), .lit (.int .u8 41), .lit (.int .u8 37), .lit (.int .u8 16), .lit (.int .u8 46), .lit (.int .u8 35), .lit (.int .u8 44), .lit (.int .u8 21), .lit (.int .u8 52), .lit (.int .u8 32), .lit (.int .u8 23), .lit (.int .u8 11), .lit (.int .u8 54), .lit (.int .u8 26), .lit (.int .u8 40), .lit (.int .u8 15), .lit (.int .u8 34), .lit (.int .u8 20), .lit (.int .u8 31), .lit (.int .u8 10), .lit (.int .u8 25), .lit (.int .u8 14), .lit (.int .u8 19), .lit (.int .u8 9), .lit (.int .u8 13), .lit (.int .u8 8), .lit (.int .u8 7), .lit (.int .u8 6)]

/-- 'koinelaw06.FactsMatchReference': WHATEVER THE INPUT: true; the input reads as it did. -/
def factsMatchReferenceSpec : ChangeSpec := { name := "factsMatchReference", fn := fun _ => fun
  | [d1, d2] => { results := [.lit (.bool true)], args := [d1, d2] }
  | _ => none }
def factsMatchReferenceRow : OpenClaim := { program := "ytcemhghkipgdiaagreatdoor", sum := "37ec3b07ec4fa34e2f73b3cd7fe08b3ed2d6132894153d755d1bcf51fb8b17d8", func := "koine/koinelaw06.FactsMatchReference", spec := "factsMatchReference", unfollowed := true, recurses := true, named := ["math/bits.deBruijn64tab"], plainKeys := false, apart := false, laid := [("math/bits.deBruijn64tab", laid_math_bits_deBruijn64tab)] }
def FactsMatchReferenceSaid : Prop := factsMatchReferenceRow.holds Tryz.pinned (OpenSpec.ofChange factsMatchReferenceSpec)

/-- ITS FALSE NEIGHBOUR: 'it returns false'. Refute it at one input. -/
def factsMatchReferenceWrong : ChangeSpec := { name := "factsMatchReference", fn := fun _ => fun
  | [d1, d2] => { results := [.lit (.bool false)], args := [d1, d2] }
  | _ => none }
def FactsMatchReferenceWrongFalsely : Prop := factsMatchReferenceRow.holds Tryz.pinned (OpenSpec.ofChange factsMatchReferenceWrong)

/-- 'koinelaw06.FactsFirstMatchesReference': WHATEVER THE INPUT: true; the input reads as it did. -/
def factsFirstMatchesReferenceSpec : ChangeSpec := { name := "factsFirstMatchesReference", fn := fun _ => fun
  | [d1, d2] => { results := [.lit (.bool true)], args := [d1, d2] }
  | _ => none }
def factsFirstMatchesReferenceRow : OpenClaim := { program := "ytcemhghkipgdiaagreatdoor", sum := "37ec3b07ec4fa34e2f73b3cd7fe08b3ed2d6132894153d755d1bcf51fb8b17d8", func := "koine/koinelaw06.FactsFirstMatchesReference", spec := "factsFirstMatchesReference", unfollowed := true, recurses := true, named := ["math/bits.deBruijn64tab"], plainKeys := false, apart := false, laid := [("math/bits.deBruijn64tab", laid_math_bits_deBruijn64tab)] }
def FactsFirstMatchesReferenceSaid : Prop := factsFirstMatchesReferenceRow.holds Tryz.pinned (OpenSpec.ofChange factsFirstMatchesReferenceSpec)

/-- ITS FALSE NEIGHBOUR: 'it returns false'. Refute it at one input. -/
def factsFirstMatchesReferenceWrong : ChangeSpec := { name := "factsFirstMatchesReference", fn := fun _ => fun
  | [d1, d2] => { results := [.lit (.bool false)], args := [d1, d2] }
  | _ => none }
def FactsFirstMatchesReferenceWrongFalsely : Prop := factsFirstMatchesReferenceRow.holds Tryz.pinned (OpenSpec.ofChange factsFirstMatchesReferenceWrong)

/-- 'koinelaw06.FactsFixedPoint': WHATEVER THE INPUT: true; the input reads as it did. -/
def factsFixedPointSpec : ChangeSpec := { name := "factsFixedPoint", fn := fun _ => fun
  | [d1, d2] => { results := [.lit (.bool true)], args := [d1, d2] }
  | _ => none }
def factsFixedPointRow : OpenClaim := { program := "ytcemhghkipgdiaagreatdoor", sum := "37ec3b07ec4fa34e2f73b3cd7fe08b3ed2d6132894153d755d1bcf51fb8b17d8", func := "koine/koinelaw06.FactsFixedPoint", spec := "factsFixedPoint", unfollowed := true, recurses := true, named := ["math/bits.deBruijn64tab"], plainKeys := false, apart := false, laid := [("math/bits.deBruijn64tab", laid_math_bits_deBruijn64tab)] }
def FactsFixedPointSaid : Prop := factsFixedPointRow.holds Tryz.pinned (OpenSpec.ofChange factsFixedPointSpec)

/-- ITS FALSE NEIGHBOUR: 'it returns false'. Refute it at one input. -/
def factsFixedPointWrong : ChangeSpec := { name := "factsFixedPoint", fn := fun _ => fun
  | [d1, d2] => { results := [.lit (.bool false)], args := [d1, d2] }
  | _ => none }
def FactsFixedPointWrongFalsely : Prop := factsFixedPointRow.holds Tryz.pinned (OpenSpec.ofChange factsFixedPointWrong)

/-- 'koinelaw06.FactsCycles': WHATEVER THE INPUT: true; the input reads as it did. -/
def factsCyclesSpec : ChangeSpec := { name := "factsCycles", fn := fun _ => fun
  | [d1, d2, d3, d4] => { results := [.lit (.bool true)], args := [d1, d2, d3, d4] }
  | _ => none }
def factsCyclesRow : OpenClaim := { program := "ytcemhghkipgdiaagreatdoor", sum := "37ec3b07ec4fa34e2f73b3cd7fe08b3ed2d6132894153d755d1bcf51fb8b17d8", func := "koine/koinelaw06.FactsCycles", spec := "factsCycles", unfollowed := true, recurses := true, named := ["math/bits.deBruijn64tab"], plainKeys := false, apart := false, laid := [("math/bits.deBruijn64tab", laid_math_bits_deBruijn64tab)] }
def FactsCyclesSaid : Prop := factsCyclesRow.holds Tryz.pinned (OpenSpec.ofChange factsCyclesSpec)

/-- ITS FALSE NEIGHBOUR: 'it returns false'. Refute it at one input. -/
def factsCyclesWrong : ChangeSpec := { name := "factsCycles", fn := fun _ => fun
  | [d1, d2, d3, d4] => { results := [.lit (.bool false)], args := [d1, d2, d3, d4] }
  | _ => none }
def FactsCyclesWrongFalsely : Prop := factsCyclesRow.holds Tryz.pinned (OpenSpec.ofChange factsCyclesWrong)

/-- 'koinelaw06.FactsErrors': WHATEVER THE INPUT: true; the input reads as it did. -/
def factsErrorsSpec : ChangeSpec := { name := "factsErrors", fn := fun _ => fun
  | [d1, d2, d3] => { results := [.lit (.bool true)], args := [d1, d2, d3] }
  | _ => none }
def factsErrorsRow : OpenClaim := { program := "ytcemhghkipgdiaagreatdoor", sum := "37ec3b07ec4fa34e2f73b3cd7fe08b3ed2d6132894153d755d1bcf51fb8b17d8", func := "koine/koinelaw06.FactsErrors", spec := "factsErrors", unfollowed := true, recurses := true, named := ["math/bits.deBruijn64tab"], plainKeys := false, apart := false, laid := [("math/bits.deBruijn64tab", laid_math_bits_deBruijn64tab)] }
def FactsErrorsSaid : Prop := factsErrorsRow.holds Tryz.pinned (OpenSpec.ofChange factsErrorsSpec)

/-- ITS FALSE NEIGHBOUR: 'it returns false'. Refute it at one input. -/
def factsErrorsWrong : ChangeSpec := { name := "factsErrors", fn := fun _ => fun
  | [d1, d2, d3] => { results := [.lit (.bool false)], args := [d1, d2, d3] }
  | _ => none }
def FactsErrorsWrongFalsely : Prop := factsErrorsRow.holds Tryz.pinned (OpenSpec.ofChange factsErrorsWrong)

/-- 'koinelaw06.FactsUseful': WHATEVER THE INPUT: true; the input reads as it did. -/
def factsUsefulSpec : ChangeSpec := { name := "factsUseful", fn := fun _ => fun
  | [d1, d2] => { results := [.lit (.bool true)], args := [d1, d2] }
  | _ => none }
def factsUsefulRow : OpenClaim := { program := "ytcemhghkipgdiaagreatdoor", sum := "37ec3b07ec4fa34e2f73b3cd7fe08b3ed2d6132894153d755d1bcf51fb8b17d8", func := "koine/koinelaw06.FactsUseful", spec := "factsUseful", unfollowed := true, recurses := true, named := ["math/bits.deBruijn64tab"], plainKeys := false, apart := false, laid := [("math/bits.deBruijn64tab", laid_math_bits_deBruijn64tab)] }
def FactsUsefulSaid : Prop := factsUsefulRow.holds Tryz.pinned (OpenSpec.ofChange factsUsefulSpec)

/-- ITS FALSE NEIGHBOUR: 'it returns false'. Refute it at one input. -/
def factsUsefulWrong : ChangeSpec := { name := "factsUseful", fn := fun _ => fun
  | [d1, d2] => { results := [.lit (.bool false)], args := [d1, d2] }
  | _ => none }
def FactsUsefulWrongFalsely : Prop := factsUsefulRow.holds Tryz.pinned (OpenSpec.ofChange factsUsefulWrong)

/-- 'koinelaw06.FactsGrow': WHATEVER THE INPUT: true; the input reads as it did. -/
def factsGrowSpec : ChangeSpec := { name := "factsGrow", fn := fun _ => fun
  | [d1, d2] => { results := [.lit (.bool true)], args := [d1, d2] }
  | _ => none }
def factsGrowRow : OpenClaim := { program := "ytcemhghkipgdiaagreatdoor", sum := "37ec3b07ec4fa34e2f73b3cd7fe08b3ed2d6132894153d755d1bcf51fb8b17d8", func := "koine/koinelaw06.FactsGrow", spec := "factsGrow", unfollowed := true, recurses := true, named := ["math/bits.deBruijn64tab"], plainKeys := false, apart := false, laid := [("math/bits.deBruijn64tab", laid_math_bits_deBruijn64tab)] }
def FactsGrowSaid : Prop := factsGrowRow.holds Tryz.pinned (OpenSpec.ofChange factsGrowSpec)

/-- ITS FALSE NEIGHBOUR: 'it returns false'. Refute it at one input. -/
def factsGrowWrong : ChangeSpec := { name := "factsGrow", fn := fun _ => fun
  | [d1, d2] => { results := [.lit (.bool false)], args := [d1, d2] }
  | _ => none }
def FactsGrowWrongFalsely : Prop := factsGrowRow.holds Tryz.pinned (OpenSpec.ofChange factsGrowWrong)

/-- 'koinelaw06.FactsDerivations': WHATEVER THE INPUT: true; the input reads as it did. -/
def factsDerivationsSpec : ChangeSpec := { name := "factsDerivations", fn := fun _ => fun
  | [d] => { results := [.lit (.bool true)], args := [d] }
  | _ => none }
def factsDerivationsRow : OpenClaim := { program := "ytcemhghkipgdiaagreatdoor", sum := "37ec3b07ec4fa34e2f73b3cd7fe08b3ed2d6132894153d755d1bcf51fb8b17d8", func := "koine/koinelaw06.FactsDerivations", spec := "factsDerivations", unfollowed := true, recurses := true, named := ["math/bits.deBruijn64tab"], plainKeys := false, apart := false, laid := [("math/bits.deBruijn64tab", laid_math_bits_deBruijn64tab)] }
def FactsDerivationsSaid : Prop := factsDerivationsRow.holds Tryz.pinned (OpenSpec.ofChange factsDerivationsSpec)

/-- ITS FALSE NEIGHBOUR: 'it returns false'. Refute it at one input. -/
def factsDerivationsWrong : ChangeSpec := { name := "factsDerivations", fn := fun _ => fun
  | [d] => { results := [.lit (.bool false)], args := [d] }
  | _ => none }
def FactsDerivationsWrongFalsely : Prop := factsDerivationsRow.holds Tryz.pinned (OpenSpec.ofChange factsDerivationsWrong)

/-- 'koinelaw06.FactsPerConfiguration': WHATEVER THE INPUT: true; the input reads as it did. -/
def factsPerConfigurationSpec : ChangeSpec := { name := "factsPerConfiguration", fn := fun _ => fun
  | [d1, d2] => { results := [.lit (.bool true)], args := [d1, d2] }
  | _ => none }
def factsPerConfigurationRow : OpenClaim := { program := "ytcemhghkipgdiaagreatdoor", sum := "37ec3b07ec4fa34e2f73b3cd7fe08b3ed2d6132894153d755d1bcf51fb8b17d8", func := "koine/koinelaw06.FactsPerConfiguration", spec := "factsPerConfiguration", unfollowed := true, recurses := true, named := ["math/bits.deBruijn64tab"], plainKeys := false, apart := false, laid := [("math/bits.deBruijn64tab", laid_math_bits_deBruijn64tab)] }
def FactsPerConfigurationSaid : Prop := factsPerConfigurationRow.holds Tryz.pinned (OpenSpec.ofChange factsPerConfigurationSpec)

/-- ITS FALSE NEIGHBOUR: 'it returns false'. Refute it at one input. -/
def factsPerConfigurationWrong : ChangeSpec := { name := "factsPerConfiguration", fn := fun _ => fun
  | [d1, d2] => { results := [.lit (.bool false)], args := [d1, d2] }
  | _ => none }
def FactsPerConfigurationWrongFalsely : Prop := factsPerConfigurationRow.holds Tryz.pinned (OpenSpec.ofChange factsPerConfigurationWrong)

/- THE SECOND FORM. 'bulk': how many values and letters a reading holds, each counted each time it is reached (what is shared counts as often as it is met; a slice's spare places count too). A statement '..UptoSaid' is the law's where the arguments, and the package variables that the reading takes, are together of bulk at most 1048576: NARROWER than '..Said'. Prove '..Said' where nothing that the law and all that it calls make is longer than what came in: it says more and counts as full. Else prove '..UptoSaid'. A law counts once. -/
mutual
def uptoBulk {H : Type} : DataW H → Nat
  | .lit (.string bytes) => bytes.length + 1
  | .lit _ => 1
  | .nil => 1
  | .ptr d => uptoBulk d + 1
  | .slice elems spare => uptoBulkAll elems + uptoBulkAll spare + 1
  | .agg parts => uptoBulkAll parts + 1
  | .iface _ d => uptoBulk d + 1
  | .map entries => uptoBulkEntries entries + 1
  | .held _ => 1
def uptoBulkAll {H : Type} : List (DataW H) → Nat
  | [] => 0
  | d :: r => uptoBulk d + uptoBulkAll r
def uptoBulkEntries {H : Type} : List (Lit × DataW H) → Nat
  | [] => 0
  | x :: r => uptoBulkEntry x + uptoBulkEntries r
def uptoBulkEntry {H : Type} : Lit × DataW H → Nat
  | (.string bytes, d) => bytes.length + uptoBulk d + 1
  | (_, d) => uptoBulk d + 1
 end
def uptoSmall : (H : Type) → List (DataW H) → Bool := fun _ ds => decide (uptoBulkAll ds ≤ 1048576)
def OpenSpec.upto (s : _root_.Go.ChangeSpec) : _root_.Go.OpenSpec := { _root_.Go.OpenSpec.ofChange s with cond := some uptoSmall }

/-- 'koinelaw06.FactsMatchReference', WHERE WHAT IT READS IS OF BULK AT MOST 1048576: true; the input reads as it did. -/
def factsMatchReferenceUptoRow : OpenClaim := { program := "ytcemhghkipgdiaagreatdoor", sum := "37ec3b07ec4fa34e2f73b3cd7fe08b3ed2d6132894153d755d1bcf51fb8b17d8", func := "koine/koinelaw06.FactsMatchReference", spec := "factsMatchReference", unfollowed := true, recurses := true, named := ["math/bits.deBruijn64tab"], plainKeys := false, apart := false, laid := [("math/bits.deBruijn64tab", laid_math_bits_deBruijn64tab)], narrowed := true }
def FactsMatchReferenceUptoSaid : Prop := factsMatchReferenceUptoRow.holds Tryz.pinned (OpenSpec.upto factsMatchReferenceSpec)

/-- 'koinelaw06.FactsFirstMatchesReference', WHERE WHAT IT READS IS OF BULK AT MOST 1048576: true; the input reads as it did. -/
def factsFirstMatchesReferenceUptoRow : OpenClaim := { program := "ytcemhghkipgdiaagreatdoor", sum := "37ec3b07ec4fa34e2f73b3cd7fe08b3ed2d6132894153d755d1bcf51fb8b17d8", func := "koine/koinelaw06.FactsFirstMatchesReference", spec := "factsFirstMatchesReference", unfollowed := true, recurses := true, named := ["math/bits.deBruijn64tab"], plainKeys := false, apart := false, laid := [("math/bits.deBruijn64tab", laid_math_bits_deBruijn64tab)], narrowed := true }
def FactsFirstMatchesReferenceUptoSaid : Prop := factsFirstMatchesReferenceUptoRow.holds Tryz.pinned (OpenSpec.upto factsFirstMatchesReferenceSpec)

/-- 'koinelaw06.FactsFixedPoint', WHERE WHAT IT READS IS OF BULK AT MOST 1048576: true; the input reads as it did. -/
def factsFixedPointUptoRow : OpenClaim := { program := "ytcemhghkipgdiaagreatdoor", sum := "37ec3b07ec4fa34e2f73b3cd7fe08b3ed2d6132894153d755d1bcf51fb8b17d8", func := "koine/koinelaw06.FactsFixedPoint", spec := "factsFixedPoint", unfollowed := true, recurses := true, named := ["math/bits.deBruijn64tab"], plainKeys := false, apart := false, laid := [("math/bits.deBruijn64tab", laid_math_bits_deBruijn64tab)], narrowed := true }
def FactsFixedPointUptoSaid : Prop := factsFixedPointUptoRow.holds Tryz.pinned (OpenSpec.upto factsFixedPointSpec)

/-- 'koinelaw06.FactsCycles', WHERE WHAT IT READS IS OF BULK AT MOST 1048576: true; the input reads as it did. -/
def factsCyclesUptoRow : OpenClaim := { program := "ytcemhghkipgdiaagreatdoor", sum := "37ec3b07ec4fa34e2f73b3cd7fe08b3ed2d6132894153d755d1bcf51fb8b17d8", func := "koine/koinelaw06.FactsCycles", spec := "factsCycles", unfollowed := true, recurses := true, named := ["math/bits.deBruijn64tab"], plainKeys := false, apart := false, laid := [("math/bits.deBruijn64tab", laid_math_bits_deBruijn64tab)], narrowed := true }
def FactsCyclesUptoSaid : Prop := factsCyclesUptoRow.holds Tryz.pinned (OpenSpec.upto factsCyclesSpec)

/-- 'koinelaw06.FactsErrors', WHERE WHAT IT READS IS OF BULK AT MOST 1048576: true; the input reads as it did. -/
def factsErrorsUptoRow : OpenClaim := { program := "ytcemhghkipgdiaagreatdoor", sum := "37ec3b07ec4fa34e2f73b3cd7fe08b3ed2d6132894153d755d1bcf51fb8b17d8", func := "koine/koinelaw06.FactsErrors", spec := "factsErrors", unfollowed := true, recurses := true, named := ["math/bits.deBruijn64tab"], plainKeys := false, apart := false, laid := [("math/bits.deBruijn64tab", laid_math_bits_deBruijn64tab)], narrowed := true }
def FactsErrorsUptoSaid : Prop := factsErrorsUptoRow.holds Tryz.pinned (OpenSpec.upto factsErrorsSpec)

/-- 'koinelaw06.FactsUseful', WHERE WHAT IT READS IS OF BULK AT MOST 1048576: true; the input reads as it did. -/
def factsUsefulUptoRow : OpenClaim := { program := "ytcemhghkipgdiaagreatdoor", sum := "37ec3b07ec4fa34e2f73b3cd7fe08b3ed2d6132894153d755d1bcf51fb8b17d8", func := "koine/koinelaw06.FactsUseful", spec := "factsUseful", unfollowed := true, recurses := true, named := ["math/bits.deBruijn64tab"], plainKeys := false, apart := false, laid := [("math/bits.deBruijn64tab", laid_math_bits_deBruijn64tab)], narrowed := true }
def FactsUsefulUptoSaid : Prop := factsUsefulUptoRow.holds Tryz.pinned (OpenSpec.upto factsUsefulSpec)

/-- 'koinelaw06.FactsGrow', WHERE WHAT IT READS IS OF BULK AT MOST 1048576: true; the input reads as it did. -/
def factsGrowUptoRow : OpenClaim := { program := "ytcemhghkipgdiaagreatdoor", sum := "37ec3b07ec4fa34e2f73b3cd7fe08b3ed2d6132894153d755d1bcf51fb8b17d8", func := "koine/koinelaw06.FactsGrow", spec := "factsGrow", unfollowed := true, recurses := true, named := ["math/bits.deBruijn64tab"], plainKeys := false, apart := false, laid := [("math/bits.deBruijn64tab", laid_math_bits_deBruijn64tab)], narrowed := true }
def FactsGrowUptoSaid : Prop := factsGrowUptoRow.holds Tryz.pinned (OpenSpec.upto factsGrowSpec)

/-- 'koinelaw06.FactsDerivations', WHERE WHAT IT READS IS OF BULK AT MOST 1048576: true; the input reads as it did. -/
def factsDerivationsUptoRow : OpenClaim := { program := "ytcemhghkipgdiaagreatdoor", sum := "37ec3b07ec4fa34e2f73b3cd7fe08b3ed2d6132894153d755d1bcf51fb8b17d8", func := "koine/koinelaw06.FactsDerivations", spec := "factsDerivations", unfollowed := true, recurses := true, named := ["math/bits.deBruijn64tab"], plainKeys := false, apart := false, laid := [("math/bits.deBruijn64tab", laid_math_bits_deBruijn64tab)], narrowed := true }
def FactsDerivationsUptoSaid : Prop := factsDerivationsUptoRow.holds Tryz.pinned (OpenSpec.upto factsDerivationsSpec)

/-- 'koinelaw06.FactsPerConfiguration', WHERE WHAT IT READS IS OF BULK AT MOST 1048576: true; the input reads as it did. -/
def factsPerConfigurationUptoRow : OpenClaim := { program := "ytcemhghkipgdiaagreatdoor", sum := "37ec3b07ec4fa34e2f73b3cd7fe08b3ed2d6132894153d755d1bcf51fb8b17d8", func := "koine/koinelaw06.FactsPerConfiguration", spec := "factsPerConfiguration", unfollowed := true, recurses := true, named := ["math/bits.deBruijn64tab"], plainKeys := false, apart := false, laid := [("math/bits.deBruijn64tab", laid_math_bits_deBruijn64tab)], narrowed := true }
def FactsPerConfigurationUptoSaid : Prop := factsPerConfigurationUptoRow.holds Tryz.pinned (OpenSpec.upto factsPerConfigurationSpec)

end Rows
end Go.Proofs.YtcemhghkipgdiaaGreatDoor
