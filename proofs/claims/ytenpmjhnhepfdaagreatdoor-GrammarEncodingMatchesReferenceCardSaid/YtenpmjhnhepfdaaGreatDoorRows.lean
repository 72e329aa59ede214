/-
  NARROWER THAN 'FOR EVERY INPUT', by the rows' own cells (each row's printed sentence says how): GrammarEncodingMatchesReference: laid · GrammarRoundTrip: laid · GrammarBytes: laid · GrammarPartsMatchReference: laid · GrammarDamage: laid · GrammarKeepsValidity: laid · GrammarConfigurations: laid · GrammarFamilies: laid.
  DERIVED. THE GIVEN ROWS OF THIS SEAT. 8 by the template 'for every input the law returns true; each argument reads behind the call as it read before'; 0 by the template 'total and deterministic' (their statements: YtenpmjhnhepfdaaGreatDoorTotals.lean).
  GIVEN WITH THE SEED: the statements are not yours to turn. If you find one false, say at which input.
  Laid BY PROGRAM, IN A SANDBOX (cutbox-rows.mjs): the forced cells as the released guide's own fill.sh prints them over the translation 92eb15a1781ef522… (all of the seat's roots in one cut). By AI agents, Wed Nov 11 2026. No macro, syntax, notation, axiom, sorry.
-/
import Derived.Test.YtenpmjhnhepfdaaGreatDoorChecked
import GoSem.Claim
import GoSem.ClaimJoined
import GoSem.ClaimMapViews
import Derived.JoinedTies
import Derived.KernelRfl
namespace Go.Proofs.YtenpmjhnhepfdaaGreatDoor
/- THE CELL 'sum', in the pinned program and in every row, IS THE sha256 OF THE DUMP (.gsa) THAT YtenpmjhnhepfdaaGreatDoorProg.lean LOADS. Nothing in Lean hashes anything: it is a label: what it is worth is what the hold of that sum in a sandbox is worth. -/
noncomputable def Tryz.pinned : Pinned := { name := "ytenpmjhnhepfdaagreatdoor", sum := "92eb15a1781ef522ec37c461c6cffd03a48ca9ab0902892adeb3e900831ef650", checked := Tryz.checked }
namespace Rows
def none {H : Type} : Left H := { results := [], args := [] }

/- WHAT THE LISTED PACKAGE-LEVEL VARIABLES READ AS WHEN THE CALL BEGINS. Each datum BY PROGRAM (the guide's laid-datum.mjs) off the statement by which the dump's own 'gosem.cut.vars' lays the variable. In a bare row this is a premise. The card (YtenpmjhnhepfdaaGreatDoorCards.lean) ties it to the program's text. -/
def laid_math_bits_deBruijn64tab {H : Type} : DataW H := .agg [.lit (.int .u8 0), .lit (.int .u8 1), .lit (.int .u8 56), .lit (.int .u8 2), .lit (.int .u8 57), .lit (.int .u8 49), .lit (.int .u8 28), .lit (.int .u8 3), .lit (.int .u8 61), .lit (.int .u8 58), .lit (.int .u8 42), .lit (.int .u8 50), .lit (.int .u8 38), .lit (.int .u8 29), .lit (.int .u8 17), .lit (.int .u8 4), .lit (.int .u8 62), .lit (.int .u8 47), .lit (.int .u8 59), .lit (.int .u8 36), .lit (.int .u8 45), .lit (.int .u8 43), .lit (.int .u8 51), .lit (.int .u8 22), .lit (.int .u8 53), .lit (.int .u8 39), .lit (.int .u8 33), .lit (.int .u8 30), .lit (.int .u8 24), .lit (.int .u8 18), .lit (.int .u8 12), .lit (.int .u8 5), .lit (.int .u8 63), .lit (.int .u8 55), .lit (.int .u8 48), .lit (.int .u8 27), .lit (.int .u8 60), .lit (.int .u8 41), .lit (.int .u8 37), .lit (.int .u8 16), .lit (.int .u8 46), .lit (.int .u8 35), .lit (.int .u8 44), .lit (.int .u8 21), .lit (.int .u8 52), .lit (.int .u8 32), .lit (.int .u8 23), .lit (.int .u8 11), .lit (.int .u8 54), .lit (.int .u8 26), .lit (.int .u8 40), .lit (.int .u8 15), .lit (.int .u8 34), .lit (.int .u8 20), .lit (.int .u8 31), .lit (.int .u8 10), .lit (.int .u8 25), .lit (.int .u8 14), .lit (.int .u8 19), .lit (.int .u8 9), .lit (.int .u8 13), .lit (.int .u8 8), .lit (.int .u8 7), .lit (.int .u8 6)]

/-- 'koinelaw05.GrammarEncodingMatchesReference': WHATEVER THE INPUT: true; the input reads as it did. -/
def grammarEncodingMatchesReferenceSpec : ChangeSpec := { name := "grammarEncodingMatchesReference", fn := fun _ => fun
  | [d1, d2, d3] => { results := [.lit (.bool true)], args := [d1, d2, d3] }
  | _ => none }
def grammarEncodingMatchesReferenceRow : OpenClaim := { program := "ytenpmjhnhepfdaagreatdoor", sum := "92eb15a1781ef522ec37c461c6cffd03a48ca9ab0902892adeb3e900831ef650", func := "koine/koinelaw05.GrammarEncodingMatchesReference", spec := "grammarEncodingMatchesReference", unfollowed := true, recurses := true, named := ["math/bits.deBruijn64tab"], plainKeys := false, apart := false, laid := [("math/bits.deBruijn64tab", laid_math_bits_deBruijn64tab)] }
def GrammarEncodingMatchesReferenceSaid : Prop := grammarEncodingMatchesReferenceRow.holds Tryz.pinned (OpenSpec.ofChange grammarEncodingMatchesReferenceSpec)

/-- ITS FALSE NEIGHBOUR: 'it returns false'. Refute it at one input. -/
def grammarEncodingMatchesReferenceWrong : ChangeSpec := { name := "grammarEncodingMatchesReference", fn := fun _ => fun
  | [d1, d2, d3] => { results := [.lit (.bool false)], args := [d1, d2, d3] }
  | _ => none }
def GrammarEncodingMatchesReferenceWrongFalsely : Prop := grammarEncodingMatchesReferenceRow.holds Tryz.pinned (OpenSpec.ofChange grammarEncodingMatchesReferenceWrong)

/-- 'koinelaw05.GrammarRoundTrip': WHATEVER THE INPUT: true; the input reads as it did. -/
def grammarRoundTripSpec : ChangeSpec := { name := "grammarRoundTrip", fn := fun _ => fun
  | [d1, d2] => { results := [.lit (.bool true)], args := [d1, d2] }
  | _ => none }
def grammarRoundTripRow : OpenClaim := { program := "ytenpmjhnhepfdaagreatdoor", sum := "92eb15a1781ef522ec37c461c6cffd03a48ca9ab0902892adeb3e900831ef650", func := "koine/koinelaw05.GrammarRoundTrip", spec := "grammarRoundTrip", unfollowed := true, recurses := true, named := ["math/bits.deBruijn64tab"], plainKeys := false, apart := false, laid := [("math/bits.deBruijn64tab", laid_math_bits_deBruijn64tab)] }
def GrammarRoundTripSaid : Prop := grammarRoundTripRow.holds Tryz.pinned (OpenSpec.ofChange grammarRoundTripSpec)

/-- ITS FALSE NEIGHBOUR: 'it returns false'. Refute it at one input. -/
def grammarRoundTripWrong : ChangeSpec := { name := "grammarRoundTrip", fn := fun _ => fun
  | [d1, d2] => { results := [.lit (.bool false)], args := [d1, d2] }
  | _ => none }
def GrammarRoundTripWrongFalsely : Prop := grammarRoundTripRow.holds Tryz.pinned (OpenSpec.ofChange grammarRoundTripWrong)

/-- 'koinelaw05.GrammarBytes': WHATEVER THE INPUT: true; the input reads as it did. -/
def grammarBytesSpec : ChangeSpec := { name := "grammarBytes", fn := fun _ => fun
  | [d1, d2, d3] => { results := [.lit (.bool true)], args := [d1, d2, d3] }
  | _ => none }
def grammarBytesRow : OpenClaim := { program := "ytenpmjhnhepfdaagreatdoor", sum := "92eb15a1781ef522ec37c461c6cffd03a48ca9ab0902892adeb3e900831ef650", func := "koine/koinelaw05.GrammarBytes", spec := "grammarBytes", unfollowed := true, recurses := true, named := ["math/bits.deBruijn64tab"], plainKeys := false, apart := false, laid := [("math/bits.deBruijn64tab", laid_math_bits_deBruijn64tab)] }
def GrammarBytesSaid : Prop := grammarBytesRow.holds Tryz.pinned (OpenSpec.ofChange grammarBytesSpec)

/-- ITS FALSE NEIGHBOUR: 'it returns false'. Refute it at one input. -/
def grammarBytesWrong : ChangeSpec := { name := "grammarBytes", fn := fun _ => fun
  | [d1, d2, d3] => { results := [.lit (.bool false)], args := [d1, d2, d3] }
  | _ => none }
def GrammarBytesWrongFalsely : Prop := grammarBytesRow.holds Tryz.pinned (OpenSpec.ofChange grammarBytesWrong)

/-- 'koinelaw05.GrammarPartsMatchReference': WHATEVER THE INPUT: true; the input reads as it did. -/
def grammarPartsMatchReferenceSpec : ChangeSpec := { name := "grammarPartsMatchReference", fn := fun _ => fun
  | [d1, d2, d3] => { results := [.lit (.bool true)], args := [d1, d2, d3] }
  | _ => none }
def grammarPartsMatchReferenceRow : OpenClaim := { program := "ytenpmjhnhepfdaagreatdoor", sum := "92eb15a1781ef522ec37c461c6cffd03a48ca9ab0902892adeb3e900831ef650", func := "koine/koinelaw05.GrammarPartsMatchReference", spec := "grammarPartsMatchReference", unfollowed := true, recurses := true, named := ["math/bits.deBruijn64tab"], plainKeys := false, apart := false, laid := [("math/bits.deBruijn64tab", laid_math_bits_deBruijn64tab)] }
def GrammarPartsMatchReferenceSaid : Prop := grammarPartsMatchReferenceRow.holds Tryz.pinned (OpenSpec.ofChange grammarPartsMatchReferenceSpec)

/-- ITS FALSE NEIGHBOUR: 'it returns false'. Refute it at one input. -/
def grammarPartsMatchReferenceWrong : ChangeSpec := { name := "grammarPartsMatchReference", fn := fun _ => fun
  | [d1, d2, d3] => { results := [.lit (.bool false)], args := [d1, d2, d3] }
  | _ => none }
def GrammarPartsMatchReferenceWrongFalsely : Prop := grammarPartsMatchReferenceRow.holds Tryz.pinned (OpenSpec.ofChange grammarPartsMatchReferenceWrong)

/-- 'koinelaw05.GrammarDamage': WHATEVER THE INPUT: true; the input reads as it did. -/
def grammarDamageSpec : ChangeSpec := { name := "grammarDamage", fn := fun _ => fun
  | [d1, d2, d3] => { results := [.lit (.bool true)], args := [d1, d2, d3] }
  | _ => none }
def grammarDamageRow : OpenClaim := { program := "ytenpmjhnhepfdaagreatdoor", sum := "92eb15a1781ef522ec37c461c6cffd03a48ca9ab0902892adeb3e900831ef650", func := "koine/koinelaw05.GrammarDamage", spec := "grammarDamage", unfollowed := true, recurses := true, named := ["math/bits.deBruijn64tab"], plainKeys := false, apart := false, laid := [("math/bits.deBruijn64tab", laid_math_bits_deBruijn64tab)] }
def GrammarDamageSaid : Prop := grammarDamageRow.holds Tryz.pinned (OpenSpec.ofChange grammarDamageSpec)

/-- ITS FALSE NEIGHBOUR: 'it returns false'. Refute it at one input. -/
def grammarDamageWrong : ChangeSpec := { name := "grammarDamage", fn := fun _ => fun
  | [d1, d2, d3] => { results := [.lit (.bool false)], args := [d1, d2, d3] }
  | _ => none }
def GrammarDamageWrongFalsely : Prop := grammarDamageRow.holds Tryz.pinned (OpenSpec.ofChange grammarDamageWrong)

/-- 'koinelaw05.GrammarKeepsValidity': WHATEVER THE INPUT: true; the input reads as it did. -/
def grammarKeepsValiditySpec : ChangeSpec := { name := "grammarKeepsValidity", fn := fun _ => fun
  | [d1, d2, d3] => { results := [.lit (.bool true)], args := [d1, d2, d3] }
  | _ => none }
def grammarKeepsValidityRow : OpenClaim := { program := "ytenpmjhnhepfdaagreatdoor", sum := "92eb15a1781ef522ec37c461c6cffd03a48ca9ab0902892adeb3e900831ef650", func := "koine/koinelaw05.GrammarKeepsValidity", spec := "grammarKeepsValidity", unfollowed := true, recurses := true, named := ["math/bits.deBruijn64tab"], plainKeys := false, apart := false, laid := [("math/bits.deBruijn64tab", laid_math_bits_deBruijn64tab)] }
def GrammarKeepsValiditySaid : Prop := grammarKeepsValidityRow.holds Tryz.pinned (OpenSpec.ofChange grammarKeepsValiditySpec)

/-- ITS FALSE NEIGHBOUR: 'it returns false'. Refute it at one input. -/
def grammarKeepsValidityWrong : ChangeSpec := { name := "grammarKeepsValidity", fn := fun _ => fun
  | [d1, d2, d3] => { results := [.lit (.bool false)], args := [d1, d2, d3] }
  | _ => none }
def GrammarKeepsValidityWrongFalsely : Prop := grammarKeepsValidityRow.holds Tryz.pinned (OpenSpec.ofChange grammarKeepsValidityWrong)

/-- 'koinelaw05.GrammarConfigurations': WHATEVER THE INPUT: true; the input reads as it did. -/
def grammarConfigurationsSpec : ChangeSpec := { name := "grammarConfigurations", fn := fun _ => fun
  | [d1, d2] => { results := [.lit (.bool true)], args := [d1, d2] }
  | _ => none }
def grammarConfigurationsRow : OpenClaim := { program := "ytenpmjhnhepfdaagreatdoor", sum := "92eb15a1781ef522ec37c461c6cffd03a48ca9ab0902892adeb3e900831ef650", func := "koine/koinelaw05.GrammarConfigurations", spec := "grammarConfigurations", unfollowed := true, recurses := true, named := ["math/bits.deBruijn64tab"], plainKeys := false, apart := false, laid := [("math/bits.deBruijn64tab", laid_math_bits_deBruijn64tab)] }
def GrammarConfigurationsSaid : Prop := grammarConfigurationsRow.holds Tryz.pinned (OpenSpec.ofChange grammarConfigurationsSpec)

/-- ITS FALSE NEIGHBOUR: 'it returns false'. Refute it at one input. -/
def grammarConfigurationsWrong : ChangeSpec := { name := "grammarConfigurations", fn := fun _ => fun
  | [d1, d2] => { results := [.lit (.bool false)], args := [d1, d2] }
  | _ => none }
def GrammarConfigurationsWrongFalsely : Prop := grammarConfigurationsRow.holds Tryz.pinned (OpenSpec.ofChange grammarConfigurationsWrong)

/-- 'koinelaw05.GrammarFamilies': WHATEVER THE INPUT: true; the input reads as it did. -/
def grammarFamiliesSpec : ChangeSpec := { name := "grammarFamilies", fn := fun _ => fun
  | [d1, d2] => { results := [.lit (.bool true)], args := [d1, d2] }
  | _ => none }
def grammarFamiliesRow : OpenClaim := { program := "ytenpmjhnhepfdaagreatdoor", sum := "92eb15a1781ef522ec37c461c6cffd03a48ca9ab0902892adeb3e900831ef650", func := "koine/koinelaw05.GrammarFamilies", spec := "grammarFamilies", unfollowed := true, recurses := true, named := ["math/bits.deBruijn64tab"], plainKeys := false, apart := false, laid := [("math/bits.deBruijn64tab", laid_math_bits_deBruijn64tab)] }
def GrammarFamiliesSaid : Prop := grammarFamiliesRow.holds Tryz.pinned (OpenSpec.ofChange grammarFamiliesSpec)

/-- ITS FALSE NEIGHBOUR: 'it returns false'. Refute it at one input. -/
def grammarFamiliesWrong : ChangeSpec := { name := "grammarFamilies", fn := fun _ => fun
  | [d1, d2] => { results := [.lit (.bool false)], args := [d1, d2] }
  | _ => none }
def GrammarFamiliesWrongFalsely : Prop := grammarFamiliesRow.holds Tryz.pinned (OpenSpec.ofChange grammarFamiliesWrong)

/- THE SECOND FORM. 'bulk': how many values and letters a reading holds, each counted each time it is reached (what is shared counts as often as it is met; a slice's spare places count too). A statement '..UptoSaid' is the law's where the arguments, and the package variables that the reading takes, are together of bulk at most 1048576: NARROWER than '..Said'. Prove '..Said' where nothing that the law and all that it calls make is longer than what came in: it says more and counts as full. Else prove '..UptoSaid'. A law counts once. -/
mutual
def uptoBulk {H : Type} : DataW H → Nat
  | .lit (.string bytes) => bytes.length + 1
  | .lit _ => 1
  | .nil => 1
  | .ptr d => uptoBulk d + 1
  | .slice elems spare => uptoBulkAll elems + uptoBulkAll spare + 1
  | .agg parts => uptoBulkAll parts + 1
  | .iface _ d => uptoBulk d + 1
  | .map entries => uptoBulkEntries entries + 1
  | .held _ => 1
def uptoBulkAll {H : Type} : List (DataW H) → Nat
  | [] => 0
  | d :: r => uptoBulk d + uptoBulkAll r
def uptoBulkEntries {H : Type} : List (Lit × DataW H) → Nat
  | [] => 0
  | x :: r => uptoBulkEntry x + uptoBulkEntries r
def uptoBulkEntry {H : Type} : Lit × DataW H → Nat
  | (.string bytes, d) => bytes.length + uptoBulk d + 1
  | (_, d) => uptoBulk d + 1
 end
def uptoSmall : (H : Type) → List (DataW H) → Bool := fun _ ds => decide (uptoBulkAll ds ≤ 1048576)
def OpenSpec.upto (s : _root_.Go.ChangeSpec) : _root_.Go.OpenSpec := { _root_.Go.OpenSpec.ofChange s with cond := some uptoSmall }

/-- 'koinelaw05.GrammarEncodingMatchesReference', WHERE WHAT IT READS IS OF BULK AT MOST 1048576: true; the input reads as it did. -/
def grammarEncodingMatchesReferenceUptoRow : OpenClaim := { program := "ytenpmjhnhepfdaagreatdoor", sum := "92eb15a1781ef522ec37c461c6cffd03a48ca9ab0902892adeb3e900831ef650", func := "koine/koinelaw05.GrammarEncodingMatchesReference", spec := "grammarEncodingMatchesReference", unfollowed := true, recurses := true, named := ["math/bits.deBruijn64tab"], plainKeys := false, apart := false, laid := [("math/bits.deBruijn64tab", laid_math_bits_deBruijn64tab)], narrowed := true }
def GrammarEncodingMatchesReferenceUptoSaid : Prop := grammarEncodingMatchesReferenceUptoRow.holds Tryz.pinned (OpenSpec.upto grammarEncodingMatchesReferenceSpec)

/-- 'koinelaw05.GrammarRoundTrip', WHERE WHAT IT READS IS OF BULK AT MOST 1048576: true; the input reads as it did. -/
def grammarRoundTripUptoRow : OpenClaim := { program := "ytenpmjhnhepfdaagreatdoor", sum := "92eb15a1781ef522ec37c461c6cffd03a48ca9ab0902892adeb3e900831ef650", func := "koine/koinelaw05.GrammarRoundTrip", spec := "grammarRoundTrip", unfollowed := true, recurses := true, named := ["math/bits.deBruijn64tab"], plainKeys := false, apart := false, laid := [("math/bits.deBruijn64tab", laid_math_bits_deBruijn64tab)], narrowed := true }
def GrammarRoundTripUptoSaid : Prop := grammarRoundTripUptoRow.holds Tryz.pinned (OpenSpec.upto grammarRoundTripSpec)

/-- 'koinelaw05.GrammarBytes', WHERE WHAT IT READS IS OF BULK AT MOST 1048576: true; the input reads as it did. -/
def grammarBytesUptoRow : OpenClaim := { program := "ytenpmjhnhepfdaagreatdoor", sum := "92eb15a1781ef522ec37c461c6cffd03a48ca9ab0902892adeb3e900831ef650", func := "koine/koinelaw05.GrammarBytes", spec := "grammarBytes", unfollowed := true, recurses := true, named := ["math/bits.deBruijn64tab"], plainKeys := false, apart := false, laid := [("math/bits.deBruijn64tab", laid_math_bits_deBruijn64tab)], narrowed := true }
def GrammarBytesUptoSaid : Prop := grammarBytesUptoRow.holds Tryz.pinned (OpenSpec.upto grammarBytesSpec)

/-- 'koinelaw05.GrammarPartsMatchReference', WHERE WHAT IT READS IS OF BULK AT MOST 1048576: true; the input reads as it did. -/
def grammarPartsMatchReferenceUptoRow : OpenClaim := { program := "ytenpmjhnhepfdaagreatdoor", sum := "92eb15a1781ef522ec37c461c6cffd03a48ca9ab0902892adeb3e900831ef650", func := "koine/koinelaw05.GrammarPartsMatchReference", spec := "grammarPartsMatchReference", unfollowed := true, recurses := true, named := ["math/bits.deBruijn64tab"], plainKeys := false, apart := false, laid := [("math/bits.deBruijn64tab", laid_math_bits_deBruijn64tab)], narrowed := true }
def GrammarPartsMatchReferenceUptoSaid : Prop := grammarPartsMatchReferenceUptoRow.holds Tryz.pinned (OpenSpec.upto grammarPartsMatchReferenceSpec)

/-- 'koinelaw05.GrammarDamage', WHERE WHAT IT READS IS OF BULK AT MOST 1048576: true; the input reads as it did. -/
def grammarDamageUptoRow : OpenClaim := { program := "ytenpmjhnhepfdaagreatdoor", sum := "92eb15a1781ef522ec37c461c6cffd03a48ca9ab0902892adeb3e900831ef650", func := "koine/koinelaw05.GrammarDamage", spec := "grammarDamage", unfollowed := true, recurses := true, named := ["math/bits.deBruijn64tab"], plainKeys := false, apart := false, laid := [("math/bits.deBruijn64tab", laid_math_bits_deBruijn64tab)], narrowed := true }
def GrammarDamageUptoSaid : Prop := grammarDamageUptoRow.holds Tryz.pinned (OpenSpec.upto grammarDamageSpec)

/-- 'koinelaw05.GrammarKeepsValidity', WHERE WHAT IT READS IS OF BULK AT MOST 1048576: true; the input reads as it did. -/
def grammarKeepsValidityUptoRow : OpenClaim := { program := "ytenpmjhnhepfdaagreatdoor", sum := "92eb15a1781ef522ec37c461c6cffd03a48ca9ab0902892adeb3e900831ef650", func := "koine/koinelaw05.GrammarKeepsValidity", spec := "grammarKeepsValidity", unfollowed := true, recurses := true, named := ["math/bits.deBruijn64tab"], plainKeys := false, apart := false, laid := [("math/bits.deBruijn64tab", laid_math_bits_deBruijn64tab)], narrowed := true }
def GrammarKeepsValidityUptoSaid : Prop := grammarKeepsValidityUptoRow.holds Tryz.pinned (OpenSpec.upto grammarKeepsValiditySpec)

/-- 'koinelaw05.GrammarConfigurations', WHERE WHAT IT READS IS OF BULK AT MOST 1048576: true; the input reads as it did. -/
def grammarConfigurationsUptoRow : OpenClaim := { program := "ytenpmjhnhepfdaagreatdoor", sum := "92eb15a1781ef522ec37c461c6cffd03a48ca9ab0902892adeb3e900831ef650", func := "koine/koinelaw05.GrammarConfigurations", spec := "grammarConfigurations", unfollowed := true, recurses := true, named := ["math/bits.deBruijn64tab"], plainKeys := false, apart := false, laid := [("math/bits.deBruijn64tab", laid_math_bits_deBruijn64tab)], narrowed := true }
def GrammarConfigurationsUptoSaid : Prop := grammarConfigurationsUptoRow.holds Tryz.pinned (OpenSpec.upto grammarConfigurationsSpec)

/-- 'koinelaw05.GrammarFamilies', WHERE WHAT IT READS IS OF BULK AT MOST 1048576: true; the input reads as it did. -/
def grammarFamiliesUptoRow : OpenClaim := { program := "ytenpmjhnhepfdaagreatdoor", sum := "92eb15a1781ef522ec37c461c6cffd03a48ca9ab0902892adeb3e900831ef650", func := "koine/koinelaw05.GrammarFamilies", spec := "grammarFamilies", unfollowed := true, recurses := true, named := ["math/bits.deBruijn64tab"], plainKeys := false, apart := false, laid := [("math/bits.deBruijn64tab", laid_math_bits_deBruijn64tab)], narrowed := true }
def GrammarFamiliesUptoSaid : Prop := grammarFamiliesUptoRow.holds Tryz.pinned (OpenSpec.upto grammarFamiliesSpec)

end Rows
end Go.Proofs.YtenpmjhnhepfdaaGreatDoor
