/-
  No cell of these rows narrows 'for every input' (looked for: loops, veiled, ifaces, maps, wideKeys, modest, calm, conditions, laid).
  DERIVED. THE GIVEN ROWS OF THIS SEAT. 7 by the template 'for every input the law returns true; each argument reads behind the call as it read before'; 0 by the template 'total and deterministic' (their statements: YtelkfnmdnbbniaaTotals.lean).
  GIVEN WITH THE SEED: the statements are not yours to turn. If you find one false, say at which input.
  Laid BY PROGRAM, IN A SANDBOX (cutbox-rows.mjs): the forced cells as the released guide's own fill.sh prints them over the translation 039c5dd7c07e042d… (all of the seat's roots in one cut). By AI agents, Wed Nov 11 2026. No macro, syntax, notation, axiom, sorry.
-/
import Derived.Test.YtelkfnmdnbbniaaChecked
import GoSem.Claim
import GoSem.ClaimJoined
import GoSem.ClaimMapViews
import Derived.JoinedTies
import Derived.KernelRfl
namespace Go.Proofs.Ytelkfnmdnbbniaa
/- THE CELL 'sum', in the pinned program and in every row, IS THE sha256 OF THE DUMP (.gsa) THAT YtelkfnmdnbbniaaProg.lean LOADS. Nothing in Lean hashes anything: it is a label: what it is worth is what the hold of that sum in a sandbox is worth. -/
noncomputable def Try.pinned : Pinned := { name := "ytelkfnmdnbbniaa", sum := "039c5dd7c07e042d309ac5300b119857f528d879f13f51fad72f7a3f7608ea5d", checked := Try.checked }
namespace Rows
def none {H : Type} : Left H := { results := [], args := [] }

/-- 'koinelaw35.StoreMatchesReference': WHATEVER THE INPUT: true; the input reads as it did. -/
def storeMatchesReferenceSpec : ChangeSpec := { name := "storeMatchesReference", fn := fun _ => fun
  | [d1, d2] => { results := [.lit (.bool true)], args := [d1, d2] }
  | _ => none }
def storeMatchesReferenceRow : OpenClaim := { program := "ytelkfnmdnbbniaa", sum := "039c5dd7c07e042d309ac5300b119857f528d879f13f51fad72f7a3f7608ea5d", func := "koine/koinelaw35.StoreMatchesReference", spec := "storeMatchesReference", unfollowed := true, recurses := true, apart := false }
def StoreMatchesReferenceSaid : Prop := storeMatchesReferenceRow.holds Try.pinned (OpenSpec.ofChange storeMatchesReferenceSpec)

/-- ITS FALSE NEIGHBOUR: 'it returns false'. Refute it at one input. -/
def storeMatchesReferenceWrong : ChangeSpec := { name := "storeMatchesReference", fn := fun _ => fun
  | [d1, d2] => { results := [.lit (.bool false)], args := [d1, d2] }
  | _ => none }
def StoreMatchesReferenceWrongFalsely : Prop := storeMatchesReferenceRow.holds Try.pinned (OpenSpec.ofChange storeMatchesReferenceWrong)

/-- 'koinelaw35.StoreCompacts': WHATEVER THE INPUT: true; the input reads as it did. -/
def storeCompactsSpec : ChangeSpec := { name := "storeCompacts", fn := fun _ => fun
  | [d1, d2] => { results := [.lit (.bool true)], args := [d1, d2] }
  | _ => none }
def storeCompactsRow : OpenClaim := { program := "ytelkfnmdnbbniaa", sum := "039c5dd7c07e042d309ac5300b119857f528d879f13f51fad72f7a3f7608ea5d", func := "koine/koinelaw35.StoreCompacts", spec := "storeCompacts", unfollowed := true, recurses := true, apart := false }
def StoreCompactsSaid : Prop := storeCompactsRow.holds Try.pinned (OpenSpec.ofChange storeCompactsSpec)

/-- ITS FALSE NEIGHBOUR: 'it returns false'. Refute it at one input. -/
def storeCompactsWrong : ChangeSpec := { name := "storeCompacts", fn := fun _ => fun
  | [d1, d2] => { results := [.lit (.bool false)], args := [d1, d2] }
  | _ => none }
def StoreCompactsWrongFalsely : Prop := storeCompactsRow.holds Try.pinned (OpenSpec.ofChange storeCompactsWrong)

/-- 'koinelaw35.StoreRoom': WHATEVER THE INPUT: true; the input reads as it did. -/
def storeRoomSpec : ChangeSpec := { name := "storeRoom", fn := fun _ => fun
  | [d1, d2, d3] => { results := [.lit (.bool true)], args := [d1, d2, d3] }
  | _ => none }
def storeRoomRow : OpenClaim := { program := "ytelkfnmdnbbniaa", sum := "039c5dd7c07e042d309ac5300b119857f528d879f13f51fad72f7a3f7608ea5d", func := "koine/koinelaw35.StoreRoom", spec := "storeRoom", unfollowed := true, recurses := true, apart := false }
def StoreRoomSaid : Prop := storeRoomRow.holds Try.pinned (OpenSpec.ofChange storeRoomSpec)

/-- ITS FALSE NEIGHBOUR: 'it returns false'. Refute it at one input. -/
def storeRoomWrong : ChangeSpec := { name := "storeRoom", fn := fun _ => fun
  | [d1, d2, d3] => { results := [.lit (.bool false)], args := [d1, d2, d3] }
  | _ => none }
def StoreRoomWrongFalsely : Prop := storeRoomRow.holds Try.pinned (OpenSpec.ofChange storeRoomWrong)

/-- 'koinelaw35.StoreKeys': WHATEVER THE INPUT: true; the input reads as it did. -/
def storeKeysSpec : ChangeSpec := { name := "storeKeys", fn := fun _ => fun
  | [d1, d2, d3] => { results := [.lit (.bool true)], args := [d1, d2, d3] }
  | _ => none }
def storeKeysRow : OpenClaim := { program := "ytelkfnmdnbbniaa", sum := "039c5dd7c07e042d309ac5300b119857f528d879f13f51fad72f7a3f7608ea5d", func := "koine/koinelaw35.StoreKeys", spec := "storeKeys", unfollowed := true, recurses := true, apart := false }
def StoreKeysSaid : Prop := storeKeysRow.holds Try.pinned (OpenSpec.ofChange storeKeysSpec)

/-- ITS FALSE NEIGHBOUR: 'it returns false'. Refute it at one input. -/
def storeKeysWrong : ChangeSpec := { name := "storeKeys", fn := fun _ => fun
  | [d1, d2, d3] => { results := [.lit (.bool false)], args := [d1, d2, d3] }
  | _ => none }
def StoreKeysWrongFalsely : Prop := storeKeysRow.holds Try.pinned (OpenSpec.ofChange storeKeysWrong)

/-- 'koinelaw35.StoreFormats': WHATEVER THE INPUT: true; the input reads as it did. -/
def storeFormatsSpec : ChangeSpec := { name := "storeFormats", fn := fun _ => fun
  | [d1, d2, d3] => { results := [.lit (.bool true)], args := [d1, d2, d3] }
  | _ => none }
def storeFormatsRow : OpenClaim := { program := "ytelkfnmdnbbniaa", sum := "039c5dd7c07e042d309ac5300b119857f528d879f13f51fad72f7a3f7608ea5d", func := "koine/koinelaw35.StoreFormats", spec := "storeFormats", unfollowed := true, recurses := true, apart := false }
def StoreFormatsSaid : Prop := storeFormatsRow.holds Try.pinned (OpenSpec.ofChange storeFormatsSpec)

/-- ITS FALSE NEIGHBOUR: 'it returns false'. Refute it at one input. -/
def storeFormatsWrong : ChangeSpec := { name := "storeFormats", fn := fun _ => fun
  | [d1, d2, d3] => { results := [.lit (.bool false)], args := [d1, d2, d3] }
  | _ => none }
def StoreFormatsWrongFalsely : Prop := storeFormatsRow.holds Try.pinned (OpenSpec.ofChange storeFormatsWrong)

/-- 'koinelaw35.StoreSurvives': WHATEVER THE INPUT: true; the input reads as it did. -/
def storeSurvivesSpec : ChangeSpec := { name := "storeSurvives", fn := fun _ => fun
  | [d1, d2, d3] => { results := [.lit (.bool true)], args := [d1, d2, d3] }
  | _ => none }
def storeSurvivesRow : OpenClaim := { program := "ytelkfnmdnbbniaa", sum := "039c5dd7c07e042d309ac5300b119857f528d879f13f51fad72f7a3f7608ea5d", func := "koine/koinelaw35.StoreSurvives", spec := "storeSurvives", unfollowed := true, recurses := true, apart := false }
def StoreSurvivesSaid : Prop := storeSurvivesRow.holds Try.pinned (OpenSpec.ofChange storeSurvivesSpec)

/-- ITS FALSE NEIGHBOUR: 'it returns false'. Refute it at one input. -/
def storeSurvivesWrong : ChangeSpec := { name := "storeSurvives", fn := fun _ => fun
  | [d1, d2, d3] => { results := [.lit (.bool false)], args := [d1, d2, d3] }
  | _ => none }
def StoreSurvivesWrongFalsely : Prop := storeSurvivesRow.holds Try.pinned (OpenSpec.ofChange storeSurvivesWrong)

/-- 'koinelaw35.StoreOpens': WHATEVER THE INPUT: true; the input reads as it did. -/
def storeOpensSpec : ChangeSpec := { name := "storeOpens", fn := fun _ => fun
  | [d1, d2] => { results := [.lit (.bool true)], args := [d1, d2] }
  | _ => none }
def storeOpensRow : OpenClaim := { program := "ytelkfnmdnbbniaa", sum := "039c5dd7c07e042d309ac5300b119857f528d879f13f51fad72f7a3f7608ea5d", func := "koine/koinelaw35.StoreOpens", spec := "storeOpens", unfollowed := true, recurses := true, apart := false }
def StoreOpensSaid : Prop := storeOpensRow.holds Try.pinned (OpenSpec.ofChange storeOpensSpec)

/-- ITS FALSE NEIGHBOUR: 'it returns false'. Refute it at one input. -/
def storeOpensWrong : ChangeSpec := { name := "storeOpens", fn := fun _ => fun
  | [d1, d2] => { results := [.lit (.bool false)], args := [d1, d2] }
  | _ => none }
def StoreOpensWrongFalsely : Prop := storeOpensRow.holds Try.pinned (OpenSpec.ofChange storeOpensWrong)

/- THE SECOND FORM. 'bulk': how many values and letters a reading holds, each counted each time it is reached (what is shared counts as often as it is met; a slice's spare places count too). A statement '..UptoSaid' is the law's where the arguments, and the package variables that the reading takes, are together of bulk at most 1048576: NARROWER than '..Said'. Prove '..Said' where nothing that the law and all that it calls make is longer than what came in: it says more and counts as full. Else prove '..UptoSaid'. A law counts once. -/
mutual
def uptoBulk {H : Type} : DataW H → Nat
  | .lit (.string bytes) => bytes.length + 1
  | .lit _ => 1
  | .nil => 1
  | .ptr d => uptoBulk d + 1
  | .slice elems spare => uptoBulkAll elems + uptoBulkAll spare + 1
  | .agg parts => uptoBulkAll parts + 1
  | .iface _ d => uptoBulk d + 1
  | .map entries => uptoBulkEntries entries + 1
  | .held _ => 1
def uptoBulkAll {H : Type} : List (DataW H) → Nat
  | [] => 0
  | d :: r => uptoBulk d + uptoBulkAll r
def uptoBulkEntries {H : Type} : List (Lit × DataW H) → Nat
  | [] => 0
  | x :: r => uptoBulkEntry x + uptoBulkEntries r
def uptoBulkEntry {H : Type} : Lit × DataW H → Nat
  | (.string bytes, d) => bytes.length + uptoBulk d + 1
  | (_, d) => uptoBulk d + 1
 end
def uptoSmall : (H : Type) → List (DataW H) → Bool := fun _ ds => decide (uptoBulkAll ds ≤ 1048576)
def OpenSpec.upto (s : _root_.Go.ChangeSpec) : _root_.Go.OpenSpec := { _root_.Go.OpenSpec.ofChange s with cond := some uptoSmall }

/-- 'koinelaw35.StoreMatchesReference', WHERE WHAT IT READS IS OF BULK AT MOST 1048576: true; the input reads as it did. -/
def storeMatchesReferenceUptoRow : OpenClaim := { program := "ytelkfnmdnbbniaa", sum := "039c5dd7c07e042d309ac5300b119857f528d879f13f51fad72f7a3f7608ea5d", func := "koine/koinelaw35.StoreMatchesReference", spec := "storeMatchesReference", unfollowed := true, recurses := true, apart := false, narrowed := true }
def StoreMatchesReferenceUptoSaid : Prop := storeMatchesReferenceUptoRow.holds Try.pinned (OpenSpec.upto storeMatchesReferenceSpec)

/-- 'koinelaw35.StoreCompacts', WHERE WHAT IT READS IS OF BULK AT MOST 1048576: true; the input reads as it did. -/
def storeCompactsUptoRow : OpenClaim := { program := "ytelkfnmdnbbniaa", sum := "039c5dd7c07e042d309ac5300b119857f528d879f13f51fad72f7a3f7608ea5d", func := "koine/koinelaw35.StoreCompacts", spec := "storeCompacts", unfollowed := true, recurses := true, apart := false, narrowed := true }
def StoreCompactsUptoSaid : Prop := storeCompactsUptoRow.holds Try.pinned (OpenSpec.upto storeCompactsSpec)

/-- 'koinelaw35.StoreRoom', WHERE WHAT IT READS IS OF BULK AT MOST 1048576: true; the input reads as it did. -/
def storeRoomUptoRow : OpenClaim := { program := "ytelkfnmdnbbniaa", sum := "039c5dd7c07e042d309ac5300b119857f528d879f13f51fad72f7a3f7608ea5d", func := "koine/koinelaw35.StoreRoom", spec := "storeRoom", unfollowed := true, recurses := true, apart := false, narrowed := true }
def StoreRoomUptoSaid : Prop := storeRoomUptoRow.holds Try.pinned (OpenSpec.upto storeRoomSpec)

/-- 'koinelaw35.StoreKeys', WHERE WHAT IT READS IS OF BULK AT MOST 1048576: true; the input reads as it did. -/
def storeKeysUptoRow : OpenClaim := { program := "ytelkfnmdnbbniaa", sum := "039c5dd7c07e042d309ac5300b119857f528d879f13f51fad72f7a3f7608ea5d", func := "koine/koinelaw35.StoreKeys", spec := "storeKeys", unfollowed := true, recurses := true, apart := false, narrowed := true }
def StoreKeysUptoSaid : Prop := storeKeysUptoRow.holds Try.pinned (OpenSpec.upto storeKeysSpec)

/-- 'koinelaw35.StoreFormats', WHERE WHAT IT READS IS OF BULK AT MOST 1048576: true; the input reads as it did. -/
def storeFormatsUptoRow : OpenClaim := { program := "ytelkfnmdnbbniaa", sum := "039c5dd7c07e042d309ac5300b119857f528d879f13f51fad72f7a3f7608ea5d", func := "koine/koinelaw35.StoreFormats", spec := "storeFormats", unfollowed := true, recurses := true, apart := false, narrowed := true }
def StoreFormatsUptoSaid : Prop := storeFormatsUptoRow.holds Try.pinned (OpenSpec.upto storeFormatsSpec)

/-- 'koinelaw35.StoreSurvives', WHERE WHAT IT READS IS OF BULK AT MOST 1048576: true; the input reads as it did. -/
def storeSurvivesUptoRow : OpenClaim := { program := "ytelkfnmdnbbniaa", sum := "039c5dd7c07e042d309ac5300b119857f528d879f13f51fad72f7a3f7608ea5d", func := "koine/koinelaw35.StoreSurvives", spec := "storeSurvives", unfollowed := true, recurses := true, apart := false, narrowed := true }
def StoreSurvivesUptoSaid : Prop := storeSurvivesUptoRow.holds Try.pinned (OpenSpec.upto storeSurvivesSpec)

/-- 'koinelaw35.StoreOpens', WHERE WHAT IT READS IS OF BULK AT MOST 1048576: true; the input reads as it did. -/
def storeOpensUptoRow : OpenClaim := { program := "ytelkfnmdnbbniaa", sum := "039c5dd7c07e042d309ac5300b119857f528d879f13f51fad72f7a3f7608ea5d", func := "koine/koinelaw35.StoreOpens", spec := "storeOpens", unfollowed := true, recurses := true, apart := false, narrowed := true }
def StoreOpensUptoSaid : Prop := storeOpensUptoRow.holds Try.pinned (OpenSpec.upto storeOpensSpec)

end Rows
end Go.Proofs.Ytelkfnmdnbbniaa
