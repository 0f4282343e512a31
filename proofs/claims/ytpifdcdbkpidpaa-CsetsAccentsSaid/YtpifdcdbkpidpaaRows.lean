/-
  No cell of these rows narrows 'for every input' (looked for: loops, veiled, ifaces, maps, wideKeys, modest, calm, conditions, laid).
  DERIVED. THE GIVEN ROWS OF THIS SEAT. 4 by the template 'for every input the law returns true; each argument reads behind the call as it read before'; 0 by the template 'total and deterministic' (their statements: YtpifdcdbkpidpaaTotals.lean).
  GIVEN WITH THE SEED: the statements are not yours to turn. If you find one false, say at which input.
  Laid BY PROGRAM, IN A SANDBOX (cutbox-rows.mjs): the forced cells as the released guide's own fill.sh prints them over the translation 42d4ed0a921a9701… (all of the seat's roots in one cut). By AI agents, Wed Nov 11 2026. No macro, syntax, notation, axiom, sorry.
-/
import Derived.Test.YtpifdcdbkpidpaaChecked
import GoSem.Claim
import GoSem.ClaimJoined
import GoSem.ClaimMapViews
import Derived.JoinedTies
import Derived.KernelRfl
namespace Go.Proofs.Ytpifdcdbkpidpaa
/- THE CELL 'sum', in the pinned program and in every row, IS THE sha256 OF THE DUMP (.gsa) THAT YtpifdcdbkpidpaaProg.lean LOADS. Nothing in Lean hashes anything: it is a label: what it is worth is what the hold of that sum in a sandbox is worth. -/
noncomputable def Try.pinned : Pinned := { name := "ytpifdcdbkpidpaa", sum := "42d4ed0a921a9701319b5c1d61c4225fd577066b44a13c66908be228813b4cdc", checked := Try.checked }
namespace Rows
def none {H : Type} : Left H := { results := [], args := [] }

/-- 'sobriquetlaw16.CsetsFinals': WHATEVER THE INPUT: true; the input reads as it did. -/
def csetsFinalsSpec : ChangeSpec := { name := "csetsFinals", fn := fun _ => fun
  | [d1, d2] => { results := [.lit (.bool true)], args := [d1, d2] }
  | _ => none }
def csetsFinalsRow : OpenClaim := { program := "ytpifdcdbkpidpaa", sum := "42d4ed0a921a9701319b5c1d61c4225fd577066b44a13c66908be228813b4cdc", func := "sobriquet/sobriquetlaw16.CsetsFinals", spec := "csetsFinals", unfollowed := true, recurses := true, apart := false }
def CsetsFinalsSaid : Prop := csetsFinalsRow.holds Try.pinned (OpenSpec.ofChange csetsFinalsSpec)

/-- ITS FALSE NEIGHBOUR: 'it returns false'. Refute it at one input. -/
def csetsFinalsWrong : ChangeSpec := { name := "csetsFinals", fn := fun _ => fun
  | [d1, d2] => { results := [.lit (.bool false)], args := [d1, d2] }
  | _ => none }
def CsetsFinalsWrongFalsely : Prop := csetsFinalsRow.holds Try.pinned (OpenSpec.ofChange csetsFinalsWrong)

/-- 'sobriquetlaw16.CsetsPlaces': WHATEVER THE INPUT: true; the input reads as it did. -/
def csetsPlacesSpec : ChangeSpec := { name := "csetsPlaces", fn := fun _ => fun
  | [d] => { results := [.lit (.bool true)], args := [d] }
  | _ => none }
def csetsPlacesRow : OpenClaim := { program := "ytpifdcdbkpidpaa", sum := "42d4ed0a921a9701319b5c1d61c4225fd577066b44a13c66908be228813b4cdc", func := "sobriquet/sobriquetlaw16.CsetsPlaces", spec := "csetsPlaces", unfollowed := true, recurses := true, apart := false }
def CsetsPlacesSaid : Prop := csetsPlacesRow.holds Try.pinned (OpenSpec.ofChange csetsPlacesSpec)

/-- ITS FALSE NEIGHBOUR: 'it returns false'. Refute it at one input. -/
def csetsPlacesWrong : ChangeSpec := { name := "csetsPlaces", fn := fun _ => fun
  | [d] => { results := [.lit (.bool false)], args := [d] }
  | _ => none }
def CsetsPlacesWrongFalsely : Prop := csetsPlacesRow.holds Try.pinned (OpenSpec.ofChange csetsPlacesWrong)

/-- 'sobriquetlaw16.CsetsAccents': WHATEVER THE INPUT: true; the input reads as it did. -/
def csetsAccentsSpec : ChangeSpec := { name := "csetsAccents", fn := fun _ => fun
  | [d1, d2] => { results := [.lit (.bool true)], args := [d1, d2] }
  | _ => none }
def csetsAccentsRow : OpenClaim := { program := "ytpifdcdbkpidpaa", sum := "42d4ed0a921a9701319b5c1d61c4225fd577066b44a13c66908be228813b4cdc", func := "sobriquet/sobriquetlaw16.CsetsAccents", spec := "csetsAccents", unfollowed := true, recurses := true, apart := false }
def CsetsAccentsSaid : Prop := csetsAccentsRow.holds Try.pinned (OpenSpec.ofChange csetsAccentsSpec)

/-- ITS FALSE NEIGHBOUR: 'it returns false'. Refute it at one input. -/
def csetsAccentsWrong : ChangeSpec := { name := "csetsAccents", fn := fun _ => fun
  | [d1, d2] => { results := [.lit (.bool false)], args := [d1, d2] }
  | _ => none }
def CsetsAccentsWrongFalsely : Prop := csetsAccentsRow.holds Try.pinned (OpenSpec.ofChange csetsAccentsWrong)

/-- 'sobriquetlaw16.CsetsExact': WHATEVER THE INPUT: true; the input reads as it did. -/
def csetsExactSpec : ChangeSpec := { name := "csetsExact", fn := fun _ => fun
  | [d1, d2, d3, d4] => { results := [.lit (.bool true)], args := [d1, d2, d3, d4] }
  | _ => none }
def csetsExactRow : OpenClaim := { program := "ytpifdcdbkpidpaa", sum := "42d4ed0a921a9701319b5c1d61c4225fd577066b44a13c66908be228813b4cdc", func := "sobriquet/sobriquetlaw16.CsetsExact", spec := "csetsExact", unfollowed := true, recurses := true, apart := false }
def CsetsExactSaid : Prop := csetsExactRow.holds Try.pinned (OpenSpec.ofChange csetsExactSpec)

/-- ITS FALSE NEIGHBOUR: 'it returns false'. Refute it at one input. -/
def csetsExactWrong : ChangeSpec := { name := "csetsExact", fn := fun _ => fun
  | [d1, d2, d3, d4] => { results := [.lit (.bool false)], args := [d1, d2, d3, d4] }
  | _ => none }
def CsetsExactWrongFalsely : Prop := csetsExactRow.holds Try.pinned (OpenSpec.ofChange csetsExactWrong)

/- THE SECOND FORM. 'bulk': how many values and letters a reading holds, each counted each time it is reached (what is shared counts as often as it is met; a slice's spare places count too). A statement '..UptoSaid' is the law's where the arguments, and the package variables that the reading takes, are together of bulk at most 1048576: NARROWER than '..Said'. Prove '..Said' where nothing that the law and all that it calls make is longer than what came in: it says more and counts as full. Else prove '..UptoSaid'. A law counts once. -/
mutual
def uptoBulk {H : Type} : DataW H → Nat
  | .lit (.string bytes) => bytes.length + 1
  | .lit _ => 1
  | .nil => 1
  | .ptr d => uptoBulk d + 1
  | .slice elems spare => uptoBulkAll elems + uptoBulkAll spare + 1
  | .agg parts => uptoBulkAll parts + 1
  | .iface _ d => uptoBulk d + 1
  | .map entries => uptoBulkEntries entries + 1
  | .held _ => 1
def uptoBulkAll {H : Type} : List (DataW H) → Nat
  | [] => 0
  | d :: r => uptoBulk d + uptoBulkAll r
def uptoBulkEntries {H : Type} : List (Lit × DataW H) → Nat
  | [] => 0
  | x :: r => uptoBulkEntry x + uptoBulkEntries r
def uptoBulkEntry {H : Type} : Lit × DataW H → Nat
  | (.string bytes, d) => bytes.length + uptoBulk d + 1
  | (_, d) => uptoBulk d + 1
 end
def uptoSmall : (H : Type) → List (DataW H) → Bool := fun _ ds => decide (uptoBulkAll ds ≤ 1048576)
def OpenSpec.upto (s : _root_.Go.ChangeSpec) : _root_.Go.OpenSpec := { _root_.Go.OpenSpec.ofChange s with cond := some uptoSmall }

/-- 'sobriquetlaw16.CsetsFinals', WHERE WHAT IT READS IS OF BULK AT MOST 1048576: true; the input reads as it did. -/
def csetsFinalsUptoRow : OpenClaim := { program := "ytpifdcdbkpidpaa", sum := "42d4ed0a921a9701319b5c1d61c4225fd577066b44a13c66908be228813b4cdc", func := "sobriquet/sobriquetlaw16.CsetsFinals", spec := "csetsFinals", unfollowed := true, recurses := true, apart := false, narrowed := true }
def CsetsFinalsUptoSaid : Prop := csetsFinalsUptoRow.holds Try.pinned (OpenSpec.upto csetsFinalsSpec)

/-- 'sobriquetlaw16.CsetsPlaces', WHERE WHAT IT READS IS OF BULK AT MOST 1048576: true; the input reads as it did. -/
def csetsPlacesUptoRow : OpenClaim := { program := "ytpifdcdbkpidpaa", sum := "42d4ed0a921a9701319b5c1d61c4225fd577066b44a13c66908be228813b4cdc", func := "sobriquet/sobriquetlaw16.CsetsPlaces", spec := "csetsPlaces", unfollowed := true, recurses := true, apart := false, narrowed := true }
def CsetsPlacesUptoSaid : Prop := csetsPlacesUptoRow.holds Try.pinned (OpenSpec.upto csetsPlacesSpec)

/-- 'sobriquetlaw16.CsetsAccents', WHERE WHAT IT READS IS OF BULK AT MOST 1048576: true; the input reads as it did. -/
def csetsAccentsUptoRow : OpenClaim := { program := "ytpifdcdbkpidpaa", sum := "42d4ed0a921a9701319b5c1d61c4225fd577066b44a13c66908be228813b4cdc", func := "sobriquet/sobriquetlaw16.CsetsAccents", spec := "csetsAccents", unfollowed := true, recurses := true, apart := false, narrowed := true }
def CsetsAccentsUptoSaid : Prop := csetsAccentsUptoRow.holds Try.pinned (OpenSpec.upto csetsAccentsSpec)

/-- 'sobriquetlaw16.CsetsExact', WHERE WHAT IT READS IS OF BULK AT MOST 1048576: true; the input reads as it did. -/
def csetsExactUptoRow : OpenClaim := { program := "ytpifdcdbkpidpaa", sum := "42d4ed0a921a9701319b5c1d61c4225fd577066b44a13c66908be228813b4cdc", func := "sobriquet/sobriquetlaw16.CsetsExact", spec := "csetsExact", unfollowed := true, recurses := true, apart := false, narrowed := true }
def CsetsExactUptoSaid : Prop := csetsExactUptoRow.holds Try.pinned (OpenSpec.upto csetsExactSpec)

end Rows
end Go.Proofs.Ytpifdcdbkpidpaa
