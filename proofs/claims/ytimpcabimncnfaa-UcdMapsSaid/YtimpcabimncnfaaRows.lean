/-
  No cell of these rows narrows 'for every input' (looked for: loops, veiled, ifaces, maps, wideKeys, modest, calm, conditions, laid).
  DERIVED. THE GIVEN ROWS OF THIS SEAT. 5 by the template 'for every input the law returns true; each argument reads behind the call as it read before'; 0 by the template 'total and deterministic' (their statements: YtimpcabimncnfaaTotals.lean).
  GIVEN WITH THE SEED: the statements are not yours to turn. If you find one false, say at which input.
  Laid BY PROGRAM, IN A SANDBOX (cutbox-rows.mjs): the forced cells as the released guide's own fill.sh prints them over the translation f73dab040b84a18d… (all of the seat's roots in one cut). By AI agents, Wed Nov 11 2026. No macro, syntax, notation, axiom, sorry.
-/
import Derived.Test.YtimpcabimncnfaaChecked
import GoSem.Claim
import GoSem.ClaimJoined
import GoSem.ClaimMapViews
import Derived.JoinedTies
import Derived.KernelRfl
namespace Go.Proofs.Ytimpcabimncnfaa
/- THE CELL 'sum', in the pinned program and in every row, IS THE sha256 OF THE DUMP (.gsa) THAT YtimpcabimncnfaaProg.lean LOADS. Nothing in Lean hashes anything: it is a label: what it is worth is what the hold of that sum in a sandbox is worth. -/
noncomputable def Try.pinned : Pinned := { name := "ytimpcabimncnfaa", sum := "f73dab040b84a18d07fc9fd4ae0b968c3bc43c88520069f0abd1cfec2a40f649", checked := Try.checked }
namespace Rows
def none {H : Type} : Left H := { results := [], args := [] }

/-- 'sobriquetlaw06.UcdRanges': WHATEVER THE INPUT: true; the input reads as it did. -/
def ucdRangesSpec : ChangeSpec := { name := "ucdRanges", fn := fun _ => fun
  | [d1, d2, d3] => { results := [.lit (.bool true)], args := [d1, d2, d3] }
  | _ => none }
def ucdRangesRow : OpenClaim := { program := "ytimpcabimncnfaa", sum := "f73dab040b84a18d07fc9fd4ae0b968c3bc43c88520069f0abd1cfec2a40f649", func := "sobriquet/sobriquetlaw06.UcdRanges", spec := "ucdRanges", unfollowed := true, recurses := true, apart := false }
def UcdRangesSaid : Prop := ucdRangesRow.holds Try.pinned (OpenSpec.ofChange ucdRangesSpec)

/-- ITS FALSE NEIGHBOUR: 'it returns false'. Refute it at one input. -/
def ucdRangesWrong : ChangeSpec := { name := "ucdRanges", fn := fun _ => fun
  | [d1, d2, d3] => { results := [.lit (.bool false)], args := [d1, d2, d3] }
  | _ => none }
def UcdRangesWrongFalsely : Prop := ucdRangesRow.holds Try.pinned (OpenSpec.ofChange ucdRangesWrong)

/-- 'sobriquetlaw06.UcdPairs': WHATEVER THE INPUT: true; the input reads as it did. -/
def ucdPairsSpec : ChangeSpec := { name := "ucdPairs", fn := fun _ => fun
  | [d1, d2] => { results := [.lit (.bool true)], args := [d1, d2] }
  | _ => none }
def ucdPairsRow : OpenClaim := { program := "ytimpcabimncnfaa", sum := "f73dab040b84a18d07fc9fd4ae0b968c3bc43c88520069f0abd1cfec2a40f649", func := "sobriquet/sobriquetlaw06.UcdPairs", spec := "ucdPairs", unfollowed := true, recurses := true, apart := false }
def UcdPairsSaid : Prop := ucdPairsRow.holds Try.pinned (OpenSpec.ofChange ucdPairsSpec)

/-- ITS FALSE NEIGHBOUR: 'it returns false'. Refute it at one input. -/
def ucdPairsWrong : ChangeSpec := { name := "ucdPairs", fn := fun _ => fun
  | [d1, d2] => { results := [.lit (.bool false)], args := [d1, d2] }
  | _ => none }
def UcdPairsWrongFalsely : Prop := ucdPairsRow.holds Try.pinned (OpenSpec.ofChange ucdPairsWrong)

/-- 'sobriquetlaw06.UcdMaps': WHATEVER THE INPUT: true; the input reads as it did. -/
def ucdMapsSpec : ChangeSpec := { name := "ucdMaps", fn := fun _ => fun
  | [d] => { results := [.lit (.bool true)], args := [d] }
  | _ => none }
def ucdMapsRow : OpenClaim := { program := "ytimpcabimncnfaa", sum := "f73dab040b84a18d07fc9fd4ae0b968c3bc43c88520069f0abd1cfec2a40f649", func := "sobriquet/sobriquetlaw06.UcdMaps", spec := "ucdMaps", unfollowed := true, recurses := true, apart := false }
def UcdMapsSaid : Prop := ucdMapsRow.holds Try.pinned (OpenSpec.ofChange ucdMapsSpec)

/-- ITS FALSE NEIGHBOUR: 'it returns false'. Refute it at one input. -/
def ucdMapsWrong : ChangeSpec := { name := "ucdMaps", fn := fun _ => fun
  | [d] => { results := [.lit (.bool false)], args := [d] }
  | _ => none }
def UcdMapsWrongFalsely : Prop := ucdMapsRow.holds Try.pinned (OpenSpec.ofChange ucdMapsWrong)

/-- 'sobriquetlaw06.UcdExact': WHATEVER THE INPUT: true; the input reads as it did. -/
def ucdExactSpec : ChangeSpec := { name := "ucdExact", fn := fun _ => fun
  | [d1, d2] => { results := [.lit (.bool true)], args := [d1, d2] }
  | _ => none }
def ucdExactRow : OpenClaim := { program := "ytimpcabimncnfaa", sum := "f73dab040b84a18d07fc9fd4ae0b968c3bc43c88520069f0abd1cfec2a40f649", func := "sobriquet/sobriquetlaw06.UcdExact", spec := "ucdExact", unfollowed := true, recurses := true, apart := false }
def UcdExactSaid : Prop := ucdExactRow.holds Try.pinned (OpenSpec.ofChange ucdExactSpec)

/-- ITS FALSE NEIGHBOUR: 'it returns false'. Refute it at one input. -/
def ucdExactWrong : ChangeSpec := { name := "ucdExact", fn := fun _ => fun
  | [d1, d2] => { results := [.lit (.bool false)], args := [d1, d2] }
  | _ => none }
def UcdExactWrongFalsely : Prop := ucdExactRow.holds Try.pinned (OpenSpec.ofChange ucdExactWrong)

/-- 'sobriquetlaw06.UcdNone': WHATEVER THE INPUT: true; the input reads as it did. -/
def ucdNoneSpec : ChangeSpec := { name := "ucdNone", fn := fun _ => fun
  | [d1, d2] => { results := [.lit (.bool true)], args := [d1, d2] }
  | _ => none }
def ucdNoneRow : OpenClaim := { program := "ytimpcabimncnfaa", sum := "f73dab040b84a18d07fc9fd4ae0b968c3bc43c88520069f0abd1cfec2a40f649", func := "sobriquet/sobriquetlaw06.UcdNone", spec := "ucdNone", unfollowed := true, recurses := true, apart := false }
def UcdNoneSaid : Prop := ucdNoneRow.holds Try.pinned (OpenSpec.ofChange ucdNoneSpec)

/-- ITS FALSE NEIGHBOUR: 'it returns false'. Refute it at one input. -/
def ucdNoneWrong : ChangeSpec := { name := "ucdNone", fn := fun _ => fun
  | [d1, d2] => { results := [.lit (.bool false)], args := [d1, d2] }
  | _ => none }
def UcdNoneWrongFalsely : Prop := ucdNoneRow.holds Try.pinned (OpenSpec.ofChange ucdNoneWrong)

/- THE SECOND FORM. 'bulk': how many values and letters a reading holds, each counted each time it is reached (what is shared counts as often as it is met; a slice's spare places count too). A statement '..UptoSaid' is the law's where the arguments, and the package variables that the reading takes, are together of bulk at most 1048576: NARROWER than '..Said'. Prove '..Said' where nothing that the law and all that it calls make is longer than what came in: it says more and counts as full. Else prove '..UptoSaid'. A law counts once. -/
mutual
def uptoBulk {H : Type} : DataW H → Nat
  | .lit (.string bytes) => bytes.length + 1
  | .lit _ => 1
  | .nil => 1
  | .ptr d => uptoBulk d + 1
  | .slice elems spare => uptoBulkAll elems + uptoBulkAll spare + 1
  | .agg parts => uptoBulkAll parts + 1
  | .iface _ d => uptoBulk d + 1
  | .map entries => uptoBulkEntries entries + 1
  | .held _ => 1
def uptoBulkAll {H : Type} : List (DataW H) → Nat
  | [] => 0
  | d :: r => uptoBulk d + uptoBulkAll r
def uptoBulkEntries {H : Type} : List (Lit × DataW H) → Nat
  | [] => 0
  | x :: r => uptoBulkEntry x + uptoBulkEntries r
def uptoBulkEntry {H : Type} : Lit × DataW H → Nat
  | (.string bytes, d) => bytes.length + uptoBulk d + 1
  | (_, d) => uptoBulk d + 1
 end
def uptoSmall : (H : Type) → List (DataW H) → Bool := fun _ ds => decide (uptoBulkAll ds ≤ 1048576)
def OpenSpec.upto (s : _root_.Go.ChangeSpec) : _root_.Go.OpenSpec := { _root_.Go.OpenSpec.ofChange s with cond := some uptoSmall }

/-- 'sobriquetlaw06.UcdRanges', WHERE WHAT IT READS IS OF BULK AT MOST 1048576: true; the input reads as it did. -/
def ucdRangesUptoRow : OpenClaim := { program := "ytimpcabimncnfaa", sum := "f73dab040b84a18d07fc9fd4ae0b968c3bc43c88520069f0abd1cfec2a40f649", func := "sobriquet/sobriquetlaw06.UcdRanges", spec := "ucdRanges", unfollowed := true, recurses := true, apart := false, narrowed := true }
def UcdRangesUptoSaid : Prop := ucdRangesUptoRow.holds Try.pinned (OpenSpec.upto ucdRangesSpec)

/-- 'sobriquetlaw06.UcdPairs', WHERE WHAT IT READS IS OF BULK AT MOST 1048576: true; the input reads as it did. -/
def ucdPairsUptoRow : OpenClaim := { program := "ytimpcabimncnfaa", sum := "f73dab040b84a18d07fc9fd4ae0b968c3bc43c88520069f0abd1cfec2a40f649", func := "sobriquet/sobriquetlaw06.UcdPairs", spec := "ucdPairs", unfollowed := true, recurses := true, apart := false, narrowed := true }
def UcdPairsUptoSaid : Prop := ucdPairsUptoRow.holds Try.pinned (OpenSpec.upto ucdPairsSpec)

/-- 'sobriquetlaw06.UcdMaps', WHERE WHAT IT READS IS OF BULK AT MOST 1048576: true; the input reads as it did. -/
def ucdMapsUptoRow : OpenClaim := { program := "ytimpcabimncnfaa", sum := "f73dab040b84a18d07fc9fd4ae0b968c3bc43c88520069f0abd1cfec2a40f649", func := "sobriquet/sobriquetlaw06.UcdMaps", spec := "ucdMaps", unfollowed := true, recurses := true, apart := false, narrowed := true }
def UcdMapsUptoSaid : Prop := ucdMapsUptoRow.holds Try.pinned (OpenSpec.upto ucdMapsSpec)

/-- 'sobriquetlaw06.UcdExact', WHERE WHAT IT READS IS OF BULK AT MOST 1048576: true; the input reads as it did. -/
def ucdExactUptoRow : OpenClaim := { program := "ytimpcabimncnfaa", sum := "f73dab040b84a18d07fc9fd4ae0b968c3bc43c88520069f0abd1cfec2a40f649", func := "sobriquet/sobriquetlaw06.UcdExact", spec := "ucdExact", unfollowed := true, recurses := true, apart := false, narrowed := true }
def UcdExactUptoSaid : Prop := ucdExactUptoRow.holds Try.pinned (OpenSpec.upto ucdExactSpec)

/-- 'sobriquetlaw06.UcdNone', WHERE WHAT IT READS IS OF BULK AT MOST 1048576: true; the input reads as it did. -/
def ucdNoneUptoRow : OpenClaim := { program := "ytimpcabimncnfaa", sum := "f73dab040b84a18d07fc9fd4ae0b968c3bc43c88520069f0abd1cfec2a40f649", func := "sobriquet/sobriquetlaw06.UcdNone", spec := "ucdNone", unfollowed := true, recurses := true, apart := false, narrowed := true }
def UcdNoneUptoSaid : Prop := ucdNoneUptoRow.holds Try.pinned (OpenSpec.upto ucdNoneSpec)

end Rows
end Go.Proofs.Ytimpcabimncnfaa
