/-
  No cell of these rows narrows 'for every input' (looked for: loops, veiled, ifaces, maps, wideKeys, modest, calm, conditions, laid).
  DERIVED. THE GIVEN ROWS OF THIS SEAT. 7 by the template 'for every input the law returns true; each argument reads behind the call as it read before'; 0 by the template 'total and deterministic' (their statements: YtgcdfchchphpjaaTotals.lean).
  GIVEN WITH THE SEED: the statements are not yours to turn. If you find one false, say at which input.
  Laid BY PROGRAM, IN A SANDBOX (cutbox-rows.mjs): the forced cells as the released guide's own fill.sh prints them over the translation 6205405ce88c1633… (all of the seat's roots in one cut). By AI agents, Wed Nov 11 2026. No macro, syntax, notation, axiom, sorry.
-/
import Derived.Test.YtgcdfchchphpjaaChecked
import GoSem.Claim
import GoSem.ClaimJoined
import GoSem.ClaimMapViews
import Derived.JoinedTies
import Derived.KernelRfl
namespace Go.Proofs.Ytgcdfchchphpjaa
/- THE CELL 'sum', in the pinned program and in every row, IS THE sha256 OF THE DUMP (.gsa) THAT YtgcdfchchphpjaaProg.lean LOADS. Nothing in Lean hashes anything: it is a label: what it is worth is what the hold of that sum in a sandbox is worth. -/
noncomputable def Try.pinned : Pinned := { name := "ytgcdfchchphpjaa", sum := "6205405ce88c1633d8c3d92a50e37b6ab7d1b0f126660828600026bd02ab7378", checked := Try.checked }
namespace Rows
def none {H : Type} : Left H := { results := [], args := [] }

/-- 'sobriquetlaw18.TeletexBack': WHATEVER THE INPUT: true; the input reads as it did. -/
def teletexBackSpec : ChangeSpec := { name := "teletexBack", fn := fun _ => fun
  | [d] => { results := [.lit (.bool true)], args := [d] }
  | _ => none }
def teletexBackRow : OpenClaim := { program := "ytgcdfchchphpjaa", sum := "6205405ce88c1633d8c3d92a50e37b6ab7d1b0f126660828600026bd02ab7378", func := "sobriquet/sobriquetlaw18.TeletexBack", spec := "teletexBack", unfollowed := true, recurses := true, apart := false }
def TeletexBackSaid : Prop := teletexBackRow.holds Try.pinned (OpenSpec.ofChange teletexBackSpec)

/-- ITS FALSE NEIGHBOUR: 'it returns false'. Refute it at one input. -/
def teletexBackWrong : ChangeSpec := { name := "teletexBack", fn := fun _ => fun
  | [d] => { results := [.lit (.bool false)], args := [d] }
  | _ => none }
def TeletexBackWrongFalsely : Prop := teletexBackRow.holds Try.pinned (OpenSpec.ofChange teletexBackWrong)

/-- 'sobriquetlaw18.TeletexNormal': WHATEVER THE INPUT: true; the input reads as it did. -/
def teletexNormalSpec : ChangeSpec := { name := "teletexNormal", fn := fun _ => fun
  | [d] => { results := [.lit (.bool true)], args := [d] }
  | _ => none }
def teletexNormalRow : OpenClaim := { program := "ytgcdfchchphpjaa", sum := "6205405ce88c1633d8c3d92a50e37b6ab7d1b0f126660828600026bd02ab7378", func := "sobriquet/sobriquetlaw18.TeletexNormal", spec := "teletexNormal", unfollowed := true, recurses := true, apart := false }
def TeletexNormalSaid : Prop := teletexNormalRow.holds Try.pinned (OpenSpec.ofChange teletexNormalSpec)

/-- ITS FALSE NEIGHBOUR: 'it returns false'. Refute it at one input. -/
def teletexNormalWrong : ChangeSpec := { name := "teletexNormal", fn := fun _ => fun
  | [d] => { results := [.lit (.bool false)], args := [d] }
  | _ => none }
def TeletexNormalWrongFalsely : Prop := teletexNormalRow.holds Try.pinned (OpenSpec.ofChange teletexNormalWrong)

/-- 'sobriquetlaw18.TeletexHas': WHATEVER THE INPUT: true; the input reads as it did. -/
def teletexHasSpec : ChangeSpec := { name := "teletexHas", fn := fun _ => fun
  | [d] => { results := [.lit (.bool true)], args := [d] }
  | _ => none }
def teletexHasRow : OpenClaim := { program := "ytgcdfchchphpjaa", sum := "6205405ce88c1633d8c3d92a50e37b6ab7d1b0f126660828600026bd02ab7378", func := "sobriquet/sobriquetlaw18.TeletexHas", spec := "teletexHas", unfollowed := true, recurses := true, apart := false }
def TeletexHasSaid : Prop := teletexHasRow.holds Try.pinned (OpenSpec.ofChange teletexHasSpec)

/-- ITS FALSE NEIGHBOUR: 'it returns false'. Refute it at one input. -/
def teletexHasWrong : ChangeSpec := { name := "teletexHas", fn := fun _ => fun
  | [d] => { results := [.lit (.bool false)], args := [d] }
  | _ => none }
def TeletexHasWrongFalsely : Prop := teletexHasRow.holds Try.pinned (OpenSpec.ofChange teletexHasWrong)

/-- 'sobriquetlaw18.TeletexPlaces': WHATEVER THE INPUT: true; the input reads as it did. -/
def teletexPlacesSpec : ChangeSpec := { name := "teletexPlaces", fn := fun _ => fun
  | [d1, d2, d3] => { results := [.lit (.bool true)], args := [d1, d2, d3] }
  | _ => none }
def teletexPlacesRow : OpenClaim := { program := "ytgcdfchchphpjaa", sum := "6205405ce88c1633d8c3d92a50e37b6ab7d1b0f126660828600026bd02ab7378", func := "sobriquet/sobriquetlaw18.TeletexPlaces", spec := "teletexPlaces", unfollowed := true, recurses := true, apart := false }
def TeletexPlacesSaid : Prop := teletexPlacesRow.holds Try.pinned (OpenSpec.ofChange teletexPlacesSpec)

/-- ITS FALSE NEIGHBOUR: 'it returns false'. Refute it at one input. -/
def teletexPlacesWrong : ChangeSpec := { name := "teletexPlaces", fn := fun _ => fun
  | [d1, d2, d3] => { results := [.lit (.bool false)], args := [d1, d2, d3] }
  | _ => none }
def TeletexPlacesWrongFalsely : Prop := teletexPlacesRow.holds Try.pinned (OpenSpec.ofChange teletexPlacesWrong)

/-- 'sobriquetlaw18.TeletexAccents': WHATEVER THE INPUT: true; the input reads as it did. -/
def teletexAccentsSpec : ChangeSpec := { name := "teletexAccents", fn := fun _ => fun
  | [d1, d2, d3] => { results := [.lit (.bool true)], args := [d1, d2, d3] }
  | _ => none }
def teletexAccentsRow : OpenClaim := { program := "ytgcdfchchphpjaa", sum := "6205405ce88c1633d8c3d92a50e37b6ab7d1b0f126660828600026bd02ab7378", func := "sobriquet/sobriquetlaw18.TeletexAccents", spec := "teletexAccents", unfollowed := true, recurses := true, apart := false }
def TeletexAccentsSaid : Prop := teletexAccentsRow.holds Try.pinned (OpenSpec.ofChange teletexAccentsSpec)

/-- ITS FALSE NEIGHBOUR: 'it returns false'. Refute it at one input. -/
def teletexAccentsWrong : ChangeSpec := { name := "teletexAccents", fn := fun _ => fun
  | [d1, d2, d3] => { results := [.lit (.bool false)], args := [d1, d2, d3] }
  | _ => none }
def TeletexAccentsWrongFalsely : Prop := teletexAccentsRow.holds Try.pinned (OpenSpec.ofChange teletexAccentsWrong)

/-- 'sobriquetlaw18.TeletexPlain': WHATEVER THE INPUT: true; the input reads as it did. -/
def teletexPlainSpec : ChangeSpec := { name := "teletexPlain", fn := fun _ => fun
  | [d] => { results := [.lit (.bool true)], args := [d] }
  | _ => none }
def teletexPlainRow : OpenClaim := { program := "ytgcdfchchphpjaa", sum := "6205405ce88c1633d8c3d92a50e37b6ab7d1b0f126660828600026bd02ab7378", func := "sobriquet/sobriquetlaw18.TeletexPlain", spec := "teletexPlain", unfollowed := true, recurses := true, apart := false }
def TeletexPlainSaid : Prop := teletexPlainRow.holds Try.pinned (OpenSpec.ofChange teletexPlainSpec)

/-- ITS FALSE NEIGHBOUR: 'it returns false'. Refute it at one input. -/
def teletexPlainWrong : ChangeSpec := { name := "teletexPlain", fn := fun _ => fun
  | [d] => { results := [.lit (.bool false)], args := [d] }
  | _ => none }
def TeletexPlainWrongFalsely : Prop := teletexPlainRow.holds Try.pinned (OpenSpec.ofChange teletexPlainWrong)

/-- 'sobriquetlaw18.TeletexDirect': WHATEVER THE INPUT: true; the input reads as it did. -/
def teletexDirectSpec : ChangeSpec := { name := "teletexDirect", fn := fun _ => fun
  | [d1, d2] => { results := [.lit (.bool true)], args := [d1, d2] }
  | _ => none }
def teletexDirectRow : OpenClaim := { program := "ytgcdfchchphpjaa", sum := "6205405ce88c1633d8c3d92a50e37b6ab7d1b0f126660828600026bd02ab7378", func := "sobriquet/sobriquetlaw18.TeletexDirect", spec := "teletexDirect", unfollowed := true, recurses := true, apart := false }
def TeletexDirectSaid : Prop := teletexDirectRow.holds Try.pinned (OpenSpec.ofChange teletexDirectSpec)

/-- ITS FALSE NEIGHBOUR: 'it returns false'. Refute it at one input. -/
def teletexDirectWrong : ChangeSpec := { name := "teletexDirect", fn := fun _ => fun
  | [d1, d2] => { results := [.lit (.bool false)], args := [d1, d2] }
  | _ => none }
def TeletexDirectWrongFalsely : Prop := teletexDirectRow.holds Try.pinned (OpenSpec.ofChange teletexDirectWrong)

/- THE SECOND FORM. 'bulk': how many values and letters a reading holds, each counted each time it is reached (what is shared counts as often as it is met; a slice's spare places count too). A statement '..UptoSaid' is the law's where the arguments, and the package variables that the reading takes, are together of bulk at most 1048576: NARROWER than '..Said'. Prove '..Said' where nothing that the law and all that it calls make is longer than what came in: it says more and counts as full. Else prove '..UptoSaid'. A law counts once. -/
mutual
def uptoBulk {H : Type} : DataW H → Nat
  | .lit (.string bytes) => bytes.length + 1
  | .lit _ => 1
  | .nil => 1
  | .ptr d => uptoBulk d + 1
  | .slice elems spare => uptoBulkAll elems + uptoBulkAll spare + 1
  | .agg parts => uptoBulkAll parts + 1
  | .iface _ d => uptoBulk d + 1
  | .map entries => uptoBulkEntries entries + 1
  | .held _ => 1
def uptoBulkAll {H : Type} : List (DataW H) → Nat
  | [] => 0
  | d :: r => uptoBulk d + uptoBulkAll r
def uptoBulkEntries {H : Type} : List (Lit × DataW H) → Nat
  | [] => 0
  | x :: r => uptoBulkEntry x + uptoBulkEntries r
def uptoBulkEntry {H : Type} : Lit × DataW H → Nat
  | (.string bytes, d) => bytes.length + uptoBulk d + 1
  | (_, d) => uptoBulk d + 1
 end
def uptoSmall : (H : Type) → List (DataW H) → Bool := fun _ ds => decide (uptoBulkAll ds ≤ 1048576)
def OpenSpec.upto (s : _root_.Go.ChangeSpec) : _root_.Go.OpenSpec := { _root_.Go.OpenSpec.ofChange s with cond := some uptoSmall }

/-- 'sobriquetlaw18.TeletexBack', WHERE WHAT IT READS IS OF BULK AT MOST 1048576: true; the input reads as it did. -/
def teletexBackUptoRow : OpenClaim := { program := "ytgcdfchchphpjaa", sum := "6205405ce88c1633d8c3d92a50e37b6ab7d1b0f126660828600026bd02ab7378", func := "sobriquet/sobriquetlaw18.TeletexBack", spec := "teletexBack", unfollowed := true, recurses := true, apart := false, narrowed := true }
def TeletexBackUptoSaid : Prop := teletexBackUptoRow.holds Try.pinned (OpenSpec.upto teletexBackSpec)

/-- 'sobriquetlaw18.TeletexNormal', WHERE WHAT IT READS IS OF BULK AT MOST 1048576: true; the input reads as it did. -/
def teletexNormalUptoRow : OpenClaim := { program := "ytgcdfchchphpjaa", sum := "6205405ce88c1633d8c3d92a50e37b6ab7d1b0f126660828600026bd02ab7378", func := "sobriquet/sobriquetlaw18.TeletexNormal", spec := "teletexNormal", unfollowed := true, recurses := true, apart := false, narrowed := true }
def TeletexNormalUptoSaid : Prop := teletexNormalUptoRow.holds Try.pinned (OpenSpec.upto teletexNormalSpec)

/-- 'sobriquetlaw18.TeletexHas', WHERE WHAT IT READS IS OF BULK AT MOST 1048576: true; the input reads as it did. -/
def teletexHasUptoRow : OpenClaim := { program := "ytgcdfchchphpjaa", sum := "6205405ce88c1633d8c3d92a50e37b6ab7d1b0f126660828600026bd02ab7378", func := "sobriquet/sobriquetlaw18.TeletexHas", spec := "teletexHas", unfollowed := true, recurses := true, apart := false, narrowed := true }
def TeletexHasUptoSaid : Prop := teletexHasUptoRow.holds Try.pinned (OpenSpec.upto teletexHasSpec)

/-- 'sobriquetlaw18.TeletexPlaces', WHERE WHAT IT READS IS OF BULK AT MOST 1048576: true; the input reads as it did. -/
def teletexPlacesUptoRow : OpenClaim := { program := "ytgcdfchchphpjaa", sum := "6205405ce88c1633d8c3d92a50e37b6ab7d1b0f126660828600026bd02ab7378", func := "sobriquet/sobriquetlaw18.TeletexPlaces", spec := "teletexPlaces", unfollowed := true, recurses := true, apart := false, narrowed := true }
def TeletexPlacesUptoSaid : Prop := teletexPlacesUptoRow.holds Try.pinned (OpenSpec.upto teletexPlacesSpec)

/-- 'sobriquetlaw18.TeletexAccents', WHERE WHAT IT READS IS OF BULK AT MOST 1048576: true; the input reads as it did. -/
def teletexAccentsUptoRow : OpenClaim := { program := "ytgcdfchchphpjaa", sum := "6205405ce88c1633d8c3d92a50e37b6ab7d1b0f126660828600026bd02ab7378", func := "sobriquet/sobriquetlaw18.TeletexAccents", spec := "teletexAccents", unfollowed := true, recurses := true, apart := false, narrowed := true }
def TeletexAccentsUptoSaid : Prop := teletexAccentsUptoRow.holds Try.pinned (OpenSpec.upto teletexAccentsSpec)

/-- 'sobriquetlaw18.TeletexPlain', WHERE WHAT IT READS IS OF BULK AT MOST 1048576: true; the input reads as it did. -/
def teletexPlainUptoRow : OpenClaim := { program := "ytgcdfchchphpjaa", sum := "6205405ce88c1633d8c3d92a50e37b6ab7d1b0f126660828600026bd02ab7378", func := "sobriquet/sobriquetlaw18.TeletexPlain", spec := "teletexPlain", unfollowed := true, recurses := true, apart := false, narrowed := true }
def TeletexPlainUptoSaid : Prop := teletexPlainUptoRow.holds Try.pinned (OpenSpec.upto teletexPlainSpec)

/-- 'sobriquetlaw18.TeletexDirect', WHERE WHAT IT READS IS OF BULK AT MOST 1048576: true; the input reads as it did. -/
def teletexDirectUptoRow : OpenClaim := { program := "ytgcdfchchphpjaa", sum := "6205405ce88c1633d8c3d92a50e37b6ab7d1b0f126660828600026bd02ab7378", func := "sobriquet/sobriquetlaw18.TeletexDirect", spec := "teletexDirect", unfollowed := true, recurses := true, apart := false, narrowed := true }
def TeletexDirectUptoSaid : Prop := teletexDirectUptoRow.holds Try.pinned (OpenSpec.upto teletexDirectSpec)

end Rows
end Go.Proofs.Ytgcdfchchphpjaa
