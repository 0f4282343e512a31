/- Words of the kit's printer that this seat's texts use, cut to those by wip/prune.py; each is proved here anew. -/
import Derived.Test.YtgcdfchchphpjaaVWords
import Derived.Laws.StructEq
set_option linter.unusedVariables false
set_option linter.unusedSimpArgs false
/-! ### 53. '==' of structs as_ one Bool -/
namespace Go.Proofs.YtgcdfchchphpjaaW.PrintWords
open Go.RowKit
section
variable {P : Program} {d : Nat} {xs ys : Array Value} {f : Field} {fs : List Field} {a b : Value} {r s : Bool} {w : World}
end
end Go.Proofs.YtgcdfchchphpjaaW.PrintWords
