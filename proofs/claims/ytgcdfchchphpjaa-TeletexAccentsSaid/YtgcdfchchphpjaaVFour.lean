/- Words of the kit's printer that this seat's texts use, cut to those by wip/prune.py; each is proved here anew. -/
import Derived.Test.YtgcdfchchphpjaaVTab
set_option linter.unusedVariables false
set_option linter.unusedSimpArgs false
/-! ### 56. Four, five, six operations that may come up next, in any order -/
namespace Go.Proofs.YtgcdfchchphpjaaW.PrintLast
section
variable {P : Program} {ops : Array Oper} {Q : Exit → Act → World → Prop} {md : Region.Mode} {S : World → Prop} {ds : List Nat} {T : Bool × List (List Nat × List Nat)}
end
end Go.Proofs.YtgcdfchchphpjaaW.PrintLast
