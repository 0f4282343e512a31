/- Words of the kit's printer that this seat's texts use, cut to those by wip/prune.py; each is proved here anew. -/
import Derived.Test.YtpifdcdbkpidpaaVWords
set_option linter.unusedVariables false
set_option linter.unusedSimpArgs false
/-! ### 58. A guarded operation whose guard is known to want it: the same goal without the guard -/
namespace Go.Proofs.YtpifdcdbkpidpaaW.PrintWords
open Go.RowKit
section
variable {P : Program} {ops : Array Oper} {rest : List Oper} {o : Oper} {a : Act} {Q : Exit → Act → World → Prop} {W : World}
end
end Go.Proofs.YtpifdcdbkpidpaaW.PrintWords
