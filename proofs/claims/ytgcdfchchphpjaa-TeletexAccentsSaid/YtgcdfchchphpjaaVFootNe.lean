/- Words of the kit's printer that this seat's texts use, cut to those by wip/prune.py; each is proved here anew. -/
import Derived.Test.YtgcdfchchphpjaaVN
set_option linter.unusedVariables false
set_option linter.unusedSimpArgs false
/-! ### 52. A row that stays read whatever happens to a block (a set of blocks) doesn't lie there -/
namespace Go.Proofs.YtgcdfchchphpjaaW.PrintWords
open Go.RowKit
namespace Kd
section
variable {α : Type} {d : Kd α} {W : World} {g n : Nat} {S ok : Nat → Prop} {A : Option Addr} {ad : Addr} {xs : List α}
end
end Kd
end Go.Proofs.YtgcdfchchphpjaaW.PrintWords
