/- The laws' own small functions: the copies of structs, and the comparisons at equal ones. -/
import Derived.Test.YtceboblhpglofaaDoorWord
import Derived.Outline
namespace Go.Proofs.YtceboblhpglofaaDoor
open Go.RowKit

end Go.Proofs.YtceboblhpglofaaDoor
