/- The laws' own functions on slices of Job: the copy, the comparison of equal ones, the marks, the count. -/
import Derived.Test.YtceboblhpglofaaDoorMem
import Derived.Test.YtceboblhpglofaaDoorIntS
import Derived.Test.YtceboblhpglofaaDoorFlat
import Derived.Outline
import Derived.Deep.DeepCutAuto
import Derived.Deep.RegionHeld3
namespace Go.Proofs.YtceboblhpglofaaDoor
open Go.RowKit

end Go.Proofs.YtceboblhpglofaaDoor
