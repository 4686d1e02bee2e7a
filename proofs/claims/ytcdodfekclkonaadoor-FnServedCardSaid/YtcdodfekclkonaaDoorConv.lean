/- The laws' own small functions: the copies of structs, and the comparisons at equal ones. -/
import Derived.Test.YtcdodfekclkonaaDoorWord
import Derived.Outline
namespace Go.Proofs.YtcdodfekclkonaaDoor
open Go.RowKit

end Go.Proofs.YtcdodfekclkonaaDoor
