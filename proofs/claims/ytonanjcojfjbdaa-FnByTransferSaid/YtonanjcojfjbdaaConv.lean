/- The laws' own small functions: the copies of structs, and the comparisons at equal ones. -/
import Derived.Test.YtonanjcojfjbdaaWord
import Derived.Outline
namespace Go.Proofs.Ytonanjcojfjbdaa
open Go.RowKit

end Go.Proofs.Ytonanjcojfjbdaa
