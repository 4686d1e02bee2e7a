/- The laws' own functions on slices of Ticket: the copy, the comparison of equal ones, the marks, the count. -/
import Derived.Test.YtcdodfekclkonaaDoorMem
import Derived.Test.YtcdodfekclkonaaDoorIntS
import Derived.Test.YtcdodfekclkonaaDoorFlat
import Derived.Outline
import Derived.Deep.DeepCutAuto
import Derived.Deep.RegionHeld3
namespace Go.Proofs.YtcdodfekclkonaaDoor
open Go.RowKit

theorem infoTicket : (Tryd.prog.info? 69).map (fun i => (i.zero, i.size, i.bytes)) = some (some (.agg #[.int .i64 0, .int .i64 0]), 2, 16) := by kernel_rfl
end Go.Proofs.YtcdodfekclkonaaDoor
