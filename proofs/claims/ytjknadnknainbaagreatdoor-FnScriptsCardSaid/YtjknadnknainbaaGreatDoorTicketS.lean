/- The laws' own functions on slices of Ticket: the copy, the comparison of equal ones, the marks, the count. -/
import Derived.Test.YtjknadnknainbaaGreatDoorMem
import Derived.Test.YtjknadnknainbaaGreatDoorIntS
import Derived.Test.YtjknadnknainbaaGreatDoorFlat
import Derived.Outline
import Derived.Deep.DeepCutAuto
import Derived.Deep.RegionHeld3
namespace Go.Proofs.YtjknadnknainbaaGreatDoor
open Go.RowKit

theorem infoTicket : (Tryz.prog.info? 88).map (fun i => (i.zero, i.size, i.bytes)) = some (some (.agg #[.int .i64 0, .int .i64 0]), 2, 16) := by kernel_rfl
end Go.Proofs.YtjknadnknainbaaGreatDoor
