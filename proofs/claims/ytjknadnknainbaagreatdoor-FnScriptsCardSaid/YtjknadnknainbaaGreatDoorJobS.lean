/- The laws' own functions on slices of Job: the copy, the comparison of equal ones, the marks, the count. -/
import Derived.Test.YtjknadnknainbaaGreatDoorMem
import Derived.Test.YtjknadnknainbaaGreatDoorIntS
import Derived.Test.YtjknadnknainbaaGreatDoorFlat
import Derived.Outline
import Derived.Deep.DeepCutAuto
import Derived.Deep.RegionHeld3
namespace Go.Proofs.YtjknadnknainbaaGreatDoor
open Go.RowKit

theorem infoJob : (Tryz.prog.info? 64).map (fun i => (i.zero, i.size, i.bytes)) = some (some (.agg #[.int .i64 0, .int .i64 0, .int .i64 0, .int .i64 0]), 4, 32) := by kernel_rfl
end Go.Proofs.YtjknadnknainbaaGreatDoor
