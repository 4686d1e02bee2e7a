/- The table of powers, out of what the rows lay. -/
import Derived.Test.YtcdodfekclkonaaDoorDec
import Derived.Test.YtcdodfekclkonaaDoorTie
import Derived.Test.YtcdodfekclkonaaDoorCards
import Derived.Test.YtcdodfekclkonaaDoorHead
import Derived.LaidMore
import Derived.LaidHandle
import Derived.OpenShut
import Derived.Stop.Joined
import Derived.SevenTiedAt
namespace Go.Proofs.YtcdodfekclkonaaDoor
open Go.RowKit

theorem gPow : Tryd.prog.globalNamed "internal/strconv.uint64pow10" = some 0 := by kernel_rfl
theorem tPow : (Tryd.prog.globals[0]?).map (·.type) = some 91 := by kernel_rfl
theorem tab_of {W : World} (h : laidMetH Tryd.prog [("math/bits.deBruijn32tab", Rows.laid_math_bits_deBruijn32tab), ("math/bits.deBruijn64tab", Rows.laid_math_bits_deBruijn64tab), ("internal/strconv.uint64pow10", Rows.laid_internal_strconv_uint64pow10)] W) : Tab W := by
  rw [MakeChecks.laidMetH_plain _ _ _ (by kernel_rfl)] at h
  obtain ⟨ps, ⟨g0, t0, cs0, f0, p0, q0, hg0, ht0, hv0, hd0, ⟨g1, t1, cs1, f1, p1, q1, hg1, ht1, hv1, hd1, ⟨g2, t2, cs2, f2, p2, q2, hg2, ht2, hv2, hd2, _, _⟩, _⟩, _⟩, _⟩ := h
  unfold Tab Lib.TabIs
  rw [hv2]
  obtain rfl := Option.some.inj (gPow.symm.trans hg2)
  obtain rfl := Option.some.inj (tPow.symm.trans ht2)
  rw [← Lib.cells_of_tab (k := .u64) (zs := Lib.pow10Tab) Tryd.underlying91 Tryd.underlying85 (by kernel_rfl) (by kernel_rfl) hd2]
end Go.Proofs.YtcdodfekclkonaaDoor
