/-
  What the row of WhyNotFunc lists.
-/
import Derived.Test.YtbafphecjijdmaaGreatDoorRows
import Derived.Test.YtbafphecjijdmaaGreatDoorDcm
import Derived.LaidMore
namespace Go.Proofs.YtbafphecjijdmaaGreatDoor
open Go.RowKit
def laidWF : List (String × DataW Unit) := [("math/bits.deBruijn32tab", Rows.laid_math_bits_deBruijn32tab), ("math/bits.deBruijn64tab", Rows.laid_math_bits_deBruijn64tab), ("internal/strconv.uint64pow10", Rows.laid_internal_strconv_uint64pow10)]
theorem tabWF_of {w : World} (h : laidMetH Tryz.prog laidWF w) : TabP w := tabP_reads (by kernel_rfl) (.tail _ (.tail _ (.head _))) h
end Go.Proofs.YtbafphecjijdmaaGreatDoor

