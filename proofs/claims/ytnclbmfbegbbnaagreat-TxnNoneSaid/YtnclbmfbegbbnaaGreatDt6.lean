/-
  Parts of a long run. No condition.
-/
import Derived.Test.YtnclbmfbegbbnaaGreatXt
import Derived.Test.YtnclbmfbegbbnaaGreatDt
namespace Go.Proofs.YtnclbmfbegbbnaaGreat.txnNone
open Go.Proofs.YtnclbmfbegbbnaaGreat.V
theorem part7 : chunkOk Tryz.prog (plansIn plTbl) xe0 20000 28 ar7 ha7 596 rs7 hb7 684 = true := by decide +kernel
end Go.Proofs.YtnclbmfbegbbnaaGreat.txnNone
