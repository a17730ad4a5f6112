/-
  Parts of a long run. No condition.
-/
import Derived.Test.YtnclbmfbegbbnaaGreatXt
import Derived.Test.YtnclbmfbegbbnaaGreatDt
namespace Go.Proofs.YtnclbmfbegbbnaaGreat.txnNone
open Go.Proofs.YtnclbmfbegbbnaaGreat.V
theorem part0 : chunkOk Tryz.prog (plansIn plTbl) xe0 20000 8 ar0 ha0 30 rs0 hb0 100 = true := by decide +kernel
end Go.Proofs.YtnclbmfbegbbnaaGreat.txnNone
