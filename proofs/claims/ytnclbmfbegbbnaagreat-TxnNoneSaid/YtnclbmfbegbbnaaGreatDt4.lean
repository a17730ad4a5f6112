/-
  Parts of a long run. No condition.
-/
import Derived.Test.YtnclbmfbegbbnaaGreatXt
import Derived.Test.YtnclbmfbegbbnaaGreatDt
namespace Go.Proofs.YtnclbmfbegbbnaaGreat.txnNone
open Go.Proofs.YtnclbmfbegbbnaaGreat.V
theorem part4 : chunkOk Tryz.prog (plansIn plTbl) xe0 20000 28 ar4 ha4 389 rs4 hb4 477 = true := by decide +kernel
theorem part5 : chunkOk Tryz.prog (plansIn plTbl) xe0 20000 10 ar5 ha5 480 rs5 hb5 551 = true := by decide +kernel
end Go.Proofs.YtnclbmfbegbbnaaGreat.txnNone
