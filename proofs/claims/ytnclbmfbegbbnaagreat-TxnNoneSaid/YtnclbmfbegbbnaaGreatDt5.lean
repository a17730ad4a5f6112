/-
  Parts of a long run. No condition.
-/
import Derived.Test.YtnclbmfbegbbnaaGreatXt
import Derived.Test.YtnclbmfbegbbnaaGreatDt
namespace Go.Proofs.YtnclbmfbegbbnaaGreat.txnNone
open Go.Proofs.YtnclbmfbegbbnaaGreat.V
theorem part6 : chunkOk Tryz.prog (plansIn plTbl) xe6 20000 38 ar6 ha6 551 rs6 hb6 596 = true := by decide +kernel
end Go.Proofs.YtnclbmfbegbbnaaGreat.txnNone
