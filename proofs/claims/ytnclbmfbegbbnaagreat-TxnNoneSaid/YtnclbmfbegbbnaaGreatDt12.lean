/-
  Parts of a long run. No condition.
-/
import Derived.Test.YtnclbmfbegbbnaaGreatXt
import Derived.Test.YtnclbmfbegbbnaaGreatDt
namespace Go.Proofs.YtnclbmfbegbbnaaGreat.txnNone
open Go.Proofs.YtnclbmfbegbbnaaGreat.V
theorem part13 : chunkOk Tryz.prog (plansIn plTbl) xe13 20000 38 ar13 ha13 1076 rs13 hb13 1122 = true := by decide +kernel
end Go.Proofs.YtnclbmfbegbbnaaGreat.txnNone
