/-
  Parts of a long run. No condition.
-/
import Derived.Test.YtnclbmfbegbbnaaGreatXt
import Derived.Test.YtnclbmfbegbbnaaGreatDt
namespace Go.Proofs.YtnclbmfbegbbnaaGreat.txnNone
open Go.Proofs.YtnclbmfbegbbnaaGreat.V
theorem part12 : chunkOk Tryz.prog (plansIn plTbl) xe0 20000 21 ar12 ha12 1022 rs12 hb12 1065 = true := by decide +kernel
end Go.Proofs.YtnclbmfbegbbnaaGreat.txnNone
