/-
  Parts of a long run. No condition.
-/
import Derived.Test.YtnclbmfbegbbnaaGreatXt
import Derived.Test.YtnclbmfbegbbnaaGreatDt
namespace Go.Proofs.YtnclbmfbegbbnaaGreat.txnNone
open Go.Proofs.YtnclbmfbegbbnaaGreat.V
theorem part11 : chunkOk Tryz.prog (plansIn plTbl) xe0 20000 22 ar11 ha11 931 rs11 hb11 1020 = true := by decide +kernel
end Go.Proofs.YtnclbmfbegbbnaaGreat.txnNone
