/-
  Parts of a long run. No condition.
-/
import Derived.Test.YtnclbmfbegbbnaaGreatXt
import Derived.Test.YtnclbmfbegbbnaaGreatDt
namespace Go.Proofs.YtnclbmfbegbbnaaGreat.txnNone
open Go.Proofs.YtnclbmfbegbbnaaGreat.V
theorem part10 : chunkOk Tryz.prog (plansIn plTbl) xe0 20000 28 ar10 ha10 842 rs10 hb10 930 = true := by decide +kernel
end Go.Proofs.YtnclbmfbegbbnaaGreat.txnNone
