/-
  Parts of a long run. No condition.
-/
import Derived.Test.YtnclbmfbegbbnaaGreatXt
import Derived.Test.YtnclbmfbegbbnaaGreatDt
namespace Go.Proofs.YtnclbmfbegbbnaaGreat.txnNone
open Go.Proofs.YtnclbmfbegbbnaaGreat.V
theorem part9 : chunkOk Tryz.prog (plansIn plTbl) xe9 20000 38 ar9 ha9 796 rs9 hb9 842 = true := by decide +kernel
end Go.Proofs.YtnclbmfbegbbnaaGreat.txnNone
