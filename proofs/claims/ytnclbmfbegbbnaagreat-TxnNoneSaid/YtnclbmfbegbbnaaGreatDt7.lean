/-
  Parts of a long run. No condition.
-/
import Derived.Test.YtnclbmfbegbbnaaGreatXt
import Derived.Test.YtnclbmfbegbbnaaGreatDt
namespace Go.Proofs.YtnclbmfbegbbnaaGreat.txnNone
open Go.Proofs.YtnclbmfbegbbnaaGreat.V
theorem part8 : chunkOk Tryz.prog (plansIn plTbl) xe0 20000 29 ar8 ha8 685 rs8 hb8 795 = true := by decide +kernel
end Go.Proofs.YtnclbmfbegbbnaaGreat.txnNone
