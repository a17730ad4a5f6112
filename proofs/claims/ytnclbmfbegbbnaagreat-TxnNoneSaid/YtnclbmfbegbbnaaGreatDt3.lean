/-
  Parts of a long run. No condition.
-/
import Derived.Test.YtnclbmfbegbbnaaGreatXt
import Derived.Test.YtnclbmfbegbbnaaGreatDt
namespace Go.Proofs.YtnclbmfbegbbnaaGreat.txnNone
open Go.Proofs.YtnclbmfbegbbnaaGreat.V
theorem part2 : chunkOk Tryz.prog (plansIn plTbl) xe0 20000 28 ar2 ha2 209 rs2 hb2 297 = true := by decide +kernel
theorem part3 : chunkOk Tryz.prog (plansIn plTbl) xe0 20000 10 ar3 ha3 302 rs3 hb3 373 = true := by decide +kernel
end Go.Proofs.YtnclbmfbegbbnaaGreat.txnNone
