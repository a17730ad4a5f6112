/-
  Parts of a long run. No condition.
-/
import Derived.Test.YtnclbmfbegbbnaaGreatXt
import Derived.Test.YtnclbmfbegbbnaaGreatDt
namespace Go.Proofs.YtnclbmfbegbbnaaGreat.txnNone
open Go.Proofs.YtnclbmfbegbbnaaGreat.V
theorem part1 : chunkOk Tryz.prog (plansIn plTbl) xe0 20000 28 ar1 ha1 111 rs1 hb1 199 = true := by decide +kernel
end Go.Proofs.YtnclbmfbegbbnaaGreat.txnNone
