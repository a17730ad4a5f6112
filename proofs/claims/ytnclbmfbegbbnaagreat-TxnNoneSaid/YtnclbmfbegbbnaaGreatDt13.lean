/-
  Parts of a long run. No condition.
-/
import Derived.Test.YtnclbmfbegbbnaaGreatXt
import Derived.Test.YtnclbmfbegbbnaaGreatDt
namespace Go.Proofs.YtnclbmfbegbbnaaGreat.txnNone
open Go.Proofs.YtnclbmfbegbbnaaGreat.V
theorem part14 : chunkOk Tryz.prog (plansIn plTbl) xe0 20000 28 ar14 ha14 1122 rs14 hb14 1155 = true := by decide +kernel
theorem part15 : chunkOk Tryz.prog (plansIn plTbl) xe0 20000 29 ar15 ha15 1156 rs15 hb15 1228 = true := by decide +kernel
theorem part16 : chunkOk Tryz.prog (plansIn plTbl) xe0 20000 22 ar16 ha16 1229 rs16 hb16 1263 = true := by decide +kernel
end Go.Proofs.YtnclbmfbegbbnaaGreat.txnNone
