/-
  Parts of a long run. No condition.
-/
import Derived.Test.YtgmokaflgdmekaaGreatDh
namespace Go.Proofs.YtgmokaflgdmekaaGreat.busHubs
open Go.Proofs.YtgmokaflgdmekaaGreat.V
theorem part2 : chunkOk Tryz.prog (plansIn plTbl) xe0 20000 18 ar2 ha2 178 rs2 hb2 250 = true := by decide +kernel
theorem part3 : chunkOk Tryz.prog (plansIn plTbl) xe0 20000 10 ar3 ha3 256 rs3 hb3 277 = true := by decide +kernel
end Go.Proofs.YtgmokaflgdmekaaGreat.busHubs
