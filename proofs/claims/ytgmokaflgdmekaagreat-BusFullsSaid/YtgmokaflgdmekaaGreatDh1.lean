/-
  Parts of a long run. No condition.
-/
import Derived.Test.YtgmokaflgdmekaaGreatDh
namespace Go.Proofs.YtgmokaflgdmekaaGreat.busHubs
open Go.Proofs.YtgmokaflgdmekaaGreat.V
theorem part0 : chunkOk Tryz.prog (plansIn plTbl) xe0 20000 18 ar0 ha0 56 rs0 hb0 140 = true := by decide +kernel
theorem part1 : chunkOk Tryz.prog (plansIn plTbl) xe0 20000 10 ar1 ha1 141 rs1 hb1 168 = true := by decide +kernel
end Go.Proofs.YtgmokaflgdmekaaGreat.busHubs
