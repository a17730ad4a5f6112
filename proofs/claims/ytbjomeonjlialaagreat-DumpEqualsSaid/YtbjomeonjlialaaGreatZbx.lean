/-
  Parts of a long run. No condition.
-/
import Derived.Test.YtbjomeonjlialaaGreatZbt
import Derived.Test.YtbjomeonjlialaaGreatZbv
set_option linter.unusedVariables false
set_option linter.unusedSimpArgs false
namespace Go.Proofs.YtbjomeonjlialaaGreat.dumpNone
open Go.Proofs.YtbjomeonjlialaaGreat.V
theorem part1 : chunkOk Tryz.prog (plansIn plTbl) xe0 20000 16 ar1 ha1 255 rs1 hb1 339 = true := by decide +kernel
theorem part2 : chunkOk Tryz.prog (plansIn plTbl) xe0 20000 11 ar2 ha2 340 rs2 hb2 390 = true := by decide +kernel
end Go.Proofs.YtbjomeonjlialaaGreat.dumpNone
