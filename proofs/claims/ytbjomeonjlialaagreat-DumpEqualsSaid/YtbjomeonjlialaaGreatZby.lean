/-
  Parts of a long run. No condition.
-/
import Derived.Test.YtbjomeonjlialaaGreatZbt
import Derived.Test.YtbjomeonjlialaaGreatZbv
set_option linter.unusedVariables false
set_option linter.unusedSimpArgs false
namespace Go.Proofs.YtbjomeonjlialaaGreat.dumpNone
open Go.Proofs.YtbjomeonjlialaaGreat.V
theorem part3 : chunkOk Tryz.prog (plansIn plTbl) xe0 20000 13 ar3 ha3 390 rs3 hb3 431 = true := by decide +kernel
theorem part4 : chunkOk Tryz.prog (plansIn plTbl) xe0 20000 12 ar4 ha4 431 rs4 hb4 713 = true := by decide +kernel
end Go.Proofs.YtbjomeonjlialaaGreat.dumpNone
