/-
  Parts of a long run. No condition.
-/
import Derived.Test.YtbjomeonjlialaaGreatZbt
import Derived.Test.YtbjomeonjlialaaGreatZbv
set_option linter.unusedVariables false
set_option linter.unusedSimpArgs false
namespace Go.Proofs.YtbjomeonjlialaaGreat.dumpNone
open Go.Proofs.YtbjomeonjlialaaGreat.V
theorem part5 : chunkOk Tryz.prog (plansIn plTbl) xe0 20000 7 ar5 ha5 720 rs5 hb5 732 = true := by decide +kernel
end Go.Proofs.YtbjomeonjlialaaGreat.dumpNone
