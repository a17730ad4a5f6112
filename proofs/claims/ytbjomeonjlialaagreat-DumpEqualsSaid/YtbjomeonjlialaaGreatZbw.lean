/-
  Parts of a long run. No condition.
-/
import Derived.Test.YtbjomeonjlialaaGreatZbt
import Derived.Test.YtbjomeonjlialaaGreatZbv
set_option linter.unusedVariables false
set_option linter.unusedSimpArgs false
namespace Go.Proofs.YtbjomeonjlialaaGreat.dumpNone
open Go.Proofs.YtbjomeonjlialaaGreat.V
theorem part0 : chunkOk Tryz.prog (plansIn plTbl) xe0 20000 5 ar0 ha0 25 rs0 hb0 251 = true := by decide +kernel
end Go.Proofs.YtbjomeonjlialaaGreat.dumpNone
