/-
  Parts of a long run. No condition.
-/
import Derived.Test.YtdebdlpfecmdhaaGreatDr
namespace Go.Proofs.YtdebdlpfecmdhaaGreat.clusterNone
open Go.Proofs.YtdebdlpfecmdhaaGreat.V
theorem part10 : chunkOk Tryz.prog (plansIn plTbl) noExt 20000 82 ar10 ha10 593 rs10 hb10 720 = true := by decide +kernel
theorem part12 : chunkOk Tryz.prog (plansIn plTbl) noExt 20000 23 ar12 ha12 723 rs12 hb12 746 = true := by decide +kernel
end Go.Proofs.YtdebdlpfecmdhaaGreat.clusterNone
