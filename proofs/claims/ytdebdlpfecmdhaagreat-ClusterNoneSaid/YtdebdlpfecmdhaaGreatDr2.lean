/-
  Parts of a long run. No condition.
-/
import Derived.Test.YtdebdlpfecmdhaaGreatDr
namespace Go.Proofs.YtdebdlpfecmdhaaGreat.clusterNone
open Go.Proofs.YtdebdlpfecmdhaaGreat.V
theorem part5 : chunkOk Tryz.prog (plansIn plTbl) noExt 20000 82 ar5 ha5 256 rs5 hb5 418 = true := by decide +kernel
theorem part6 : chunkOk Tryz.prog (plansIn plTbl) noExt 20000 82 ar6 ha6 418 rs6 hb6 475 = true := by decide +kernel
end Go.Proofs.YtdebdlpfecmdhaaGreat.clusterNone
