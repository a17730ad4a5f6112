/-
  Parts of a long run. No condition.
-/
import Derived.Test.YtdebdlpfecmdhaaGreatDr
namespace Go.Proofs.YtdebdlpfecmdhaaGreat.clusterNone
open Go.Proofs.YtdebdlpfecmdhaaGreat.V
theorem part1 : chunkOk Tryz.prog (plansIn plTbl) noExt 20000 80 ar1 ha1 1 rs1 hb1 89 = true := by decide +kernel
theorem part3 : chunkOk Tryz.prog (plansIn plTbl) noExt 20000 82 ar3 ha3 92 rs3 hb3 254 = true := by decide +kernel
end Go.Proofs.YtdebdlpfecmdhaaGreat.clusterNone
