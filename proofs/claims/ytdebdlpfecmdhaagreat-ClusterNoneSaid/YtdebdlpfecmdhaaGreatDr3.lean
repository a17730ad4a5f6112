/-
  Parts of a long run. No condition.
-/
import Derived.Test.YtdebdlpfecmdhaaGreatDr
namespace Go.Proofs.YtdebdlpfecmdhaaGreat.clusterNone
open Go.Proofs.YtdebdlpfecmdhaaGreat.V
theorem part8 : chunkOk Tryz.prog (plansIn plTbl) noExt 20000 82 ar8 ha8 476 rs8 hb8 592 = true := by decide +kernel
end Go.Proofs.YtdebdlpfecmdhaaGreat.clusterNone
