/-
  Parts of a long run. No condition.
-/
import Derived.Test.YtdebdlpfecmdhaaGreatDr
namespace Go.Proofs.YtdebdlpfecmdhaaGreat.clusterNone
open Go.Proofs.YtdebdlpfecmdhaaGreat.V
theorem part14 : chunkOk Tryz.prog (plansIn plTbl) noExt 20000 82 ar14 ha14 747 rs14 hb14 863 = true := by decide +kernel
theorem part21 : chunkOk Tryz.prog (plansIn plTbl) noExt 20000 82 ar21 ha21 878 rs21 hb21 928 = true := by decide +kernel
theorem part23 : chunkOk Tryz.prog (plansIn plTbl) noExt 20000 25 ar23 ha23 928 rs23 hb23 1003 = true := by decide +kernel
end Go.Proofs.YtdebdlpfecmdhaaGreat.clusterNone
