/-
  Parts of a long run. No condition.
-/
import Derived.Test.YtfoabgljfikklaaGreatDoorWba
import Derived.Test.YtfoabgljfikklaaGreatDoorWbc
set_option linter.unusedVariables false
set_option linter.unusedSimpArgs false
namespace Go.Proofs.YtfoabgljfikklaaGreatDoor.varyNone
open Go.Proofs.YtfoabgljfikklaaGreatDoor.V
theorem part10 : chunkOk Tryz.prog (plansIn plTbl) xe0 20000 96 ar10 ha10 695 rs10 hb10 769 = true := by decide +kernel
theorem part11 : chunkOk Tryz.prog (plansIn plTbl) xe11 20000 13 ar11 ha11 364 rs11 hb11 771 = true := by decide +kernel
theorem part12 : chunkOk Tryz.prog (plansIn plTbl) xe12 20000 20 ar12 ha12 361 rs12 hb12 771 = true := by decide +kernel
end Go.Proofs.YtfoabgljfikklaaGreatDoor.varyNone
