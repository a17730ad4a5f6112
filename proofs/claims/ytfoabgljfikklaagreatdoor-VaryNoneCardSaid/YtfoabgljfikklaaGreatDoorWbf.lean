/-
  Parts of a long run. No condition.
-/
import Derived.Test.YtfoabgljfikklaaGreatDoorWba
import Derived.Test.YtfoabgljfikklaaGreatDoorWbc
set_option linter.unusedVariables false
set_option linter.unusedSimpArgs false
namespace Go.Proofs.YtfoabgljfikklaaGreatDoor.varyNone
open Go.Proofs.YtfoabgljfikklaaGreatDoor.V
theorem part4 : chunkOk Tryz.prog (plansIn plTbl) xe0 20000 42 ar4 ha4 276 rs4 hb4 358 = true := by decide +kernel
theorem part5 : chunkOk Tryz.prog (plansIn plTbl) xe5 20000 20 ar5 ha5 47 rs5 hb5 359 = true := by decide +kernel
theorem part6 : chunkOk Tryz.prog (plansIn plTbl) xe0 20000 43 ar6 ha6 365 rs6 hb6 440 = true := by decide +kernel
end Go.Proofs.YtfoabgljfikklaaGreatDoor.varyNone
