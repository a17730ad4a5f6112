/-
  Parts of a long run. No condition.
-/
import Derived.Test.YtfoabgljfikklaaGreatDoorWba
import Derived.Test.YtfoabgljfikklaaGreatDoorWbc
set_option linter.unusedVariables false
set_option linter.unusedSimpArgs false
namespace Go.Proofs.YtfoabgljfikklaaGreatDoor.varyNone
open Go.Proofs.YtfoabgljfikklaaGreatDoor.V
theorem part19 : chunkOk Tryz.prog (plansIn plTbl) xe0 20000 21 ar19 ha19 1230 rs19 hb19 1377 = true := by decide +kernel
theorem part20 : chunkOk Tryz.prog (plansIn plTbl) xe0 20000 12 ar20 ha20 1377 rs20 hb20 1399 = true := by decide +kernel
end Go.Proofs.YtfoabgljfikklaaGreatDoor.varyNone
