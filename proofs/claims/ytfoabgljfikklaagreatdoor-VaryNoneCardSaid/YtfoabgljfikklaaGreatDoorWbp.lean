/-
  Parts of a long run. No condition.
-/
import Derived.Test.YtfoabgljfikklaaGreatDoorWba
import Derived.Test.YtfoabgljfikklaaGreatDoorWbc
set_option linter.unusedVariables false
set_option linter.unusedSimpArgs false
namespace Go.Proofs.YtfoabgljfikklaaGreatDoor.varyNone
open Go.Proofs.YtfoabgljfikklaaGreatDoor.V
theorem part22 : chunkOk Tryz.prog (plansIn plTbl) xe0 20000 40 ar22 ha22 1525 rs22 hb22 1658 = true := by decide +kernel
theorem part23 : chunkOk Tryz.prog (plansIn plTbl) xe23 20000 21 ar23 ha23 1401 rs23 hb23 1660 = true := by decide +kernel
end Go.Proofs.YtfoabgljfikklaaGreatDoor.varyNone
