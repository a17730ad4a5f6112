/-
  Parts of a long run. No condition.
-/
import Derived.Test.YtfoabgljfikklaaGreatDoorWba
import Derived.Test.YtfoabgljfikklaaGreatDoorWbc
set_option linter.unusedVariables false
set_option linter.unusedSimpArgs false
namespace Go.Proofs.YtfoabgljfikklaaGreatDoor.varyNone
open Go.Proofs.YtfoabgljfikklaaGreatDoor.V
theorem part16 : chunkOk Tryz.prog (plansIn plTbl) xe0 20000 40 ar16 ha16 1011 rs16 hb16 1114 = true := by decide +kernel
end Go.Proofs.YtfoabgljfikklaaGreatDoor.varyNone
