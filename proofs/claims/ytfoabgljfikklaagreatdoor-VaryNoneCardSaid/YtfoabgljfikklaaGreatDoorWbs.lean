/-
  Parts of a long run. No condition.
-/
import Derived.Test.YtfoabgljfikklaaGreatDoorWba
import Derived.Test.YtfoabgljfikklaaGreatDoorWbc
set_option linter.unusedVariables false
set_option linter.unusedSimpArgs false
namespace Go.Proofs.YtfoabgljfikklaaGreatDoor.varyNone
open Go.Proofs.YtfoabgljfikklaaGreatDoor.V
theorem part28 : chunkOk Tryz.prog (plansIn plTbl) xe0 20000 40 ar28 ha28 1984 rs28 hb28 2099 = true := by decide +kernel
theorem part29 : chunkOk Tryz.prog (plansIn plTbl) xe0 20000 42 ar29 ha29 2100 rs29 hb29 2136 = true := by decide +kernel
end Go.Proofs.YtfoabgljfikklaaGreatDoor.varyNone
