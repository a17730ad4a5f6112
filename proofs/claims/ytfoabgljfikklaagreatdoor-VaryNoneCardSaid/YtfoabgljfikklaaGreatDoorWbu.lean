/-
  Parts of a long run. No condition.
-/
import Derived.Test.YtfoabgljfikklaaGreatDoorWba
import Derived.Test.YtfoabgljfikklaaGreatDoorWbc
set_option linter.unusedVariables false
set_option linter.unusedSimpArgs false
namespace Go.Proofs.YtfoabgljfikklaaGreatDoor.varyNone
open Go.Proofs.YtfoabgljfikklaaGreatDoor.V
theorem part31 : chunkOk Tryz.prog (plansIn plTbl) xe0 20000 42 ar31 ha31 2208 rs31 hb31 2331 = true := by decide +kernel
theorem part32 : chunkOk Tryz.prog (plansIn plTbl) xe32 20000 20 ar32 ha32 1911 rs32 hb32 2332 = true := by decide +kernel
end Go.Proofs.YtfoabgljfikklaaGreatDoor.varyNone
