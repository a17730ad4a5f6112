/-
  Parts of a long run. No condition.
-/
import Derived.Test.YtfoabgljfikklaaGreatDoorWba
import Derived.Test.YtfoabgljfikklaaGreatDoorWbc
set_option linter.unusedVariables false
set_option linter.unusedSimpArgs false
namespace Go.Proofs.YtfoabgljfikklaaGreatDoor.varyNone
open Go.Proofs.YtfoabgljfikklaaGreatDoor.V
theorem part17 : chunkOk Tryz.prog (plansIn plTbl) xe0 20000 40 ar17 ha17 1116 rs17 hb17 1227 = true := by decide +kernel
theorem part18 : chunkOk Tryz.prog (plansIn plTbl) xe18 20000 21 ar18 ha18 1004 rs18 hb18 1229 = true := by decide +kernel
end Go.Proofs.YtfoabgljfikklaaGreatDoor.varyNone
