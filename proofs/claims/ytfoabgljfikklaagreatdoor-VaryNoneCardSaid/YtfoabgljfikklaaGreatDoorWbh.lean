/-
  Parts of a long run. No condition.
-/
import Derived.Test.YtfoabgljfikklaaGreatDoorWba
import Derived.Test.YtfoabgljfikklaaGreatDoorWbc
set_option linter.unusedVariables false
set_option linter.unusedSimpArgs false
namespace Go.Proofs.YtfoabgljfikklaaGreatDoor.varyNone
open Go.Proofs.YtfoabgljfikklaaGreatDoor.V
theorem part8 : chunkOk Tryz.prog (plansIn plTbl) xe0 20000 42 ar8 ha8 551 rs8 hb8 635 = true := by decide +kernel
theorem part9 : chunkOk Tryz.prog (plansIn plTbl) xe0 20000 66 ar9 ha9 643 rs9 hb9 692 = true := by decide +kernel
end Go.Proofs.YtfoabgljfikklaaGreatDoor.varyNone
