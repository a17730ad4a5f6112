/-
  Parts of a long run. No condition.
-/
import Derived.Test.YtfoabgljfikklaaGreatDoorWba
import Derived.Test.YtfoabgljfikklaaGreatDoorWbc
set_option linter.unusedVariables false
set_option linter.unusedSimpArgs false
namespace Go.Proofs.YtfoabgljfikklaaGreatDoor.varyNone
open Go.Proofs.YtfoabgljfikklaaGreatDoor.V
theorem part34 : chunkOk Tryz.prog (plansIn plTbl) xe34 20000 21 ar34 ha34 2333 rs34 hb34 2552 = true := by decide +kernel
end Go.Proofs.YtfoabgljfikklaaGreatDoor.varyNone
