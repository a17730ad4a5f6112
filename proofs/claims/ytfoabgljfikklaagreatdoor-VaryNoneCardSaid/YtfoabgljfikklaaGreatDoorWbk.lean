/-
  Parts of a long run. No condition.
-/
import Derived.Test.YtfoabgljfikklaaGreatDoorWba
import Derived.Test.YtfoabgljfikklaaGreatDoorWbc
set_option linter.unusedVariables false
set_option linter.unusedSimpArgs false
namespace Go.Proofs.YtfoabgljfikklaaGreatDoor.varyNone
open Go.Proofs.YtfoabgljfikklaaGreatDoor.V
theorem part14 : chunkOk Tryz.prog (plansIn plTbl) xe0 20000 40 ar14 ha14 890 rs14 hb14 1001 = true := by decide +kernel
theorem part15 : chunkOk Tryz.prog (plansIn plTbl) xe15 20000 21 ar15 ha15 772 rs15 hb15 1003 = true := by decide +kernel
end Go.Proofs.YtfoabgljfikklaaGreatDoor.varyNone
