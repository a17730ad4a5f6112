/-
  Parts of a long run. No condition.
-/
import Derived.Test.YtfoabgljfikklaaGreatDoorWba
import Derived.Test.YtfoabgljfikklaaGreatDoorWbc
set_option linter.unusedVariables false
set_option linter.unusedSimpArgs false
namespace Go.Proofs.YtfoabgljfikklaaGreatDoor.varyNone
open Go.Proofs.YtfoabgljfikklaaGreatDoor.V
theorem part25 : chunkOk Tryz.prog (plansIn plTbl) xe0 20000 40 ar25 ha25 1785 rs25 hb25 1908 = true := by decide +kernel
theorem part26 : chunkOk Tryz.prog (plansIn plTbl) xe26 20000 21 ar26 ha26 1661 rs26 hb26 1910 = true := by decide +kernel
theorem part27 : chunkOk Tryz.prog (plansIn plTbl) xe0 20000 43 ar27 ha27 1913 rs27 hb27 1978 = true := by decide +kernel
end Go.Proofs.YtfoabgljfikklaaGreatDoor.varyNone
