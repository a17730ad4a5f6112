/-
  Parts of a long run. No condition.
-/
import Derived.Test.YtfoabgljfikklaaGreatDoorWba
import Derived.Test.YtfoabgljfikklaaGreatDoorWbc
set_option linter.unusedVariables false
set_option linter.unusedSimpArgs false
namespace Go.Proofs.YtfoabgljfikklaaGreatDoor.varyNone
open Go.Proofs.YtfoabgljfikklaaGreatDoor.V
theorem part0 : chunkOk Tryz.prog (plansIn plTbl) xe0 20000 43 ar0 ha0 51 rs0 hb0 126 = true := by decide +kernel
theorem part1 : chunkOk Tryz.prog (plansIn plTbl) xe0 20000 40 ar1 ha1 132 rs1 hb1 165 = true := by decide +kernel
theorem part2 : chunkOk Tryz.prog (plansIn plTbl) xe0 20000 42 ar2 ha2 166 rs2 hb2 188 = true := by decide +kernel
end Go.Proofs.YtfoabgljfikklaaGreatDoor.varyNone
