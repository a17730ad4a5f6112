/-
  Parts of a long run. No condition.
-/
import Derived.Test.YtmjjlhnddokppaaGreatXt
import Derived.Test.YtmjjlhnddokppaaGreatDe
namespace Go.Proofs.YtmjjlhnddokppaaGreat.engineNil
open Go.Proofs.YtmjjlhnddokppaaGreat.V
theorem part1 : chunkOk Tryz.prog (plansIn plTbl) extAll 20000 45 ar1 ha1 133 rs1 hb1 221 = true := by decide +kernel
end Go.Proofs.YtmjjlhnddokppaaGreat.engineNil
