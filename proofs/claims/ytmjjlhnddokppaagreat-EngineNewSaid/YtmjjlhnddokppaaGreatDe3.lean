/-
  Parts of a long run. No condition.
-/
import Derived.Test.YtmjjlhnddokppaaGreatXt
import Derived.Test.YtmjjlhnddokppaaGreatDe
namespace Go.Proofs.YtmjjlhnddokppaaGreat.engineNil
open Go.Proofs.YtmjjlhnddokppaaGreat.V
theorem part2 : chunkOk Tryz.prog (plansIn plTbl) extAll 20000 45 ar2 ha2 223 rs2 hb2 295 = true := by decide +kernel
theorem part3 : chunkOk Tryz.prog (plansIn plTbl) extAll 20000 47 ar3 ha3 298 rs3 hb3 329 = true := by decide +kernel
end Go.Proofs.YtmjjlhnddokppaaGreat.engineNil
