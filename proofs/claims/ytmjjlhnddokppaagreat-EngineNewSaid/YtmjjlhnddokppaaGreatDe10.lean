/-
  Parts of a long run. No condition.
-/
import Derived.Test.YtmjjlhnddokppaaGreatXt
import Derived.Test.YtmjjlhnddokppaaGreatDe
namespace Go.Proofs.YtmjjlhnddokppaaGreat.engineNil
open Go.Proofs.YtmjjlhnddokppaaGreat.V
theorem part20 : chunkOk Tryz.prog (plansIn plTbl) extAll 20000 45 ar20 ha20 1313 rs20 hb20 1462 = true := by decide +kernel
end Go.Proofs.YtmjjlhnddokppaaGreat.engineNil
