/-
  Parts of a long run. No condition.
-/
import Derived.Test.YtmjjlhnddokppaaGreatXt
import Derived.Test.YtmjjlhnddokppaaGreatDe
namespace Go.Proofs.YtmjjlhnddokppaaGreat.engineNil
open Go.Proofs.YtmjjlhnddokppaaGreat.V
theorem part0 : chunkOk Tryz.prog (plansIn plTbl) extAll 20000 45 ar0 ha0 29 rs0 hb0 130 = true := by decide +kernel
end Go.Proofs.YtmjjlhnddokppaaGreat.engineNil
