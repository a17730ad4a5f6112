/-
  Parts of a long run. No condition.
-/
import Derived.Test.YtmjjlhnddokppaaGreatXt
import Derived.Test.YtmjjlhnddokppaaGreatDe
namespace Go.Proofs.YtmjjlhnddokppaaGreat.engineNil
open Go.Proofs.YtmjjlhnddokppaaGreat.V
theorem part4 : chunkOk Tryz.prog (plansIn plTbl) extAll 20000 47 ar4 ha4 329 rs4 hb4 385 = true := by decide +kernel
theorem part5 : chunkOk Tryz.prog (plansIn plTbl) extAll 20000 47 ar5 ha5 385 rs5 hb5 441 = true := by decide +kernel
end Go.Proofs.YtmjjlhnddokppaaGreat.engineNil
