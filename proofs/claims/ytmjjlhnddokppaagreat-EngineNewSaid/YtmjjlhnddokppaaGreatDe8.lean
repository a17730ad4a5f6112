/-
  Parts of a long run. No condition.
-/
import Derived.Test.YtmjjlhnddokppaaGreatXt
import Derived.Test.YtmjjlhnddokppaaGreatDe
namespace Go.Proofs.YtmjjlhnddokppaaGreat.engineNil
open Go.Proofs.YtmjjlhnddokppaaGreat.V
theorem part16 : chunkOk Tryz.prog (plansIn plTbl) extAll 20000 48 ar16 ha16 1050 rs16 hb16 1146 = true := by decide +kernel
theorem part17 : chunkOk Tryz.prog (plansIn plTbl) extAll 20000 48 ar17 ha17 1146 rs17 hb17 1233 = true := by decide +kernel
end Go.Proofs.YtmjjlhnddokppaaGreat.engineNil
