/-
  Parts of a long run. No condition.
-/
import Derived.Test.YtmjjlhnddokppaaGreatXt
import Derived.Test.YtmjjlhnddokppaaGreatDe
namespace Go.Proofs.YtmjjlhnddokppaaGreat.engineNil
open Go.Proofs.YtmjjlhnddokppaaGreat.V
theorem part18 : chunkOk Tryz.prog (plansIn plTbl) extAll 20000 45 ar18 ha18 1235 rs18 hb18 1278 = true := by decide +kernel
theorem part19 : chunkOk Tryz.prog (plansIn plTbl) extAll 20000 47 ar19 ha19 1278 rs19 hb19 1311 = true := by decide +kernel
end Go.Proofs.YtmjjlhnddokppaaGreat.engineNil
