/-
  Parts of a long run. No condition.
-/
import Derived.Test.YtmjjlhnddokppaaGreatXt
import Derived.Test.YtmjjlhnddokppaaGreatDe
namespace Go.Proofs.YtmjjlhnddokppaaGreat.engineNil
open Go.Proofs.YtmjjlhnddokppaaGreat.V
theorem part21 : chunkOk Tryz.prog (plansIn plTbl) extAll 20000 48 ar21 ha21 1462 rs21 hb21 1494 = true := by decide +kernel
theorem part22 : chunkOk Tryz.prog (plansIn plTbl) extAll 20000 48 ar22 ha22 1494 rs22 hb22 1581 = true := by decide +kernel
theorem part23 : chunkOk Tryz.prog (plansIn plTbl) extAll 20000 16 ar23 ha23 1581 rs23 hb23 1606 = true := by decide +kernel
theorem part24 : chunkOk Tryz.prog (plansIn plTbl) extAll 20000 45 ar24 ha24 1606 rs24 hb24 1632 = true := by decide +kernel
end Go.Proofs.YtmjjlhnddokppaaGreat.engineNil
