/-
  Parts of a long run. No condition.
-/
import Derived.Test.YtmjjlhnddokppaaGreatXt
import Derived.Test.YtmjjlhnddokppaaGreatDe
namespace Go.Proofs.YtmjjlhnddokppaaGreat.engineNil
open Go.Proofs.YtmjjlhnddokppaaGreat.V
theorem part25 : chunkOk Tryz.prog (plansIn plTbl) extAll 20000 48 ar25 ha25 1632 rs25 hb25 1698 = true := by decide +kernel
theorem part26 : chunkOk Tryz.prog (plansIn plTbl) extAll 20000 13 ar26 ha26 1698 rs26 hb26 1716 = true := by decide +kernel
end Go.Proofs.YtmjjlhnddokppaaGreat.engineNil
