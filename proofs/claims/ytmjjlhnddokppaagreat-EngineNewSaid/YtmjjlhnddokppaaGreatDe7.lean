/-
  Parts of a long run. No condition.
-/
import Derived.Test.YtmjjlhnddokppaaGreatXt
import Derived.Test.YtmjjlhnddokppaaGreatDe
namespace Go.Proofs.YtmjjlhnddokppaaGreat.engineNil
open Go.Proofs.YtmjjlhnddokppaaGreat.V
theorem part14 : chunkOk Tryz.prog (plansIn plTbl) extAll 20000 48 ar14 ha14 890 rs14 hb14 922 = true := by decide +kernel
theorem part15 : chunkOk Tryz.prog (plansIn plTbl) extAll 20000 48 ar15 ha15 922 rs15 hb15 1050 = true := by decide +kernel
end Go.Proofs.YtmjjlhnddokppaaGreat.engineNil
