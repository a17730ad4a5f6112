/-
  Parts of a long run. No condition.
-/
import Derived.Test.YtmjjlhnddokppaaGreatXt
import Derived.Test.YtmjjlhnddokppaaGreatDe
namespace Go.Proofs.YtmjjlhnddokppaaGreat.engineNil
open Go.Proofs.YtmjjlhnddokppaaGreat.V
theorem part11 : chunkOk Tryz.prog (plansIn plTbl) extAll 20000 207 ar11 ha11 693 rs11 hb11 724 = true := by decide +kernel
theorem part12 : chunkOk Tryz.prog (plansIn plTbl) extAll 20000 66 ar12 ha12 724 rs12 hb12 755 = true := by decide +kernel
theorem part13 : chunkOk Tryz.prog (plansIn plTbl) extAll 20000 45 ar13 ha13 794 rs13 hb13 890 = true := by decide +kernel
end Go.Proofs.YtmjjlhnddokppaaGreat.engineNil
