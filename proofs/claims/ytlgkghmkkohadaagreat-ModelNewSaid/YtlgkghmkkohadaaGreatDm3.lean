/-
  Parts of a long run. No condition.
-/
import Derived.Test.YtlgkghmkkohadaaGreatXt
import Derived.Test.YtlgkghmkkohadaaGreatDm
namespace Go.Proofs.YtlgkghmkkohadaaGreat.modelNil
open Go.Proofs.YtlgkghmkkohadaaGreat.V
theorem part11 : chunkOk Tryz.prog (plansIn plTbl) extAll 20000 29 ar11 ha11 442 rs11 hb11 492 = true := by decide +kernel
theorem part12 : chunkOk Tryz.prog (plansIn plTbl) extAll 20000 26 ar12 ha12 495 rs12 hb12 532 = true := by decide +kernel
theorem part13 : chunkOk Tryz.prog (plansIn plTbl) extAll 20000 26 ar13 ha13 532 rs13 hb13 554 = true := by decide +kernel
end Go.Proofs.YtlgkghmkkohadaaGreat.modelNil
