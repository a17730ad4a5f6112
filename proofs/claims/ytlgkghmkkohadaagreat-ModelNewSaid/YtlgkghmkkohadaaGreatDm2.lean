/-
  Parts of a long run. No condition.
-/
import Derived.Test.YtlgkghmkkohadaaGreatXt
import Derived.Test.YtlgkghmkkohadaaGreatDm
namespace Go.Proofs.YtlgkghmkkohadaaGreat.modelNil
open Go.Proofs.YtlgkghmkkohadaaGreat.V
theorem part6 : chunkOk Tryz.prog (plansIn plTbl) extAll 20000 29 ar6 ha6 238 rs6 hb6 284 = true := by decide +kernel
theorem part7 : chunkOk Tryz.prog (plansIn plTbl) extAll 20000 29 ar7 ha7 291 rs7 hb7 347 = true := by decide +kernel
theorem part8 : chunkOk Tryz.prog (plansIn plTbl) extAll 20000 26 ar8 ha8 347 rs8 hb8 368 = true := by decide +kernel
theorem part9 : chunkOk Tryz.prog (plansIn plTbl) extAll 20000 26 ar9 ha9 370 rs9 hb9 403 = true := by decide +kernel
theorem part10 : chunkOk Tryz.prog (plansIn plTbl) extAll 20000 29 ar10 ha10 406 rs10 hb10 440 = true := by decide +kernel
end Go.Proofs.YtlgkghmkkohadaaGreat.modelNil
