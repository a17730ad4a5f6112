/-
  Parts of a long run. No condition.
-/
import Derived.Test.YtmjjlhnddokppaaGreatXt
import Derived.Test.YtmjjlhnddokppaaGreatDc
namespace Go.Proofs.YtmjjlhnddokppaaGreat.coalesceNone
open Go.Proofs.YtmjjlhnddokppaaGreat.V
theorem part5 : chunkOk Tryz.prog (plansIn plTbl) extAll 20000 93 ar5 ha5 299 rs5 hb5 405 = true := by decide +kernel
theorem part6 : chunkOk Tryz.prog (plansIn plTbl) extAll 20000 95 ar6 ha6 405 rs6 hb6 434 = true := by decide +kernel
end Go.Proofs.YtmjjlhnddokppaaGreat.coalesceNone
