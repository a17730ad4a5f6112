/-
  Parts of a long run. No condition.
-/
import Derived.Test.YtmjjlhnddokppaaGreatXt
import Derived.Test.YtmjjlhnddokppaaGreatDc
namespace Go.Proofs.YtmjjlhnddokppaaGreat.coalesceNone
open Go.Proofs.YtmjjlhnddokppaaGreat.V
theorem part7 : chunkOk Tryz.prog (plansIn plTbl) extAll 20000 93 ar7 ha7 434 rs7 hb7 563 = true := by decide +kernel
end Go.Proofs.YtmjjlhnddokppaaGreat.coalesceNone
