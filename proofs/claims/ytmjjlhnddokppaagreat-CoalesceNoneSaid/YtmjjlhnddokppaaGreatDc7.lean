/-
  Parts of a long run. No condition.
-/
import Derived.Test.YtmjjlhnddokppaaGreatXt
import Derived.Test.YtmjjlhnddokppaaGreatDc
namespace Go.Proofs.YtmjjlhnddokppaaGreat.coalesceNone
open Go.Proofs.YtmjjlhnddokppaaGreat.V
theorem part12 : chunkOk Tryz.prog (plansIn plTbl) extAll 20000 13 ar12 ha12 898 rs12 hb12 937 = true := by decide +kernel
theorem part13 : chunkOk Tryz.prog (plansIn plTbl) extAll 20000 98 ar13 ha13 946 rs13 hb13 970 = true := by decide +kernel
end Go.Proofs.YtmjjlhnddokppaaGreat.coalesceNone
