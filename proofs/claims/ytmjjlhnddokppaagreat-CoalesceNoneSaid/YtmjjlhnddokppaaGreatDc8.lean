/-
  Parts of a long run. No condition.
-/
import Derived.Test.YtmjjlhnddokppaaGreatXt
import Derived.Test.YtmjjlhnddokppaaGreatDc
namespace Go.Proofs.YtmjjlhnddokppaaGreat.coalesceNone
open Go.Proofs.YtmjjlhnddokppaaGreat.V
theorem part14 : chunkOk Tryz.prog (plansIn plTbl) extAll 20000 13 ar14 ha14 970 rs14 hb14 1039 = true := by decide +kernel
theorem part15 : chunkOk Tryz.prog (plansIn plTbl) extAll 20000 94 ar15 ha15 1046 rs15 hb15 1117 = true := by decide +kernel
end Go.Proofs.YtmjjlhnddokppaaGreat.coalesceNone
