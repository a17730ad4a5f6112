/-
  Parts of a long run. No condition.
-/
import Derived.Test.YtmjjlhnddokppaaGreatXt
import Derived.Test.YtmjjlhnddokppaaGreatDc
namespace Go.Proofs.YtmjjlhnddokppaaGreat.coalesceNone
open Go.Proofs.YtmjjlhnddokppaaGreat.V
theorem part10 : chunkOk Tryz.prog (plansIn plTbl) extAll 20000 94 ar10 ha10 720 rs10 hb10 803 = true := by decide +kernel
theorem part11 : chunkOk Tryz.prog (plansIn plTbl) extAll 20000 93 ar11 ha11 803 rs11 hb11 895 = true := by decide +kernel
end Go.Proofs.YtmjjlhnddokppaaGreat.coalesceNone
