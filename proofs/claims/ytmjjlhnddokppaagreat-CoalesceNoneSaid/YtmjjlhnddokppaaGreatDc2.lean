/-
  Parts of a long run. No condition.
-/
import Derived.Test.YtmjjlhnddokppaaGreatXt
import Derived.Test.YtmjjlhnddokppaaGreatDc
namespace Go.Proofs.YtmjjlhnddokppaaGreat.coalesceNone
open Go.Proofs.YtmjjlhnddokppaaGreat.V
theorem part4 : chunkOk Tryz.prog (plansIn plTbl) extAll 20000 13 ar4 ha4 207 rs4 hb4 291 = true := by decide +kernel
end Go.Proofs.YtmjjlhnddokppaaGreat.coalesceNone
