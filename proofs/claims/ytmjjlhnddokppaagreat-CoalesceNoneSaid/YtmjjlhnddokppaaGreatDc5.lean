/-
  Parts of a long run. No condition.
-/
import Derived.Test.YtmjjlhnddokppaaGreatXt
import Derived.Test.YtmjjlhnddokppaaGreatDc
namespace Go.Proofs.YtmjjlhnddokppaaGreat.coalesceNone
open Go.Proofs.YtmjjlhnddokppaaGreat.V
theorem part8 : chunkOk Tryz.prog (plansIn plTbl) extAll 20000 93 ar8 ha8 563 rs8 hb8 691 = true := by decide +kernel
theorem part9 : chunkOk Tryz.prog (plansIn plTbl) extAll 20000 95 ar9 ha9 691 rs9 hb9 719 = true := by decide +kernel
end Go.Proofs.YtmjjlhnddokppaaGreat.coalesceNone
