/-
  Parts of a long run. No condition.
-/
import Derived.Test.YtmjjlhnddokppaaGreatXt
import Derived.Test.YtmjjlhnddokppaaGreatDe
namespace Go.Proofs.YtmjjlhnddokppaaGreat.engineNil
open Go.Proofs.YtmjjlhnddokppaaGreat.V
theorem part6 : chunkOk Tryz.prog (plansIn plTbl) extAll 20000 45 ar6 ha6 441 rs6 hb6 465 = true := by decide +kernel
theorem part7 : chunkOk Tryz.prog (plansIn plTbl) extAll 20000 207 ar7 ha7 481 rs7 hb7 524 = true := by decide +kernel
theorem part8 : chunkOk Tryz.prog (plansIn plTbl) extAll 20000 66 ar8 ha8 524 rs8 hb8 567 = true := by decide +kernel
theorem part9 : chunkOk Tryz.prog (plansIn plTbl) extAll 20000 207 ar9 ha9 585 rs9 hb9 630 = true := by decide +kernel
theorem part10 : chunkOk Tryz.prog (plansIn plTbl) extAll 20000 66 ar10 ha10 630 rs10 hb10 675 = true := by decide +kernel
end Go.Proofs.YtmjjlhnddokppaaGreat.engineNil
