/-
  Parts of a long run. No condition.
-/
import Derived.Test.YtmjjlhnddokppaaGreatXt
import Derived.Test.YtmjjlhnddokppaaGreatDc
namespace Go.Proofs.YtmjjlhnddokppaaGreat.coalesceNone
open Go.Proofs.YtmjjlhnddokppaaGreat.V
theorem part0 : chunkOk Tryz.prog (plansIn plTbl) extAll 20000 93 ar0 ha0 30 rs0 hb0 67 = true := by decide +kernel
theorem part1 : chunkOk Tryz.prog (plansIn plTbl) extAll 20000 93 ar1 ha1 67 rs1 hb1 105 = true := by decide +kernel
theorem part2 : chunkOk Tryz.prog (plansIn plTbl) extAll 20000 102 ar2 ha2 113 rs2 hb2 188 = true := by decide +kernel
theorem part3 : chunkOk Tryz.prog (plansIn plTbl) extAll 20000 98 ar3 ha3 190 rs3 hb3 207 = true := by decide +kernel
end Go.Proofs.YtmjjlhnddokppaaGreat.coalesceNone
