/-
  Parts of a long run. No condition.
-/
import Derived.Test.YtlgkghmkkohadaaGreatXt
import Derived.Test.YtlgkghmkkohadaaGreatDm
namespace Go.Proofs.YtlgkghmkkohadaaGreat.modelNil
open Go.Proofs.YtlgkghmkkohadaaGreat.V
theorem part0 : chunkOk Tryz.prog (plansIn plTbl) extAll 20000 26 ar0 ha0 10 rs0 hb0 43 = true := by decide +kernel
theorem part1 : chunkOk Tryz.prog (plansIn plTbl) extAll 20000 26 ar1 ha1 46 rs1 hb1 82 = true := by decide +kernel
theorem part2 : chunkOk Tryz.prog (plansIn plTbl) extAll 20000 26 ar2 ha2 85 rs2 hb2 103 = true := by decide +kernel
theorem part3 : chunkOk Tryz.prog (plansIn plTbl) extAll 20000 18 ar3 ha3 103 rs3 hb3 116 = true := by decide +kernel
theorem part4 : chunkOk Tryz.prog (plansIn plTbl) extAll 20000 29 ar4 ha4 122 rs4 hb4 175 = true := by decide +kernel
theorem part5 : chunkOk Tryz.prog (plansIn plTbl) extAll 20000 29 ar5 ha5 186 rs5 hb5 236 = true := by decide +kernel
end Go.Proofs.YtlgkghmkkohadaaGreat.modelNil
