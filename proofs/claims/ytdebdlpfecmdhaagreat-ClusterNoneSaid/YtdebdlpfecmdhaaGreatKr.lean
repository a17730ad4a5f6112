/-
  The examples of the chapter hold: the law's function known returns true, wherever it is called, and changes nothing that was there. No condition.
-/
import Derived.Test.YtdebdlpfecmdhaaGreatDr1
import Derived.Test.YtdebdlpfecmdhaaGreatDr2
import Derived.Test.YtdebdlpfecmdhaaGreatDr3
import Derived.Test.YtdebdlpfecmdhaaGreatDr4
import Derived.Test.YtdebdlpfecmdhaaGreatDr5
namespace Go.Proofs.YtdebdlpfecmdhaaGreat.clusterNone
open Go.Proofs.YtdebdlpfecmdhaaGreat.V
def knownExt : CallA := orExt (extChunk 80 ar1 ha1 1 rs1 hb1 89) (orExt (extChunk 82 ar3 ha3 92 rs3 hb3 254) (orExt (extChunk 82 ar5 ha5 256 rs5 hb5 418) (orExt (extChunk 82 ar6 ha6 418 rs6 hb6 475) (orExt (extChunk 82 ar8 ha8 476 rs8 hb8 592) (orExt (extChunk 82 ar10 ha10 593 rs10 hb10 720) (orExt (extChunk 23 ar12 ha12 723 rs12 hb12 746) (orExt (extChunk 82 ar14 ha14 747 rs14 hb14 863) (orExt (extChunk 82 ar21 ha21 878 rs21 hb21 928) (orExt (extChunk 25 ar23 ha23 928 rs23 hb23 1003) (noExt))))))))))
theorem knownExt_ok [Sig] {lo : Nat} : CallOK Tryz.prog lo knownExt := (orExt_ok (extChunk_ok (P := Tryz.prog) (plans := plansIn plTbl) (ext := noExt) (k := 20000) (by kernel_rfl) plans_ok noExt_ok part1) (orExt_ok (extChunk_ok (P := Tryz.prog) (plans := plansIn plTbl) (ext := noExt) (k := 20000) (by kernel_rfl) plans_ok noExt_ok part3) (orExt_ok (extChunk_ok (P := Tryz.prog) (plans := plansIn plTbl) (ext := noExt) (k := 20000) (by kernel_rfl) plans_ok noExt_ok part5) (orExt_ok (extChunk_ok (P := Tryz.prog) (plans := plansIn plTbl) (ext := noExt) (k := 20000) (by kernel_rfl) plans_ok noExt_ok part6) (orExt_ok (extChunk_ok (P := Tryz.prog) (plans := plansIn plTbl) (ext := noExt) (k := 20000) (by kernel_rfl) plans_ok noExt_ok part8) (orExt_ok (extChunk_ok (P := Tryz.prog) (plans := plansIn plTbl) (ext := noExt) (k := 20000) (by kernel_rfl) plans_ok noExt_ok part10) (orExt_ok (extChunk_ok (P := Tryz.prog) (plans := plansIn plTbl) (ext := noExt) (k := 20000) (by kernel_rfl) plans_ok noExt_ok part12) (orExt_ok (extChunk_ok (P := Tryz.prog) (plans := plansIn plTbl) (ext := noExt) (k := 20000) (by kernel_rfl) plans_ok noExt_ok part14) (orExt_ok (extChunk_ok (P := Tryz.prog) (plans := plansIn plTbl) (ext := noExt) (k := 20000) (by kernel_rfl) plans_ok noExt_ok part21) (orExt_ok (extChunk_ok (P := Tryz.prog) (plans := plansIn plTbl) (ext := noExt) (k := 20000) (by kernel_rfl) plans_ok noExt_ok part23) noExt_ok))))))))))
theorem known_run : runsTo Tryz.prog (plansIn plTbl) knownExt 20000 20 [] true = true := by decide +kernel
theorem known_ret (w : World) : Ret Tryz.prog 20 #[] w fun V w' => V = .bool true ∧ Ext w w' :=
  letI : Sig := sigOf [] (by simp) w
  run_bool (P := Tryz.prog) (plans := plansIn plTbl) (ext := knownExt) (k := 20000) (f := 20) (args := []) (Args := []) (w := w) (z := true) rfl (by kernel_rfl) plans_ok knownExt_ok (RelL.nil _) known_run
end Go.Proofs.YtdebdlpfecmdhaaGreat.clusterNone
