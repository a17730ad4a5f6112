/-
  The examples of the chapter hold: the law's function known returns true, wherever it is called, and changes nothing that was there. No condition.
-/
import Derived.Test.YtmjjlhnddokppaaGreatDc1
import Derived.Test.YtmjjlhnddokppaaGreatDc2
import Derived.Test.YtmjjlhnddokppaaGreatDc3
import Derived.Test.YtmjjlhnddokppaaGreatDc4
import Derived.Test.YtmjjlhnddokppaaGreatDc5
import Derived.Test.YtmjjlhnddokppaaGreatDc6
import Derived.Test.YtmjjlhnddokppaaGreatDc7
import Derived.Test.YtmjjlhnddokppaaGreatDc8
namespace Go.Proofs.YtmjjlhnddokppaaGreat.coalesceNone
open Go.Proofs.YtmjjlhnddokppaaGreat.V
def knownExt : CallA := orExt (extChunk 93 ar0 ha0 30 rs0 hb0 67) (orExt (extChunk 93 ar1 ha1 67 rs1 hb1 105) (orExt (extChunk 102 ar2 ha2 113 rs2 hb2 188) (orExt (extChunk 98 ar3 ha3 190 rs3 hb3 207) (orExt (extChunk 13 ar4 ha4 207 rs4 hb4 291) (orExt (extChunk 93 ar5 ha5 299 rs5 hb5 405) (orExt (extChunk 95 ar6 ha6 405 rs6 hb6 434) (orExt (extChunk 93 ar7 ha7 434 rs7 hb7 563) (orExt (extChunk 93 ar8 ha8 563 rs8 hb8 691) (orExt (extChunk 95 ar9 ha9 691 rs9 hb9 719) (orExt (extChunk 94 ar10 ha10 720 rs10 hb10 803) (orExt (extChunk 93 ar11 ha11 803 rs11 hb11 895) (orExt (extChunk 13 ar12 ha12 898 rs12 hb12 937) (orExt (extChunk 98 ar13 ha13 946 rs13 hb13 970) (orExt (extChunk 13 ar14 ha14 970 rs14 hb14 1039) (orExt (extChunk 94 ar15 ha15 1046 rs15 hb15 1117) (extAll))))))))))))))))
theorem knownExt_ok [Sig] (hb : RunBase Tryz.prog (plansIn plTbl)) {lo : Nat} : CallOK Tryz.prog lo knownExt := (orExt_ok (extChunk_ok (P := Tryz.prog) (plans := plansIn plTbl) (ext := extAll) (k := 20000) hb (extAll_ok _) part0) (orExt_ok (extChunk_ok (P := Tryz.prog) (plans := plansIn plTbl) (ext := extAll) (k := 20000) hb (extAll_ok _) part1) (orExt_ok (extChunk_ok (P := Tryz.prog) (plans := plansIn plTbl) (ext := extAll) (k := 20000) hb (extAll_ok _) part2) (orExt_ok (extChunk_ok (P := Tryz.prog) (plans := plansIn plTbl) (ext := extAll) (k := 20000) hb (extAll_ok _) part3) (orExt_ok (extChunk_ok (P := Tryz.prog) (plans := plansIn plTbl) (ext := extAll) (k := 20000) hb (extAll_ok _) part4) (orExt_ok (extChunk_ok (P := Tryz.prog) (plans := plansIn plTbl) (ext := extAll) (k := 20000) hb (extAll_ok _) part5) (orExt_ok (extChunk_ok (P := Tryz.prog) (plans := plansIn plTbl) (ext := extAll) (k := 20000) hb (extAll_ok _) part6) (orExt_ok (extChunk_ok (P := Tryz.prog) (plans := plansIn plTbl) (ext := extAll) (k := 20000) hb (extAll_ok _) part7) (orExt_ok (extChunk_ok (P := Tryz.prog) (plans := plansIn plTbl) (ext := extAll) (k := 20000) hb (extAll_ok _) part8) (orExt_ok (extChunk_ok (P := Tryz.prog) (plans := plansIn plTbl) (ext := extAll) (k := 20000) hb (extAll_ok _) part9) (orExt_ok (extChunk_ok (P := Tryz.prog) (plans := plansIn plTbl) (ext := extAll) (k := 20000) hb (extAll_ok _) part10) (orExt_ok (extChunk_ok (P := Tryz.prog) (plans := plansIn plTbl) (ext := extAll) (k := 20000) hb (extAll_ok _) part11) (orExt_ok (extChunk_ok (P := Tryz.prog) (plans := plansIn plTbl) (ext := extAll) (k := 20000) hb (extAll_ok _) part12) (orExt_ok (extChunk_ok (P := Tryz.prog) (plans := plansIn plTbl) (ext := extAll) (k := 20000) hb (extAll_ok _) part13) (orExt_ok (extChunk_ok (P := Tryz.prog) (plans := plansIn plTbl) (ext := extAll) (k := 20000) hb (extAll_ok _) part14) (orExt_ok (extChunk_ok (P := Tryz.prog) (plans := plansIn plTbl) (ext := extAll) (k := 20000) hb (extAll_ok _) part15) (extAll_ok _)))))))))))))))))
theorem known_run : runsTo Tryz.prog (plansIn plTbl) knownExt 20000 25 [] true = true := by decide +kernel
theorem known_ret (w : World) : Ret Tryz.prog 25 #[] w fun V w' => V = .bool true ∧ Ext w w' :=
  letI : Sig := sigOf (plansIn plTbl) [] (by simp) w
  run_bool (P := Tryz.prog) (plans := plansIn plTbl) (ext := knownExt) (k := 20000) (f := 25) (args := []) (Args := []) (w := w) (z := true) rfl (base_ok _ _ _) (knownExt_ok (base_ok _ _ _)) (RelL.nil _) known_run
end Go.Proofs.YtmjjlhnddokppaaGreat.coalesceNone
