/-
  The examples of the chapter hold: the law's function known returns true, wherever it is called, and changes nothing that was there. No condition.
-/
import Derived.Test.YtnclbmfbegbbnaaGreatDt1
import Derived.Test.YtnclbmfbegbbnaaGreatDt2
import Derived.Test.YtnclbmfbegbbnaaGreatDt3
import Derived.Test.YtnclbmfbegbbnaaGreatDt4
import Derived.Test.YtnclbmfbegbbnaaGreatDt5
import Derived.Test.YtnclbmfbegbbnaaGreatDt6
import Derived.Test.YtnclbmfbegbbnaaGreatDt7
import Derived.Test.YtnclbmfbegbbnaaGreatDt8
import Derived.Test.YtnclbmfbegbbnaaGreatDt9
import Derived.Test.YtnclbmfbegbbnaaGreatDt10
import Derived.Test.YtnclbmfbegbbnaaGreatDt11
import Derived.Test.YtnclbmfbegbbnaaGreatDt12
import Derived.Test.YtnclbmfbegbbnaaGreatDt13
namespace Go.Proofs.YtnclbmfbegbbnaaGreat.txnNone
open Go.Proofs.YtnclbmfbegbbnaaGreat.V
theorem xe_ok0 [Sig] (hb : RunBase Tryz.prog (plansIn plTbl)) {lo : Nat} : CallOK Tryz.prog lo xe0 := extAll_ok _
theorem xe_ok1 [Sig] (hb : RunBase Tryz.prog (plansIn plTbl)) {lo : Nat} : CallOK Tryz.prog lo xe1 := orExt_ok (extChunk_ok (P := Tryz.prog) (plans := plansIn plTbl) (ext := xe0) (k := 20000) hb (xe_ok0 hb) part0) (xe_ok0 hb)
theorem xe_ok2 [Sig] (hb : RunBase Tryz.prog (plansIn plTbl)) {lo : Nat} : CallOK Tryz.prog lo xe2 := orExt_ok (extChunk_ok (P := Tryz.prog) (plans := plansIn plTbl) (ext := xe0) (k := 20000) hb (xe_ok0 hb) part1) (xe_ok1 hb)
theorem xe_ok3 [Sig] (hb : RunBase Tryz.prog (plansIn plTbl)) {lo : Nat} : CallOK Tryz.prog lo xe3 := orExt_ok (extChunk_ok (P := Tryz.prog) (plans := plansIn plTbl) (ext := xe0) (k := 20000) hb (xe_ok0 hb) part2) (xe_ok2 hb)
theorem xe_ok4 [Sig] (hb : RunBase Tryz.prog (plansIn plTbl)) {lo : Nat} : CallOK Tryz.prog lo xe4 := orExt_ok (extChunk_ok (P := Tryz.prog) (plans := plansIn plTbl) (ext := xe0) (k := 20000) hb (xe_ok0 hb) part3) (xe_ok3 hb)
theorem xe_ok5 [Sig] (hb : RunBase Tryz.prog (plansIn plTbl)) {lo : Nat} : CallOK Tryz.prog lo xe5 := orExt_ok (extChunk_ok (P := Tryz.prog) (plans := plansIn plTbl) (ext := xe0) (k := 20000) hb (xe_ok0 hb) part4) (xe_ok4 hb)
theorem xe_ok6 [Sig] (hb : RunBase Tryz.prog (plansIn plTbl)) {lo : Nat} : CallOK Tryz.prog lo xe6 := orExt_ok (extChunk_ok (P := Tryz.prog) (plans := plansIn plTbl) (ext := xe0) (k := 20000) hb (xe_ok0 hb) part5) (xe_ok5 hb)
theorem xe_ok7 [Sig] (hb : RunBase Tryz.prog (plansIn plTbl)) {lo : Nat} : CallOK Tryz.prog lo xe7 := orExt_ok (extChunk_ok (P := Tryz.prog) (plans := plansIn plTbl) (ext := xe6) (k := 20000) hb (xe_ok6 hb) part6) (xe_ok6 hb)
theorem xe_ok8 [Sig] (hb : RunBase Tryz.prog (plansIn plTbl)) {lo : Nat} : CallOK Tryz.prog lo xe8 := orExt_ok (extChunk_ok (P := Tryz.prog) (plans := plansIn plTbl) (ext := xe0) (k := 20000) hb (xe_ok0 hb) part7) (xe_ok7 hb)
theorem xe_ok9 [Sig] (hb : RunBase Tryz.prog (plansIn plTbl)) {lo : Nat} : CallOK Tryz.prog lo xe9 := orExt_ok (extChunk_ok (P := Tryz.prog) (plans := plansIn plTbl) (ext := xe0) (k := 20000) hb (xe_ok0 hb) part8) (xe_ok8 hb)
theorem xe_ok10 [Sig] (hb : RunBase Tryz.prog (plansIn plTbl)) {lo : Nat} : CallOK Tryz.prog lo xe10 := orExt_ok (extChunk_ok (P := Tryz.prog) (plans := plansIn plTbl) (ext := xe9) (k := 20000) hb (xe_ok9 hb) part9) (xe_ok9 hb)
theorem xe_ok11 [Sig] (hb : RunBase Tryz.prog (plansIn plTbl)) {lo : Nat} : CallOK Tryz.prog lo xe11 := orExt_ok (extChunk_ok (P := Tryz.prog) (plans := plansIn plTbl) (ext := xe0) (k := 20000) hb (xe_ok0 hb) part10) (xe_ok10 hb)
theorem xe_ok12 [Sig] (hb : RunBase Tryz.prog (plansIn plTbl)) {lo : Nat} : CallOK Tryz.prog lo xe12 := orExt_ok (extChunk_ok (P := Tryz.prog) (plans := plansIn plTbl) (ext := xe0) (k := 20000) hb (xe_ok0 hb) part11) (xe_ok11 hb)
theorem xe_ok13 [Sig] (hb : RunBase Tryz.prog (plansIn plTbl)) {lo : Nat} : CallOK Tryz.prog lo xe13 := orExt_ok (extChunk_ok (P := Tryz.prog) (plans := plansIn plTbl) (ext := xe0) (k := 20000) hb (xe_ok0 hb) part12) (xe_ok12 hb)
theorem xe_ok14 [Sig] (hb : RunBase Tryz.prog (plansIn plTbl)) {lo : Nat} : CallOK Tryz.prog lo xe14 := orExt_ok (extChunk_ok (P := Tryz.prog) (plans := plansIn plTbl) (ext := xe13) (k := 20000) hb (xe_ok13 hb) part13) (xe_ok13 hb)
theorem xe_ok15 [Sig] (hb : RunBase Tryz.prog (plansIn plTbl)) {lo : Nat} : CallOK Tryz.prog lo xe15 := orExt_ok (extChunk_ok (P := Tryz.prog) (plans := plansIn plTbl) (ext := xe0) (k := 20000) hb (xe_ok0 hb) part14) (xe_ok14 hb)
theorem xe_ok16 [Sig] (hb : RunBase Tryz.prog (plansIn plTbl)) {lo : Nat} : CallOK Tryz.prog lo xe16 := orExt_ok (extChunk_ok (P := Tryz.prog) (plans := plansIn plTbl) (ext := xe0) (k := 20000) hb (xe_ok0 hb) part15) (xe_ok15 hb)
theorem xe_ok17 [Sig] (hb : RunBase Tryz.prog (plansIn plTbl)) {lo : Nat} : CallOK Tryz.prog lo xe17 := orExt_ok (extChunk_ok (P := Tryz.prog) (plans := plansIn plTbl) (ext := xe0) (k := 20000) hb (xe_ok0 hb) part16) (xe_ok16 hb)
def knownExt : CallA := xe17
theorem knownExt_ok [Sig] (hb : RunBase Tryz.prog (plansIn plTbl)) {lo : Nat} : CallOK Tryz.prog lo knownExt := xe_ok17 hb
theorem known_run : runsTo Tryz.prog (plansIn plTbl) knownExt 20000 5 [] true = true := by decide +kernel
theorem known_ret (w : World) : Ret Tryz.prog 5 #[] w fun V w' => V = .bool true ∧ Ext w w' :=
  letI : Sig := sigOf (plansIn plTbl) [] (by simp) w
  run_bool (P := Tryz.prog) (plans := plansIn plTbl) (ext := knownExt) (k := 20000) (f := 5) (args := []) (Args := []) (w := w) (z := true) rfl (base_ok _ _ _) (knownExt_ok (base_ok _ _ _)) (RelL.nil _) known_run
end Go.Proofs.YtnclbmfbegbbnaaGreat.txnNone
