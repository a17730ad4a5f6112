/-
  The examples of the chapter hold: the law's function known returns true, wherever it is called, and changes nothing that was there. No condition.
-/
import Derived.Test.YtbjomeonjlialaaGreatZbw
import Derived.Test.YtbjomeonjlialaaGreatZbx
import Derived.Test.YtbjomeonjlialaaGreatZby
import Derived.Test.YtbjomeonjlialaaGreatZca
set_option linter.unusedVariables false
set_option linter.unusedSimpArgs false
namespace Go.Proofs.YtbjomeonjlialaaGreat.dumpNone
open Go.Proofs.YtbjomeonjlialaaGreat.V
theorem xe_ok0 [Sig] (hb : RunBase Tryz.prog (plansIn plTbl)) {lo : Nat} : CallOK Tryz.prog lo xe0 := extAll_ok _
theorem xe_ok1 [Sig] (hb : RunBase Tryz.prog (plansIn plTbl)) {lo : Nat} : CallOK Tryz.prog lo xe1 := orExt_ok (extChunk_ok (P := Tryz.prog) (plans := plansIn plTbl) (ext := xe0) (k := 20000) hb (xe_ok0 hb) part0) (xe_ok0 hb)
theorem xe_ok2 [Sig] (hb : RunBase Tryz.prog (plansIn plTbl)) {lo : Nat} : CallOK Tryz.prog lo xe2 := orExt_ok (extChunk_ok (P := Tryz.prog) (plans := plansIn plTbl) (ext := xe0) (k := 20000) hb (xe_ok0 hb) part1) (xe_ok1 hb)
theorem xe_ok3 [Sig] (hb : RunBase Tryz.prog (plansIn plTbl)) {lo : Nat} : CallOK Tryz.prog lo xe3 := orExt_ok (extChunk_ok (P := Tryz.prog) (plans := plansIn plTbl) (ext := xe0) (k := 20000) hb (xe_ok0 hb) part2) (xe_ok2 hb)
theorem xe_ok4 [Sig] (hb : RunBase Tryz.prog (plansIn plTbl)) {lo : Nat} : CallOK Tryz.prog lo xe4 := orExt_ok (extChunk_ok (P := Tryz.prog) (plans := plansIn plTbl) (ext := xe0) (k := 20000) hb (xe_ok0 hb) part3) (xe_ok3 hb)
theorem xe_ok5 [Sig] (hb : RunBase Tryz.prog (plansIn plTbl)) {lo : Nat} : CallOK Tryz.prog lo xe5 := orExt_ok (extChunk_ok (P := Tryz.prog) (plans := plansIn plTbl) (ext := xe0) (k := 20000) hb (xe_ok0 hb) part4) (xe_ok4 hb)
theorem xe_ok6 [Sig] (hb : RunBase Tryz.prog (plansIn plTbl)) {lo : Nat} : CallOK Tryz.prog lo xe6 := orExt_ok (extChunk_ok (P := Tryz.prog) (plans := plansIn plTbl) (ext := xe0) (k := 20000) hb (xe_ok0 hb) part5) (xe_ok5 hb)
def knownExt : CallA := xe6
theorem knownExt_ok [Sig] (hb : RunBase Tryz.prog (plansIn plTbl)) {lo : Nat} : CallOK Tryz.prog lo knownExt := xe_ok6 hb
theorem known_run : runsTo Tryz.prog (plansIn plTbl) knownExt 20000 6 [] true = true := by decide +kernel
theorem known_ret (w : World) : Ret Tryz.prog 6 #[] w fun V w' => V = .bool true ∧ Ext w w' :=
  letI : Sig := sigOf (plansIn plTbl) [] (by simp) w
  run_bool (P := Tryz.prog) (plans := plansIn plTbl) (ext := knownExt) (k := 20000) (f := 6) (args := []) (Args := []) (w := w) (z := true) rfl (base_ok _ _ _) (knownExt_ok (base_ok _ _ _)) (RelL.nil _) known_run
end Go.Proofs.YtbjomeonjlialaaGreat.dumpNone
