/-
  The examples of the chapter hold: the law's function known returns true, wherever it is called, and changes nothing that was there. No condition.
-/
import Derived.Test.YtfoabgljfikklaaGreatDoorWbd
import Derived.Test.YtfoabgljfikklaaGreatDoorWbe
import Derived.Test.YtfoabgljfikklaaGreatDoorWbf
import Derived.Test.YtfoabgljfikklaaGreatDoorWbg
import Derived.Test.YtfoabgljfikklaaGreatDoorWbh
import Derived.Test.YtfoabgljfikklaaGreatDoorWbi
import Derived.Test.YtfoabgljfikklaaGreatDoorWbj
import Derived.Test.YtfoabgljfikklaaGreatDoorWbk
import Derived.Test.YtfoabgljfikklaaGreatDoorWbl
import Derived.Test.YtfoabgljfikklaaGreatDoorWbm
import Derived.Test.YtfoabgljfikklaaGreatDoorWbn
import Derived.Test.YtfoabgljfikklaaGreatDoorWbo
import Derived.Test.YtfoabgljfikklaaGreatDoorWbp
import Derived.Test.YtfoabgljfikklaaGreatDoorWbq
import Derived.Test.YtfoabgljfikklaaGreatDoorWbr
import Derived.Test.YtfoabgljfikklaaGreatDoorWbs
import Derived.Test.YtfoabgljfikklaaGreatDoorWbt
import Derived.Test.YtfoabgljfikklaaGreatDoorWbu
import Derived.Test.YtfoabgljfikklaaGreatDoorWbv
import Derived.Test.YtfoabgljfikklaaGreatDoorWbw
set_option linter.unusedVariables false
set_option linter.unusedSimpArgs false
namespace Go.Proofs.YtfoabgljfikklaaGreatDoor.varyNone
open Go.Proofs.YtfoabgljfikklaaGreatDoor.V
theorem xe_ok0 [Sig] (hb : RunBase Tryz.prog (plansIn plTbl)) {lo : Nat} : CallOK Tryz.prog lo xe0 := extAll_ok _
theorem xe_ok1 [Sig] (hb : RunBase Tryz.prog (plansIn plTbl)) {lo : Nat} : CallOK Tryz.prog lo xe1 := orExt_ok (extChunk_ok (P := Tryz.prog) (plans := plansIn plTbl) (ext := xe0) (k := 20000) hb (xe_ok0 hb) part0) (xe_ok0 hb)
theorem xe_ok2 [Sig] (hb : RunBase Tryz.prog (plansIn plTbl)) {lo : Nat} : CallOK Tryz.prog lo xe2 := orExt_ok (extChunk_ok (P := Tryz.prog) (plans := plansIn plTbl) (ext := xe0) (k := 20000) hb (xe_ok0 hb) part1) (xe_ok1 hb)
theorem xe_ok3 [Sig] (hb : RunBase Tryz.prog (plansIn plTbl)) {lo : Nat} : CallOK Tryz.prog lo xe3 := orExt_ok (extChunk_ok (P := Tryz.prog) (plans := plansIn plTbl) (ext := xe0) (k := 20000) hb (xe_ok0 hb) part2) (xe_ok2 hb)
theorem xe_ok4 [Sig] (hb : RunBase Tryz.prog (plansIn plTbl)) {lo : Nat} : CallOK Tryz.prog lo xe4 := orExt_ok (extChunk_ok (P := Tryz.prog) (plans := plansIn plTbl) (ext := xe0) (k := 20000) hb (xe_ok0 hb) part3) (xe_ok3 hb)
theorem xe_ok5 [Sig] (hb : RunBase Tryz.prog (plansIn plTbl)) {lo : Nat} : CallOK Tryz.prog lo xe5 := orExt_ok (extChunk_ok (P := Tryz.prog) (plans := plansIn plTbl) (ext := xe0) (k := 20000) hb (xe_ok0 hb) part4) (xe_ok4 hb)
theorem xe_ok6 [Sig] (hb : RunBase Tryz.prog (plansIn plTbl)) {lo : Nat} : CallOK Tryz.prog lo xe6 := orExt_ok (extChunk_ok (P := Tryz.prog) (plans := plansIn plTbl) (ext := xe5) (k := 20000) hb (xe_ok5 hb) part5) (xe_ok5 hb)
theorem xe_ok7 [Sig] (hb : RunBase Tryz.prog (plansIn plTbl)) {lo : Nat} : CallOK Tryz.prog lo xe7 := orExt_ok (extChunk_ok (P := Tryz.prog) (plans := plansIn plTbl) (ext := xe0) (k := 20000) hb (xe_ok0 hb) part6) (xe_ok6 hb)
theorem xe_ok8 [Sig] (hb : RunBase Tryz.prog (plansIn plTbl)) {lo : Nat} : CallOK Tryz.prog lo xe8 := orExt_ok (extChunk_ok (P := Tryz.prog) (plans := plansIn plTbl) (ext := xe0) (k := 20000) hb (xe_ok0 hb) part7) (xe_ok7 hb)
theorem xe_ok9 [Sig] (hb : RunBase Tryz.prog (plansIn plTbl)) {lo : Nat} : CallOK Tryz.prog lo xe9 := orExt_ok (extChunk_ok (P := Tryz.prog) (plans := plansIn plTbl) (ext := xe0) (k := 20000) hb (xe_ok0 hb) part8) (xe_ok8 hb)
theorem xe_ok10 [Sig] (hb : RunBase Tryz.prog (plansIn plTbl)) {lo : Nat} : CallOK Tryz.prog lo xe10 := orExt_ok (extChunk_ok (P := Tryz.prog) (plans := plansIn plTbl) (ext := xe0) (k := 20000) hb (xe_ok0 hb) part9) (xe_ok9 hb)
theorem xe_ok11 [Sig] (hb : RunBase Tryz.prog (plansIn plTbl)) {lo : Nat} : CallOK Tryz.prog lo xe11 := orExt_ok (extChunk_ok (P := Tryz.prog) (plans := plansIn plTbl) (ext := xe0) (k := 20000) hb (xe_ok0 hb) part10) (xe_ok10 hb)
theorem xe_ok12 [Sig] (hb : RunBase Tryz.prog (plansIn plTbl)) {lo : Nat} : CallOK Tryz.prog lo xe12 := orExt_ok (extChunk_ok (P := Tryz.prog) (plans := plansIn plTbl) (ext := xe11) (k := 20000) hb (xe_ok11 hb) part11) (xe_ok11 hb)
theorem xe_ok13 [Sig] (hb : RunBase Tryz.prog (plansIn plTbl)) {lo : Nat} : CallOK Tryz.prog lo xe13 := orExt_ok (extChunk_ok (P := Tryz.prog) (plans := plansIn plTbl) (ext := xe12) (k := 20000) hb (xe_ok12 hb) part12) (xe_ok12 hb)
theorem xe_ok14 [Sig] (hb : RunBase Tryz.prog (plansIn plTbl)) {lo : Nat} : CallOK Tryz.prog lo xe14 := orExt_ok (extChunk_ok (P := Tryz.prog) (plans := plansIn plTbl) (ext := xe0) (k := 20000) hb (xe_ok0 hb) part13) (xe_ok13 hb)
theorem xe_ok15 [Sig] (hb : RunBase Tryz.prog (plansIn plTbl)) {lo : Nat} : CallOK Tryz.prog lo xe15 := orExt_ok (extChunk_ok (P := Tryz.prog) (plans := plansIn plTbl) (ext := xe0) (k := 20000) hb (xe_ok0 hb) part14) (xe_ok14 hb)
theorem xe_ok16 [Sig] (hb : RunBase Tryz.prog (plansIn plTbl)) {lo : Nat} : CallOK Tryz.prog lo xe16 := orExt_ok (extChunk_ok (P := Tryz.prog) (plans := plansIn plTbl) (ext := xe15) (k := 20000) hb (xe_ok15 hb) part15) (xe_ok15 hb)
theorem xe_ok17 [Sig] (hb : RunBase Tryz.prog (plansIn plTbl)) {lo : Nat} : CallOK Tryz.prog lo xe17 := orExt_ok (extChunk_ok (P := Tryz.prog) (plans := plansIn plTbl) (ext := xe0) (k := 20000) hb (xe_ok0 hb) part16) (xe_ok16 hb)
theorem xe_ok18 [Sig] (hb : RunBase Tryz.prog (plansIn plTbl)) {lo : Nat} : CallOK Tryz.prog lo xe18 := orExt_ok (extChunk_ok (P := Tryz.prog) (plans := plansIn plTbl) (ext := xe0) (k := 20000) hb (xe_ok0 hb) part17) (xe_ok17 hb)
theorem xe_ok19 [Sig] (hb : RunBase Tryz.prog (plansIn plTbl)) {lo : Nat} : CallOK Tryz.prog lo xe19 := orExt_ok (extChunk_ok (P := Tryz.prog) (plans := plansIn plTbl) (ext := xe18) (k := 20000) hb (xe_ok18 hb) part18) (xe_ok18 hb)
theorem xe_ok20 [Sig] (hb : RunBase Tryz.prog (plansIn plTbl)) {lo : Nat} : CallOK Tryz.prog lo xe20 := orExt_ok (extChunk_ok (P := Tryz.prog) (plans := plansIn plTbl) (ext := xe0) (k := 20000) hb (xe_ok0 hb) part19) (xe_ok19 hb)
theorem xe_ok21 [Sig] (hb : RunBase Tryz.prog (plansIn plTbl)) {lo : Nat} : CallOK Tryz.prog lo xe21 := orExt_ok (extChunk_ok (P := Tryz.prog) (plans := plansIn plTbl) (ext := xe0) (k := 20000) hb (xe_ok0 hb) part20) (xe_ok20 hb)
theorem xe_ok22 [Sig] (hb : RunBase Tryz.prog (plansIn plTbl)) {lo : Nat} : CallOK Tryz.prog lo xe22 := orExt_ok (extChunk_ok (P := Tryz.prog) (plans := plansIn plTbl) (ext := xe0) (k := 20000) hb (xe_ok0 hb) part21) (xe_ok21 hb)
theorem xe_ok23 [Sig] (hb : RunBase Tryz.prog (plansIn plTbl)) {lo : Nat} : CallOK Tryz.prog lo xe23 := orExt_ok (extChunk_ok (P := Tryz.prog) (plans := plansIn plTbl) (ext := xe0) (k := 20000) hb (xe_ok0 hb) part22) (xe_ok22 hb)
theorem xe_ok24 [Sig] (hb : RunBase Tryz.prog (plansIn plTbl)) {lo : Nat} : CallOK Tryz.prog lo xe24 := orExt_ok (extChunk_ok (P := Tryz.prog) (plans := plansIn plTbl) (ext := xe23) (k := 20000) hb (xe_ok23 hb) part23) (xe_ok23 hb)
theorem xe_ok25 [Sig] (hb : RunBase Tryz.prog (plansIn plTbl)) {lo : Nat} : CallOK Tryz.prog lo xe25 := orExt_ok (extChunk_ok (P := Tryz.prog) (plans := plansIn plTbl) (ext := xe0) (k := 20000) hb (xe_ok0 hb) part24) (xe_ok24 hb)
theorem xe_ok26 [Sig] (hb : RunBase Tryz.prog (plansIn plTbl)) {lo : Nat} : CallOK Tryz.prog lo xe26 := orExt_ok (extChunk_ok (P := Tryz.prog) (plans := plansIn plTbl) (ext := xe0) (k := 20000) hb (xe_ok0 hb) part25) (xe_ok25 hb)
theorem xe_ok27 [Sig] (hb : RunBase Tryz.prog (plansIn plTbl)) {lo : Nat} : CallOK Tryz.prog lo xe27 := orExt_ok (extChunk_ok (P := Tryz.prog) (plans := plansIn plTbl) (ext := xe26) (k := 20000) hb (xe_ok26 hb) part26) (xe_ok26 hb)
theorem xe_ok28 [Sig] (hb : RunBase Tryz.prog (plansIn plTbl)) {lo : Nat} : CallOK Tryz.prog lo xe28 := orExt_ok (extChunk_ok (P := Tryz.prog) (plans := plansIn plTbl) (ext := xe0) (k := 20000) hb (xe_ok0 hb) part27) (xe_ok27 hb)
theorem xe_ok29 [Sig] (hb : RunBase Tryz.prog (plansIn plTbl)) {lo : Nat} : CallOK Tryz.prog lo xe29 := orExt_ok (extChunk_ok (P := Tryz.prog) (plans := plansIn plTbl) (ext := xe0) (k := 20000) hb (xe_ok0 hb) part28) (xe_ok28 hb)
theorem xe_ok30 [Sig] (hb : RunBase Tryz.prog (plansIn plTbl)) {lo : Nat} : CallOK Tryz.prog lo xe30 := orExt_ok (extChunk_ok (P := Tryz.prog) (plans := plansIn plTbl) (ext := xe0) (k := 20000) hb (xe_ok0 hb) part29) (xe_ok29 hb)
theorem xe_ok31 [Sig] (hb : RunBase Tryz.prog (plansIn plTbl)) {lo : Nat} : CallOK Tryz.prog lo xe31 := orExt_ok (extChunk_ok (P := Tryz.prog) (plans := plansIn plTbl) (ext := xe0) (k := 20000) hb (xe_ok0 hb) part30) (xe_ok30 hb)
theorem xe_ok32 [Sig] (hb : RunBase Tryz.prog (plansIn plTbl)) {lo : Nat} : CallOK Tryz.prog lo xe32 := orExt_ok (extChunk_ok (P := Tryz.prog) (plans := plansIn plTbl) (ext := xe0) (k := 20000) hb (xe_ok0 hb) part31) (xe_ok31 hb)
theorem xe_ok33 [Sig] (hb : RunBase Tryz.prog (plansIn plTbl)) {lo : Nat} : CallOK Tryz.prog lo xe33 := orExt_ok (extChunk_ok (P := Tryz.prog) (plans := plansIn plTbl) (ext := xe32) (k := 20000) hb (xe_ok32 hb) part32) (xe_ok32 hb)
theorem xe_ok34 [Sig] (hb : RunBase Tryz.prog (plansIn plTbl)) {lo : Nat} : CallOK Tryz.prog lo xe34 := orExt_ok (extChunk_ok (P := Tryz.prog) (plans := plansIn plTbl) (ext := xe0) (k := 20000) hb (xe_ok0 hb) part33) (xe_ok33 hb)
theorem xe_ok35 [Sig] (hb : RunBase Tryz.prog (plansIn plTbl)) {lo : Nat} : CallOK Tryz.prog lo xe35 := orExt_ok (extChunk_ok (P := Tryz.prog) (plans := plansIn plTbl) (ext := xe34) (k := 20000) hb (xe_ok34 hb) part34) (xe_ok34 hb)
def knownExt : CallA := xe35
theorem knownExt_ok [Sig] (hb : RunBase Tryz.prog (plansIn plTbl)) {lo : Nat} : CallOK Tryz.prog lo knownExt := xe_ok35 hb
theorem known_run : runsTo Tryz.prog (plansIn plTbl) knownExt 20000 6 [] true = true := by decide +kernel
theorem known_ret (w : World) : Ret Tryz.prog 6 #[] w fun V w' => V = .bool true ∧ Ext w w' :=
  letI : Sig := sigOf (plansIn plTbl) [] (by simp) w
  run_bool (P := Tryz.prog) (plans := plansIn plTbl) (ext := knownExt) (k := 20000) (f := 6) (args := []) (Args := []) (w := w) (z := true) rfl (base_ok _ _ _) (knownExt_ok (base_ok _ _ _)) (RelL.nil _) known_run
end Go.Proofs.YtfoabgljfikklaaGreatDoor.varyNone
