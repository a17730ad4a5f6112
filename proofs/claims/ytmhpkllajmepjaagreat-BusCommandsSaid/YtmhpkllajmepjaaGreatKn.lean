/-
  The examples of the chapter hold: the law's function known returns true, wherever it is called, and changes nothing that was there. No condition.
-/
import Derived.Test.YtmhpkllajmepjaaGreatLays
import Derived.Test.YtmhpkllajmepjaaGreatPl
namespace Go.Proofs.YtmhpkllajmepjaaGreat.V
theorem known_run : runsTo Tryz.prog (plansIn plTbl) (extKeys 51 53 3) 20000 6 [] true = true := by decide +kernel
theorem known_ret (w : World) : Ret Tryz.prog 6 #[] w fun V w' => V = .bool true ∧ Ext w w' :=
  letI : Sig := sigOf [] (by simp) w
  run_bool (P := Tryz.prog) (plans := plansIn plTbl) (ext := extKeys 51 53 3) (k := 20000) (f := 6) (args := []) (Args := []) (w := w) (z := true) rfl (by kernel_rfl) plans_ok (ext_keys _) (RelL.nil _) known_run
end Go.Proofs.YtmhpkllajmepjaaGreat.V
