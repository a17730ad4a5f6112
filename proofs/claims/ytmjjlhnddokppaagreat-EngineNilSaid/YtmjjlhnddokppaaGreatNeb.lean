/-
  What the law EngineNil computes. Condition: the call's parts are as the reading of the arguments gives them.
-/
import Derived.Test.YtmjjlhnddokppaaGreatNea
import Derived.Test.YtmjjlhnddokppaaGreatKe
import Derived.Test.YtmjjlhnddokppaaGreatFg
namespace Go.Proofs.YtmjjlhnddokppaaGreat.engineNil
open Go.Proofs.YtmjjlhnddokppaaGreat.V

def noneExt (z : Bool) : CallA := orExt (extAt 9 [] (.b true)) (extAt 12 [.g (strangers 1 10)] (.b z))
def noneArgs : List AV := [.o 0, .g (strangers 1 10), .o 11]
theorem none_run1 : runsTo Tryz.prog (plansIn plTbl) (noneExt true) 20000 4 noneArgs true = true := by decide +kernel
theorem none_run0 : runsTo Tryz.prog (plansIn plTbl) (noneExt false) 20000 4 noneArgs true = true := by decide +kernel

theorem none_ret (v0 : Value) (v2 : Value)  (c : Cmd) (l : List Value) (w : World) (hV : CmdW w l c) (h1 : ∀ v ∈ ([v0] ++ l ++ [v2]), v.oneCell' = true) :
    Ret Tryz.prog 4 [v0, .agg l.toArray, v2].toArray w fun V w' => V = .bool true ∧ Ext w w' := by
  have hlen := hV.length
  obtain ⟨F, hF⟩ : ∃ F, F = ([v0] ++ l ++ [v2]) := ⟨_, rfl⟩
  rw [← hF] at h1
  letI : Sig := sigOf (plansIn plTbl) F h1 w
  have hA : ∀ r : Rho, RelL r noneArgs [v0, .agg l.toArray, v2] := fun r => RelL.cons (strangers_one (strangers_mid (pre := []) (post := (l ++ [v2])) (by simp [hF]) (by simp [hlen]) (by simp [hlen]))) (RelL.cons (rel_agg (strangers_mid (pre := [v0]) (post := [v2]) (by simp [hF]) (by simp [hlen]) (by simp [hlen]))) (RelL.cons (strangers_one (strangers_mid (pre := ([v0] ++ l)) (post := []) (by simp [hF]) (by simp [hlen]) (by simp [hlen]))) (RelL.nil r)))
  have hL0 : ∀ r : Rho, RelL r [.g (strangers 1 10)] [.agg l.toArray] := fun r => RelL.cons (rel_agg (strangers_mid (pre := [v0]) (post := [v2]) (by simp [hF]) (by simp [hlen]) (by simp [hlen]))) (RelL.nil r)
  have hL : ∀ z : Bool, (z = true ↔ LightC c) → CallOK Tryz.prog w.heap.size (noneExt z) := fun z hz =>
    orExt_ok (extTrue_ok known_ret) (extAt_ok fun r w1 Args hArgs _ hold => by
      have := RelL.det _ (by decide) hArgs (hL0 r)
      subst this
      refine (light_ret  c l w1 (hV.old hold)).mono ?_
      rintro V w' ⟨⟨z', rfl, hz'⟩, hE⟩
      refine ⟨?_, hE⟩
      have : z' = z := by
        have : z' = true ↔ z = true := hz'.trans hz.symm
        revert this
        cases z <;> cases z' <;> simp
      subst this
      unfold Rel
      rfl)
  by_cases hz : LightC c
  · exact run_bool (P := Tryz.prog) (plans := plansIn plTbl) (ext := noneExt true) (k := 20000) (args := noneArgs) (Args := [v0, .agg l.toArray, v2]) (w := w) (z := true) rfl (base_ok _ _ _) (hL true (by simp [hz])) (hA _) none_run1
  · exact run_bool (P := Tryz.prog) (plans := plansIn plTbl) (ext := noneExt false) (k := 20000) (args := noneArgs) (Args := [v0, .agg l.toArray, v2]) (w := w) (z := true) rfl (base_ok _ _ _) (hL false (by simp [hz])) (hA _) none_run0
end Go.Proofs.YtmjjlhnddokppaaGreat.engineNil
