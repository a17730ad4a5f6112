/-
  What the law ModelNil computes. Condition: the command's and the response's parts are as the reading of the arguments gives them.
-/
import Derived.Test.YtlgkghmkkohadaaGreatNma
import Derived.Test.YtlgkghmkkohadaaGreatFr
import Derived.Test.YtlgkghmkkohadaaGreatKm
import Derived.Test.YtlgkghmkkohadaaGreatFg
namespace Go.Proofs.YtlgkghmkkohadaaGreat.modelNil
open Go.Proofs.YtlgkghmkkohadaaGreat.V

def noneExt (z y : Bool) : CallA := orExt (extAt 7 [] (.b true)) (orExt (extAt 10 [.g (strangers 1 10)] (.b z)) (extAt 11 [.g (strangers 11 6)] (.b y)))
def noneArgs : List AV := [.o 0, .g (strangers 1 10), .g (strangers 11 6)]
theorem none_run11 : runsTo Tryz.prog (plansIn plTbl) (noneExt true true) 20000 4 noneArgs true = true := by decide +kernel
theorem none_run10 : runsTo Tryz.prog (plansIn plTbl) (noneExt true false) 20000 4 noneArgs true = true := by decide +kernel
theorem none_run01 : runsTo Tryz.prog (plansIn plTbl) (noneExt false true) 20000 4 noneArgs true = true := by decide +kernel
theorem none_run00 : runsTo Tryz.prog (plansIn plTbl) (noneExt false false) 20000 4 noneArgs true = true := by decide +kernel

theorem none_ret (v0 : Value) (c : Cmd) (l r : List Value) (ll : List Nat) (kk : Nat) (w : World) (hV : CmdW w l c) (hR : RespW w r ll kk) (h1 : ∀ v ∈ ([v0] ++ l ++ r), v.oneCell' = true) :
    Ret Tryz.prog 4 [v0, .agg l.toArray, .agg r.toArray].toArray w fun V w' => V = .bool true ∧ Ext w w' := by
  have hlen := hV.length
  have hlen2 := hR.length
  obtain ⟨F, hF⟩ : ∃ F, F = ([v0] ++ l ++ r) := ⟨_, rfl⟩
  rw [← hF] at h1
  letI : Sig := sigOf (plansIn plTbl) F h1 w
  have hA : ∀ q : Rho, RelL q noneArgs [v0, .agg l.toArray, .agg r.toArray] := fun q => RelL.cons (strangers_one (strangers_mid (pre := []) (post := (l ++ r)) (by simp [hF]) (by simp [hlen]) (by simp [hlen]))) (RelL.cons (rel_agg (strangers_mid (pre := [v0]) (post := r) (by simp [hF]) (by simp [hlen]) (by simp [hlen]))) (RelL.cons (rel_agg (strangers_mid (pre := ([v0] ++ l)) (post := []) (by simp [hF]) (by simp [hlen]) (by simp [hlen2]))) (RelL.nil q)))
  have hL0 : ∀ q : Rho, RelL q [.g (strangers 1 10)] [.agg l.toArray] := fun q => RelL.cons (rel_agg (strangers_mid (pre := [v0]) (post := r) (by simp [hF]) (by simp [hlen]) (by simp [hlen]))) (RelL.nil q)
  have hS0 : ∀ q : Rho, RelL q [.g (strangers 11 6)] [.agg r.toArray] := fun q => RelL.cons (rel_agg (strangers_mid (pre := ([v0] ++ l)) (post := []) (by simp [hF]) (by simp [hlen]) (by simp [hlen2]))) (RelL.nil q)
  have hL : ∀ z y : Bool, (z = true ↔ LightC c) → (y = true ↔ SlightR ll kk) → CallOK Tryz.prog w.heap.size (noneExt z y) := fun z y hz hy =>
    orExt_ok (extTrue_ok known_ret) (orExt_ok (extAt_ok fun q w1 Args hArgs _ hold => by
      have := RelL.det _ (by decide) hArgs (hL0 q)
      subst this
      refine (light_ret c l w1 (hV.old hold)).mono ?_
      rintro V w' ⟨⟨z', rfl, hz'⟩, hE⟩
      refine ⟨?_, hE⟩
      have : z' = z := by
        have : z' = true ↔ z = true := hz'.trans hz.symm
        revert this
        cases z <;> cases z' <;> simp
      subst this
      unfold Rel
      rfl) (extAt_ok fun q w1 Args hArgs _ hold => by
      have := RelL.det _ (by decide) hArgs (hS0 q)
      subst this
      refine (slight_ret r ll kk w1 (hR.old hold)).mono ?_
      rintro V w' ⟨⟨z', rfl, hz'⟩, hE⟩
      refine ⟨?_, hE⟩
      have : z' = y := by
        have : z' = true ↔ y = true := hz'.trans hy.symm
        revert this
        cases y <;> cases z' <;> simp
      subst this
      unfold Rel
      rfl))
  by_cases hz : LightC c <;> by_cases hy : SlightR ll kk
  · exact run_bool (P := Tryz.prog) (plans := plansIn plTbl) (ext := noneExt true true) (k := 20000) (args := noneArgs) (Args := [v0, .agg l.toArray, .agg r.toArray]) (w := w) (z := true) rfl (base_ok _ _ _) (hL true true (by simp [hz]) (by simp [hy])) (hA _) none_run11
  · exact run_bool (P := Tryz.prog) (plans := plansIn plTbl) (ext := noneExt true false) (k := 20000) (args := noneArgs) (Args := [v0, .agg l.toArray, .agg r.toArray]) (w := w) (z := true) rfl (base_ok _ _ _) (hL true false (by simp [hz]) (by simp [hy])) (hA _) none_run10
  · exact run_bool (P := Tryz.prog) (plans := plansIn plTbl) (ext := noneExt false true) (k := 20000) (args := noneArgs) (Args := [v0, .agg l.toArray, .agg r.toArray]) (w := w) (z := true) rfl (base_ok _ _ _) (hL false true (by simp [hz]) (by simp [hy])) (hA _) none_run01
  · exact run_bool (P := Tryz.prog) (plans := plansIn plTbl) (ext := noneExt false false) (k := 20000) (args := noneArgs) (Args := [v0, .agg l.toArray, .agg r.toArray]) (w := w) (z := true) rfl (base_ok _ _ _) (hL false false (by simp [hz]) (by simp [hy])) (hA _) none_run00
end Go.Proofs.YtlgkghmkkohadaaGreat.modelNil
