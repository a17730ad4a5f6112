/-
  What the law TxnNone computes. Condition: the call's parts are as the reading of the arguments gives them.
-/
import Derived.Test.YtnclbmfbegbbnaaGreatNta
import Derived.Test.YtnclbmfbegbbnaaGreatKt
import Derived.Test.YtnclbmfbegbbnaaGreatFg
namespace Go.Proofs.YtnclbmfbegbbnaaGreat.txnNone
open Go.Proofs.YtnclbmfbegbbnaaGreat.V

def noneExt (z : Bool) : CallA := orExt (extAt 5 [] (.b true)) (extAt 4 [.g (strangers 0 14)] (.b z))
def noneArgs : List AV := [.g (strangers 0 14)]
theorem none_run1 : runsTo Tryz.prog (plansIn plTbl) (noneExt true) 20000 3 noneArgs true = true := by decide +kernel
theorem none_run0 : runsTo Tryz.prog (plansIn plTbl) (noneExt false) 20000 3 noneArgs true = true := by decide +kernel

theorem none_ret (v0 : Value) (v1 : Value) (v2 : Value) (s3 : List UInt8) (c : Cmd) (l : List Value) (w : World) (hV : CmdW w l c) (h1 : ∀ v ∈ ([v0, v1, v2, str s3] ++ l), v.oneCell' = true) :
    Ret Tryz.prog 3 [.agg (v0 :: v1 :: v2 :: (str s3) :: l).toArray].toArray w fun V w' => V = .bool true ∧ Ext w w' := by
  have hlen := hV.length
  obtain ⟨F, hF⟩ : ∃ F, F = ([v0, v1, v2, str s3] ++ l) := ⟨_, rfl⟩
  rw [← hF] at h1
  letI : Sig := sigOf (plansIn plTbl) F h1 w
  have hA : ∀ r : Rho, RelL r noneArgs [.agg (v0 :: v1 :: v2 :: (str s3) :: l).toArray] := fun r => RelL.cons (rel_agg (strangers_mid (pre := []) (post := []) (by simp [hF]) (by simp [hlen]) (by simp [hlen]))) (RelL.nil r)
  have hL0 : ∀ r : Rho, RelL r [.g (strangers 0 14)] [.agg (v0 :: v1 :: v2 :: (str s3) :: l).toArray] := fun r => RelL.cons (rel_agg (strangers_mid (pre := []) (post := []) (by simp [hF]) (by simp [hlen]) (by simp [hlen]))) (RelL.nil r)
  have hL : ∀ z : Bool, (z = true ↔ LightC c ∧ s3.length ≤ 300) → CallOK Tryz.prog w.heap.size (noneExt z) := fun z hz =>
    orExt_ok (extTrue_ok known_ret) (extAt_ok fun r w1 Args hArgs _ hold => by
      have := RelL.det _ (by decide) hArgs (hL0 r)
      subst this
      refine (light_ret v0 v1 v2 s3 c l w1 (hV.old hold)).mono ?_
      rintro V w' ⟨⟨z', rfl, hz'⟩, hE⟩
      refine ⟨?_, hE⟩
      have : z' = z := by
        have : z' = true ↔ z = true := hz'.trans hz.symm
        revert this
        cases z <;> cases z' <;> simp
      subst this
      unfold Rel
      rfl)
  by_cases hz : LightC c ∧ s3.length ≤ 300
  · exact run_bool (P := Tryz.prog) (plans := plansIn plTbl) (ext := noneExt true) (k := 20000) (args := noneArgs) (Args := [.agg (v0 :: v1 :: v2 :: (str s3) :: l).toArray]) (w := w) (z := true) rfl (base_ok _ _ _) (hL true (by simp [hz])) (hA _) none_run1
  · exact run_bool (P := Tryz.prog) (plans := plansIn plTbl) (ext := noneExt false) (k := 20000) (args := noneArgs) (Args := [.agg (v0 :: v1 :: v2 :: (str s3) :: l).toArray]) (w := w) (z := true) rfl (base_ok _ _ _) (hL false (by simp [hz])) (hA _) none_run0
end Go.Proofs.YtnclbmfbegbbnaaGreat.txnNone
