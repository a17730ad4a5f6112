/-
  What the law on nil hubs and receivers computes. Condition: the call's parts are as the reading of the argument gives them.
-/
import Derived.Test.YtmhpkllajmepjaaGreatFd
import Derived.Test.YtmhpkllajmepjaaGreatKn
import Derived.Test.YtmhpkllajmepjaaGreatFg
namespace Go.Proofs.YtmhpkllajmepjaaGreat.V

def noneExt (z : Bool) : CallA := orExt (extAt 6 [] (.b true)) (extAt 16 [.g (strangers 0 15)] (.b z))
theorem none_run1 : runsTo Tryz.prog (plansIn plTbl) (noneExt true) 20000 5 [.g (strangers 0 15)] true = true := by decide +kernel
theorem none_run0 : runsTo Tryz.prog (plansIn plTbl) (noneExt false) 20000 5 [.g (strangers 0 15)] true = true := by decide +kernel

theorem none_ret (v0 v1 v2 v3 : Value) (nm : List UInt8) (c : Cmd) (l : List Value) (w : World) (hV : CmdW w l c) (h1 : ∀ v ∈ v0 :: v1 :: v2 :: v3 :: str nm :: l, v.oneCell' = true) :
    Ret Tryz.prog 5 #[.agg (v0 :: v1 :: v2 :: v3 :: str nm :: l).toArray] w fun V w' => V = .bool true ∧ Ext w w' := by
  have hlen : (v0 :: v1 :: v2 :: v3 :: str nm :: l).length = 15 := by have := hV.length; simp [this]
  generalize hcs : v0 :: v1 :: v2 :: v3 :: str nm :: l = cells at h1 hlen ⊢
  letI : Sig := sigOf cells h1 w
  have hA : ∀ r : Rho, RelL r [.g (strangers 0 15)] [.agg cells.toArray] := fun r => RelL.cons (rel_agg (by have := strangers_sig (l := cells) (h := h1) (w := w) (r := r); rwa [hlen] at this)) (RelL.nil r)
  have hL : ∀ z : Bool, (z = true ↔ LightC c ∧ nm.length ≤ 300) → CallOK Tryz.prog w.heap.size (noneExt z) := fun z hz =>
    orExt_ok (extTrue_ok known_ret) (extAt_ok fun r w1 Args hArgs _ hold => by
      have := RelL.det _ (by decide) hArgs (hA r)
      subst this
      rw [← hcs]
      refine (light_ret v0 v1 v2 v3 nm c l w1 (hV.old hold)).mono ?_
      rintro V w' ⟨⟨z', rfl, hz'⟩, hE⟩
      refine ⟨?_, hE⟩
      have : z' = z := by
        have : z' = true ↔ z = true := hz'.trans hz.symm
        revert this
        cases z <;> cases z' <;> simp
      subst this
      unfold Rel
      rfl)
  by_cases hz : LightC c ∧ nm.length ≤ 300
  · exact run_bool (P := Tryz.prog) (plans := plansIn plTbl) (ext := noneExt true) (k := 20000) (args := [.g (strangers 0 15)]) (Args := [.agg cells.toArray]) (w := w) (z := true) rfl mixed plans_ok (hL true (by simp [hz])) (hA _) none_run1
  · exact run_bool (P := Tryz.prog) (plans := plansIn plTbl) (ext := noneExt false) (k := 20000) (args := [.g (strangers 0 15)]) (Args := [.agg cells.toArray]) (w := w) (z := true) rfl mixed plans_ok (hL false (by simp [hz])) (hA _) none_run0
end Go.Proofs.YtmhpkllajmepjaaGreat.V
