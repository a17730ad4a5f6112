/-
  Arguments that are strangers to the run. No condition: these are rules over any program.
-/
import Derived.Test.YtbjomeonjlialaaGreatFb
namespace Go.Proofs.YtbjomeonjlialaaGreat.V
/-- So many strangers. -/
def strangers (k n : Nat) : List AV := (List.range' k n).map .o
theorem strangers_rel [Sig] {r : Rho} : ∀ (l : List Value) (k : Nat), (∀ i v, l[i]? = some v → Sig.val (k + i) = v) → RelL r (strangers k l.length) l
  | [], _, _ => RelL.nil r
  | v :: l, k, h => by
    have h1 := strangers_rel (r := r) l (k + 1) fun i u hu => by
      have := h (i + 1) u (by simpa using hu)
      rwa [show k + 1 + i = k + (i + 1) by omega]
    refine RelL.cons ?_ h1
    have := h 0 v rfl
    unfold Rel
    exact this.symm
theorem strangers_sig {l : List Value} {h : ∀ v ∈ l, v.oneCell' = true} {w : World} {r : Rho} {plans : Nat → Nat → Option Plan} : @RelL (sigOf plans l h w) r (strangers 0 l.length) l :=
  @strangers_rel (sigOf plans l h w) r l 0 fun i v hi => by simp [Sig.val, List.getD, hi]
theorem strangers_mid {F pre l post : List Value} {h : ∀ v ∈ F, v.oneCell' = true} {w : World} {r : Rho} {k n : Nat} {plans : Nat → Nat → Option Plan} (hF : F = pre ++ (l ++ post)) (hk : pre.length = k) (hn : l.length = n) : @RelL (sigOf plans F h w) r (strangers k n) l := by
  subst hk hn
  refine @strangers_rel (sigOf plans F h w) r l pre.length fun i v hi => ?_
  have : F[pre.length + i]? = some v := by
    rw [hF, List.getElem?_append_right (by omega), Nat.add_sub_cancel_left, List.getElem?_append_left (List.getElem?_eq_some_iff.1 hi).1, hi]
  simp [Sig.val, List.getD, this]
theorem strangers_one [Sig] {r : Rho} {k : Nat} {v : Value} (h : RelL r (strangers k 1) [v]) : Rel r (.o k) v := by
  obtain ⟨A, M, hA, h1, _⟩ := h.of_cons
  cases hA
  exact h1
theorem rel_agg [Sig] {r : Rho} {l : List AV} {L : List Value} (h : RelL r l L) : Rel r (.g l) (.agg L.toArray) := by
  unfold Rel; exact ⟨L, rfl, h⟩
end Go.Proofs.YtbjomeonjlialaaGreat.V
