/-
  Arguments that are strangers to the run. No condition: these are rules over any program.
-/
import Derived.Test.YtmhpkllajmepjaaGreatFb
namespace Go.Proofs.YtmhpkllajmepjaaGreat.V
/-- So many strangers. -/
def strangers (k n : Nat) : List AV := (List.range' k n).map .o
theorem strangers_rel [Sig] {r : Rho} : ∀ (l : List Value) (k : Nat), (∀ i v, l[i]? = some v → Sig.val (k + i) = v) → RelL r (strangers k l.length) l
  | [], _, _ => RelL.nil r
  | v :: l, k, h => by
    have h1 := strangers_rel (r := r) l (k + 1) fun i u hu => by
      have := h (i + 1) u (by simpa using hu)
      rwa [show k + 1 + i = k + (i + 1) by omega]
    refine RelL.cons ?_ h1
    have := h 0 v rfl
    unfold Rel
    exact this.symm
theorem strangers_sig {l : List Value} {h : ∀ v ∈ l, v.oneCell' = true} {w : World} {r : Rho} : @RelL (sigOf l h w) r (strangers 0 l.length) l :=
  @strangers_rel (sigOf l h w) r l 0 fun i v hi => by simp [Sig.val, List.getD, hi]
theorem rel_agg [Sig] {r : Rho} {l : List AV} {L : List Value} (h : RelL r l L) : Rel r (.g l) (.agg L.toArray) := by
  unfold Rel; exact ⟨L, rfl, h⟩
end Go.Proofs.YtmhpkllajmepjaaGreat.V
