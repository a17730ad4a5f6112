/-
  A copy of a map, as maps.Clone hands it back: the reckoned run's word for it holds. Condition: the program has this function and its callee.
-/
import Derived.Test.YtbjomeonjlialaaGreatFb
import Derived.Test.YtbjomeonjlialaaGreatFacts
import Derived.Shelf.SlMaps.Clone
namespace Go.Proofs.YtbjomeonjlialaaGreat.V
open Go.RowKit Go.Maps Go.Shelf
section
variable {P : Program} {ρ : Ren}
/-- A copy of a map. -/
def extClone (fc : Nat) : CallA := fun g args st => match Nat.beq g fc, args with
  | true, [.m b] => match st.H.get b with
    | some (.map es clock) => st.new (.map es clock) (.m st.next)
    | _ => none
  | true, [.m0] => some (.m0, st)
  | _, _ => none
theorem extClone_ok [Sig] (L : SlLaysW.n5 P ρ) (lo : Nat) : CallOK P lo (extClone (ρ.f 5)) := by
  intro g args st v st' h r w Args hArgs hs
  unfold extClone at h
  split at h
  · rename_i b hg
    have hg := Nat.eq_of_beq_eq_true hg
    subst hg
    obtain ⟨A, M, rfl, hA, hM⟩ := hArgs.of_cons
    have := hM.of_nil
    subst this
    unfold Rel at hA
    obtain ⟨B2, K2, hr2, rfl⟩ := hA
    split at h
    · rename_i es clock hmap
      obtain ⟨_, E, hE, hB⟩ := hs.here hmap hr2
      unfold ST.new at h
      split at h
      · rename_i hfree
        cases h
        unfold Ret
        refine (AnyW.maps_Clone L B2 E.toArray clock w hB).mono ?_
        rintro e w' ⟨rfl, rfl⟩
        have hx : Ext w (w.alloc (.map E.toArray clock)) := Ext.alloc w _
        have hle0 := Rho.le.set (hs.free _ hfree) (w.heap.size, 0)
        obtain ⟨hle, hsat⟩ := hs.newTop (K := 0) (ab := .map es clock) hfree hx ⟨E, hE.mono hle0, heap_alloc_new w _⟩
        refine ⟨_, rfl, _, hle, ?_, hsat, modLo hx⟩
        unfold Rel
        exact ⟨w.heap.size, 0, Rho.set_same _ _ _, rfl⟩
      · cases h
    · cases h
  · rename_i hg
    have hg := Nat.eq_of_beq_eq_true hg
    subst hg
    cases h
    obtain ⟨A, M, rfl, hA, hM⟩ := hArgs.of_cons
    have := hM.of_nil
    subst this
    unfold Rel at hA
    subst hA
    unfold Ret
    refine (AnyW.maps_Clone_nil L w).mono ?_
    rintro e w' ⟨rfl, rfl⟩
    exact ⟨_, rfl, r, Rho.le.refl r, by unfold Rel; rfl, hs, Mod.refl _⟩
  · cases h
end
end Go.Proofs.YtbjomeonjlialaaGreat.V
