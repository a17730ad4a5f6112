/-
  A long run in parts: what a run says of a call from a state that is written out may be told from outside to another run. No condition: these are rules over any program.
-/
import Derived.Test.YtbjomeonjlialaaGreatFb
namespace Go.Proofs.YtbjomeonjlialaaGreat.V
section
variable {P : Program} {plans : Nat → Nat → Option Plan} {ext : CallA}
def putsT (H : Tr AB) : List (Nat × AB) → Tr AB
  | [] => H
  | (k, a) :: r => putsT (H.put k a) r
/-- The run's word for a call from this state is this value and that state. -/
def chunkOk (P : Program) (plans : Nat → Nat → Option Plan) (ext : CallA) (k g : Nat) (args : List AV) (H : Tr AB) (next : Nat) (v : AV) (H' : Tr AB) (next' : Nat) : Bool :=
  match evText P plans ext k g args ⟨.e, H, next, []⟩ with
  | some (u, s) => match sameV u v, Tr.same AB.same s.H H', Nat.beq s.next next' with
    | true, true, true => true
    | _, _, _ => false
  | none => false
def extChunk (g : Nat) (args : List AV) (H : Tr AB) (next : Nat) (v : AV) (H' : Tr AB) (next' : Nat) : CallA := fun f ys st =>
  match Nat.beq f g, Nat.beq st.next next with
  | true, true => match sameVs ys args, Tr.same AB.same st.H H with
    | true, true => some (v, ⟨.e, H', next', []⟩)
    | _, _ => none
  | _, _ => none
theorem extChunk_ok [Sig] {lo k g next next' : Nat} {args : List AV} {H H' : Tr AB} {v : AV} (hb : RunBase P plans) (hext : CallOK P lo ext) (h : chunkOk P plans ext k g args H next v H' next' = true) :
    CallOK P lo (extChunk g args H next v H' next') := by
  intro f ys st u st' he r w Args hA hs
  unfold extChunk at he
  split at he
  · rename_i h1 h2
    split at he
    · rename_i h3 h4
      cases he
      have h1 := Nat.eq_of_beq_eq_true h1
      have h3 := sameVs_eq h3
      have h4 := Tr.same_eq (fun _ _ h => AB.same_eq h) h4
      subst h1 h3
      unfold chunkOk at h
      split at h
      · rename_i u s hev
        split at h
        · rename_i k1 k2 k3
          have k1 := sameV_eq k1
          have k2 := Tr.same_eq (fun _ _ h => AB.same_eq h) k2
          subst k1
          have := hb.call hext k f ys ⟨.e, H, next, []⟩ _ s hev r w Args hA (by rw [← h4]; exact hs)
          rw [k2] at this
          exact this
        · cases h
      · cases h
    · cases he
  · cases he
end
end Go.Proofs.YtbjomeonjlialaaGreat.V
