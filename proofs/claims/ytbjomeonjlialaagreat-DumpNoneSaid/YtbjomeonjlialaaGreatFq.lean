/-
  That a plan with very many alternatives goes with every order, in parts. No condition: these are rules over any program.
-/
import Derived.Test.YtbjomeonjlialaaGreatFb
namespace Go.Proofs.YtbjomeonjlialaaGreat.V
def boolSame : Bool → Bool → Bool | true, true => true | false, false => true | _, _ => false
theorem boolSame_eq {a b : Bool} (h : boolSame a b = true) : a = b := by cases a <;> cases b <;> simp_all [boolSame]
def boolsSame : List Bool → List Bool → Bool
  | [], [] => true
  | a :: l, b :: m => match boolSame a b with | true => boolsSame l m | false => false
  | _, _ => false
theorem boolsSame_eq : ∀ {l m : List Bool}, boolsSame l m = true → l = m
  | [], [], _ => rfl
  | [], _ :: _, h => by cases h
  | _ :: _, [], h => by cases h
  | a :: l, b :: m, h => by
    unfold boolsSame at h
    split at h
    · rename_i h1; rw [boolSame_eq h1, boolsSame_eq h]
    · cases h
def planSame : Plan → Plan → Bool
  | .done, .done => true
  | .pure i p, .pure j q => match Nat.beq i j with | true => planSame p q | false => false
  | .read i p, .read j q => match Nat.beq i j with | true => planSame p q | false => false
  | .eff i p, .eff j q => match Nat.beq i j with | true => planSame p q | false => false
  | .alt p p2, .alt q q2 => match planSame p q with | true => planSame p2 q2 | false => false
  | _, _ => false
theorem planSame_eq : ∀ {p q : Plan}, planSame p q = true → p = q := by
  intro p
  induction p with
  | done => intro q h; cases q <;> simp_all [planSame]
  | pure i p ih =>
    intro q h
    cases q <;> simp only [planSame, Bool.false_eq_true] at h
    split at h
    · rename_i h1; rw [Nat.eq_of_beq_eq_true h1, ih h]
    · cases h
  | read i p ih =>
    intro q h
    cases q <;> simp only [planSame, Bool.false_eq_true] at h
    split at h
    · rename_i h1; rw [Nat.eq_of_beq_eq_true h1, ih h]
    · cases h
  | eff i p ih =>
    intro q h
    cases q <;> simp only [planSame, Bool.false_eq_true] at h
    split at h
    · rename_i h1; rw [Nat.eq_of_beq_eq_true h1, ih h]
    · cases h
  | alt p p2 ih ih2 =>
    intro q h
    cases q <;> simp only [planSame, Bool.false_eq_true] at h
    split at h
    · rename_i h1; rw [ih h1, ih2 h]
    · cases h
abbrev PF := List (Nat × List Bool × Plan)
def knownP (fuel : Nat) (listed : List Bool) (p : Plan) : PF → Bool
  | [] => false
  | x :: r => match Nat.beq x.1 fuel, boolsSame x.2.1 listed with
    | true, true => match planSame x.2.2 p with
      | true => true
      | false => knownP fuel listed p r
    | _, _ => knownP fuel listed p r
theorem knownP_spec {fuel : Nat} {listed : List Bool} {p : Plan} : ∀ {F : PF}, knownP fuel listed p F = true → (fuel, listed, p) ∈ F
  | [], h => by cases h
  | x :: r, h => by
    unfold knownP at h
    split at h
    · rename_i h1 h2
      split at h
      · rename_i h3
        have h1 := Nat.eq_of_beq_eq_true h1
        have h2 := boolsSame_eq h2
        have h3 := planSame_eq h3
        obtain ⟨a, b, c⟩ := x
        dsimp only at h1 h2 h3
        subst h1 h2 h3
        exact List.mem_cons_self
      · exact List.mem_cons_of_mem _ (knownP_spec h)
    · exact List.mem_cons_of_mem _ (knownP_spec h)
/-- As covers; what is on the list is known. -/
def coversO (F : PF) (ops : Array Oper) : Nat → Array Bool → Plan → Bool
  | 0, listed, p => covers .any ops 0 listed p
  | fuel + 1, listed, p => match knownP (fuel + 1) listed.toList p F with
    | true => true
    | false => match p with
      | .done => (Region.ready .any ops listed).isEmpty
      | .pure i p => (Region.ready .any ops listed).contains i && freeL .any ops false listed i && coversO F ops fuel (listed.setIfInBounds i true) p
      | .read i p => (Region.ready .any ops listed).contains i && freeL .any ops true listed i && coversO F ops fuel (listed.setIfInBounds i true) p
      | .eff i p => (Region.ready .any ops listed).all (· == i) && (Region.ready .any ops listed).contains i && coversO F ops fuel (listed.setIfInBounds i true) p
      | .alt p q => !(Region.ready .any ops listed).isEmpty && (Region.ready .any ops listed).all fun i => ((Plan.alt p q).heads.find? (fun h => h.1 == i)).any fun h => coversO F ops fuel (listed.setIfInBounds i true) h.2
theorem coversO_spec {F : PF} {ops : Array Oper} (hF : ∀ x ∈ F, covers .any ops x.1 x.2.1.toArray x.2.2 = true) : ∀ (fuel : Nat) (listed : Array Bool) (p : Plan), coversO F ops fuel listed p = true → covers .any ops fuel listed p = true
  | 0, listed, p, h => h
  | fuel + 1, listed, p, h => by
    unfold coversO at h
    split at h
    · rename_i hk
      have := hF _ (knownP_spec hk)
      simpa using this
    · cases p with
      | done => exact h
      | pure i p =>
        simp only [Bool.and_eq_true] at h
        simp only [covers, Bool.and_eq_true]
        exact ⟨h.1, coversO_spec hF _ _ _ h.2⟩
      | read i p =>
        simp only [Bool.and_eq_true] at h
        simp only [covers, Bool.and_eq_true]
        exact ⟨h.1, coversO_spec hF _ _ _ h.2⟩
      | eff i p =>
        simp only [Bool.and_eq_true] at h
        simp only [covers, Bool.and_eq_true]
        exact ⟨h.1, coversO_spec hF _ _ _ h.2⟩
      | alt p q =>
        simp only [Bool.and_eq_true, List.all_eq_true, Option.any_eq_true] at h
        simp only [covers, Bool.and_eq_true, List.all_eq_true, Option.any_eq_true]
        refine ⟨h.1, fun i hi => ?_⟩
        obtain ⟨x, hx, hc⟩ := h.2 i hi
        exact ⟨x, hx, coversO_spec hF _ _ _ hc⟩
/-- The regions of this number that draw. -/
def regsOf (id : Nat) : Code → List (Array Oper)
  | .region j ops true => match Nat.beq j id with | true => [ops] | false => []
  | .seq a b => regsOf id a ++ regsOf id b
  | .cond _ a b => regsOf id a ++ regsOf id b
  | .block _ a => regsOf id a
  | .loop a => regsOf id a
  | .scope a => regsOf id a
  | .rangeFunc _ _ a b => regsOf id a ++ regsOf id b
  | _ => []
/-- As okC; the regions of these numbers are left out. -/
def okC2 (skip : List Nat) (plans : Nat → Nat → Option Plan) (f : Nat) : Code → Bool
  | .region id ops true => match memN id skip with
    | true => true
    | false => match plans f id with
      | some pl => okR ops pl
      | none => true
  | .seq a b => match okC2 skip plans f a with | true => okC2 skip plans f b | false => false
  | .cond _ a b => match okC2 skip plans f a with | true => okC2 skip plans f b | false => false
  | .block _ a => okC2 skip plans f a
  | .loop a => okC2 skip plans f a
  | .scope a => okC2 skip plans f a
  | .rangeFunc _ _ a b => match okC2 skip plans f a with | true => okC2 skip plans f b | false => false
  | _ => true
theorem memN_mem {n : Nat} : ∀ {l : List Nat}, memN n l = true → n ∈ l
  | [], h => by cases h
  | x :: l, h => by
    unfold memN at h
    split at h
    · rename_i h1; rw [Nat.eq_of_beq_eq_true h1]; exact List.mem_cons_self
    · exact List.mem_cons_of_mem _ (memN_mem h)
theorem okC_of {skip : List Nat} {plans : Nat → Nat → Option Plan} {f : Nat} : ∀ (c : Code), okC2 skip plans f c = true → (∀ id ∈ skip, ∀ ops ∈ regsOf id c, ∃ pl, plans f id = some pl ∧ okR ops pl = true) → okC plans f c = true
  | .region id ops true, h, hs => by
    unfold okC2 at h
    unfold okC
    split at h
    · rename_i hm
      obtain ⟨pl, h1, h2⟩ := hs id (memN_mem hm) ops (by simp [regsOf])
      rw [h1]
      exact h2
    · exact h
  | .region id ops false, h, hs => by unfold okC; rfl
  | .seq a b, h, hs => by
    unfold okC2 at h
    unfold okC
    split at h
    · rename_i ha
      rw [okC_of a ha fun id hi ops ho => hs id hi ops (List.mem_append.2 (.inl ho))]
      exact okC_of b h fun id hi ops ho => hs id hi ops (List.mem_append.2 (.inr ho))
    · cases h
  | .cond _ a b, h, hs => by
    unfold okC2 at h
    unfold okC
    split at h
    · rename_i ha
      rw [okC_of a ha fun id hi ops ho => hs id hi ops (List.mem_append.2 (.inl ho))]
      exact okC_of b h fun id hi ops ho => hs id hi ops (List.mem_append.2 (.inr ho))
    · cases h
  | .rangeFunc _ _ a b, h, hs => by
    unfold okC2 at h
    unfold okC
    split at h
    · rename_i ha
      rw [okC_of a ha fun id hi ops ho => hs id hi ops (List.mem_append.2 (.inl ho))]
      exact okC_of b h fun id hi ops ho => hs id hi ops (List.mem_append.2 (.inr ho))
    · cases h
  | .block _ a, h, hs => by unfold okC2 at h; unfold okC; exact okC_of a h hs
  | .loop a, h, hs => by unfold okC2 at h; unfold okC; exact okC_of a h hs
  | .scope a, h, hs => by unfold okC2 at h; unfold okC; exact okC_of a h hs
  | .skip, _, _ | .label _, _, _ | .exit _, _, _ | .ret, _, _ | .goto _, _, _ | .refuse _, _, _ => by unfold okC; rfl
section
variable {P : Program} {plans : Nat → Nat → Option Plan}
def bodyOf (P : Program) (f : Nat) : Code := match P.funcs[f]? with
  | some fn => match fn.body with
    | some c => c
    | none => .skip
  | none => .skip
/-- A part of a plan goes with every order, in all regions of this number; what is on the list is known. -/
def partOk (P : Program) (f id : Nat) (F : PF) (fuel : Nat) (listed : List Bool) (p : Plan) : Bool := (regsOf id (bodyOf P f)).all fun ops => coversO F ops fuel listed.toArray p
/-- The whole plan does. -/
def wholeOk (P : Program) (f id : Nat) (F : PF) (p : Plan) : Bool := (regsOf id (bodyOf P f)).all fun ops => Region.noSelect ops && coversO F ops ops.size (Array.replicate ops.size false) p
def AllOk (P : Program) (f id : Nat) (F : PF) : Prop := ∀ x ∈ F, ∀ ops ∈ regsOf id (bodyOf P f), covers .any ops x.1 x.2.1.toArray x.2.2 = true
theorem allOk_nil {f id : Nat} : AllOk P f id [] := fun x hx => by cases hx
theorem allOk_cons {f id fuel : Nat} {F : PF} {listed : List Bool} {p : Plan} (hF : AllOk P f id F) (h : partOk P f id F fuel listed p = true) : AllOk P f id ((fuel, listed, p) :: F) := by
  intro x hx ops ho
  rcases List.mem_cons.1 hx with rfl | hx
  · unfold partOk at h
    rw [List.all_eq_true] at h
    exact coversO_spec (fun y hy => hF y hy ops ho) _ _ _ (h ops ho)
  · exact hF x hx ops ho
theorem whole_ok {f id : Nat} {F : PF} {p : Plan} (hF : AllOk P f id F) (h : wholeOk P f id F p = true) : ∀ ops ∈ regsOf id (bodyOf P f), okR ops p = true := by
  intro ops ho
  unfold wholeOk at h
  rw [List.all_eq_true] at h
  have := h ops ho
  rw [Bool.and_eq_true] at this
  unfold okR
  rw [this.1]
  exact coversO_spec (fun y hy => hF y hy ops ho) _ _ _ this.2
theorem okB_of {f : Nat} {skip : List Nat} (h : okC2 skip plans f (bodyOf P f) = true) (hs : ∀ id ∈ skip, ∀ ops ∈ regsOf id (bodyOf P f), ∃ pl, plans f id = some pl ∧ okR ops pl = true) : okB P plans f = true := by
  have := okC_of (bodyOf P f) h hs
  unfold okB
  unfold bodyOf at this
  split
  · rename_i fn hf
    simp only [hf] at this
    split
    · rename_i c hc
      simp only [hc] at this
      exact this
    · rfl
  · rfl
end
end Go.Proofs.YtbjomeonjlialaaGreat.V
