/-
  A contract is shown by a run: what comes of the text is compared with what is told; equations between terms are left. No condition: these are rules over any program.
-/
import Derived.Test.YtbjomeonjlialaaGreatZba
set_option linter.unusedVariables false
set_option linter.unusedSimpArgs false
namespace Go.Proofs.YtbjomeonjlialaaGreat.V.S
structure Eqn where
  k : Nat
  a : SE
  b : SE
structure QS where
  m : Mt
  q : List Eqn
def QS.bindB (z : QS) (i b : Nat) : Option QS := match z.m.bindB i b with
  | some m => some ⟨m, z.q⟩
  | none => none
def QS.matchE (k : Nat) (z : QS) (p e : SE) : Option QS := match p with
  | .at i => match z.m.bindA i e with
    | some m => some ⟨m, z.q⟩
    | none => match (SE.at i).bound z.m with
      | true => some ⟨z.m, ⟨k, (SE.at i).sub z.m.se, e⟩ :: z.q⟩
      | false => none
  | p => match p.bound z.m, SE.same (p.sub z.m.se) e with
    | true, true => some z
    | true, false => some ⟨z.m, ⟨k, p.sub z.m.se, e⟩ :: z.q⟩
    | false, _ => none
mutual
def QS.matchV (z : QS) : AV → AV → Option QS
  | .xi k p, a => match a.int? with
    | some (k2, e) => match kindEq k k2 with | true => QS.matchE 0 z p e | false => none
    | none => none
  | .xb p, a => match a.bool? with
    | some e => QS.matchE 1 z p e
    | none => none
  | .xs p, a => match a.str? with
    | some e => QS.matchE 2 z p e
    | none => none
  | .xv fs p, a => match a with
    | .xv gs e => match SK.sames fs gs with | true => QS.matchE 3 z p e | false => none
    | .sl0 => QS.matchE 3 z p .nl
    | _ => none
  | .xw p, a => match a with
    | .xw e => QS.matchE 3 z p e
    | .sl0 => QS.matchE 3 z p .nb
    | _ => none
  | .p b o, a => match a with
    | .p b2 o2 => match Nat.beq o o2 with | true => z.bindB b b2 | false => none
    | _ => none
  | .m b, a => match a with
    | .m b2 => z.bindB b b2
    | _ => none
  | .sl b o e n c, a => match a with
    | .sl b2 o2 e2 n2 c2 => match Nat.beq o o2, Nat.beq e e2, Nat.beq n n2, capSame c c2 with | true, true, true, true => z.bindB b b2 | _, _, _, _ => none
    | _ => none
  | .g l, a => match a with
    | .g l2 => z.matchL l l2
    | _ => none
  | .t l, a => match a with
    | .t l2 => z.matchL l l2
    | _ => none
  | .f f cs, a => match a with
    | .f f2 cs2 => match Nat.beq f f2 with | true => z.matchL cs cs2 | false => none
    | _ => none
  | .b x, a => match sameV (.b x) a with | true => some z | false => none
  | .i k n, a => match sameV (.i k n) a with | true => some z | false => none
  | .s l, a => match sameV (.s l) a with | true => some z | false => none
  | .o i, a => match sameV (.o i) a with | true => some z | false => none
  | .p0, a => match sameV .p0 a with | true => some z | false => none
  | .sl0, a => match sameV .sl0 a with | true => some z | false => none
  | .nf, a => match sameV .nf a with | true => some z | false => none
  | .m0, a => match sameV .m0 a with | true => some z | false => none
  | .n0, a => match sameV .n0 a with | true => some z | false => none
  | _, _ => none
def QS.matchL (z : QS) : List AV → List AV → Option QS
  | [], a => match a with
    | [] => some z
    | _ :: _ => none
  | p :: l, a => match a with
    | [] => none
    | x :: r => match z.matchV p x with
      | some z2 => z2.matchL l r
      | none => none
end
def QS.matchB (z : QS) : AB → AB → Option QS
  | .row c, .row d => z.matchL c d
  | .own el sz c, .own el2 sz2 d => match Nat.beq el el2, Nat.beq sz sz2 with | true, true => z.matchL c d | _, _ => none
  | .ro c, .ro d => z.matchL c d
  | .map [] k, .map [] k2 => match Nat.beq k k2 with | true => some z | false => none
  | _, _ => none
def QS.matchH (z : QS) (H : Tr AB) : List (Nat × AB) → Option QS
  | [] => some z
  | (b, ab) :: l => match z.m.b.get b with
    | some b2 => match H.get b2 with
      | some ab2 => match z.matchB ab ab2 with
        | some z2 => z2.matchH H l
        | none => none
      | none => none
    | none => none
section
variable {X : Type} [Spec X]
def Eqn.proj (k : Nat) (d d2 : D X) : Prop := match k with
  | 0 => d.int = d2.int
  | 1 => d.tr = d2.tr
  | 2 => d.str = d2.str
  | _ => d = d2
end
theorem proj_refl {X : Type} {k : Nat} {d : D X} : Eqn.proj k d d := by
  unfold Eqn.proj
  split <;> rfl
section
variable {X : Type} [Spec X] {P : Program} {lo : Nat} {r : Rho X} {w : World}
def EqOK (s : Val X) (q : Eqn) : Prop := ∃ d d2, den s q.a = some d ∧ den s q.b = some d2 ∧ Eqn.proj q.k d d2
def EqsOK (s : Val X) (l : List Eqn) : Prop := ∀ q ∈ l, EqOK s q
end
def QLe (z z' : QS) : Prop := z.m.le z'.m ∧ ∀ q ∈ z.q, q ∈ z'.q
theorem QLe.refl (z : QS) : QLe z z := ⟨Mt.le.refl _, fun _ h => h⟩
theorem QLe.trans {a b c : QS} (h : QLe a b) (k : QLe b c) : QLe a c := ⟨h.1.trans k.1, fun q hq => k.2 q (h.2 q hq)⟩
theorem bindQ_spec {z z' : QS} {i c : Nat} (h : z.bindB i c = some z') : QLe z z' ∧ i < z.m.n ∧ z'.m.b.get i = some c := by
  unfold QS.bindB at h
  split at h
  · rename_i m hm
    cases h
    obtain ⟨h1, h2, h3⟩ := bindB_spec hm
    exact ⟨⟨h1, fun _ h => h⟩, h2, h3⟩
  · cases h
section
variable {X : Type} [Spec X] {P : Program} {lo : Nat} {r : Rho X} {w : World}
theorem matchQE_ok {k : Nat} {z z' : QS} {p e : SE} (h : QS.matchE k z p e = some z') : QLe z z' ∧ ∀ mF : Mt, z'.m.le mF → EqsOK r.at' z'.q → ∀ d, den r.at' e = some d → ∃ d2, den (mF.rho r).at' p = some d2 ∧ Eqn.proj k d2 d := by
  have eqn : ∀ p : SE, p.bound z.m = true → z' = ⟨z.m, ⟨k, p.sub z.m.se, e⟩ :: z.q⟩ → QLe z z' ∧ ∀ mF : Mt, z'.m.le mF → EqsOK r.at' z'.q → ∀ d, den r.at' e = some d → ∃ d2, den (mF.rho r).at' p = some d2 ∧ Eqn.proj k d2 d := by
    intro p hb e1
    subst e1
    refine ⟨⟨Mt.le.refl _, fun q hq => List.mem_cons_of_mem _ hq⟩, fun mF hF hq d hd => ?_⟩
    obtain ⟨d2, d3, k1, k2, k3⟩ := hq _ List.mem_cons_self
    obtain ⟨h1, h2⟩ := bound_mono hF hb
    refine ⟨d2, by rw [den_rho h1, h2]; exact k1, ?_⟩
    have k2 : den r.at' e = some d3 := k2
    rw [hd] at k2
    cases k2
    exact k3
  have gen : ∀ p : SE, (match p.bound z.m, SE.same (p.sub z.m.se) e with | true, true => some z | true, false => some ⟨z.m, ⟨k, p.sub z.m.se, e⟩ :: z.q⟩ | false, _ => none) = some z' → QLe z z' ∧ ∀ mF : Mt, z'.m.le mF → EqsOK r.at' z'.q → ∀ d, den r.at' e = some d → ∃ d2, den (mF.rho r).at' p = some d2 ∧ Eqn.proj k d2 d := by
    intro p h
    split at h
    · rename_i hb hs
      cases h
      refine ⟨QLe.refl z, fun mF hF hq d hd => ⟨d, ?_, proj_refl⟩⟩
      obtain ⟨h1, h2⟩ := bound_mono hF hb
      rw [den_rho h1, h2, SE.same_eq hs]
      exact hd
    · rename_i hb hs
      cases h
      exact eqn p hb rfl
    · cases h
  cases p with
  | «at» i =>
    simp only [QS.matchE] at h
    split at h
    · rename_i m hm
      cases h
      obtain ⟨h1, h2, h3⟩ := bindA_spec hm
      refine ⟨⟨h1, fun _ h => h⟩, fun mF hF hq d hd => ⟨d, ?_, proj_refl⟩⟩
      have hn : i < mF.n := by
        rw [hF.n]
        show i < m.n
        rw [h1.n]
        exact h2
      simp only [den, Mt.rho, if_pos hn, hF.a _ _ h3, Option.bind_some]
      exact hd
    · split at h
      · rename_i hb
        cases h
        exact eqn (.at i) hb rfl
      · cases h
  | li n => exact gen _ h
  | lb b => exact gen _ h
  | ls l => exact gen _ h
  | op o a b => exact gen _ h
  | nl => exact gen _ h
  | nb => exact gen _ h
mutual
theorem matchQV_ok [Sig] : ∀ (p : AV) {a : AV} {z z' : QS}, z.matchV p a = some z' → QLe z z' ∧ ∀ (mF : Mt) (V : Value), z'.m.le mF → EqsOK r.at' z'.q → Rel r a V → Rel (mF.rho r) p V
  | .xi k p, a, z, z', h => by
    simp only [QS.matchV] at h
    split at h
    · rename_i k2 e hi
      split at h
      · rename_i hk
        have hk := kindEq_eq hk
        subst hk
        obtain ⟨h1, h2⟩ := matchQE_ok (r := r) h
        refine ⟨h1, fun mF V hF hq hV => ?_⟩
        obtain ⟨d, h3, rfl⟩ := int?_rel hi hV
        obtain ⟨d2, h4, h5⟩ := h2 mF hF hq d h3
        exact mk_xi h4 (by rw [show d2.int = d.int from h5])
      · cases h
    · cases h
  | .xb p, a, z, z', h => by
    simp only [QS.matchV] at h
    split at h
    · rename_i e hi
      obtain ⟨h1, h2⟩ := matchQE_ok (r := r) h
      refine ⟨h1, fun mF V hF hq hV => ?_⟩
      obtain ⟨d, h3, rfl⟩ := bool?_rel hi hV
      obtain ⟨d2, h4, h5⟩ := h2 mF hF hq d h3
      exact mk_xb h4 (by rw [show d2.tr = d.tr from h5])
    · cases h
  | .xs p, a, z, z', h => by
    simp only [QS.matchV] at h
    split at h
    · rename_i e hi
      obtain ⟨h1, h2⟩ := matchQE_ok (r := r) h
      refine ⟨h1, fun mF V hF hq hV => ?_⟩
      obtain ⟨d, h3, rfl⟩ := str?_rel hi hV
      obtain ⟨d2, h4, h5⟩ := h2 mF hF hq d h3
      exact mk_xs h4 (by rw [show d2.str = d.str from h5])
    · cases h
  | .xv fs p, a, z, z', h => by
    simp only [QS.matchV] at h
    split at h
    · rename_i gs e
      split at h
      · rename_i hs
        have hs := skSames_eq hs
        subst hs
        obtain ⟨h1, h2⟩ := matchQE_ok (r := r) h
        refine ⟨h1, fun mF V hF hq hV => ?_⟩
        obtain ⟨d, h3, h4⟩ := rel_xv hV
        obtain ⟨d2, h6, h5⟩ := h2 mF hF hq d h3
        have h5 : d2 = d := h5
        subst h5
        unfold Rel
        exact ⟨_, h6, h4.rho⟩
      · cases h
    · obtain ⟨h1, h2⟩ := matchQE_ok (r := r) h
      refine ⟨h1, fun mF V hF hq hV => ?_⟩
      rw [rel_sl0 hV]
      obtain ⟨d2, h6, h5⟩ := h2 mF hF hq _ rfl
      have h5 := (show d2 = _ from h5)
      subst h5
      unfold Rel
      exact ⟨_, h6, nil_rel⟩
    · cases h
  | .xw p, a, z, z', h => by
    simp only [QS.matchV] at h
    split at h
    · rename_i e
      obtain ⟨h1, h2⟩ := matchQE_ok (r := r) h
      refine ⟨h1, fun mF V hF hq hV => ?_⟩
      obtain ⟨d, h3, h4⟩ := rel_xw hV
      obtain ⟨d2, h6, h5⟩ := h2 mF hF hq d h3
      have h5 : d2 = d := h5
      subst h5
      unfold Rel
      exact ⟨_, h6, h4.rho⟩
    · obtain ⟨h1, h2⟩ := matchQE_ok (r := r) h
      refine ⟨h1, fun mF V hF hq hV => ?_⟩
      rw [rel_sl0 hV]
      obtain ⟨d2, h6, h5⟩ := h2 mF hF hq _ rfl
      have h5 := (show d2 = _ from h5)
      subst h5
      unfold Rel
      exact ⟨_, h6, nilb_rel⟩
    · cases h
  | .p b o, a, z, z', h => by
    simp only [QS.matchV] at h
    split at h
    · rename_i b2 o2
      split at h
      · rename_i ho
        rw [Nat.eq_of_beq_eq_true ho]
        obtain ⟨h1, h2, h3⟩ := bindQ_spec h
        refine ⟨h1, fun mF V hF hq hV => ?_⟩
        obtain ⟨B, K, h4, rfl⟩ := rel_p hV
        exact mk_p (rho_blk (by rw [hF.n, h1.1.n]; exact h2) (hF.b _ _ h3) h4)
      · cases h
    · cases h
  | .m b, a, z, z', h => by
    simp only [QS.matchV] at h
    split at h
    · rename_i b2
      obtain ⟨h1, h2, h3⟩ := bindQ_spec h
      refine ⟨h1, fun mF V hF hq hV => ?_⟩
      obtain ⟨B, K, h4, rfl⟩ := rel_m hV
      unfold Rel
      exact ⟨B, K, rho_blk (by rw [hF.n, h1.1.n]; exact h2) (hF.b _ _ h3) h4, rfl⟩
    · cases h
  | .sl b o e n c, a, z, z', h => by
    simp only [QS.matchV] at h
    split at h
    · rename_i b2 o2 e2 n2 c2
      split at h
      · rename_i q1 q2 q3 q4
        rw [Nat.eq_of_beq_eq_true q1, Nat.eq_of_beq_eq_true q2, Nat.eq_of_beq_eq_true q3]
        have q4 : c = c2 := by
          cases c <;> cases c2 <;> first | rfl | (simp only [capSame, Bool.false_eq_true] at q4) | skip
          rw [Nat.eq_of_beq_eq_true q4]
        subst q4
        obtain ⟨h1, h2, h3⟩ := bindQ_spec h
        refine ⟨h1, fun mF V hF hq hV => ?_⟩
        obtain ⟨B, K, h4, rfl, h5⟩ := rel_sl hV
        exact mk_sl (rho_blk (by rw [hF.n, h1.1.n]; exact h2) (hF.b _ _ h3) h4) h5
      · cases h
    · cases h
  | .g l, a, z, z', h => by
    simp only [QS.matchV] at h
    split at h
    · rename_i l2
      obtain ⟨h1, h2⟩ := matchQL_ok l h
      refine ⟨h1, fun mF V hF hq hV => ?_⟩
      obtain ⟨L, rfl, hL⟩ := rel_g hV
      exact mk_g (h2 mF L hF hq hL)
    · cases h
  | .t l, a, z, z', h => by
    simp only [QS.matchV] at h
    split at h
    · rename_i l2
      obtain ⟨h1, h2⟩ := matchQL_ok l h
      refine ⟨h1, fun mF V hF hq hV => ?_⟩
      obtain ⟨L, rfl, hL⟩ := rel_t hV
      exact mk_t (h2 mF L hF hq hL)
    · cases h
  | .f f cs, a, z, z', h => by
    simp only [QS.matchV] at h
    split at h
    · rename_i f2 cs2
      split at h
      · rename_i hf
        rw [Nat.eq_of_beq_eq_true hf]
        obtain ⟨h1, h2⟩ := matchQL_ok cs h
        refine ⟨h1, fun mF V hF hq hV => ?_⟩
        obtain ⟨L, rfl, hL⟩ := rel_f hV
        exact mk_f (h2 mF L hF hq hL)
      · cases h
    · cases h
  | .b x, a, z, z', h => by
    simp only [QS.matchV] at h
    split at h
    · rename_i hs
      cases h
      have := sameV_eq hs
      subst this
      exact ⟨QLe.refl z, fun mF V _ _ hV => by rw [rel_b hV]; exact mk_b x⟩
    · cases h
  | .i k n, a, z, z', h => by
    simp only [QS.matchV] at h
    split at h
    · rename_i hs
      cases h
      have := sameV_eq hs
      subst this
      exact ⟨QLe.refl z, fun mF V _ _ hV => by rw [rel_i hV]; exact mk_i k n⟩
    · cases h
  | .s l, a, z, z', h => by
    simp only [QS.matchV] at h
    split at h
    · rename_i hs
      cases h
      have := sameV_eq hs
      subst this
      exact ⟨QLe.refl z, fun mF V _ _ hV => by obtain ⟨rfl, h1⟩ := rel_s hV; exact mk_s h1⟩
    · cases h
  | .o i, a, z, z', h => by
    simp only [QS.matchV] at h
    split at h
    · rename_i hs
      cases h
      have := sameV_eq hs
      subst this
      exact ⟨QLe.refl z, fun mF V _ _ hV => by unfold Rel at hV ⊢; exact hV⟩
    · cases h
  | .p0, a, z, z', h => by
    simp only [QS.matchV] at h
    split at h
    · rename_i hs
      cases h
      have := sameV_eq hs
      subst this
      exact ⟨QLe.refl z, fun mF V _ _ hV => by unfold Rel at hV ⊢; exact hV⟩
    · cases h
  | .sl0, a, z, z', h => by
    simp only [QS.matchV] at h
    split at h
    · rename_i hs
      cases h
      have := sameV_eq hs
      subst this
      exact ⟨QLe.refl z, fun mF V _ _ hV => by unfold Rel at hV ⊢; exact hV⟩
    · cases h
  | .nf, a, z, z', h => by
    simp only [QS.matchV] at h
    split at h
    · rename_i hs
      cases h
      have := sameV_eq hs
      subst this
      exact ⟨QLe.refl z, fun mF V _ _ hV => by unfold Rel at hV ⊢; exact hV⟩
    · cases h
  | .m0, a, z, z', h => by
    simp only [QS.matchV] at h
    split at h
    · rename_i hs
      cases h
      have := sameV_eq hs
      subst this
      exact ⟨QLe.refl z, fun mF V _ _ hV => by unfold Rel at hV ⊢; exact hV⟩
    · cases h
  | .n0, a, z, z', h => by
    simp only [QS.matchV] at h
    split at h
    · rename_i hs
      cases h
      have := sameV_eq hs
      subst this
      exact ⟨QLe.refl z, fun mF V _ _ hV => by unfold Rel at hV ⊢; exact hV⟩
    · cases h
  | .se, _, _, _, h => by simp [QS.matchV] at h
  | .ez .., _, _, _, h => by simp [QS.matchV] at h
  | .fb .., _, _, _, h => by simp [QS.matchV] at h
  | .y _, _, _, _, h => by simp [QS.matchV] at h
  | .it .., _, _, _, h => by simp [QS.matchV] at h
  | .xq .., _, _, _, h => by simp [QS.matchV] at h
theorem matchQL_ok [Sig] : ∀ (p : List AV) {a : List AV} {z z' : QS}, z.matchL p a = some z' → QLe z z' ∧ ∀ (mF : Mt) (L : List Value), z'.m.le mF → EqsOK r.at' z'.q → RelL r a L → RelL (mF.rho r) p L
  | [], a, z, z', h => by
    simp only [QS.matchL] at h
    split at h
    · cases h
      exact ⟨QLe.refl z, fun mF L _ _ hL => by rw [hL.of_nil]; exact RelL.nil _⟩
    · cases h
  | p :: l, a, z, z', h => by
    simp only [QS.matchL] at h
    split at h
    · cases h
    · split at h
      · rename_i z2 h2
        obtain ⟨h3, h4⟩ := matchQV_ok p h2
        obtain ⟨h5, h6⟩ := matchQL_ok l h
        refine ⟨h3.trans h5, fun mF L hF hq hL => ?_⟩
        obtain ⟨A, M, rfl, k1, k2⟩ := hL.of_cons
        exact RelL.cons (h4 mF A (h5.1.trans hF) (fun q hq' => hq q (h5.2 q hq')) k1) (h6 mF M hF hq k2)
      · cases h
end
end
end Go.Proofs.YtbjomeonjlialaaGreat.V.S
