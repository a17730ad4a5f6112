/-
  A loop by what stays so from round to round is what it says. No condition: these are rules over any program.
-/
import Derived.Test.YtbjomeonjlialaaGreatZay
set_option linter.unusedVariables false
set_option linter.unusedSimpArgs false
namespace Go.Proofs.YtbjomeonjlialaaGreat.V.S
structure Back {X : Type} (r r' r2 : Rho X) : Prop where
  le : r.le r'
  b : ∀ b x, r b = some x → r2 b = some x
  a : ∀ i d, r.at' i = some d → r2.at' i = some d
  f : ∀ k o, r'.fz k = some o → r2.fz k = some o
theorem Back.blk {X : Type} {r r' r2 : Rho X} (h : Back r r' r2) {b : Nat} {x y : Nat × Nat} (h0 : r b = some x) (h1 : r' b = some y) : r2 b = some y := by
  rw [h.le.b _ _ h0] at h1
  cases h1
  exact h.b _ _ h0
theorem CRel.refl (ce : List (Nat × Nat × AV)) (b : Nat) (c : List AV) : CRel ce b c c := ⟨rfl, fun _ _ h => .inr h⟩
theorem BRel.row' {ce : List (Nat × Nat × AV)} {b : Nat} {ab : AB} {c1 : List AV} (h : BRel ce b ab (.row c1)) : ∃ c, ab = .row c ∧ CRel ce b c c1 := by
  cases h with
  | row h => exact ⟨_, rfl, h⟩
  | same => exact ⟨_, rfl, CRel.refl _ _ _⟩
theorem BRel.own' {ce : List (Nat × Nat × AV)} {b e s : Nat} {ab : AB} {c1 : List AV} (h : BRel ce b ab (.own e s c1)) : ∃ c, ab = .own e s c ∧ CRel ce b c c1 := by
  cases h with
  | own h => exact ⟨_, rfl, h⟩
  | same => exact ⟨_, rfl, CRel.refl _ _ _⟩
theorem BRel.ro' {ce : List (Nat × Nat × AV)} {b : Nat} {ab : AB} {c1 : List AV} (h : BRel ce b ab (.ro c1)) : ∃ c, ab = .ro c ∧ CRel ce b c c1 := by
  cases h with
  | ro h => exact ⟨_, rfl, h⟩
  | same => exact ⟨_, rfl, CRel.refl _ _ _⟩
theorem BRel.wr {ce : List (Nat × Nat × AV)} {b : Nat} {ab ab1 : AB} (h : BRel ce b ab ab1) : (ab1.wr = true → ab.wr = true) ∧ (ab1.live = true → ab.live = true) := by
  cases h <;> first | exact ⟨id, id⟩ | exact ⟨fun h => (by cases h), fun h => (by cases h)⟩
section
variable {X : Type} [Spec X] {P : Program} {lo : Nat} {r r' r2 : Rho X} {w : World}
theorem den_back {a a' a2 : Val X} (h : ∀ i d, a i = some d → a' i = some d) (k : ∀ i d, a i = some d → a2 i = some d) {e : SE} {d0 d : D X} (h0 : den a e = some d0) (h1 : den a' e = some d) : den a2 e = some d := by
  rw [den_mono h h0] at h1
  cases h1
  exact den_mono k h0
theorem den_two {f g : Nat → SE} {a a' : Val X} {oa : Nat → Bool} (h : ∀ j, oa j = true → ∃ d, den a (f j) = some d ∧ den a' (g j) = some d) : ∀ {c : SE}, c.okN oa = true → ∃ d, den a (c.sub f) = some d ∧ den a' (c.sub g) = some d
  | .at i, hc => h i hc
  | .li _, _ => ⟨_, rfl, rfl⟩
  | .lb _, _ => ⟨_, rfl, rfl⟩
  | .ls _, _ => ⟨_, rfl, rfl⟩
  | .nl, _ => ⟨_, rfl, rfl⟩
  | .nb, _ => ⟨_, rfl, rfl⟩
  | .op o s t, hc => by
    simp only [SE.okN] at hc
    split at hc
    · rename_i hs
      obtain ⟨x, h1, h2⟩ := den_two h hs
      obtain ⟨y, h3, h4⟩ := den_two h hc
      exact ⟨_, den_op h1 h3, den_op h2 h4⟩
    · cases hc
mutual
theorem Rel.back [Sig] (h : Back r r' r2) : ∀ (a : AV) {V0 V : Value}, Rel r a V0 → Rel r' a V → Rel r2 a V
  | .b _, _, _, _, k | .i _ _, _, _, _, k | .s _, _, _, _, k | .p0, _, _, _, k | .sl0, _, _, _, k | .se, _, _, _, k | .nf, _, _, _, k | .m0, _, _, _, k | .n0, _, _, _, k | .o _, _, _, _, k => by unfold Rel at k ⊢; exact k
  | .p b o, V0, V, k0, k => by
    obtain ⟨B0, K0, g1, _⟩ := rel_p k0
    obtain ⟨B, K, h1, h2⟩ := rel_p k
    unfold Rel
    exact ⟨B, K, h.blk g1 h1, h2⟩
  | .ez b o d e c, V0, V, k0, k => by
    obtain ⟨B0, K0, g1, _⟩ := rel_ez k0
    obtain ⟨B, K, h1, h2⟩ := rel_ez k
    unfold Rel
    exact ⟨B, K, h.blk g1 h1, h2⟩
  | .sl b o e n c, V0, V, k0, k => by
    obtain ⟨B0, K0, g1, _⟩ := rel_sl k0
    obtain ⟨B, K, h1, h2⟩ := rel_sl k
    unfold Rel
    exact ⟨B, K, h.blk g1 h1, h2⟩
  | .m b, V0, V, k0, k => by
    obtain ⟨B0, K0, g1, _⟩ := rel_m k0
    obtain ⟨B, K, h1, h2⟩ := rel_m k
    unfold Rel
    exact ⟨B, K, h.blk g1 h1, h2⟩
  | .y b, V0, V, k0, k => by
    unfold Rel at k0 k
    obtain ⟨B0, K0, g1, _⟩ := k0
    obtain ⟨B, K, h1, h2⟩ := k
    unfold Rel
    exact ⟨B, K, h.blk g1 h1, h2⟩
  | .f f cs, V0, V, k0, k => by
    obtain ⟨L0, _, g2⟩ := rel_f k0
    obtain ⟨L, h1, h2⟩ := rel_f k
    unfold Rel
    exact ⟨L, h1, RelL.back h cs g2 h2⟩
  | .fb f fs cs, V0, V, k0, k => by
    obtain ⟨L0, M0, _, g2, g3⟩ := rel_fb k0
    obtain ⟨L, M, h1, h2, h3⟩ := rel_fb k
    unfold Rel
    exact ⟨L, M, h1, RelL.back h fs g2 h2, RelL.back h cs g3 h3⟩
  | .g l, V0, V, k0, k => by
    obtain ⟨L0, _, g2⟩ := rel_g k0
    obtain ⟨L, h1, h2⟩ := rel_g k
    unfold Rel
    exact ⟨L, h1, RelL.back h l g2 h2⟩
  | .t l, V0, V, k0, k => by
    obtain ⟨L0, _, g2⟩ := rel_t k0
    obtain ⟨L, h1, h2⟩ := rel_t k
    unfold Rel
    exact ⟨L, h1, RelL.back h l g2 h2⟩
  | .it t v, V0, V, k0, k => by
    unfold Rel at k0 k
    obtain ⟨U0, _, g2⟩ := k0
    obtain ⟨U, h1, h2⟩ := k
    unfold Rel
    exact ⟨U, h1, Rel.back h v g2 h2⟩
  | .xi _ _, V0, V, k0, k => by
    obtain ⟨d0, g1, _⟩ := rel_xi k0
    obtain ⟨d, h1, h2⟩ := rel_xi k
    unfold Rel
    exact ⟨d, den_back h.le.a h.a g1 h1, h2⟩
  | .xb _, V0, V, k0, k => by
    obtain ⟨d0, g1, _⟩ := rel_xb k0
    obtain ⟨d, h1, h2⟩ := rel_xb k
    unfold Rel
    exact ⟨d, den_back h.le.a h.a g1 h1, h2⟩
  | .xs _, V0, V, k0, k => by
    obtain ⟨d0, g1, _⟩ := rel_xs k0
    obtain ⟨d, h1, h2⟩ := rel_xs k
    unfold Rel
    exact ⟨d, den_back h.le.a h.a g1 h1, h2⟩
  | .xv _ _, V0, V, k0, k => by
    obtain ⟨d0, g1, _⟩ := rel_xv k0
    obtain ⟨d, h1, h2⟩ := rel_xv k
    unfold Rel
    exact ⟨d, den_back h.le.a h.a g1 h1, RelK.fzq h.f _ h2⟩
  | .xw _, V0, V, k0, k => by
    obtain ⟨d0, g1, _⟩ := rel_xw k0
    obtain ⟨d, h1, h2⟩ := rel_xw k
    unfold Rel
    exact ⟨d, den_back h.le.a h.a g1 h1, RelK.fzq h.f _ h2⟩
  | .xq _ _ _ _, V0, V, k0, k => by
    obtain ⟨d0, dj0, _, _, _, g1, g2, _⟩ := rel_xq k0
    obtain ⟨d, dj, B, q, c, h1, h2, h3, h4, h5, h6⟩ := rel_xq k
    unfold Rel
    exact ⟨d, dj, B, q, c, den_back h.le.a h.a g1 h1, den_back h.le.a h.a g2 h2, h3, h4, RelK.fzq h.f _ h5, h6⟩
theorem RelL.back [Sig] (h : Back r r' r2) : ∀ (l : List AV) {L0 L : List Value}, RelL r l L0 → RelL r' l L → RelL r2 l L
  | [], _, _, _, k => by rw [k.of_nil]; exact RelL.nil _
  | a :: l, _, _, k0, k => by
    obtain ⟨_, _, _, g1, g2⟩ := k0.of_cons
    obtain ⟨A, M, rfl, h1, h2⟩ := k.of_cons
    exact RelL.cons (Rel.back h a g1 h1) (RelL.back h l g2 h2)
end
def MV [Sig] (r : Rho X) (m : Mt) (p a : AV) : Prop := ∀ V, Rel r a V → Rel (m.rho r) p V
theorem matchS_ok [Sig] {T : Tr AV} : ∀ {l : List (Nat × AV)} {m m' : Mt}, matchS m T l = some m' → m.le m' ∧ (∀ x ∈ l, ∃ a, T.get x.1 = some a ∧ ∀ mF, m'.le mF → MV r mF x.2 a) ∧ ∀ {e : Env}, EnvR r e T → Defd r m → Defd r m'
  | [], m, m', h => by
    simp only [matchS, Option.some.injEq] at h
    subst h
    exact ⟨Mt.le.refl m, fun x hx => (by simp at hx), fun _ h => h⟩
  | (t, p) :: l, m, m', h => by
    simp only [matchS] at h
    split at h
    · rename_i a ha
      split at h
      · rename_i m2 h2
        obtain ⟨k1, k2⟩ := matchV_ok (r := r) p h2
        obtain ⟨k3, k4, k5⟩ := matchS_ok (l := l) h
        refine ⟨k1.trans k3, fun x hx => ?_, fun {e} hE hm => k5 hE ?_⟩
        · rcases List.mem_cons.1 hx with rfl | hx
          · exact ⟨a, ha, fun mF hF V hV => k2 mF V (k3.trans hF) hV⟩
          · exact k4 x hx
        · obtain ⟨A, _, hA⟩ := hE t a ha
          exact matchV_def p h2 hA hm
      · cases h
    · cases h
theorem cellB_rel [Sig] {H : Tr AB} {b i : Nat} {a : AV} (hs : Sat lo r H w) (h : cellB H b i = some a) : ∃ V, Rel r a V := by
  unfold cellB at h
  split at h
  · rename_i ab hab
    split at h
    · rename_i c hc
      obtain ⟨B, K, _, _, hh⟩ := hs.row b ab hab
      obtain ⟨L, hL, _⟩ := hh.cells hc
      rw [nthV_eq] at h
      obtain ⟨A, _, hA⟩ := hL.get i h
      exact ⟨A, hA⟩
    · cases h
  · cases h
theorem matchC_ok [Sig] {H : Tr AB} : ∀ {l : List (Nat × Nat × AV)} {m m' : Mt}, matchC m H l = some m' → m.le m' ∧ (∀ x ∈ l, ∃ a, cellB H x.1 x.2.1 = some a ∧ ∀ mF, m'.le mF → MV r mF x.2.2 a) ∧ (Sat lo r H w → Defd r m → Defd r m')
  | [], m, m', h => by
    simp only [matchC, Option.some.injEq] at h
    subst h
    exact ⟨Mt.le.refl m, fun x hx => (by simp at hx), fun _ h => h⟩
  | (b, i, p) :: l, m, m', h => by
    simp only [matchC] at h
    split at h
    · rename_i a ha
      split at h
      · rename_i m2 h2
        obtain ⟨k1, k2⟩ := matchV_ok (r := r) p h2
        obtain ⟨k3, k4, k5⟩ := matchC_ok (l := l) h
        refine ⟨k1.trans k3, fun x hx => ?_, fun hs hm => k5 hs ?_⟩
        · rcases List.mem_cons.1 hx with rfl | hx
          · exact ⟨a, ha, fun mF hF V hV => k2 mF V (k3.trans hF) hV⟩
          · exact k4 x hx
        · obtain ⟨A, hA⟩ := cellB_rel hs ha
          exact matchV_def p h2 hA hm
      · cases h
    · cases h
theorem LP.get_rel [Sig] {st : ST} {e : Env} (hE : EnvR r e st.T) (hs : Sat lo r st.H w) : ∀ {p : LP} {a : AV}, p.get st = some a → ∃ V, Rel r a V
  | .s t, a, h => let ⟨A, _, hA⟩ := hE t a h; ⟨A, hA⟩
  | .c p o, a, h => by
    simp only [LP.get] at h
    split at h
    · split at h
      · exact cellB_rel hs h
      · cases h
    · cases h
theorem matchP_ok [Sig] {st : ST} {e : Env} (hE : EnvR r e st.T) (hs : Sat lo r st.H w) : ∀ {l : List (LP × AV)} {m m' : Mt}, matchP m st l = some m' → m.le m' ∧ (Defd r m → Defd r m')
  | [], m, m', h => by
    simp only [matchP, Option.some.injEq] at h
    subst h
    exact ⟨Mt.le.refl m, fun h => h⟩
  | (q, p) :: l, m, m', h => by
    simp only [matchP] at h
    split at h
    · rename_i a ha
      split at h
      · rename_i m2 h2
        obtain ⟨k1, _⟩ := matchV_ok (r := r) p h2
        obtain ⟨k3, k5⟩ := matchP_ok hE hs (l := l) h
        obtain ⟨A, hA⟩ := LP.get_rel hE hs ha
        exact ⟨k1.trans k3, fun hm => k5 (matchV_def p h2 hA hm)⟩
      · cases h
    · cases h
def RG (r : Rho X) (fz : Nat → Option Obj) (next ng : Nat) (g : Nat → D X) : Rho X :=
  ⟨fun b => if next ≤ b ∧ b < next + ng then some (0, 0) else r b, fz, fun i => if next ≤ i ∧ i < next + ng then some (g i) else r.at' i⟩
section
variable [Sig] {st s : ST} {T1 : Tr AV} {H1 : Tr AB} {next ng : Nat} {sl : List (Nat × AV)} {ce : List (Nat × Nat × AV)} {e0 e' : Env} {w0 w' : World} {m m2 : Mt}
def AB.plain : AB → Bool
  | .row _ => true
  | .own _ _ _ => true
  | .ro _ => true
  | .map [] _ => true
  | .dead => true
  | _ => false
structure GenH (lo : Nat) (r : Rho X) (e0 : Env) (w0 : World) (st : ST) (T1 : Tr AV) (H1 : Tr AB) (next ng : Nat) (sl : List (Nat × AV)) (ce : List (Nat × Nat × AV)) : Prop where
  env : EnvR r e0 st.T
  sat : Sat lo r st.H w0
  free : ∀ j, j < ng → st.H.get (next + j) = none
  slok : ∀ x ∈ sl, x.2.okN (fun _ => false) (fun j => Nat.blt j ng) = true
  ceok : ∀ x ∈ ce, x.2.2.okN (fun _ => false) (fun j => Nat.blt j ng) = true
  T : ∀ t a, T1.get t = some a → (t, a) ∈ gens next sl ∨ st.T.get t = some a
  H : ∀ b, ((next ≤ b ∧ b < next + ng) ∧ H1.get b = some .dead) ∨ (¬ (next ≤ b ∧ b < next + ng) ∧ ((st.H.get b = none ∧ H1.get b = none) ∨ ∃ ab ab1, st.H.get b = some ab ∧ H1.get b = some ab1 ∧ BRel (gensC next ce) b ab ab1))
structure GenS (lo : Nat) (r r' : Rho X) (e' : Env) (w0 w' : World) (st s : ST) (T1 : Tr AV) (H1 : Tr AB) (next ng : Nat) (sl : List (Nat × AV)) (ce : List (Nat × Nat × AV)) (m2 : Mt) : Prop where
  le : r.le r'
  env : EnvR r' e' s.T
  sat : Sat lo r' s.H w'
  frm : FrmC r st.H w0 r' s.H w'
  dfd : Defd r' m2
  n : ng ≤ m2.n
  slm : ∀ x ∈ sl, ∃ a, s.T.get x.1 = some a ∧ MV r' m2 x.2 a
  cem : ∀ x ∈ ce, ∃ a, cellB s.H x.1 x.2.1 = some a ∧ MV r' m2 x.2.2 a
  T : ∀ t a, T1.get t = some a → (t, a) ∈ gens next sl ∨ s.T.get t = some a
  H : ∀ b ab1, H1.get b = some ab1 → ab1 = .dead ∨ ∃ ab', s.H.get b = some ab' ∧ BRel (gensC next ce) b ab' ab1 ∧ (r' = r ∨ ab1.plain = true)
def gOf (r' : Rho X) (m2 : Mt) (next : Nat) (i : Nat) : D X := (den r'.at' (m2.se (i - next))).getD (.i 0)
theorem GenH.le2 (h : GenH lo r e0 w0 st T1 H1 next ng sl ce) {r' : Rho X} (hf : ∀ k o, r.fz k = some o → r'.fz k = some o) (g : Nat → D X) : r.le (RG r r'.fz next ng g) := by
  have key : ∀ b, next ≤ b ∧ b < next + ng → r b = none ∧ r.at' b = none := fun b hb => by
    have := h.free (b - next) (by omega)
    rw [show next + (b - next) = b by omega] at this
    exact h.sat.free b this
  refine ⟨fun b x hx => ?_, fun k o ho => hf k o ho, fun i d hd => ?_⟩
  · simp only [RG]
    by_cases hb : next ≤ b ∧ b < next + ng
    · rw [(key b hb).1] at hx; cases hx
    · rw [if_neg hb]; exact hx
  · simp only [RG]
    by_cases hb : next ≤ i ∧ i < next + ng
    · rw [(key i hb).2] at hd; cases hd
    · rw [if_neg hb]; exact hd
theorem GenS.back (h : GenH lo r e0 w0 st T1 H1 next ng sl ce) (k : GenS lo r r' e' w0 w' st s T1 H1 next ng sl ce m2) : Back r r' (RG r r'.fz next ng (gOf r' m2 next)) :=
  have hl := h.le2 (r' := r') k.le.f (gOf r' m2 next)
  ⟨k.le, hl.b, hl.a, fun _ _ h => h⟩
theorem GenS.gen (k : GenS lo r r' e' w0 w' st s T1 H1 next ng sl ce m2) {p a : AV} (hp : p.okN (fun _ => false) (fun j => Nat.blt j ng) = true) (hm : MV r' m2 p a) {V : Value} (hV : Rel r' a V) : Rel (RG r r'.fz next ng (gOf r' m2 next)) (genV next p) V := by
  have hren : Ren (m2.rho r') (RG r r'.fz next ng (gOf r' m2 next)) (fun b => b) (fun j => .at (next + j)) (fun _ => false) (fun j => Nat.blt j ng) := by
   refine ⟨fun b x hb => (by cases hb), fun i d hi hd => ?_, fun _ _ h => h⟩
   have hi : i < ng := Nat.le_of_ble_eq_true hi
   simp only [den, RG]
   rw [if_pos (by omega)]
   simp only [gOf, show next + i - next = i by omega]
   simp only [Mt.rho] at hd
   rw [if_pos (Nat.lt_of_lt_of_le hi k.n)] at hd
   cases hg : m2.a.get i with
   | none => rw [hg] at hd; cases hd
   | some e =>
     rw [hg] at hd
     simp only [Option.bind_some] at hd
     simp only [Mt.se, hg, hd, Option.getD_some]
  exact Rel.sub hren p hp (hm V hV)
theorem GenS.env2 (h : GenH lo r e0 w0 st T1 H1 next ng sl ce) (k : GenS lo r r' e' w0 w' st s T1 H1 next ng sl ce m2) : EnvR (RG r r'.fz next ng (gOf r' m2 next)) e' T1 := by
  intro t a ha
  have gen : (t, a) ∈ gens next sl → ∃ A, look t e' = some A ∧ Rel (RG r r'.fz next ng (gOf r' m2 next)) a A := fun hg => by
    obtain ⟨⟨u, p⟩, hx, e⟩ := List.mem_map.1 hg
    cases e
    obtain ⟨a', h1, h2⟩ := k.slm _ hx
    obtain ⟨A, h3, h4⟩ := k.env _ _ h1
    exact ⟨A, h3, k.gen (h.slok _ hx) h2 h4⟩
  rcases h.T t a ha with h1 | h1
  · exact gen h1
  · rcases k.T t a ha with h2 | h2
    · exact gen h2
    · obtain ⟨A0, _, g1⟩ := h.env t a h1
      obtain ⟨A, h3, h4⟩ := k.env t a h2
      exact ⟨A, h3, Rel.back (k.back h) a g1 h4⟩
theorem relL_of {r : Rho X} : ∀ {c : List AV} {L : List Value}, c.length = L.length → (∀ (j : Nat) a A, c[j]? = some a → L[j]? = some A → Rel r a A) → RelL r c L
  | [], [], _, _ => RelL.nil r
  | [], _ :: _, h, _ => by simp at h
  | _ :: _, [], h, _ => by simp at h
  | a :: c, A :: L, h, k => RelL.cons (k 0 a A rfl rfl) (relL_of (by simpa using h) fun j x Y hx hY => k (j + 1) x Y (by simpa using hx) (by simpa using hY))
theorem relL_at {r : Rho X} {c : List AV} {L : List Value} (h : RelL r c L) {j : Nat} {a : AV} {A : Value} (ha : c[j]? = some a) (hA : L[j]? = some A) : Rel r a A := by
  obtain ⟨A', h1, h2⟩ := h.get j ha
  rw [hA] at h1
  cases h1
  exact h2
theorem GenS.cells (h : GenH lo r e0 w0 st T1 H1 next ng sl ce) (k : GenS lo r r' e' w0 w' st s T1 H1 next ng sl ce m2) {b : Nat} {ab' : AB} {c c' c1 : List AV} (hb : s.H.get b = some ab') (hc' : ab'.cells = some c') (h0 : CRel (gensC next ce) b c c1) (h1 : CRel (gensC next ce) b c' c1) {L0 L : List Value} (hL0 : RelL r c L0) (hL : RelL r' c' L) : RelL (RG r r'.fz next ng (gOf r' m2 next)) c1 L := by
  refine relL_of (h1.1.trans hL.length) fun j a A ha hA => ?_
  have gen : (b, j, a) ∈ gensC next ce → Rel (RG r r'.fz next ng (gOf r' m2 next)) a A := fun hg => by
    obtain ⟨⟨b2, i, p⟩, hx, e⟩ := List.mem_map.1 hg
    cases e
    obtain ⟨a', g1, g2⟩ := k.cem _ hx
    unfold cellB at g1
    simp only [hb, hc', nthV_eq] at g1
    exact k.gen (h.ceok _ hx) g2 (relL_at hL g1 hA)
  rcases h0.2 j a ha with g0 | g0
  · exact gen g0
  · rcases h1.2 j a ha with g1 | g1
    · exact gen g1
    · obtain ⟨A0, _, q1⟩ := hL0.get j g0
      exact Rel.back (k.back h) a q1 (relL_at hL g1 hA)
theorem GenS.holds (h : GenH lo r e0 w0 st T1 H1 next ng sl ce) (k : GenS lo r r' e' w0 w' st s T1 H1 next ng sl ce m2) {b B K : Nat} {ab ab' ab1 : AB} (hb : s.H.get b = some ab') (h0 : BRel (gensC next ce) b ab ab1) (h1 : BRel (gensC next ce) b ab' ab1) (hp : r' = r ∨ ab1.plain = true) (hh0 : Holds r w0 B K ab) (hh : Holds r' w' B K ab') : Holds (RG r r'.fz next ng (gOf r' m2 next)) w' B K ab1 := by
  have hmono : ab' = ab1 → r' = r → Holds (RG r r'.fz next ng (gOf r' m2 next)) w' B K ab1 := fun e1 e2 => by
    subst e1
    refine hh.mod ?_ (Mod.refl w' (S := fun _ => False)) (fun _ h => h)
    have := h.le2 (r' := r') (fun k o ho => by rw [e2]; exact ho) (gOf r' m2 next)
    rw [e2]
    rw [e2] at this
    exact this
  cases ab1 with
  | dead => trivial
  | row c1 =>
    obtain ⟨c, rfl, q0⟩ := h0.row'
    obtain ⟨c', rfl, q1⟩ := h1.row'
    obtain ⟨L0, g1, g2⟩ := hh0
    obtain ⟨L, g3, g4⟩ := hh
    exact ⟨L, k.cells h hb rfl q0 q1 g1 g3, g4⟩
  | own e sz c1 =>
    obtain ⟨c, rfl, q0⟩ := h0.own'
    obtain ⟨c', rfl, q1⟩ := h1.own'
    obtain ⟨L0, ext0, g1, g2⟩ := hh0
    obtain ⟨L, ext, g3, g4⟩ := hh
    exact ⟨L, ext, k.cells h hb rfl q0 q1 g1 g3, g4⟩
  | ro c1 =>
    obtain ⟨c, rfl, q0⟩ := h0.ro'
    obtain ⟨c', rfl, q1⟩ := h1.ro'
    obtain ⟨L0, g1, g2⟩ := hh0
    obtain ⟨L, g3, g4⟩ := hh
    exact ⟨L, k.cells h hb rfl q0 q1 g1 g3, g4⟩
  | map es cl =>
    cases es with
    | nil =>
      cases h1 with
      | map => exact hh
      | same => exact hh
    | cons x es =>
      rcases hp with hp | hp
      · cases h1 with
        | same => exact hmono rfl hp
      · cases hp
  | mit =>
    rcases hp with hp | hp
    · cases h1 with
      | same => exact hmono rfl hp
    · cases hp
  | lp =>
    rcases hp with hp | hp
    · cases h1 with
      | same => exact hmono rfl hp
    · cases hp
  | df =>
    rcases hp with hp | hp
    · cases h1 with
      | same => exact hmono rfl hp
    · cases hp
theorem GenS.sat2 (h : GenH lo r e0 w0 st T1 H1 next ng sl ce) (k : GenS lo r r' e' w0 w' st s T1 H1 next ng sl ce m2) : Sat lo (RG r r'.fz next ng (gOf r' m2 next)) H1 w' := by
  have old : ∀ {b ab1}, H1.get b = some ab1 → ab1.live = true → ∃ ab B K, st.H.get b = some ab ∧ BRel (gensC next ce) b ab ab1 ∧ r b = some (B, K) ∧ (RG r r'.fz next ng (gOf r' m2 next)) b = some (B, K) := fun {b ab1} hb hl => by
    rcases h.H b with ⟨_, h2⟩ | ⟨h1, ⟨_, h2⟩ | ⟨ab, ab2, h2, h3, h4⟩⟩
    · rw [hb] at h2; cases h2; cases hl
    · rw [hb] at h2; cases h2
    · rw [hb] at h3
      cases h3
      obtain ⟨B, K, g1, _⟩ := h.sat.row b ab h2
      exact ⟨ab, B, K, h2, h4, g1, by simp only [RG]; rw [if_neg h1]; exact g1⟩
  refine ⟨fun b ab1 hb => ?_, fun b c ab ac B K K' hb hc hlb hlc hrb hrc => ?_, fun b hb => ?_, k.sat.size, k.sat.old, fun q ob hq => ⟨(k.sat.fz q ob hq).1, fun b ab1 K hb hw hr => ?_⟩⟩
  · cases hl : ab1.live with
    | false =>
      have : ab1 = .dead := by cases ab1 <;> first | rfl | cases hl
      subst this
      rcases h.H b with ⟨h1, _⟩ | ⟨h1, ⟨_, h2⟩ | ⟨ab, ab2, h2, h3, h4⟩⟩
      · exact ⟨0, 0, by simp only [RG]; rw [if_pos h1], fun hw => (by cases hw), trivial⟩
      · rw [hb] at h2; cases h2
      · obtain ⟨B, K, g1, _⟩ := h.sat.row b ab h2
        exact ⟨B, K, by simp only [RG]; rw [if_neg h1]; exact g1, fun hw => (by cases hw), trivial⟩
    | true =>
      obtain ⟨ab, B, K, g1, g2, g3, g4⟩ := old hb hl
      obtain ⟨B0, K0, q1, q2, q3⟩ := h.sat.row b ab g1
      rw [g3] at q1
      cases q1
      rcases k.H b ab1 hb with e | ⟨ab', k1, k2, k3⟩
      · subst e; cases hl
      · obtain ⟨B', K'', p1, p2, p3⟩ := k.sat.row b ab' k1
        rw [k.le.b _ _ g3] at p1
        cases p1
        exact ⟨B, K, g4, fun hw => q2 (g2.wr.1 hw), k.holds h k1 g2 k2 k3 q3 p3⟩
  · obtain ⟨ab0, B1, K1, g1, g2, g3, g4⟩ := old hb hlb
    obtain ⟨ac0, B2, K2, j1, j2, j3, j4⟩ := old hc hlc
    rw [hrb] at g4
    rw [hrc] at j4
    cases g4
    cases j4
    exact h.sat.inj _ _ _ _ _ _ _ g1 j1 (g2.wr.2 hlb) (j2.wr.2 hlc) g3 j3
  · rcases h.H b with ⟨_, h2⟩ | ⟨h1, ⟨h2, _⟩ | ⟨ab, ab2, h2, h3, h4⟩⟩
    · rw [hb] at h2; cases h2
    · obtain ⟨g1, g2⟩ := h.sat.free b h2
      simp only [RG]
      rw [if_neg h1, if_neg h1]
      exact ⟨g1, g2⟩
    · rw [hb] at h3; cases h3
  · obtain ⟨ab, B, K2, g1, g2, g3, g4⟩ := old hb (wr_live hw)
    rw [hr] at g4
    cases g4
    rcases k.H b ab1 hb with e | ⟨ab', k1, k2, k3⟩
    · subst e; cases hw
    · exact (k.sat.fz q ob hq).2 b ab' _ k1 (k2.wr.1 hw) (k.le.b _ _ g3)
theorem GenS.frm2 (h : GenH lo r e0 w0 st T1 H1 next ng sl ce) (k : GenS lo r r' e' w0 w' st s T1 H1 next ng sl ce m2) : FrmC r st.H w0 (RG r r'.fz next ng (gOf r' m2 next)) H1 w' := by
  refine ⟨k.frm.mod, fun q hq ⟨b, ab1, K, hb, hw, hr⟩ => ?_, k.frm.fzn⟩
  rcases h.H b with ⟨_, h2⟩ | ⟨h1, ⟨_, h2⟩ | ⟨ab, ab2, h2, h3, h4⟩⟩
  · rw [hb] at h2; cases h2; cases hw
  · rw [hb] at h2; cases h2
  · rw [hb] at h3
    cases h3
    obtain ⟨B, K0, g1, _⟩ := h.sat.row b ab h2
    simp only [RG] at hr
    rw [if_neg h1, g1] at hr
    cases hr
    exact ⟨b, ab, K, h2, h4.wr.1 hw, g1⟩
theorem GenS.fill (h : GenH lo r e0 w0 st T1 H1 next ng sl ce) (k : GenS lo r r' e' w0 w' st s T1 H1 next ng sl ce m2) (hm : Defd r m) : ∀ j, fillB ng m m2 j = true → ∃ d, den r'.at' (fillE ng m m2 j) = some d ∧ den (RG r r'.fz next ng (gOf r' m2 next)).at' (fillG ng next m j) = some d := by
  intro j hj
  unfold fillB at hj
  unfold fillE fillG
  cases hn : Nat.blt j ng with
  | true =>
    simp only [hn] at hj ⊢
    have hn : j < ng := Nat.le_of_ble_eq_true hn
    split at hj
    · rename_i e he
      obtain ⟨d, hd⟩ := k.dfd j e he
      have hse : m2.se j = e := by simp only [Mt.se, he]
      refine ⟨d, by rw [hse]; exact hd, ?_⟩
      simp only [den, RG, gOf]
      rw [if_pos (by omega), show next + j - next = j by omega, hse, hd]
      rfl
    · cases hj
  | false =>
    simp only [hn] at hj ⊢
    split at hj
    · rename_i e he
      obtain ⟨d, hd⟩ := hm j e he
      have hse : m.se j = e := by simp only [Mt.se, he]
      rw [hse]
      exact ⟨d, den_mono k.le.a hd, den_mono (k.back h).a hd⟩
    · cases hj
end
end
theorem assume_vc {X : Type} [Spec X] {α : Type} {K : Val X → α → Prop} {s : Val X} {t : Out α} : ∀ {l : List SE}, (∀ c ∈ l, Tru s c) → (assumeT l t).vc K s → t.vc K s
  | [], _, h => h
  | c :: l, hl, ⟨d, h1, h2, _⟩ => by
    obtain ⟨d2, k1, k2⟩ := hl c List.mem_cons_self
    rw [h1] at k1
    cases k1
    exact assume_vc (fun x hx => hl x (List.mem_cons_of_mem _ hx)) (h2 k2)
theorem chkT {gs : List (Nat × AV)} {T T1 : Tr AV} (h : Tr.allB (sameT gs T) (fun j => j) T1 = true) : ∀ t a, T1.get t = some a → (t, a) ∈ gs ∨ T.get t = some a := by
  intro t a ha
  have := allB_spec h t a ha
  unfold sameT at this
  split at this
  · rename_i hm
    exact .inl (memS_spec hm)
  · split at this
    · rename_i a2 h2
      rw [sameV_eq this]
      exact .inr h2
    · cases this
theorem chkH {gs : List (Nat × Nat × AV)} {H H1 : Tr AB} (h : Tr.allB (sameH gs H) (fun j => j) H1 = true) : ∀ b ab1, H1.get b = some ab1 → ab1 = .dead ∨ ∃ ab', H.get b = some ab' ∧ BRel gs b ab' ab1 ∧ ab1.plain = true := by
  intro b ab1 hb
  have := allB_spec h b ab1 hb
  unfold sameH at this
  split at this
  · exact .inl rfl
  · split at this
    · rename_i ab2 h2
      obtain ⟨h3, h4⟩ := sameG_spec this
      refine .inr ⟨ab2, h2, h3, ?_⟩
      unfold sameG at this
      split at this <;> first | rfl | cases this
    · cases this
theorem okS_spec {ng : Nat} : ∀ {l : List (Nat × AV)}, okS ng l = true → ∀ x ∈ l, x.2.okN (fun _ => false) (fun j => Nat.blt j ng) = true
  | [], _, x, hx => by simp at hx
  | (t, p) :: l, h, x, hx => by
    simp only [okS] at h
    split at h
    · rename_i h1
      rcases List.mem_cons.1 hx with rfl | hx
      · exact h1
      · exact okS_spec h x hx
    · cases h
theorem okCe_spec {ng : Nat} : ∀ {l : List (Nat × Nat × AV)}, okCe ng l = true → ∀ x ∈ l, x.2.2.okN (fun _ => false) (fun j => Nat.blt j ng) = true
  | [], _, x, hx => by simp at hx
  | (t, i, p) :: l, h, x, hx => by
    simp only [okCe] at h
    split at h
    · rename_i h1
      rcases List.mem_cons.1 hx with rfl | hx
      · exact h1
      · exact okCe_spec h x hx
    · cases h
theorem allOkN_spec {f : Nat → Bool} : ∀ {l : List SE}, allOkN f l = true → ∀ c ∈ l, c.okN f = true
  | [], _, x, hx => by simp at hx
  | p :: l, h, x, hx => by
    simp only [allOkN] at h
    split at h
    · rename_i h1
      rcases List.mem_cons.1 hx with rfl | hx
      · exact h1
      · exact allOkN_spec h x hx
    · cases h
section
variable {X : Type} [Spec X] {P : Program} {lo : Nat} {r : Rho X} {w : World} [Sig]
theorem fin_block {n : Nat} {H : Tr AB} {Q : Exit → Act → World → Prop} {rd : Option Nat} {id : Nat} {K : Val X → Xt × ST → Prop} (hF : Fin P rd lo n r H w K Q) : Fin P rd lo n r H w (fun s z => K s (inBlockA id z)) (Exit.inBlock id Q) := by
  intro r1 e1 w1 ds1 z hz k1 k2 k3 k4 k5 k6
  have hgo := hF r1 e1 w1 ds1 (inBlockA id z) hz k1 (by unfold inBlockA; split <;> first | (split <;> exact k2) | exact k2) (by unfold inBlockA; split <;> first | (split <;> exact k3) | exact k3) (by unfold inBlockA; split <;> first | (split <;> exact k4) | exact k4) (by unfold inBlockA; split <;> first | (split <;> exact k5) | exact k5) (by unfold inBlockA; split <;> first | (split <;> exact k6) | exact k6)
  obtain ⟨zx, zs⟩ := z
  cases zx with
  | normal => exact @GQ.inNormal _ _ _ _ ⟨rd, ds1⟩ _ hgo
  | exit j =>
    unfold inBlockA at hgo
    simp only at hgo
    split at hgo
    · rename_i hj
      have hj := Nat.eq_of_beq_eq_true hj
      subst hj
      exact @GQ.inExit _ _ _ _ ⟨rd, ds1⟩ _ hgo
    · rename_i hj
      exact @GQ.inExitNe _ _ _ _ ⟨rd, ds1⟩ _ _ hj hgo
  | ret => exact @GQ.inRet _ _ _ _ ⟨rd, ds1⟩ _ hgo
theorem loopL_ok {plans : Nat → Nat → Option Plan} {ext : CallX} {lx : LoopX} {k : Nat} (hR : RunOK X P plans ext lx lo k) {L : LAnn} {rd : Option Nat} {ds : List Deferred} {f id n : Nat} {a : Code} {st : ST} {K : Val X → Xt × ST → Prop} {e : Env} {Q : Exit → Act → World → Prop} (hok : okC plans f a = true) (hin : InF P f (.loop a))
    (hev : (loopL L (evRun P plans ext lx k rd.isSome f n a) id st).vc K r.at') (hE : EnvR r e st.T) (hs : Sat lo r st.H w) (hpc : PcOK r.at' st.pc) (hd : DsR P r st.mks ds) (hF : Fin P rd lo n r st.H w K Q) : @GC ⟨rd, ds⟩ P (.block id (.loop a)) Q n e w := by
  unfold loopL at hev
  split at hev
  · rename_i ce hce hmk
    rw [hmk] at hd
    have hd : ds = [] := hd
    subst hd
    split at hev
    · rename_i m0 hm0
      split at hev
      · rename_i m1 hm1
        split at hev
        · rename_i m hm
          split at hev
          · rename_i H0 q1 q2 q3 q4 q5 q6
            obtain ⟨s1, _, _, hpc1, hinv, hv⟩ := needs_vc0 hpc hev
            obtain ⟨a1, a2, a3⟩ := matchS_ok (r := r) hm0
            obtain ⟨b1, b2, b3⟩ := matchC_ok (lo := lo) (r := r) (w := w) hm1
            obtain ⟨c1, c3⟩ := matchP_ok hE hs hm
            have hd0 : Defd r ⟨L.n, .e, .e⟩ := fun i e he => by simp [Tr.get] at he
            have hmd : Defd r m := c3 (b3 hs (a3 hE hd0))
            have hmn : L.ng ≤ m.n := by
              rw [c1.n, b1.n, a1.n]
              exact Nat.le_of_ble_eq_true q3
            have hG : GenH lo r e w st (putTs st.T (gens st.next L.sl)) (deadsTo H0 st.next L.ng) st.next L.ng L.sl ce := by
              refine ⟨hE, hs, freeN_spec q2, okS_spec q4, okCe_spec q5, fun t x hx => putTs_spec hx, fun b => ?_⟩
              rw [deadsTo_get]
              by_cases hb : st.next ≤ b ∧ b < st.next + L.ng
              · exact .inl ⟨hb, by rw [if_pos hb]⟩
              · rw [if_neg hb]
                exact .inr ⟨hb, putC_spec (fun _ h => h) q1 b⟩
            have main : ∀ (N : Nat) (act : Act) (fz : Nat → Option Obj) (g : Nat → D X) (e1 : Env) (w1 : World), (∀ k o, r.fz k = some o → fz k = some o) → EnvR (RG r fz st.next L.ng g) e1 (putTs st.T (gens st.next L.sl)) → Sat lo (RG r fz st.next L.ng g) (deadsTo H0 st.next L.ng) w1 → FrmC r st.H w (RG r fz st.next L.ng g) (deadsTo H0 st.next L.ng) w1 →
                (∀ c ∈ L.inv, Tru (RG r fz st.next L.ng g).at' (c.sub (fillG L.ng st.next m))) → (∃ d, den (RG r fz st.next L.ng g).at' (L.meas.sub (fillG L.ng st.next m)) = some d ∧ d.int.toNat < N) → @Knows ⟨rd, []⟩ act e1 n → Code.roundsIn (@Fr.F ⟨rd, []⟩) 0 P a (Exit.inBlock id Q) N act w1 := by
              intro N
              induction N with
              | zero => intro _ _ _ _ _ _ _ _ _ _ ⟨d, _, h⟩; omega
              | succ N ih =>
                intro act fz g e1 w1 hfz hE1 hs1 hf1 hi1 ⟨dm, hdm, hlt⟩ ha
                rw [roundsIn_succ]
                have hle1 : r.le (RG r fz st.next L.ng g) := hG.le2 (r' := ⟨r.blk, fz, r.at'⟩) hfz g
                have hv1 := assume_vc (fun c hc => (let ⟨c0, h0, e0⟩ := List.mem_map.1 hc; e0 ▸ hi1 c0 h0)) (anyN_vc g hv)
                have hpcs : PcOK (RG r fz st.next L.ng g).at' ((L.inv.map fun c => (c.sub (fillG L.ng st.next m), true)) ++ s1.pc) := fun x hx => by
                  rcases List.mem_append.1 hx with hx | hx
                  · obtain ⟨c, hc, ex⟩ := List.mem_map.1 hx
                    subst ex
                    exact hi1 c hc
                  · obtain ⟨d, k1, k2⟩ := hpc1 x hx
                    exact ⟨d, den_mono hle1.a k1, k2⟩
                have hgc : @GC ⟨rd, []⟩ P a (Exit.then (Code.roundsIn (@Fr.F ⟨rd, []⟩) 0 P a (Exit.inBlock id Q) N) (Exit.inBlock id Q)) n e1 w1 := by
                  refine hR rd [] f n a ⟨putTs st.T (gens st.next L.sl), deadsTo H0 st.next L.ng, st.next + L.ng, [], (L.inv.map fun c => (c.sub (fillG L.ng st.next m), true)) ++ s1.pc⟩ _ (RG r fz st.next L.ng g) e1 w1 _ hok (hin.map fun _ => .loop) (vc_bind hv1) hE1 hs1 hpcs rfl ?_
                  intro r' e' w' ds' z hz k1 k2 k3 k4 k5 k6
                  have hout := fin_block (id := id) hF r' e' w' ds' z
                  obtain ⟨zx, s⟩ := z
                  cases zx with
                  | normal =>
                    simp only [backL] at hz
                    split at hz
                    · rename_i mq hmq
                      split at hz
                      · rename_i m2 hm2
                        split at hz
                        · rename_i p1 p2 p3 p4
                          obtain ⟨s2, _, _, _, hneed, _⟩ := needs_vc0 k4 hz
                          have k5 : DsR P r' s.mks ds' := k5
                          rw [p3] at k5
                          have k5 : ds' = [] := k5
                          subst k5
                          obtain ⟨d1, d2, d3⟩ := matchS_ok (r := r') hmq
                          obtain ⟨f1, f2, f3⟩ := matchC_ok (lo := lo) (r := r') (w := w') hm2
                          have hd0' : Defd r' ⟨L.n, .e, .e⟩ := fun i e he => by simp [Tr.get] at he
                          have hS : GenS lo r r' e' w w' st s (putTs st.T (gens st.next L.sl)) (deadsTo H0 st.next L.ng) st.next L.ng L.sl ce m2 := by
                            refine ⟨hle1.trans k1, k2, k3, hf1.trans k6, f3 k3 (d3 k2 hd0'), ?_, fun x hx => ?_, fun x hx => ?_, chkT p1, fun b ab1 hb => ?_⟩
                            · rw [f1.n, d1.n]
                              exact Nat.le_of_ble_eq_true q3
                            · obtain ⟨y, g1, g2⟩ := d2 x hx
                              exact ⟨y, g1, g2 m2 f1⟩
                            · obtain ⟨y, g1, g2⟩ := f2 x hx
                              exact ⟨y, g1, g2 m2 (Mt.le.refl _)⟩
                            · rcases chkH p2 b ab1 hb with g1 | ⟨ab', g1, g2, g3⟩
                              · exact .inl g1
                              · exact .inr ⟨ab', g1, g2, .inr g3⟩
                          have hfill := hS.fill hG hmd
                          have hall := allOkN_spec p4
                          unfold GQ
                          intro act' ha'
                          refine ih act' r'.fz (gOf r' m2 st.next) e' w' (fun q o ho => (hle1.trans k1).f q o ho) (hS.env2 hG) (hS.sat2 hG) (hS.frm2 hG) (fun c hc => ?_) ?_ ha'
                          · obtain ⟨d, t1, t2⟩ := den_two hfill (hall c (List.mem_cons_of_mem _ hc))
                            obtain ⟨d', u1, u2⟩ := hneed (c.sub (fillE L.ng m m2)) (List.mem_cons_of_mem _ (List.mem_cons_of_mem _ (List.mem_map.2 ⟨c, hc, rfl⟩)))
                            rw [t1] at u1
                            cases u1
                            exact ⟨d, t2, u2⟩
                          · obtain ⟨d, t1, t2⟩ := den_two hfill (hall L.meas List.mem_cons_self)
                            obtain ⟨y, u1, u2⟩ := hneed _ List.mem_cons_self
                            obtain ⟨y2, v1, v2⟩ := hneed _ (List.mem_cons_of_mem _ List.mem_cons_self)
                            rw [den_op t1 (den_mono k1.a hdm)] at u1
                            rw [den_op (by rfl) t1] at v1
                            cases u1
                            cases v1
                            simp only [SOp.run, D.tr_b, cmpI, Option.getD_some, D.int_i] at u2 v2
                            have u2 := of_decide_eq_true u2
                            have v2 := of_decide_eq_true v2
                            exact ⟨d, t2, by omega⟩
                        · exact hz.elim
                      · exact hz.elim
                    · exact hz.elim
                  | exit j =>
                    have hq := hout hz (hle1.trans k1) k2 k3 k4 k5 (hf1.trans k6)
                    unfold GQ at hq ⊢
                    exact hq
                  | ret =>
                    have hq := hout hz (hle1.trans k1) k2 k3 k4 k5 (hf1.trans k6)
                    unfold GQ at hq ⊢
                    exact hq
                unfold GC at hgc
                exact hgc act ha
            have hS : GenS lo r r e w w st st (putTs st.T (gens st.next L.sl)) (deadsTo H0 st.next L.ng) st.next L.ng L.sl ce m := by
              refine ⟨Rho.le.refl r, hE, hs, FrmC.refl r _ w, hmd, hmn, fun x hx => ?_, fun x hx => ?_, hG.T, fun b ab1 hb => ?_⟩
              · obtain ⟨y, g1, g2⟩ := a2 x hx
                exact ⟨y, g1, g2 m (b1.trans c1)⟩
              · obtain ⟨y, g1, g2⟩ := b2 x hx
                exact ⟨y, g1, g2 m c1⟩
              · rcases hG.H b with ⟨_, h2⟩ | ⟨h1, ⟨_, h2⟩ | ⟨ab, ab2, h2, h3, h4⟩⟩
                · rw [hb] at h2
                  cases h2
                  exact .inl rfl
                · rw [hb] at h2; cases h2
                · rw [hb] at h3
                  cases h3
                  exact .inr ⟨ab, h2, h4, .inl rfl⟩
            have hfill := hS.fill hG hmd
            have hall := allOkN_spec q6
            obtain ⟨dm, _, t2⟩ := den_two hfill (hall L.meas List.mem_cons_self)
            refine @GC.block _ _ _ _ _ ⟨rd, []⟩ _ _ ?_
            unfold GC
            refine fun act ha => wpIn_loop_rounds (dm.int.toNat + 1) (main _ act r.fz _ e w (fun _ _ h => h) (hS.env2 hG) (hS.sat2 hG) (hS.frm2 hG) (fun c hc => ?_) ⟨dm, t2, Nat.lt_succ_self _⟩ ha)
            obtain ⟨d, u1, u2⟩ := den_two hfill (hall c (List.mem_cons_of_mem _ hc))
            obtain ⟨d', v1, v2⟩ := hinv _ (List.mem_map.2 ⟨c, hc, rfl⟩)
            rw [u1] at v1
            cases v1
            exact ⟨d, u2, v2⟩
          · exact hev.elim
        · exact hev.elim
      · exact hev.elim
    · exact hev.elim
  · exact hev.elim
theorem loopXs_ok {plans : Nat → Nat → Option Plan} {ext : CallX} (hmix : P.follows .mixedOrders = true) (hsz : P.funcs.size ≤ YB) (hok0 : ∀ f c, Sig.ok f c ↔ (okC plans f c = true ∧ InF P f c)) (hfs : OkAll P plans) (hext : CallOK X P lo ext) (ann : Nat → Nat → Option LAnn) (k : Nat) : ∀ d, LoopXOK X P plans lo (loopXs P plans ext ann k d)
  | 0 => noLx_ok
  | d + 1 => by
    have hR := (run_sound hmix hsz hok0 hfs hext (loopXs_ok hmix hsz hok0 hfs hext ann k d) k).1
    intro rd ds f id n c st t ht hok hin K r e w Q hev hE hs hpc hd hF
    simp only [loopXs] at ht
    split at ht
    · rename_i L a
      cases ht
      exact loopL_ok hR hok (hin.map fun _ => .block) hev hE hs hpc hd hF
    · cases ht
end
end Go.Proofs.YtbjomeonjlialaaGreat.V.S
