/-
  What is told of a function by a pattern holds of every call that meets the pattern. No condition: these are rules over any program.
-/
import Derived.Test.YtbjomeonjlialaaGreatZav
set_option linter.unusedVariables false
set_option linter.unusedSimpArgs false
namespace Go.Proofs.YtbjomeonjlialaaGreat.V.S
theorem putL_out {c : Nat} : ∀ {l : List (Nat × AB)} {H : Tr AB}, (∀ x ∈ l, x.1 ≠ c) → (putL H l).get c = H.get c
  | [], _, _ => rfl
  | (b, ab) :: l, H, h => by
    simp only [putL]
    rw [putL_out fun x hx => h x (List.mem_cons_of_mem _ hx), Tr.get_put, if_neg (fun e => h _ List.mem_cons_self e.symm)]
theorem memN_iff {a : Nat} : ∀ {l : List Nat}, memN a l = true ↔ a ∈ l
  | [] => by simp [memN]
  | b :: l => by
    simp only [memN]
    cases hb : Nat.beq b a with
    | true =>
      have := Nat.eq_of_beq_eq_true hb
      simp [this]
    | false =>
      have := Nat.ne_of_beq_eq_false hb
      simp only [memN_iff (l := l), List.mem_cons]
      constructor
      · exact .inr
      · rintro (h | h)
        · exact absurd h.symm this
        · exact h
theorem nodupN_spec : ∀ {l : List Nat}, nodupN l = true → l.Nodup
  | [], _ => List.nodup_nil
  | a :: l, h => by
    simp only [nodupN] at h
    split at h
    · cases h
    · rename_i hm
      refine List.nodup_cons.2 ⟨fun ha => ?_, nodupN_spec h⟩
      rw [memN_iff.2 ha] at hm
      cases hm
theorem putL_in {c : Nat} {ab : AB} : ∀ {l : List (Nat × AB)} {H : Tr AB}, (l.map (·.1)).Nodup → (c, ab) ∈ l → (putL H l).get c = some ab
  | [], _, _, h => by simp at h
  | (b, ab2) :: l, H, hn, h => by
    simp only [putL]
    rw [List.map_cons] at hn
    obtain ⟨h1, h2⟩ := List.nodup_cons.1 hn
    rcases List.mem_cons.1 h with h | h
    · cases h
      rw [putL_out fun x hx e => h1 (List.mem_map.2 ⟨x, hx, e⟩), Tr.get_put, if_pos rfl]
    · exact putL_in h2 h
theorem deads_get : ∀ {n b : Nat}, (deads n).get b = if b < n then some .dead else none
  | 0, b => by simp [deads, Tr.get]
  | n + 1, b => by
    rw [deads, Tr.get_put, deads_get]
    by_cases h : b = n
    · rw [if_pos h, if_pos (by omega)]
    · rw [if_neg h]
      by_cases h2 : b < n
      · rw [if_pos h2, if_pos (by omega)]
      · rw [if_neg h2, if_neg (by omega)]
theorem lookL_or {b : Nat} : ∀ {l : List (Nat × AB)}, (b, lookL b l) ∈ l ∨ (lookL b l = .dead ∧ b ∉ l.map (·.1))
  | [] => .inr ⟨rfl, by simp⟩
  | (c, ac) :: l => by
    simp only [lookL]
    cases hb : Nat.beq c b with
    | true =>
      have := Nat.eq_of_beq_eq_true hb
      subst this
      exact .inl List.mem_cons_self
    | false =>
      have hne := Nat.ne_of_beq_eq_false hb
      rcases lookL_or (b := b) (l := l) with h | ⟨h1, h2⟩
      · exact .inl (List.mem_cons_of_mem _ h)
      · exact .inr ⟨h1, by simp only [List.map_cons, List.mem_cons, not_or]; exact ⟨fun e => hne e.symm, h2⟩⟩
theorem keysB_spec {n : Nat} : ∀ {l : List (Nat × AB)}, keysB n l = true → ∀ x ∈ l, x.1 < n
  | [], _, x, hx => by simp at hx
  | (b, ab) :: l, h, x, hx => by
    simp only [keysB] at h
    split at h
    · rename_i hb
      rcases List.mem_cons.1 hx with rfl | hx
      · exact Nat.le_of_ble_eq_true hb
      · exact keysB_spec h x hx
    · cases h
theorem ctrH_get {n b : Nat} {l : List (Nat × AB)} (hn : (l.map (·.1)).Nodup) (hk : ∀ x ∈ l, x.1 < n) : (ctrH n l).get b = if b < n then some (lookL b l) else none := by
  unfold ctrH
  rcases lookL_or (b := b) (l := l) with h | ⟨h1, h2⟩
  · rw [putL_in hn h, if_pos (hk _ h)]
  · rw [putL_out fun x hx e => h2 (List.mem_map.2 ⟨x, hx, e⟩), deads_get, h1]
theorem allSubs_spec : ∀ {l : List (Nat × AB)}, allSubs l = true → ∀ x ∈ l, (∃ c, x.2 = .row c) ∨ (∃ el sz c, x.2 = .own el sz c) ∨ (∃ c, x.2 = .ro c) ∨ ∃ k, x.2 = .map [] k
  | [], _, x, hx => by simp at hx
  | (b, ab) :: l, h, x, hx => by
    cases ab with
    | row c =>
      simp only [allSubs] at h
      rcases List.mem_cons.1 hx with rfl | hx
      · exact .inl ⟨c, rfl⟩
      · exact allSubs_spec h x hx
    | own el sz c =>
      simp only [allSubs] at h
      rcases List.mem_cons.1 hx with rfl | hx
      · exact .inr (.inl ⟨el, sz, c, rfl⟩)
      · exact allSubs_spec h x hx
    | ro c =>
      simp only [allSubs] at h
      rcases List.mem_cons.1 hx with rfl | hx
      · exact .inr (.inr (.inl ⟨c, rfl⟩))
      · exact allSubs_spec h x hx
    | map es k =>
      cases es with
      | nil =>
        simp only [allSubs] at h
        rcases List.mem_cons.1 hx with rfl | hx
        · exact .inr (.inr (.inr ⟨k, rfl⟩))
        · exact allSubs_spec h x hx
      | cons e es => simp [allSubs] at h
    | dead => simp [allSubs] at h
    | mit => simp [allSubs] at h
    | lp => simp [allSubs] at h
    | df => simp [allSubs] at h
theorem postKeys_spec {na nn : Nat} {bs : List Nat} : ∀ {l : List (Nat × AB)}, postKeys na nn bs l = true → ∀ x ∈ l, x.1 ∈ bs ∨ (na ≤ x.1 ∧ x.1 < na + nn ∧ x.2.wr = true)
  | [], _, x, hx => by simp at hx
  | (b, ab) :: l, h, x, hx => by
    simp only [postKeys] at h
    split at h
    · rename_i hm
      rcases List.mem_cons.1 hx with rfl | hx
      · exact .inl (memN_iff.1 hm)
      · exact postKeys_spec h x hx
    · split at h
      · rename_i h1 h2 h3
        rcases List.mem_cons.1 hx with rfl | hx
        · exact .inr ⟨Nat.le_of_ble_eq_true h1, Nat.le_of_ble_eq_true h2, h3⟩
        · exact postKeys_spec h x hx
      · cases h
theorem freeN_spec {H : Tr AB} {next : Nat} : ∀ {nn : Nat}, freeN H next nn = true → ∀ j, j < nn → H.get (next + j) = none
  | 0, _, j, hj => by omega
  | n + 1, h, j, hj => by
    simp only [freeN] at h
    split at h
    · rename_i hn
      rcases Nat.lt_or_ge j n with h1 | h1
      · exact freeN_spec h j h1
      · have : j = n := by omega
        rw [this]; exact hn
    · cases h
theorem blocksOk_spec {fb fa : Nat → Bool} : ∀ {l : List (Nat × AB)}, blocksOk fb fa l = true → ∀ x ∈ l, x.2.okN fb fa = true
  | [], _, x, hx => by simp at hx
  | (b, ab) :: l, h, x, hx => by
    simp only [blocksOk] at h
    split at h
    · rename_i h1
      rcases List.mem_cons.1 hx with rfl | hx
      · exact h1
      · exact blocksOk_spec h x hx
    · cases h
section
variable {X : Type} [Spec X] {r1 r2 : Rho X} {fb : Nat → Nat} {fa : Nat → SE} {ob oa : Nat → Bool}
structure Ren (r1 r2 : Rho X) (fb : Nat → Nat) (fa : Nat → SE) (ob oa : Nat → Bool) : Prop where
  b : ∀ b x, ob b = true → r1 b = some x → r2 (fb b) = some x
  a : ∀ i d, oa i = true → r1.at' i = some d → den r2.at' (fa i) = some d
  f : ∀ k o, r1.fz k = some o → r2.fz k = some o
theorem den_sub (h : Ren r1 r2 fb fa ob oa) : ∀ {e : SE} {d : D X}, e.okN oa = true → den r1.at' e = some d → den r2.at' (e.sub fa) = some d
  | .at i, d, ho, k => h.a i d ho k
  | .li _, _, _, k => k
  | .lb _, _, _, k => k
  | .ls _, _, _, k => k
  | .nl, _, _, k => k
  | .nb, _, _, k => k
  | .op o s t, d, ho, k => by
    simp only [SE.okN] at ho
    split at ho
    · rename_i hs
      obtain ⟨x, y, h1, h2, rfl⟩ := den_op_inv k
      exact den_op (den_sub h hs h1) (den_sub h ho h2)
    · cases ho
mutual
theorem Rel.sub [Sig] (h : Ren r1 r2 fb fa ob oa) : ∀ (a : AV) {V : Value}, a.okN ob oa = true → Rel r1 a V → Rel r2 (a.sub fb fa) V
  | .b _, _, _, k | .i _ _, _, _, k | .s _, _, _, k | .p0, _, _, k | .sl0, _, _, k | .se, _, _, k | .nf, _, _, k | .m0, _, _, k | .n0, _, _, k | .o _, _, _, k => by unfold AV.sub Rel at *; exact k
  | .p b o, V, ho, k => by
    obtain ⟨B, K, h1, h2⟩ := rel_p k
    unfold AV.sub Rel
    exact ⟨B, K, h.b _ _ (by simpa [AV.okN] using ho) h1, h2⟩
  | .ez b o d e c, V, ho, k => by
    obtain ⟨B, K, h1, h2⟩ := rel_ez k
    unfold AV.sub Rel
    exact ⟨B, K, h.b _ _ (by simpa [AV.okN] using ho) h1, h2⟩
  | .sl b o e n c, V, ho, k => by
    obtain ⟨B, K, h1, h2⟩ := rel_sl k
    unfold AV.sub Rel
    exact ⟨B, K, h.b _ _ (by simpa [AV.okN] using ho) h1, h2⟩
  | .m b, V, ho, k => by
    obtain ⟨B, K, h1, h2⟩ := rel_m k
    unfold AV.sub Rel
    exact ⟨B, K, h.b _ _ (by simpa [AV.okN] using ho) h1, h2⟩
  | .y b, V, ho, k => by
    unfold Rel at k
    obtain ⟨B, K, h1, h2⟩ := k
    unfold AV.sub Rel
    exact ⟨B, K, h.b _ _ (by simpa [AV.okN] using ho) h1, h2⟩
  | .f f cs, V, ho, k => by
    obtain ⟨L, h1, h2⟩ := rel_f k
    unfold AV.sub Rel
    exact ⟨L, h1, RelL.sub h cs (by simpa [AV.okN] using ho) h2⟩
  | .fb f fs cs, V, ho, k => by
    obtain ⟨L, M, h1, h2, h3⟩ := rel_fb k
    simp only [AV.okN] at ho
    split at ho
    · rename_i ho1
      unfold AV.sub Rel
      exact ⟨L, M, h1, RelL.sub h fs ho1 h2, RelL.sub h cs ho h3⟩
    · cases ho
  | .g l, V, ho, k => by
    obtain ⟨L, h1, h2⟩ := rel_g k
    unfold AV.sub Rel
    exact ⟨L, h1, RelL.sub h l (by simpa [AV.okN] using ho) h2⟩
  | .t l, V, ho, k => by
    obtain ⟨L, h1, h2⟩ := rel_t k
    unfold AV.sub Rel
    exact ⟨L, h1, RelL.sub h l (by simpa [AV.okN] using ho) h2⟩
  | .it t v, V, ho, k => by
    unfold Rel at k
    obtain ⟨U, h1, h2⟩ := k
    unfold AV.sub Rel
    exact ⟨U, h1, Rel.sub h v (by simpa [AV.okN] using ho) h2⟩
  | .xi _ _, V, ho, k => by
    obtain ⟨d, h1, h2⟩ := rel_xi k
    unfold AV.sub Rel
    exact ⟨d, den_sub h (by simpa [AV.okN] using ho) h1, h2⟩
  | .xb _, V, ho, k => by
    obtain ⟨d, h1, h2⟩ := rel_xb k
    unfold AV.sub Rel
    exact ⟨d, den_sub h (by simpa [AV.okN] using ho) h1, h2⟩
  | .xs _, V, ho, k => by
    obtain ⟨d, h1, h2⟩ := rel_xs k
    unfold AV.sub Rel
    exact ⟨d, den_sub h (by simpa [AV.okN] using ho) h1, h2⟩
  | .xv _ _, V, ho, k => by
    obtain ⟨d, h1, h2⟩ := rel_xv k
    unfold AV.sub Rel
    exact ⟨d, den_sub h (by simpa [AV.okN] using ho) h1, RelK.fzq h.f _ h2⟩
  | .xw _, V, ho, k => by
    obtain ⟨d, h1, h2⟩ := rel_xw k
    unfold AV.sub Rel
    exact ⟨d, den_sub h (by simpa [AV.okN] using ho) h1, RelK.fzq h.f _ h2⟩
  | .xq _ _ _ _, V, ho, k => by
    obtain ⟨d, dj, B, q, c, h1, h2, h3, h4, h5, h6⟩ := rel_xq k
    simp only [AV.okN] at ho
    split at ho
    · rename_i ho1
      unfold AV.sub Rel
      exact ⟨d, dj, B, q, c, den_sub h ho1 h1, den_sub h ho h2, h3, h4, RelK.fzq h.f _ h5, h6⟩
    · cases ho
theorem RelL.sub [Sig] (h : Ren r1 r2 fb fa ob oa) : ∀ (l : List AV) {L : List Value}, AV.oksN ob oa l = true → RelL r1 l L → RelL r2 (AV.subs fb fa l) L
  | [], L, _, k => by rw [k.of_nil]; unfold AV.subs; exact RelL.nil _
  | a :: l, L, ho, k => by
    obtain ⟨A, M, rfl, h1, h2⟩ := k.of_cons
    simp only [AV.oksN] at ho
    split at ho
    · rename_i ho1
      unfold AV.subs
      exact RelL.cons (Rel.sub h a ho1 h1) (RelL.sub h l ho h2)
    · cases ho
end
theorem Holds.sub [Sig] (h : Ren r1 r2 fb fa ob oa) {w : World} {B K : Nat} {ab : AB} (hk : (∃ c, ab = .row c) ∨ (∃ el sz c, ab = .own el sz c) ∨ (∃ c, ab = .ro c) ∨ ∃ k, ab = .map [] k) (ho : ab.okN ob oa = true) (k : Holds r1 w B K ab) :
    Holds r2 w B K (ab.sub fb fa) ∧ (ab.sub fb fa).wr = ab.wr ∧ (ab.sub fb fa).live = ab.live := by
  rcases hk with ⟨c, rfl⟩ | ⟨el, sz, c, rfl⟩ | ⟨c, rfl⟩ | ⟨q, rfl⟩
  · obtain ⟨L, h1, h2⟩ := k
    exact ⟨⟨L, RelL.sub h c ho h1, h2⟩, rfl, rfl⟩
  · obtain ⟨L, ext, h1, h2, h3⟩ := k
    exact ⟨⟨L, ext, RelL.sub h c ho h1, h2, h3⟩, rfl, rfl⟩
  · obtain ⟨L, h1, h2⟩ := k
    exact ⟨⟨L, RelL.sub h c ho h1, h2⟩, rfl, rfl⟩
  · obtain ⟨E, h1, h2⟩ := k
    exact ⟨⟨E, h1, h2⟩, rfl, rfl⟩
end
section
variable {X : Type} [Spec X] {r : Rho X}
def Defd (r : Rho X) (m : Mt) : Prop := ∀ i e, m.a.get i = some e → ∃ d, den r.at' e = some d
theorem matchE_def {m m' : Mt} {p e : SE} (h : m.matchE p e = some m') (he : ∃ d, den r.at' e = some d) (hm : Defd r m) : Defd r m' := by
  have gen : ∀ p : SE, (match p.bound m, SE.same (p.sub m.se) e with | true, true => some m | _, _ => none) = some m' → Defd r m' := by
    intro p h
    split at h
    · cases h; exact hm
    · cases h
  cases p with
  | «at» i =>
    have h : m.bindA i e = some m' := h
    unfold Mt.bindA at h
    split at h
    · cases h
      intro j x hj
      rw [Tr.get_put] at hj
      split at hj
      · cases hj; exact he
      · exact hm j x hj
    · split at h
      · cases h; exact hm
      · cases h
    · cases h
  | li n => exact gen _ h
  | lb b => exact gen _ h
  | ls l => exact gen _ h
  | op o a b => exact gen _ h
  | nl => exact gen _ h
  | nb => exact gen _ h
theorem bindB_def {m m' : Mt} {i c : Nat} (h : m.bindB i c = some m') (hm : Defd r m) : Defd r m' := by
  unfold Mt.bindB at h
  split at h
  · cases h; exact hm
  · split at h
    · cases h; exact hm
    · cases h
  · cases h
mutual
theorem matchV_def [Sig] : ∀ (p : AV) {a : AV} {m m' : Mt} {V : Value}, m.matchV p a = some m' → Rel r a V → Defd r m → Defd r m'
  | .xi k p, a, m, m', V, h, hV, hm => by
    simp only [Mt.matchV] at h
    split at h
    · rename_i k2 e hi
      split at h
      · obtain ⟨d, h3, _⟩ := int?_rel hi hV
        exact matchE_def h ⟨d, h3⟩ hm
      · cases h
    · cases h
  | .xb p, a, m, m', V, h, hV, hm => by
    simp only [Mt.matchV] at h
    split at h
    · rename_i e hi
      obtain ⟨d, h3, _⟩ := bool?_rel hi hV
      exact matchE_def h ⟨d, h3⟩ hm
    · cases h
  | .xs p, a, m, m', V, h, hV, hm => by
    simp only [Mt.matchV] at h
    split at h
    · rename_i e hi
      obtain ⟨d, h3, _⟩ := str?_rel hi hV
      exact matchE_def h ⟨d, h3⟩ hm
    · cases h
  | .xv fs p, a, m, m', V, h, hV, hm => by
    simp only [Mt.matchV] at h
    split at h
    · split at h
      · obtain ⟨d, h3, _⟩ := rel_xv hV
        exact matchE_def h ⟨d, h3⟩ hm
      · cases h
    · exact matchE_def h ⟨_, rfl⟩ hm
    · cases h
  | .xw p, a, m, m', V, h, hV, hm => by
    simp only [Mt.matchV] at h
    split at h
    · obtain ⟨d, h3, _⟩ := rel_xw hV
      exact matchE_def h ⟨d, h3⟩ hm
    · exact matchE_def h ⟨_, rfl⟩ hm
    · cases h
  | .p b o, a, m, m', V, h, hV, hm => by
    simp only [Mt.matchV] at h
    split at h
    · split at h
      · exact bindB_def h hm
      · cases h
    · cases h
  | .m b, a, m, m', V, h, hV, hm => by
    simp only [Mt.matchV] at h
    split at h
    · exact bindB_def h hm
    · cases h
  | .sl b o e n c, a, m, m', V, h, hV, hm => by
    simp only [Mt.matchV] at h
    split at h
    · split at h
      · exact bindB_def h hm
      · cases h
    · cases h
  | .g l, a, m, m', V, h, hV, hm => by
    simp only [Mt.matchV] at h
    split at h
    · obtain ⟨L, _, hL⟩ := rel_g hV
      exact matchL_def l h hL hm
    · cases h
  | .t l, a, m, m', V, h, hV, hm => by
    simp only [Mt.matchV] at h
    split at h
    · obtain ⟨L, _, hL⟩ := rel_t hV
      exact matchL_def l h hL hm
    · cases h
  | .f f cs, a, m, m', V, h, hV, hm => by
    simp only [Mt.matchV] at h
    split at h
    · split at h
      · obtain ⟨L, _, hL⟩ := rel_f hV
        exact matchL_def cs h hL hm
      · cases h
    · cases h
  | .b _, a, m, m', V, h, hV, hm | .i _ _, a, m, m', V, h, hV, hm | .s _, a, m, m', V, h, hV, hm | .o _, a, m, m', V, h, hV, hm | .p0, a, m, m', V, h, hV, hm | .sl0, a, m, m', V, h, hV, hm | .nf, a, m, m', V, h, hV, hm | .m0, a, m, m', V, h, hV, hm | .n0, a, m, m', V, h, hV, hm => by
    simp only [Mt.matchV] at h
    split at h
    · cases h; exact hm
    · cases h
  | .se, _, _, _, _, h, _, _ => by simp [Mt.matchV] at h
  | .ez .., _, _, _, _, h, _, _ => by simp [Mt.matchV] at h
  | .fb .., _, _, _, _, h, _, _ => by simp [Mt.matchV] at h
  | .y _, _, _, _, _, h, _, _ => by simp [Mt.matchV] at h
  | .it .., _, _, _, _, h, _, _ => by simp [Mt.matchV] at h
  | .xq .., _, _, _, _, h, _, _ => by simp [Mt.matchV] at h
theorem matchL_def [Sig] : ∀ (p : List AV) {a : List AV} {m m' : Mt} {L : List Value}, m.matchL p a = some m' → RelL r a L → Defd r m → Defd r m'
  | [], a, m, m', L, h, hL, hm => by
    simp only [Mt.matchL] at h
    split at h
    · cases h; exact hm
    · cases h
  | p :: l, a, m, m', L, h, hL, hm => by
    simp only [Mt.matchL] at h
    split at h
    · cases h
    · split at h
      · rename_i m2 h2
        obtain ⟨A, M, rfl, k1, k2⟩ := hL.of_cons
        exact matchL_def l h k2 (matchV_def p h2 k1 hm)
      · cases h
end
end
end Go.Proofs.YtbjomeonjlialaaGreat.V.S
