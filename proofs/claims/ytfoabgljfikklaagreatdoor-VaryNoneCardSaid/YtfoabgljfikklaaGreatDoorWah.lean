/-
  What a reckoned value, block and frame stand for in a world. No condition: these are relations over any program.
-/
import Derived.Test.YtfoabgljfikklaaGreatDoorWag
set_option linter.unusedVariables false
set_option linter.unusedSimpArgs false
namespace Go.Proofs.YtfoabgljfikklaaGreatDoor.V
abbrev Rho := Nat → Option (Nat × Nat)
def Rho.le (r r' : Rho) : Prop := ∀ b x, r b = some x → r' b = some x
theorem Rho.le.refl (r : Rho) : Rho.le r r := fun _ _ h => h
theorem Rho.le.trans {a b c : Rho} (h : Rho.le a b) (k : Rho.le b c) : Rho.le a c := fun i x hx => k i x (h i x hx)
def Rho.set (r : Rho) (b : Nat) (x : Nat × Nat) : Rho := fun i => if i = b then some x else r i
theorem Rho.le.set {r : Rho} {b : Nat} (h : r b = none) (x : Nat × Nat) : Rho.le r (r.set b x) := fun i y hy => by
  unfold Rho.set
  split
  · subst_vars; rw [h] at hy; cases hy
  · exact hy
theorem Rho.set_same (r : Rho) (b : Nat) (x : Nat × Nat) : r.set b x b = some x := by simp [Rho.set]
class Sig where
  val : Nat → Value
  one : ∀ i, (val i).oneCell' = true
  /-- What is known of a loop's code. -/
  ok : Nat → Code → Prop
  /-- The world at the run's beginning: below a bound it stays as it is. -/
  base : World
theorem cells_one {V : Value} (h : V.oneCell' = true) : V.cells.toList = [V] := by
  cases V <;> first | rfl | cases h
mutual
def Rel [Sig] (r : Rho) : AV → Value → Prop
  | .b x, V => V = .bool x
  | .i k n, V => V = .int k n
  | .s l, V => V = str (l.map UInt8.ofNat) ∧ ∀ x ∈ l, x < 256
  | .p0, V => V = .pointer none
  | .p b o, V => ∃ B K, r b = some (B, K) ∧ V = .pointer (some ⟨B, o, none⟩)
  | .sl0, V => V = .slice none 0 0
  | .se, V => ∃ a c, V = .slice (some a) 0 c
  | .ez b o d e c, V => ∃ B K, r b = some (B, K) ∧ V = .slice (some ⟨B, if c.getD (K - e) = 0 then o else o + d, none⟩) 0 (c.getD (K - e))
  | .sl b o e n c, V => ∃ B K, r b = some (B, K) ∧ V = .slice (some ⟨B, o, none⟩) n (c.getD (K - e)) ∧ n ≤ c.getD (K - e)
  | .f f cs, V => ∃ Cs, V = .func (.func f) #[] Cs.toArray ∧ RelL r cs Cs
  | .fb f fs cs, V => ∃ Fs Cs, V = .func (.func f) Fs.toArray Cs.toArray ∧ RelL r fs Fs ∧ RelL r cs Cs
  | .nf, V => V = .nilFunc
  | .g l, V => ∃ L, V = .agg L.toArray ∧ RelL r l L
  | .t l, V => ∃ L, V = .tuple L.toArray ∧ RelL r l L
  | .m0, V => V = .map none
  | .m b, V => ∃ B K, r b = some (B, K) ∧ V = .map (some B)
  | .n0, V => V = .nilIface
  | .y l, V => ∃ B K, r l = some (B, K) ∧ V = .func (.yield B) #[] #[]
  | .o i, V => V = Sig.val i
  | .oi i k fs, V => V = Sig.val i ∧ ∃ n, V = .int k n ∧ ∀ x ∈ fs, cmpI x.1 n x.2.1 = some x.2.2
  | .os i fs, V => V = Sig.val i ∧ ∃ l : List UInt8, V = str l ∧ ∀ x ∈ fs, cmpI x.1 l.length x.2.1 = some x.2.2
  | .ol i fs, V => ∃ l : List UInt8, Sig.val i = str l ∧ V = .int .i64 l.length ∧ ∀ x ∈ fs, cmpI x.1 l.length x.2.1 = some x.2.2
  | .it ty v, V => ∃ U, V = .iface ty U ∧ Rel r v U
def RelL [Sig] (r : Rho) : List AV → List Value → Prop
  | [], L => L = []
  | a :: l, L => ∃ A M, L = A :: M ∧ Rel r a A ∧ RelL r l M
end
mutual
theorem Rel.mono [Sig] {r r' : Rho} (h : r.le r') : ∀ (a : AV) {A : Value}, Rel r a A → Rel r' a A
  | .b _, _, k | .i _ _, _, k | .s _, _, k | .p0, _, k | .sl0, _, k | .se, _, k | .nf, _, k | .m0, _, k | .n0, _, k | .o _, _, k | .oi _ _ _, _, k | .os _ _, _, k | .ol _ _, _, k => k
  | .p b o, A, k => by
    unfold Rel at k ⊢
    obtain ⟨B, K, h1, h2⟩ := k
    exact ⟨B, K, h _ _ h1, h2⟩
  | .sl b o e n c, A, k => by
    unfold Rel at k ⊢
    obtain ⟨B, K, h1, h2⟩ := k
    exact ⟨B, K, h _ _ h1, h2⟩
  | .ez b o d e c, A, k => by
    unfold Rel at k ⊢
    obtain ⟨B, K, h1, h2⟩ := k
    exact ⟨B, K, h _ _ h1, h2⟩
  | .m b, A, k => by
    unfold Rel at k ⊢
    obtain ⟨B, K, h1, h2⟩ := k
    exact ⟨B, K, h _ _ h1, h2⟩
  | .y b, A, k => by
    unfold Rel at k ⊢
    obtain ⟨B, K, h1, h2⟩ := k
    exact ⟨B, K, h _ _ h1, h2⟩
  | .f f cs, A, k => by
    unfold Rel at k ⊢
    obtain ⟨Cs, h1, h2⟩ := k
    exact ⟨Cs, h1, RelL.mono h cs h2⟩
  | .fb f fs cs, A, k => by
    unfold Rel at k ⊢
    obtain ⟨Fs, Cs, h1, h2, h3⟩ := k
    exact ⟨Fs, Cs, h1, RelL.mono h fs h2, RelL.mono h cs h3⟩
  | .g l, A, k => by
    unfold Rel at k ⊢
    obtain ⟨L, h1, h2⟩ := k
    exact ⟨L, h1, RelL.mono h l h2⟩
  | .t l, A, k => by
    unfold Rel at k ⊢
    obtain ⟨L, h1, h2⟩ := k
    exact ⟨L, h1, RelL.mono h l h2⟩
  | .it ty v, A, k => by
    unfold Rel at k ⊢
    obtain ⟨U, h1, h2⟩ := k
    exact ⟨U, h1, Rel.mono h v h2⟩
theorem RelL.mono [Sig] {r r' : Rho} (h : r.le r') : ∀ (l : List AV) {L : List Value}, RelL r l L → RelL r' l L
  | [], _, k => k
  | a :: l, L, k => by
    unfold RelL at k ⊢
    obtain ⟨A, M, h1, h2, h3⟩ := k
    exact ⟨A, M, h1, Rel.mono h a h2, RelL.mono h l h3⟩
end
mutual
theorem Rel.det [Sig] {r : Rho} : ∀ (a : AV) {A B : Value}, a.fix = true → Rel r a A → Rel r a B → A = B
  | .b _, _, _, _, h, k | .i _ _, _, _, _, h, k | .p0, _, _, _, h, k | .sl0, _, _, _, h, k | .nf, _, _, _, h, k | .m0, _, _, _, h, k | .n0, _, _, _, h, k | .o _, _, _, _, h, k => by unfold Rel at h k; rw [h, k]
  | .se, _, _, hf, _, _ => by simp [AV.fix] at hf
  | .fb _ _ _, _, _, hf, _, _ => by simp [AV.fix] at hf
  | .s _, _, _, _, h, k | .oi _ _ _, _, _, _, h, k | .os _ _, _, _, _, h, k => by unfold Rel at h k; rw [h.1, k.1]
  | .ol _ _, _, _, hf, _, _ => by simp [AV.fix] at hf
  | .p b o, _, _, _, h, k => by
    unfold Rel at h k
    obtain ⟨B, K, h1, h2⟩ := h
    obtain ⟨B', K', k1, k2⟩ := k
    rw [h1] at k1
    cases k1
    rw [h2, k2]
  | .ez b o d e c, _, _, _, h, k => by
    unfold Rel at h k
    obtain ⟨B, K, h1, h2⟩ := h
    obtain ⟨B', K', k1, k2⟩ := k
    rw [h1] at k1
    cases k1
    rw [h2, k2]
  | .sl b o e n c, _, _, _, h, k => by
    unfold Rel at h k
    obtain ⟨B, K, h1, h2, _⟩ := h
    obtain ⟨B', K', k1, k2, _⟩ := k
    rw [h1] at k1
    cases k1
    rw [h2, k2]
  | .m b, _, _, _, h, k => by
    unfold Rel at h k
    obtain ⟨B, K, h1, h2⟩ := h
    obtain ⟨B', K', k1, k2⟩ := k
    rw [h1] at k1
    cases k1
    rw [h2, k2]
  | .y b, _, _, _, h, k => by
    unfold Rel at h k
    obtain ⟨B, K, h1, h2⟩ := h
    obtain ⟨B', K', k1, k2⟩ := k
    rw [h1] at k1
    cases k1
    rw [h2, k2]
  | .f f cs, _, _, hf, h, k => by
    have hf' : AV.fixs cs = true := by simpa [AV.fix] using hf
    unfold Rel at h k
    obtain ⟨L, h1, h2⟩ := h
    obtain ⟨L', k1, k2⟩ := k
    rw [h1, k1, RelL.det cs hf' h2 k2]
  | .g l, _, _, hf, h, k => by
    have hf' : AV.fixs l = true := by simpa [AV.fix] using hf
    unfold Rel at h k
    obtain ⟨L, h1, h2⟩ := h
    obtain ⟨L', k1, k2⟩ := k
    rw [h1, k1, RelL.det l hf' h2 k2]
  | .t l, _, _, hf, h, k => by
    have hf' : AV.fixs l = true := by simpa [AV.fix] using hf
    unfold Rel at h k
    obtain ⟨L, h1, h2⟩ := h
    obtain ⟨L', k1, k2⟩ := k
    rw [h1, k1, RelL.det l hf' h2 k2]
  | .it ty v, _, _, hf, h, k => by
    have hf' : v.fix = true := by simpa [AV.fix] using hf
    unfold Rel at h k
    obtain ⟨L, h1, h2⟩ := h
    obtain ⟨L', k1, k2⟩ := k
    rw [h1, k1, Rel.det v hf' h2 k2]
theorem RelL.det [Sig] {r : Rho} : ∀ (l : List AV) {A B : List Value}, AV.fixs l = true → RelL r l A → RelL r l B → A = B
  | [], _, _, _, h, k => by unfold RelL at h k; rw [h, k]
  | a :: l, _, _, hf, h, k => by
    have hf' : a.fix = true ∧ AV.fixs l = true := by simpa [AV.fixs] using hf
    unfold RelL at h k
    obtain ⟨A, M, h1, h2, h3⟩ := h
    obtain ⟨A', M', k1, k2, k3⟩ := k
    rw [h1, k1, Rel.det a hf'.1 h2 k2, RelL.det l hf'.2 h3 k3]
end
theorem RelL.nil [Sig] (r : Rho) : RelL r [] [] := by unfold RelL; rfl
theorem RelL.cons [Sig] {r : Rho} {a : AV} {A : Value} {l : List AV} {L : List Value} (h : Rel r a A) (k : RelL r l L) : RelL r (a :: l) (A :: L) := by unfold RelL; exact ⟨A, L, rfl, h, k⟩
theorem RelL.of_nil [Sig] {r : Rho} {L : List Value} (h : RelL r [] L) : L = [] := by unfold RelL at h; exact h
theorem RelL.of_cons [Sig] {r : Rho} {a : AV} {l : List AV} {L : List Value} (h : RelL r (a :: l) L) : ∃ A M, L = A :: M ∧ Rel r a A ∧ RelL r l M := by unfold RelL at h; exact h
theorem RelL.length [Sig] {r : Rho} : ∀ {l : List AV} {L : List Value}, RelL r l L → l.length = L.length
  | [], _, h => by rw [h.of_nil]; rfl
  | a :: l, _, h => by
    obtain ⟨A, M, rfl, _, h3⟩ := h.of_cons
    simp [h3.length]
theorem RelL.app [Sig] {r : Rho} : ∀ {l : List AV} {L : List Value} {m : List AV} {M : List Value}, RelL r l L → RelL r m M → RelL r (l ++ m) (L ++ M)
  | [], _, _, _, h, k => by rw [h.of_nil]; simpa using k
  | a :: l, _, _, _, h, k => by
    obtain ⟨A, N, rfl, h2, h3⟩ := h.of_cons
    exact RelL.cons h2 (h3.app k)
theorem RelL.take [Sig] {r : Rho} : ∀ (n : Nat) {l : List AV} {L : List Value}, RelL r l L → RelL r (l.take n) (L.take n)
  | 0, _, _, _ => by simpa using RelL.nil r
  | n + 1, [], _, h => by rw [h.of_nil]; simpa using RelL.nil r
  | n + 1, a :: l, _, h => by
    obtain ⟨A, M, rfl, h2, h3⟩ := h.of_cons
    exact RelL.cons h2 (h3.take n)
theorem RelL.drop [Sig] {r : Rho} : ∀ (n : Nat) {l : List AV} {L : List Value}, RelL r l L → RelL r (l.drop n) (L.drop n)
  | 0, _, _, h => by simpa using h
  | n + 1, [], _, h => by rw [h.of_nil]; simpa using RelL.nil r
  | n + 1, a :: l, _, h => by
    obtain ⟨A, M, rfl, h2, h3⟩ := h.of_cons
    exact h3.drop n
theorem RelL.get [Sig] {r : Rho} : ∀ (k : Nat) {l : List AV} {L : List Value} {a : AV}, RelL r l L → l[k]? = some a → ∃ A, L[k]? = some A ∧ Rel r a A
  | _, [], _, _, _, hk => by simp at hk
  | 0, b :: l, _, a, h, hk => by
    obtain ⟨A, M, rfl, h2, h3⟩ := h.of_cons
    simp at hk
    subst hk
    exact ⟨A, rfl, h2⟩
  | k + 1, b :: l, _, a, h, hk => by
    obtain ⟨A, M, rfl, h2, h3⟩ := h.of_cons
    exact h3.get k (by simpa using hk)
theorem RelL.rep [Sig] {r : Rho} {l : List AV} {L : List Value} (h : RelL r l L) : ∀ n, RelL r (rep l n) (List.replicate n L).flatten
  | 0 => RelL.nil r
  | n + 1 => by rw [List.replicate_succ, List.flatten_cons]; exact h.app (RelL.rep h n)
theorem Rel.cells [Sig] {r : Rho} {a : AV} {A : Value} (h : Rel r a A) : RelL r a.cells A.cells.toList := by
  cases a
  case g l =>
    unfold Rel at h
    obtain ⟨L, rfl, h2⟩ := h
    simpa [AV.cells, Value.cells] using h2
  case o i =>
    have h' := h
    unfold Rel at h'
    rw [cells_one (by rw [h']; exact Sig.one i)]
    exact RelL.cons h (RelL.nil r)
  all_goals
    have h' := h
    unfold Rel at h'
    first
    | (subst h'; exact RelL.cons h (RelL.nil r))
    | (obtain ⟨rfl, _⟩ := h'; exact RelL.cons h (RelL.nil r))
    | (obtain ⟨_, rfl, _⟩ := h'; exact RelL.cons h (RelL.nil r))
    | (obtain ⟨_, _, rfl⟩ := h'; exact RelL.cons h (RelL.nil r))
    | (obtain ⟨_, _, rfl, _⟩ := h'; exact RelL.cons h (RelL.nil r))
    | (obtain ⟨_, _, _, rfl⟩ := h'; exact RelL.cons h (RelL.nil r))
    | (obtain ⟨_, _, _, rfl, _⟩ := h'; exact RelL.cons h (RelL.nil r))
theorem Tr.get_set {α : Type} : ∀ (f : Nat) (t : Tr α) (k : Nat) (a : α) (j : Nat), k < f → (Tr.set f t k a).get j = if j = k then some a else t.get j
  | 0, _, _, _, _, h => absurd h (Nat.not_lt_zero _)
  | f + 1, .e, 0, a, j, _ => by
    cases j with
    | zero => simp [Tr.set, Tr.get]
    | succ j => simp only [Tr.set, Tr.get]; cases Nat.beq (j % 2) 0 <;> simp
  | f + 1, .n v l r, 0, a, j, _ => by
    cases j with
    | zero => simp [Tr.set, Tr.get]
    | succ j => simp only [Tr.set, Tr.get]; cases Nat.beq (j % 2) 0 <;> simp
  | f + 1, .e, k + 1, a, j, h => by
    have ih := fun (t : Tr α) (j : Nat) => Tr.get_set f t (k / 2) a j (by omega)
    simp only [Tr.set]
    cases hk : Nat.beq (k % 2) 0 with
    | true =>
      have hk' := Nat.eq_of_beq_eq_true hk
      cases j with
      | zero => simp [Tr.get]
      | succ j =>
        simp only [Tr.get]
        cases hj : Nat.beq (j % 2) 0 with
        | true =>
          have hj' := Nat.eq_of_beq_eq_true hj
          simp only [ih, Tr.get]
          by_cases hjk : j / 2 = k / 2
          · rw [if_pos hjk, if_pos (by omega)]
          · rw [if_neg hjk, if_neg (by omega)]
        | false =>
          have hj' := Nat.ne_of_beq_eq_false hj
          rw [if_neg (by omega)]
    | false =>
      have hk' := Nat.ne_of_beq_eq_false hk
      cases j with
      | zero => simp [Tr.get]
      | succ j =>
        simp only [Tr.get]
        cases hj : Nat.beq (j % 2) 0 with
        | true =>
          have hj' := Nat.eq_of_beq_eq_true hj
          rw [if_neg (by omega)]
        | false =>
          have hj' := Nat.ne_of_beq_eq_false hj
          simp only [ih, Tr.get]
          by_cases hjk : j / 2 = k / 2
          · rw [if_pos hjk, if_pos (by omega)]
          · rw [if_neg hjk, if_neg (by omega)]
  | f + 1, .n v l r, k + 1, a, j, h => by
    have ih := fun (t : Tr α) (j : Nat) => Tr.get_set f t (k / 2) a j (by omega)
    simp only [Tr.set]
    cases hk : Nat.beq (k % 2) 0 with
    | true =>
      have hk' := Nat.eq_of_beq_eq_true hk
      cases j with
      | zero => simp [Tr.get]
      | succ j =>
        simp only [Tr.get]
        cases hj : Nat.beq (j % 2) 0 with
        | true =>
          have hj' := Nat.eq_of_beq_eq_true hj
          simp only [ih]
          by_cases hjk : j / 2 = k / 2
          · rw [if_pos hjk, if_pos (by omega)]
          · rw [if_neg hjk, if_neg (by omega)]
        | false =>
          have hj' := Nat.ne_of_beq_eq_false hj
          rw [if_neg (by omega)]
    | false =>
      have hk' := Nat.ne_of_beq_eq_false hk
      cases j with
      | zero => simp [Tr.get]
      | succ j =>
        simp only [Tr.get]
        cases hj : Nat.beq (j % 2) 0 with
        | true =>
          have hj' := Nat.eq_of_beq_eq_true hj
          rw [if_neg (by omega)]
        | false =>
          have hj' := Nat.ne_of_beq_eq_false hj
          simp only [ih]
          by_cases hjk : j / 2 = k / 2
          · rw [if_pos hjk, if_pos (by omega)]
          · rw [if_neg hjk, if_neg (by omega)]
theorem Tr.get_put {α : Type} (t : Tr α) (k : Nat) (a : α) (j : Nat) : (t.put k a).get j = if j = k then some a else t.get j := Tr.get_set _ _ _ _ _ (Nat.lt_succ_self _)
def EnvR [Sig] (r : Rho) (e : Env) (T : Tr AV) : Prop := ∀ t a, T.get t = some a → ∃ A, look t e = some A ∧ Rel r a A
theorem EnvR.mono [Sig] {r r' : Rho} {e : Env} {T : Tr AV} (h : EnvR r e T) (k : r.le r') : EnvR r' e T := fun t a ht => let ⟨A, h1, h2⟩ := h t a ht; ⟨A, h1, h2.mono k⟩
theorem EnvR.put [Sig] {r : Rho} {e : Env} {T : Tr AV} (h : EnvR r e T) {d : Nat} {a : AV} {A : Value} (ha : Rel r a A) : EnvR r ((d, A) :: e) (T.put d a) := fun t b ht => by
  rw [Tr.get_put] at ht
  simp only [look]
  by_cases htd : t = d
  · subst htd
    rw [if_pos rfl] at ht
    cases ht
    rw [show Nat.beq t t = true from Nat.beq_refl t]
    exact ⟨A, rfl, ha⟩
  · rw [if_neg htd] at ht
    have : Nat.beq d t = false := by
      cases hb : Nat.beq d t with
      | true => exact absurd (Nat.eq_of_beq_eq_true hb).symm htd
      | false => rfl
    rw [this]
    exact h t b ht
def RelE [Sig] (r : Rho) : List ME → List MapEntry → Prop
  | [], E => E = []
  | e :: l, E => ∃ k v M, E = ⟨k, v, e.born⟩ :: M ∧ Rel r e.k k ∧ Rel r e.v v ∧ RelE r l M
theorem RelE.mono [Sig] {r r' : Rho} (h : r.le r') : ∀ {l : List ME} {E : List MapEntry}, RelE r l E → RelE r' l E
  | [], _, k => k
  | _ :: _, _, ⟨k, v, M, h1, h2, h3, h4⟩ => ⟨k, v, M, h1, h2.mono h, h3.mono h, h4.mono h⟩
def phaseC : Nat → LoopState | 0 => .ready | 1 => .busy | 2 => .done | _ => .exhausted
def pendC : Option (Option Nat) → Option Code | none => none | some none => some .ret | some (some id) => some (.exit id)
def SlotsR [Sig] (r : Rho) (n : Nat) (tmps : Array Value) (T : Tr AV) : Prop := tmps.size = n ∧ ∀ t a, T.get t = some a → ∃ A, tmps[t]? = some A ∧ Rel r a A
theorem SlotsR.mono [Sig] {r r' : Rho} {n : Nat} {tmps : Array Value} {T : Tr AV} (h : SlotsR r n tmps T) (k : r.le r') : SlotsR r' n tmps T := ⟨h.1, fun t a ht => let ⟨A, h1, h2⟩ := h.2 t a ht; ⟨A, h1, h2.mono k⟩⟩
def Holds [Sig] (r : Rho) (w : World) (B K : Nat) : AB → Prop
  | .row c => ∃ L, RelL r c L ∧ Blk w B L
  | .own el sz c => ∃ L ext, RelL r c L ∧ w.heap[B]? = some (.cells (L ++ ext).toArray el (0, 0)) ∧ (L ++ ext).length = K * sz ∧ K ≤ maxLen
  | .ro c => ∃ L, RelL r c L ∧ At w B 0 L ∧ B < w.heap.size
  | .dead => True
  | .map es clock => ∃ E, RelE r es E ∧ w.heap[B]? = some (.map E.toArray clock)
  | .mit m since seen last => ∃ M, (match m with | none => M = none | some b => ∃ B' K', r b = some (B', K') ∧ M = some B') ∧ w.heap[B]? = some (.mapIter M since seen.toArray last)
  | .lp ph pend f n T ps asg body d => ∃ fn tmps D KD, r d = some (D, KD) ∧ Sig.ok f asg ∧ Sig.ok f body ∧ SlotsR r n tmps T ∧ w.heap[B]? = some (.loop { state := phaseC ph, pending := pendC pend, fn := fn, tmps := tmps, params := ps.toArray, assign := asg, body := body, defers := D })
  | .df => w.heap[B]? = some (.deferred (some []))
def AB.live : AB → Bool | .dead => false | _ => true
def AB.wr : AB → Bool | .dead => false | .ro _ => false | _ => true
theorem Holds.cells [Sig] {r : Rho} {w : World} {B K : Nat} {ab : AB} {c : List AV} (h : Holds r w B K ab) (hc : ab.cells = some c) : ∃ L, RelL r c L ∧ At w B 0 L ∧ B < w.heap.size := by
  cases ab with
  | row l => cases hc; obtain ⟨L, h1, h2⟩ := h; exact ⟨L, h1, h2.at, h2.lt⟩
  | own el sz l =>
    cases hc
    obtain ⟨L, ext, h1, h2, _⟩ := h
    have hb : Blk w B (L ++ ext) := ⟨_, h2⟩
    exact ⟨L, h1, hb.at.left, hb.lt⟩
  | ro l => cases hc; exact h
  | dead => cases hc
  | map => cases hc
  | mit => cases hc
  | lp => cases hc
  | df => cases hc
theorem Holds.lt [Sig] {r : Rho} {w : World} {B K : Nat} {ab : AB} (h : Holds r w B K ab) (hl : ab.live = true) : B < w.heap.size := by
  cases ab with
  | row l => obtain ⟨L, h1, h2⟩ := h; exact h2.lt
  | own el sz l => obtain ⟨L, ext, h1, h2, _⟩ := h; exact (Array.getElem?_eq_some_iff.1 h2).1
  | ro l => obtain ⟨_, _, _, h3⟩ := h; exact h3
  | dead => cases hl
  | map => obtain ⟨_, _, h2⟩ := h; exact (Array.getElem?_eq_some_iff.1 h2).1
  | mit => obtain ⟨_, _, h2⟩ := h; exact (Array.getElem?_eq_some_iff.1 h2).1
  | lp => obtain ⟨_, _, _, _, _, _, _, _, h2⟩ := h; exact (Array.getElem?_eq_some_iff.1 h2).1
  | df => exact (Array.getElem?_eq_some_iff.1 h).1
theorem Holds.mod [Sig] {S : Nat → Prop} {r r' : Rho} {w w' : World} {B K : Nat} {ab : AB} (h : Holds r w B K ab) (hr : r.le r') (hm : Mod S w w') (hn : ab.live = true → ¬ S B) : Holds r' w' B K ab := by
  cases ab with
  | row l => obtain ⟨L, h1, h2⟩ := h; exact ⟨L, h1.mono hr, h2.mod hm (hn rfl)⟩
  | own el sz l => obtain ⟨L, ext, h1, h2, h3⟩ := h; exact ⟨L, ext, h1.mono hr, hm.row h2 (hn rfl), h3⟩
  | ro l => obtain ⟨L, h1, h2, h3⟩ := h; exact ⟨L, h1.mono hr, h2.mod hm (hn rfl), Nat.lt_of_lt_of_le h3 hm.size⟩
  | dead => trivial
  | map => obtain ⟨E, h1, h2⟩ := h; exact ⟨E, h1.mono hr, hm.row h2 (hn rfl)⟩
  | mit m =>
    obtain ⟨M, h1, h2⟩ := h
    refine ⟨M, ?_, hm.row h2 (hn rfl)⟩
    cases m with
    | none => exact h1
    | some b => obtain ⟨B', K', h3, h4⟩ := h1; exact ⟨B', K', hr _ _ h3, h4⟩
  | lp => obtain ⟨fn, tmps, D, KD, h1, h2, h3, h4, h5⟩ := h; exact ⟨fn, tmps, D, KD, hr _ _ h1, h2, h3, h4.mono hr, hm.row h5 (hn rfl)⟩
  | df => exact hm.row h (hn rfl)
structure Sat [Sig] (lo : Nat) (r : Rho) (H : Tr AB) (w : World) : Prop where
  row : ∀ b ab, H.get b = some ab → ∃ B K, r b = some (B, K) ∧ (ab.wr = true → lo ≤ B) ∧ Holds r w B K ab
  inj : ∀ b c ab ac B K K', H.get b = some ab → H.get c = some ac → ab.live = true → ac.live = true → r b = some (B, K) → r c = some (B, K') → b = c
  free : ∀ b, H.get b = none → r b = none
  size : lo ≤ w.heap.size
  old : Mod (fun k => lo ≤ k) Sig.base w
theorem Sat.here [Sig] {lo : Nat} {r : Rho} {H : Tr AB} {w : World} (h : Sat lo r H w) {b B K : Nat} {ab : AB} (hb : H.get b = some ab) (hr : r b = some (B, K)) : (ab.wr = true → lo ≤ B) ∧ Holds r w B K ab := by
  obtain ⟨B', K', h1, h2, h3⟩ := h.row b ab hb
  rw [hr] at h1
  cases h1
  exact ⟨h2, h3⟩
theorem Sat.upd [Sig] {lo : Nat} {r : Rho} {H : Tr AB} {w w' : World} (h : Sat lo r H w) {b B K : Nat} {ab ab' : AB} (hb : H.get b = some ab) (hl : ab.live = true) (hr : r b = some (B, K)) (hlo : lo ≤ B) (hm : Mod (· = B) w w') (hh : Holds r w' B K ab') : Sat lo r (H.put b ab') w' := by
  refine ⟨fun c ac hc => ?_, fun c d ac ad C K1 K2 hc hd hlc hld hrc hrd => ?_, fun c hc => ?_, Nat.le_trans h.size hm.size, h.old.trans (hm.weaken fun k _ hk => by subst hk; exact hlo)⟩
  · rw [Tr.get_put] at hc
    by_cases hcb : c = b
    · subst hcb
      rw [if_pos rfl] at hc
      cases hc
      exact ⟨B, K, hr, fun _ => hlo, hh⟩
    · rw [if_neg hcb] at hc
      obtain ⟨C, K', h1, h2, h3⟩ := h.row c ac hc
      refine ⟨C, K', h1, h2, h3.mod (Rho.le.refl r) hm fun hlc e => ?_⟩
      subst e
      exact hcb (h.inj c b ac ab _ _ _ hc hb hlc hl h1 hr)
  · have key : ∀ x ax, (H.put b ab').get x = some ax → ax.live = true → ∃ ay, H.get x = some ay ∧ ay.live = true := by
      intro x ax hx hlx
      rw [Tr.get_put] at hx
      by_cases hxb : x = b
      · subst hxb; exact ⟨ab, hb, hl⟩
      · rw [if_neg hxb] at hx; exact ⟨ax, hx, hlx⟩
    obtain ⟨a1, h1, h2⟩ := key c ac hc hlc
    obtain ⟨a2, h3, h4⟩ := key d ad hd hld
    exact h.inj c d a1 a2 C K1 K2 h1 h3 h2 h4 hrc hrd
  · rw [Tr.get_put] at hc
    by_cases hcb : c = b
    · rw [if_pos hcb] at hc; cases hc
    · rw [if_neg hcb] at hc; exact h.free c hc
theorem Sat.kill [Sig] {lo : Nat} {r : Rho} {H : Tr AB} {w : World} (h : Sat lo r H w) {b B K : Nat} {ab : AB} (hb : H.get b = some ab) (hr : r b = some (B, K)) : Sat lo r (H.put b .dead) w := by
  refine ⟨fun c ac hc => ?_, fun c d ac ad C K1 K2 hc hd hlc hld hrc hrd => ?_, fun c hc => ?_, h.size, h.old⟩
  · rw [Tr.get_put] at hc
    by_cases hcb : c = b
    · subst hcb
      rw [if_pos rfl] at hc
      cases hc
      exact ⟨B, K, hr, fun hw => (by cases hw), trivial⟩
    · rw [if_neg hcb] at hc
      exact h.row c ac hc
  · have key : ∀ x ax, (H.put b .dead).get x = some ax → ax.live = true → H.get x = some ax := by
      intro x ax hx hlx
      rw [Tr.get_put] at hx
      by_cases hxb : x = b
      · rw [if_pos hxb] at hx; cases hx; cases hlx
      · rw [if_neg hxb] at hx; exact hx
    exact h.inj c d ac ad C K1 K2 (key c ac hc hlc) (key d ad hd hld) hlc hld hrc hrd
  · rw [Tr.get_put] at hc
    by_cases hcb : c = b
    · rw [if_pos hcb] at hc; cases hc
    · rw [if_neg hcb] at hc; exact h.free c hc
theorem Sat.mods [Sig] {S : Nat → Prop} {lo : Nat} {r r' : Rho} {H : Tr AB} {w w' : World} (h : Sat lo r H w) (hr : r.le r') (hm : Mod S w w') (hn : ∀ b ab B K, H.get b = some ab → ab.live = true → r b = some (B, K) → ¬ S B) :
    ∀ b ab, H.get b = some ab → ∃ B K, r' b = some (B, K) ∧ (ab.wr = true → lo ≤ B) ∧ Holds r' w' B K ab := by
  intro b ab hb
  obtain ⟨B, K, h1, h2, h3⟩ := h.row b ab hb
  exact ⟨B, K, hr _ _ h1, h2, h3.mod hr hm fun hl => hn b ab B K hb hl h1⟩
theorem Sat.ext [Sig] {lo : Nat} {r : Rho} {H : Tr AB} {w w' : World} (h : Sat lo r H w) (hm : Ext w w') : Sat lo r H w' :=
  ⟨h.mods (Rho.le.refl r) hm (fun _ _ _ _ _ _ _ h => h), h.inj, h.free, Nat.le_trans h.size hm.size, h.old.trans (hm.weaken fun _ _ h => h.elim)⟩
theorem Sat.new [Sig] {S : Nat → Prop} {lo : Nat} {r : Rho} {H : Tr AB} {w w' : World} (h : Sat lo r H w) {b B K : Nat} {ab : AB} (hb : H.get b = none) (hm : Mod S w w') (hn : ∀ b ab B K, H.get b = some ab → ab.live = true → r b = some (B, K) → ¬ S B) (hS : ∀ k, S k → lo ≤ k)
    (hlo : lo ≤ B) (hB : ∀ c ac K, H.get c = some ac → ac.live = true → r c ≠ some (B, K)) (hh : Holds (r.set b (B, K)) w' B K ab) : r.le (r.set b (B, K)) ∧ Sat lo (r.set b (B, K)) (H.put b ab) w' := by
  have hle := Rho.le.set (h.free b hb) (B, K)
  refine ⟨hle, fun c ac hc => ?_, fun c d ac ad C K1 K2 hc hd hlc hld hrc hrd => ?_, fun c hc => ?_, Nat.le_trans h.size hm.size, h.old.trans (hm.weaken fun k _ hk => hS k hk)⟩
  · rw [Tr.get_put] at hc
    by_cases hcb : c = b
    · subst hcb
      rw [if_pos rfl] at hc
      cases hc
      exact ⟨B, K, Rho.set_same _ _ _, fun _ => hlo, hh⟩
    · rw [if_neg hcb] at hc
      exact h.mods hle hm hn c ac hc
  · rw [Tr.get_put] at hc hd
    by_cases hcb : c = b
    · subst hcb
      rw [Rho.set_same] at hrc
      cases hrc
      by_cases hdc : d = c
      · exact hdc.symm
      · rw [if_neg hdc] at hd
        have : r d = some (B, K2) := by simpa [Rho.set, hdc] using hrd
        exact absurd this (hB d ad K2 hd hld)
    · rw [if_neg hcb] at hc
      have hrc' : r c = some (C, K1) := by simpa [Rho.set, hcb] using hrc
      by_cases hdb : d = b
      · subst hdb
        rw [Rho.set_same] at hrd
        cases hrd
        exact absurd hrc' (hB c ac K1 hc hlc)
      · rw [if_neg hdb] at hd
        have hrd' : r d = some (C, K2) := by simpa [Rho.set, hdb] using hrd
        exact h.inj c d ac ad C K1 K2 hc hd hlc hld hrc' hrd'
  · rw [Tr.get_put] at hc
    by_cases hcb : c = b
    · rw [if_pos hcb] at hc; cases hc
    · rw [if_neg hcb] at hc
      simp [Rho.set, hcb, h.free c hc]
theorem Sat.newTop [Sig] {lo : Nat} {r : Rho} {H : Tr AB} {w w' : World} (h : Sat lo r H w) {b K : Nat} {ab : AB} (hb : H.get b = none) (hm : Ext w w') (hh : Holds (r.set b (w.heap.size, K)) w' w.heap.size K ab) : r.le (r.set b (w.heap.size, K)) ∧ Sat lo (r.set b (w.heap.size, K)) (H.put b ab) w' :=
  h.new hb hm (fun _ _ _ _ _ _ _ h => h) (fun _ h => h.elim) h.size (fun c ac K hc hl hr => by
    obtain ⟨B, K', h1, _, h3⟩ := h.row c ac hc
    rw [hr] at h1
    cases h1
    exact absurd (h3.lt hl) (Nat.lt_irrefl _)) hh
end Go.Proofs.YtfoabgljfikklaaGreatDoor.V
