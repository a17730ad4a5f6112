/-
  A loop by what stays so from round to round: the functions. No condition: these are rules over any program.
-/
import Derived.Test.YtbjomeonjlialaaGreatZax
set_option linter.unusedVariables false
set_option linter.unusedSimpArgs false
namespace Go.Proofs.YtbjomeonjlialaaGreat.V.S
inductive LP where
  | s (t : Nat)
  | c (p : LP) (o : Nat)
def nthV : List AV → Nat → Option AV
  | [], _ => none
  | a :: _, 0 => some a
  | _ :: l, i + 1 => nthV l i
def cellB (H : Tr AB) (b i : Nat) : Option AV := match H.get b with
  | some ab => match ab.cells with
    | some c => nthV c i
    | none => none
  | none => none
def ptrB : AV → Option (Nat × Nat)
  | .p b q => some (b, q)
  | .sl b q _ _ _ => some (b, q)
  | _ => none
def LP.get (st : ST) : LP → Option AV
  | .s t => st.T.get t
  | .c p o => match p.get st with
    | some a => match ptrB a with
      | some (b, q) => cellB st.H b (q + o)
      | none => none
    | none => none
def LP.loc (st : ST) : LP → Option (Nat × Nat)
  | .s _ => none
  | .c p o => match p.get st with
    | some a => match ptrB a with
      | some (b, q) => some (b, q + o)
      | none => none
    | none => none
structure LAnn where
  ng : Nat
  n : Nat
  sl : List (Nat × AV)
  ce : List (LP × AV)
  par : List (LP × AV)
  inv : List SE
  meas : SE
def matchS (m : Mt) (T : Tr AV) : List (Nat × AV) → Option Mt
  | [] => some m
  | (t, p) :: l => match T.get t with
    | some a => match m.matchV p a with
      | some m2 => matchS m2 T l
      | none => none
    | none => none
def matchC (m : Mt) (H : Tr AB) : List (Nat × Nat × AV) → Option Mt
  | [] => some m
  | (b, i, p) :: l => match cellB H b i with
    | some a => match m.matchV p a with
      | some m2 => matchC m2 H l
      | none => none
    | none => none
def matchP (m : Mt) (st : ST) : List (LP × AV) → Option Mt
  | [] => some m
  | (q, p) :: l => match q.get st with
    | some a => match m.matchV p a with
      | some m2 => matchP m2 st l
      | none => none
    | none => none
def locs (st : ST) : List (LP × AV) → Option (List (Nat × Nat × AV))
  | [] => some []
  | (q, p) :: l => match q.loc st, locs st l with
    | some (b, i), some r => some ((b, i, p) :: r)
    | _, _ => none
def genV (next : Nat) (p : AV) : AV := p.sub (fun b => b) fun j => .at (next + j)
def putTs (T : Tr AV) : List (Nat × AV) → Tr AV
  | [] => T
  | (t, v) :: l => putTs (T.put t v) l
def setV : List AV → Nat → AV → Option (List AV)
  | [], _, _ => none
  | _ :: l, 0, v => some (v :: l)
  | a :: l, i + 1, v => match setV l i v with | some r => some (a :: r) | none => none
def putC (H : Tr AB) : List (Nat × Nat × AV) → Option (Tr AB)
  | [] => some H
  | (b, i, v) :: l => match H.get b with
    | some ab => match ab.cells with
      | some c => match setV c i v with
        | some c2 => match ab.set c2 with
          | some ab2 => putC (H.put b ab2) l
          | none => none
        | none => none
      | none => none
    | none => none
def deadsTo (H : Tr AB) (next : Nat) : Nat → Tr AB
  | 0 => H
  | j + 1 => (deadsTo H next j).put (next + j) .dead
def Tr.allB {α : Type} (f : Nat → α → Bool) (g : Nat → Nat) : Tr α → Bool
  | .e => true
  | .n none l r => match Tr.allB f (fun j => g (2 * j + 1)) l with | true => Tr.allB f (fun j => g (2 * j + 2)) r | false => false
  | .n (some a) l r => match f (g 0) a, Tr.allB f (fun j => g (2 * j + 1)) l with | true, true => Tr.allB f (fun j => g (2 * j + 2)) r | _, _ => false
def memS (t : Nat) (a : AV) : List (Nat × AV) → Bool
  | [] => false
  | (u, v) :: l => match Nat.beq u t, sameV v a with | true, true => true | _, _ => memS t a l
def memC (b i : Nat) (a : AV) : List (Nat × Nat × AV) → Bool
  | [] => false
  | (c, j, v) :: l => match Nat.beq c b, Nat.beq j i, sameV v a with | true, true, true => true | _, _, _ => memC b i a l
def sameT (sl : List (Nat × AV)) (T : Tr AV) (t : Nat) (a : AV) : Bool := match memS t a sl with
  | true => true
  | false => match T.get t with | some a2 => sameV a a2 | none => false
def sameC (ce : List (Nat × Nat × AV)) (b : Nat) : Nat → List AV → List AV → Bool
  | _, [], [] => true
  | i, a :: l, a2 :: l2 => match memC b i a ce with
    | true => sameC ce b (i + 1) l l2
    | false => match sameV a a2 with | true => sameC ce b (i + 1) l l2 | false => false
  | _, _, _ => false
def sameG (ce : List (Nat × Nat × AV)) (b : Nat) : AB → AB → Bool
  | .dead, _ => true
  | .row c, .row d => sameC ce b 0 c d
  | .own e s c, .own e2 s2 d => match Nat.beq e e2, Nat.beq s s2 with | true, true => sameC ce b 0 c d | _, _ => false
  | .ro c, .ro d => sameC ce b 0 c d
  | .map [] k, .map [] k2 => Nat.beq k k2
  | _, _ => false
def sameH (ce : List (Nat × Nat × AV)) (H : Tr AB) (b : Nat) (ab : AB) : Bool := match ab with
  | .dead => true
  | ab => match H.get b with | some ab2 => sameG ce b ab ab2 | none => false
def fillE (ng : Nat) (m m2 : Mt) (j : Nat) : SE := match Nat.blt j ng with | true => m2.se j | false => m.se j
def fillG (ng next : Nat) (m : Mt) (j : Nat) : SE := match Nat.blt j ng with | true => .at (next + j) | false => m.se j
def fillB (ng : Nat) (m m2 : Mt) (j : Nat) : Bool := match Nat.blt j ng with
  | true => (match m2.a.get j with | some _ => true | none => false)
  | false => (match m.a.get j with | some _ => true | none => false)
def allOkN (f : Nat → Bool) : List SE → Bool
  | [] => true
  | c :: l => match c.okN f with | true => allOkN f l | false => false
def okS (ng : Nat) : List (Nat × AV) → Bool
  | [] => true
  | (_, p) :: l => match p.okN (fun _ => false) (fun j => Nat.blt j ng) with | true => okS ng l | false => false
def okCe (ng : Nat) : List (Nat × Nat × AV) → Bool
  | [] => true
  | (_, _, p) :: l => match p.okN (fun _ => false) (fun j => Nat.blt j ng) with | true => okCe ng l | false => false
def gens (next : Nat) (sl : List (Nat × AV)) : List (Nat × AV) := sl.map fun x => (x.1, genV next x.2)
def gensC (next : Nat) (ce : List (Nat × Nat × AV)) : List (Nat × Nat × AV) := ce.map fun x => (x.1, x.2.1, genV next x.2.2)
def assumeT {α : Type} : List SE → Out α → Out α
  | [], t => t
  | c :: l, t => .fork c (assumeT l t) .done
def backL (L : LAnn) (id next : Nat) (m : Mt) (ce : List (Nat × Nat × AV)) (T1 : Tr AV) (H1 : Tr AB) (z : Xt × ST) : Out (Xt × ST) := match z.1 with
  | .normal => match matchS ⟨L.n, .e, .e⟩ z.2.T L.sl with
    | some q => match matchC q z.2.H ce with
      | some m2 => match Tr.allB (sameT (gens next L.sl) z.2.T) (fun j => j) T1, Tr.allB (sameH (gensC next ce) z.2.H) (fun j => j) H1, z.2.mks, allOkN (fillB L.ng m m2) (L.meas :: L.inv) with
        | true, true, [], true => needs z.2 (.op (.cm .lss) (L.meas.sub (fillE L.ng m m2)) (L.meas.sub (fillG L.ng next m)) :: .op (.cm .leq) (.li 0) (L.meas.sub (fillE L.ng m m2)) :: L.inv.map (·.sub (fillE L.ng m m2))) fun _ => .done
        | _, _, _, _ => .bad
      | none => .bad
    | none => .bad
  | _ => .leaf (inBlockA id z)
def loopL (L : LAnn) (run : ST → Out (Xt × ST)) (id : Nat) (st : ST) : Out (Xt × ST) := match locs st L.ce, st.mks with
  | some ce, [] => match matchS ⟨L.n, .e, .e⟩ st.T L.sl with
    | some m0 => match matchC m0 st.H ce with
      | some m1 => match matchP m1 st L.par with
        | some m => match putC st.H (gensC st.next ce), freeN st.H st.next L.ng, Nat.ble L.ng L.n, okS L.ng L.sl, okCe L.ng ce, allOkN (fillB L.ng m m) (L.meas :: L.inv) with
          | some H0, true, true, true, true, true => needs st (L.inv.map (·.sub (fillE L.ng m m))) fun s0 =>
            anyN st.next (assumeT (L.inv.map (·.sub (fillG L.ng st.next m))) ((run ⟨putTs st.T (gens st.next L.sl), deadsTo H0 st.next L.ng, st.next + L.ng, [], (L.inv.map fun c => (c.sub (fillG L.ng st.next m), true)) ++ s0.pc⟩).bind (backL L id st.next m ce (putTs st.T (gens st.next L.sl)) (deadsTo H0 st.next L.ng)))) L.ng
          | _, _, _, _, _, _ => .bad
        | none => .bad
      | none => .bad
    | none => .bad
  | _, _ => .bad
def loopXs (P : Program) (plans : Nat → Nat → Option Plan) (ext : CallX) (ann : Nat → Nat → Option LAnn) (k : Nat) : Nat → LoopX
  | 0 => noLx
  | d + 1 => fun rd f id n c st => match ann f id, c with
    | some L, .loop a => some (loopL L (evRun P plans ext (loopXs P plans ext ann k d) k rd f n a) id st)
    | _, _ => none
theorem nthV_eq : ∀ {l : List AV} {i : Nat}, nthV l i = l[i]?
  | [], i => by cases i <;> rfl
  | _ :: _, 0 => rfl
  | _ :: l, i + 1 => by simp [nthV, nthV_eq (l := l) (i := i)]
theorem setV_spec : ∀ {l r : List AV} {i : Nat} {v : AV}, setV l i v = some r → r.length = l.length ∧ ∀ j a, r[j]? = some a → (j = i ∧ a = v) ∨ l[j]? = some a
  | [], r, i, v, h => by simp [setV] at h
  | x :: l, r, 0, v, h => by
    simp only [setV] at h
    cases h
    refine ⟨rfl, fun j a hj => ?_⟩
    cases j with
    | zero => simp only [List.getElem?_cons_zero, Option.some.injEq] at hj; exact .inl ⟨rfl, hj.symm⟩
    | succ j => exact .inr (by simpa using hj)
  | x :: l, r, i + 1, v, h => by
    simp only [setV] at h
    split at h
    · rename_i r' hr
      cases h
      obtain ⟨h1, h2⟩ := setV_spec hr
      refine ⟨by simp [h1], fun j a hj => ?_⟩
      cases j with
      | zero => exact .inr (by simpa using hj)
      | succ j =>
        rcases h2 j a (by simpa using hj) with ⟨k1, k2⟩ | k
        · exact .inl ⟨by omega, k2⟩
        · exact .inr (by simpa using k)
    · cases h
theorem putTs_spec : ∀ {l : List (Nat × AV)} {T : Tr AV} {t : Nat} {a : AV}, (putTs T l).get t = some a → (t, a) ∈ l ∨ T.get t = some a
  | [], T, t, a, h => .inr h
  | (u, v) :: l, T, t, a, h => by
    simp only [putTs] at h
    rcases putTs_spec h with k | k
    · exact .inl (List.mem_cons_of_mem _ k)
    · rw [Tr.get_put] at k
      split at k
      · rename_i e
        cases k
        rw [e]
        exact .inl List.mem_cons_self
      · exact .inr k
theorem deadsTo_get {H : Tr AB} {next : Nat} : ∀ {n b : Nat}, (deadsTo H next n).get b = if next ≤ b ∧ b < next + n then some .dead else H.get b
  | 0, b => by rw [if_neg (by omega)]; rfl
  | n + 1, b => by
    rw [deadsTo, Tr.get_put, deadsTo_get]
    by_cases h : b = next + n
    · rw [if_pos h, if_pos (by omega)]
    · rw [if_neg h]
      by_cases h2 : next ≤ b ∧ b < next + n
      · rw [if_pos h2, if_pos (by omega)]
      · rw [if_neg h2, if_neg (by omega)]
theorem allB_spec {α : Type} {f : Nat → α → Bool} : ∀ {t : Tr α} {g : Nat → Nat}, Tr.allB f g t = true → ∀ k a, t.get k = some a → f (g k) a = true
  | .e, g, _, k, a, hk => by simp [Tr.get] at hk
  | .n v l r, g, h, k, a, hk => by
    have key : (∀ a, v = some a → f (g 0) a = true) ∧ Tr.allB f (fun j => g (2 * j + 1)) l = true ∧ Tr.allB f (fun j => g (2 * j + 2)) r = true := by
      cases v with
      | none =>
        simp only [Tr.allB] at h
        split at h
        · rename_i h1
          exact ⟨fun a ha => (by cases ha), h1, h⟩
        · cases h
      | some x =>
        simp only [Tr.allB] at h
        split at h
        · rename_i h0 h1
          exact ⟨fun a ha => (by cases ha; exact h0), h1, h⟩
        · cases h
    obtain ⟨h0, h1, h2⟩ := key
    cases k with
    | zero => exact h0 a hk
    | succ k =>
      simp only [Tr.get] at hk
      split at hk
      · rename_i he
        have he := Nat.eq_of_beq_eq_true he
        have := allB_spec h1 (k / 2) a hk
        rw [show 2 * (k / 2) + 1 = k + 1 by omega] at this
        exact this
      · rename_i he
        have he := Nat.ne_of_beq_eq_false he
        have := allB_spec h2 (k / 2) a hk
        rw [show 2 * (k / 2) + 2 = k + 1 by omega] at this
        exact this
theorem memS_spec {t : Nat} {a : AV} : ∀ {l : List (Nat × AV)}, memS t a l = true → (t, a) ∈ l
  | [], h => by simp [memS] at h
  | (u, v) :: l, h => by
    simp only [memS] at h
    split at h
    · rename_i h1 h2
      rw [Nat.eq_of_beq_eq_true h1, sameV_eq h2]
      exact List.mem_cons_self
    · exact List.mem_cons_of_mem _ (memS_spec h)
theorem memC_spec {b i : Nat} {a : AV} : ∀ {l : List (Nat × Nat × AV)}, memC b i a l = true → (b, i, a) ∈ l
  | [], h => by simp [memC] at h
  | (c, j, v) :: l, h => by
    simp only [memC] at h
    split at h
    · rename_i h1 h2 h3
      rw [Nat.eq_of_beq_eq_true h1, Nat.eq_of_beq_eq_true h2, sameV_eq h3]
      exact List.mem_cons_self
    · exact List.mem_cons_of_mem _ (memC_spec h)
theorem sameC_spec {ce : List (Nat × Nat × AV)} {b : Nat} : ∀ {l l2 : List AV} {i : Nat}, sameC ce b i l l2 = true → l.length = l2.length ∧ ∀ j a, l[j]? = some a → (b, i + j, a) ∈ ce ∨ l2[j]? = some a
  | [], [], i, _ => ⟨rfl, fun j a h => by simp at h⟩
  | [], _ :: _, i, h => by simp [sameC] at h
  | _ :: _, [], i, h => by simp [sameC] at h
  | x :: l, y :: l2, i, h => by
    have key : sameC ce b (i + 1) l l2 = true ∧ ((b, i, x) ∈ ce ∨ x = y) := by
      simp only [sameC] at h
      split at h
      · rename_i hm
        exact ⟨h, .inl (memC_spec hm)⟩
      · split at h
        · rename_i hs
          exact ⟨h, .inr (sameV_eq hs)⟩
        · cases h
    obtain ⟨h1, h2⟩ := sameC_spec key.1
    refine ⟨by simp [h1], fun j a hj => ?_⟩
    cases j with
    | zero =>
      simp only [List.getElem?_cons_zero, Option.some.injEq] at hj
      subst hj
      rcases key.2 with k | k
      · exact .inl k
      · exact .inr (by simp [k])
    | succ j =>
      rcases h2 j a (by simpa using hj) with k | k
      · exact .inl (by rw [show i + (j + 1) = i + 1 + j by omega]; exact k)
      · exact .inr (by simpa using k)
def CRel (ce : List (Nat × Nat × AV)) (b : Nat) (c c1 : List AV) : Prop := c1.length = c.length ∧ ∀ j a, c1[j]? = some a → (b, j, a) ∈ ce ∨ c[j]? = some a
inductive BRel (ce : List (Nat × Nat × AV)) (b : Nat) : AB → AB → Prop where
  | dead {ab : AB} : BRel ce b ab .dead
  | row {c c1 : List AV} : CRel ce b c c1 → BRel ce b (.row c) (.row c1)
  | own {e s : Nat} {c c1 : List AV} : CRel ce b c c1 → BRel ce b (.own e s c) (.own e s c1)
  | ro {c c1 : List AV} : CRel ce b c c1 → BRel ce b (.ro c) (.ro c1)
  | map {k : Nat} : BRel ce b (.map [] k) (.map [] k)
  | same {ab : AB} : BRel ce b ab ab
theorem sameG_spec {ce : List (Nat × Nat × AV)} {b : Nat} {ab ab2 : AB} (h : sameG ce b ab ab2 = true) : BRel ce b ab2 ab ∧ (∀ es k, ab = .map es k → es = []) := by
  have cr : ∀ {c d : List AV}, sameC ce b 0 c d = true → CRel ce b d c := fun h => by
    obtain ⟨h1, h2⟩ := sameC_spec h
    exact ⟨h1, fun j a hj => by have := h2 j a hj; rwa [Nat.zero_add] at this⟩
  unfold sameG at h
  split at h
  · exact ⟨.dead, fun _ _ e => by cases e⟩
  · exact ⟨.row (cr h), fun _ _ e => by cases e⟩
  · split at h
    · rename_i h1 h2
      rw [Nat.eq_of_beq_eq_true h1, Nat.eq_of_beq_eq_true h2]
      exact ⟨.own (cr h), fun _ _ e => by cases e⟩
    · cases h
  · exact ⟨.ro (cr h), fun _ _ e => by cases e⟩
  · rw [Nat.eq_of_beq_eq_true h]
    exact ⟨.map, fun _ _ e => by cases e; rfl⟩
  · cases h
theorem putC_spec : ∀ {l : List (Nat × Nat × AV)} {H H1 : Tr AB} {ce : List (Nat × Nat × AV)}, (∀ x ∈ l, x ∈ ce) → putC H l = some H1 → ∀ b, (H.get b = none ∧ H1.get b = none) ∨ ∃ ab ab1, H.get b = some ab ∧ H1.get b = some ab1 ∧ BRel ce b ab ab1
  | [], H, H1, ce, _, h, b => by
    simp only [putC, Option.some.injEq] at h
    subst h
    cases hb : H.get b with
    | none => exact .inl ⟨rfl, rfl⟩
    | some ab => exact .inr ⟨ab, ab, rfl, rfl, .same⟩
  | (b0, i, v) :: l, H, H1, ce, hl, h, b => by
    simp only [putC] at h
    split at h
    · rename_i ab hab
      split at h
      · rename_i c hc
        split at h
        · rename_i c2 hc2
          split at h
          · rename_i ab2 hs
            have hce : (b0, i, v) ∈ ce := hl _ List.mem_cons_self
            obtain ⟨g1, g2⟩ := setV_spec hc2
            have hcr : CRel ce b0 c c2 := ⟨g1, fun j a hj => by
              rcases g2 j a hj with ⟨k1, k2⟩ | k
              · rw [k1, k2]; exact .inl hce
              · exact .inr k⟩
            have h0 : BRel ce b0 ab ab2 := by
              cases ab with
              | row d => cases hc; cases hs; exact .row hcr
              | own el sz d => cases hc; cases hs; exact .own hcr
              | ro d => cases hs
              | _ => cases hc
            have cc : ∀ {x y z : List AV}, CRel ce b0 x y → CRel ce b0 y z → CRel ce b0 x z := fun h k => ⟨k.1.trans h.1, fun j a hj => by
              rcases k.2 j a hj with k | k
              · exact .inl k
              · exact h.2 j a k⟩
            rcases putC_spec (fun x hx => hl x (List.mem_cons_of_mem _ hx)) h b with ⟨k1, k2⟩ | ⟨a1, a2, k1, k2, k3⟩
            · rw [Tr.get_put] at k1
              split at k1
              · cases k1
              · exact .inl ⟨k1, k2⟩
            · rw [Tr.get_put] at k1
              split at k1
              · rename_i e
                subst e
                cases k1
                refine .inr ⟨ab, a2, hab, k2, ?_⟩
                cases h0 with
                | dead => cases k3 <;> exact .dead
                | row h0 => cases k3 with
                  | dead => exact .dead
                  | row h3 => exact .row (cc h0 h3)
                  | same => exact .row h0
                | own h0 => cases k3 with
                  | dead => exact .dead
                  | own h3 => exact .own (cc h0 h3)
                  | same => exact .own h0
                | ro h0 => cases k3 with
                  | dead => exact .dead
                  | ro h3 => exact .ro (cc h0 h3)
                  | same => exact .ro h0
                | map => exact k3
                | same => exact k3
              · exact .inr ⟨a1, a2, k1, k2, k3⟩
          · cases h
        · cases h
      · cases h
    · cases h
end Go.Proofs.YtbjomeonjlialaaGreat.V.S
