/-
  A contract is shown by a run. No condition: these are rules over any program.
-/
import Derived.Test.YtbjomeonjlialaaGreatZbb
set_option linter.unusedVariables false
set_option linter.unusedSimpArgs false
namespace Go.Proofs.YtbjomeonjlialaaGreat.V.S
def idMt (n : Nat) : Nat → Mt
  | 0 => ⟨n, .e, .e⟩
  | j + 1 => ⟨n, (idMt n j).a.put j (.at j), (idMt n j).b.put j j⟩
def SE.ats : SE → List Nat
  | .at i => [i]
  | .op _ a b => a.ats ++ b.ats
  | _ => []
mutual
def AV.ats : AV → List Nat
  | .f _ cs => AV.atss cs
  | .fb _ fs cs => AV.atss fs ++ AV.atss cs
  | .g l1 => AV.atss l1
  | .t l1 => AV.atss l1
  | .it _ v1 => AV.ats v1
  | .xi _ e1 => e1.ats
  | .xb e1 => e1.ats
  | .xs e1 => e1.ats
  | .xv _ e1 => e1.ats
  | .xw e1 => e1.ats
  | .xq _ e1 j1 _ => e1.ats ++ j1.ats
  | _ => []
def AV.atss : List AV → List Nat
  | [] => []
  | a1 :: l1 => AV.ats a1 ++ AV.atss l1
end
def atsH : List (Nat × AB) → List Nat
  | [] => []
  | (_, ab) :: l => (match ab.cells with | some c => AV.atss c | none => []) ++ atsH l
mutual
def AV.typs : AV → List (Nat × SK)
  | .f _ cs => AV.typss cs
  | .fb _ fs cs => AV.typss fs ++ AV.typss cs
  | .g l1 => AV.typss l1
  | .t l1 => AV.typss l1
  | .xv f1 (.at q1) => [(q1, .v f1)]
  | .xw (.at q1) => [(q1, .w)]
  | _ => []
def AV.typss : List AV → List (Nat × SK)
  | [] => []
  | a1 :: l1 => AV.typs a1 ++ AV.typss l1
end
def typsH : List (Nat × AB) → List (Nat × SK)
  | [] => []
  | (_, ab) :: l => (match ab.cells with | some c => AV.typss c | none => []) ++ typsH l
def Ctr.typs (C : Ctr) : List (Nat × SK) := AV.typss C.args ++ typsH C.H
def Ctr.ats (C : Ctr) : List Nat := AV.atss C.args ++ atsH C.H
def qCT (na : Nat) (ats : List Nat) : CT → AV × ST → Out (List Eqn)
  | .done nn v Hs, z => match QS.matchV ⟨idMt (na + nn) na, []⟩ v z.1 with
    | some z1 => match z1.matchH z.2.H Hs with
      | some z2 => match nodupN (Hs.map fun x => z2.m.bl x.1) with
        | true => .leaf z2.q
        | false => .bad
      | none => .bad
    | none => .bad
  | .fork e t f, z => match e.okN (fun i => memN i ats) with
    | true => match pcFind e z.2.pc with
      | some true => qCT na ats t z
      | some false => qCT na ats f z
      | none => .fork e (qCT na ats t z) (qCT na ats f z)
    | false => .bad
def Ctr.run (C : Ctr) (P : Program) (plans : Nat → Nat → Option Plan) (ext : CallX) (lx : LoopX) (k : Nat) : Out (List Eqn) :=
  (evText P plans ext lx k C.f C.args ⟨.e, ctrH C.na C.H, C.na, [], C.pre.map fun c => (c, true)⟩).bind (qCT C.na C.ats C.post)
def Eqn.same (a b : Eqn) : Bool := match Nat.beq a.k b.k, SE.same a.a b.a with | true, true => SE.same a.b b.b | _, _ => false
def Eqn.sames : List Eqn → List Eqn → Bool
  | [], [] => true
  | a :: l, b :: m => match Eqn.same a b with | true => Eqn.sames l m | false => false
  | _, _ => false
def Out.same : Out (List Eqn) → Out (List Eqn) → Bool
  | .done, .done => true
  | .leaf a, .leaf b => Eqn.sames a b
  | .fork e t f, .fork e2 t2 f2 => match SE.same e e2, Out.same t t2 with | true, true => Out.same f f2 | _, _ => false
  | .need e t, .need e2 t2 => match SE.same e e2 with | true => Out.same t t2 | false => false
  | .both t f, .both t2 f2 => match Out.same t t2 with | true => Out.same f f2 | false => false
  | .any i t, .any i2 t2 => match Nat.beq i i2 with | true => Out.same t t2 | false => false
  | _, _ => false
def Out.slim : Out (List Eqn) → Out (List Eqn)
  | .both t f => match Out.same t.slim f.slim with
    | true => t.slim
    | false => .both t.slim f.slim
  | .fork e t f => .fork e t.slim f.slim
  | .need e t => .need e t.slim
  | .any i t => .any i t.slim
  | t => t
theorem Eqn.same_eq {a b : Eqn} (h : Eqn.same a b = true) : a = b := by
  obtain ⟨k, x, y⟩ := a
  obtain ⟨k2, x2, y2⟩ := b
  unfold Eqn.same at h
  split at h
  · rename_i h1 h2
    have h1 := Nat.eq_of_beq_eq_true h1
    have h2 := SE.same_eq h2
    have h := SE.same_eq h
    simp only at h1 h2 h
    rw [h1, h2, h]
  · cases h
theorem Eqn.sames_eq : ∀ {a b : List Eqn}, Eqn.sames a b = true → a = b
  | [], [], _ => rfl
  | [], _ :: _, h => by simp [Eqn.sames] at h
  | _ :: _, [], h => by simp [Eqn.sames] at h
  | x :: a, y :: b, h => by
    simp only [Eqn.sames] at h
    split at h
    · rename_i h1
      rw [Eqn.same_eq h1, Eqn.sames_eq h]
    · cases h
theorem Out.same_eq : ∀ {a b : Out (List Eqn)}, Out.same a b = true → a = b := by
  intro a
  induction a with
  | bad => intro b h; cases b <;> simp [Out.same] at h
  | done => intro b h; cases b <;> first | rfl | (simp [Out.same] at h)
  | leaf x =>
    intro b h
    cases b <;> first | (simp [Out.same] at h; done) | skip
    simp only [Out.same] at h
    rw [Eqn.sames_eq h]
  | fork e t f iht ihf =>
    intro b h
    cases b <;> first | (simp [Out.same] at h; done) | skip
    simp only [Out.same] at h
    split at h
    · rename_i h1 h2
      rw [SE.same_eq h1, iht h2, ihf h]
    · cases h
  | need e t iht =>
    intro b h
    cases b <;> first | (simp [Out.same] at h; done) | skip
    simp only [Out.same] at h
    split at h
    · rename_i h1
      rw [SE.same_eq h1, iht h]
    · cases h
  | both t f iht ihf =>
    intro b h
    cases b <;> first | (simp [Out.same] at h; done) | skip
    simp only [Out.same] at h
    split at h
    · rename_i h1
      rw [iht h1, ihf h]
    · cases h
  | any i t iht =>
    intro b h
    cases b <;> first | (simp [Out.same] at h; done) | skip
    simp only [Out.same] at h
    split at h
    · rename_i h1
      rw [Nat.eq_of_beq_eq_true h1, iht h]
    · cases h
theorem slim_vc {X : Type} [Spec X] {K : Val X → List Eqn → Prop} : ∀ {t : Out (List Eqn)} {s : Val X}, t.slim.vc K s → t.vc K s
  | .bad, _, h => h
  | .done, _, h => h
  | .leaf _, _, h => h
  | .any i t, s, h => fun d => slim_vc (t := t) (h d)
  | .fork e t f, s, ⟨d, h1, h2, h3⟩ => ⟨d, h1, fun hd => slim_vc (h2 hd), fun hd => slim_vc (h3 hd)⟩
  | .need e t, s, ⟨h1, h2⟩ => ⟨h1, slim_vc h2⟩
  | .both t f, s, h => by
    simp only [Out.slim] at h
    split at h
    · rename_i hs
      exact ⟨slim_vc h, slim_vc (by rw [← Out.same_eq hs]; exact h)⟩
    · exact ⟨slim_vc h.1, slim_vc h.2⟩
theorem idMt_spec {n : Nat} : ∀ {j : Nat}, (idMt n j).n = n ∧ ∀ i, i < j → (idMt n j).a.get i = some (.at i) ∧ (idMt n j).b.get i = some i
  | 0 => ⟨rfl, fun i hi => by omega⟩
  | j + 1 => by
    obtain ⟨_, h2⟩ := idMt_spec (n := n) (j := j)
    refine ⟨rfl, fun i hi => ?_⟩
    simp only [idMt, Tr.get_put]
    by_cases h : i = j
    · subst h
      rw [if_pos rfl, if_pos rfl]
      exact ⟨rfl, rfl⟩
    · rw [if_neg h, if_neg h]
      exact h2 i (by omega)
section
variable {X : Type} {r : Rho X}
mutual
def BndK : SK → D X → Prop
  | .w, d => d.snd.str.length ≤ maxLen
  | .v fs, d => d.snd.lst.length ≤ maxLen ∧ ∀ x ∈ d.snd.lst, BndKs fs (rowD fs x)
  | _, _ => True
def BndKs : List SK → List (D X) → Prop
  | [], _ => True
  | k :: fs, ds => BndK k (ds.headD (.i 0)) ∧ BndKs fs ds.tail
end
mutual
theorem relK_bnd : ∀ (k : SK) {d : D X} {V : Value}, RelK r k d V → BndK k d
  | .i _, _, _, _ | .b, _, _, _ | .s, _, _, _ => by unfold BndK; trivial
  | .w, d, V, h => by
    obtain ⟨_, _, _, _, _, h1⟩ := h.w_inv
    unfold BndK
    exact h1
  | .v fs, d, V, h => by
    obtain ⟨_, _, _, _, rows, h1, h2, _, h3⟩ := h.v_inv
    unfold BndK
    refine ⟨h3, fun x hx => ?_⟩
    obtain ⟨j, hj⟩ := List.getElem?_of_mem hx
    obtain ⟨L, hL⟩ : ∃ L, rows[j]? = some L := ⟨_, List.getElem?_eq_getElem (by have := (List.getElem?_eq_some_iff.1 hj).1; omega)⟩
    exact relKs_bnd fs (h2 j x L hj hL)
theorem relKs_bnd : ∀ (fs : List SK) {ds : List (D X)} {L : List Value}, RelKs r fs ds L → BndKs fs ds
  | [], _, _, _ => by unfold BndKs; trivial
  | k :: fs, ds, L, h => by
    unfold RelKs at h
    obtain ⟨A, M, _, h1, h2⟩ := h
    unfold BndKs
    exact ⟨relK_bnd k h1, relKs_bnd fs h2⟩
end
end
section
variable {X : Type} [Spec X] {P : Program} {lo : Nat} {r : Rho X} {w : World}
theorem den_ats {a : Val X} : ∀ {e : SE} {d : D X}, den a e = some d → ∀ i ∈ e.ats, ∃ d, a i = some d
  | .at i, d, h, j, hj => by
    simp only [SE.ats, List.mem_singleton] at hj
    subst hj
    exact ⟨d, h⟩
  | .li _, _, _, j, hj => by simp [SE.ats] at hj
  | .lb _, _, _, j, hj => by simp [SE.ats] at hj
  | .ls _, _, _, j, hj => by simp [SE.ats] at hj
  | .nl, _, _, j, hj => by simp [SE.ats] at hj
  | .nb, _, _, j, hj => by simp [SE.ats] at hj
  | .op o s t, d, h, j, hj => by
    obtain ⟨x, y, h1, h2, _⟩ := den_op_inv h
    simp only [SE.ats] at hj
    rcases List.mem_append.1 hj with hj | hj
    · exact den_ats h1 j hj
    · exact den_ats h2 j hj
mutual
theorem rel_ats [Sig] : ∀ (a : AV) {V : Value}, Rel r a V → ∀ i ∈ a.ats, ∃ d, r.at' i = some d
  | .b _, _, _, i, hi | .i _ _, _, _, i, hi | .s _, _, _, i, hi | .p0, _, _, i, hi | .sl0, _, _, i, hi | .se, _, _, i, hi | .nf, _, _, i, hi | .m0, _, _, i, hi | .n0, _, _, i, hi | .o _, _, _, i, hi
  | .p _ _, _, _, i, hi | .ez .., _, _, i, hi | .sl .., _, _, i, hi | .m _, _, _, i, hi | .y _, _, _, i, hi => by simp [AV.ats] at hi
  | .f _ cs, V, h, i, hi => by
    obtain ⟨L, _, h2⟩ := rel_f h
    exact relL_ats cs h2 i (by simpa [AV.ats] using hi)
  | .fb _ fs cs, V, h, i, hi => by
    obtain ⟨L, M, _, h2, h3⟩ := rel_fb h
    simp only [AV.ats] at hi
    rcases List.mem_append.1 hi with hi | hi
    · exact relL_ats fs h2 i hi
    · exact relL_ats cs h3 i hi
  | .g l, V, h, i, hi => by
    obtain ⟨L, _, h2⟩ := rel_g h
    exact relL_ats l h2 i (by simpa [AV.ats] using hi)
  | .t l, V, h, i, hi => by
    obtain ⟨L, _, h2⟩ := rel_t h
    exact relL_ats l h2 i (by simpa [AV.ats] using hi)
  | .it _ v, V, h, i, hi => by
    unfold Rel at h
    obtain ⟨U, _, h2⟩ := h
    exact rel_ats v h2 i (by simpa [AV.ats] using hi)
  | .xi _ _, V, h, i, hi => let ⟨_, h1, _⟩ := rel_xi h; den_ats h1 i (by simpa [AV.ats] using hi)
  | .xb _, V, h, i, hi => let ⟨_, h1, _⟩ := rel_xb h; den_ats h1 i (by simpa [AV.ats] using hi)
  | .xs _, V, h, i, hi => let ⟨_, h1, _⟩ := rel_xs h; den_ats h1 i (by simpa [AV.ats] using hi)
  | .xv _ _, V, h, i, hi => let ⟨_, h1, _⟩ := rel_xv h; den_ats h1 i (by simpa [AV.ats] using hi)
  | .xw _, V, h, i, hi => let ⟨_, h1, _⟩ := rel_xw h; den_ats h1 i (by simpa [AV.ats] using hi)
  | .xq _ _ _ _, V, h, i, hi => by
    obtain ⟨d, dj, _, _, _, h1, h2, _⟩ := rel_xq h
    simp only [AV.ats] at hi
    rcases List.mem_append.1 hi with hi | hi
    · exact den_ats h1 i hi
    · exact den_ats h2 i hi
theorem relL_ats [Sig] : ∀ (l : List AV) {L : List Value}, RelL r l L → ∀ i ∈ AV.atss l, ∃ d, r.at' i = some d
  | [], _, _, i, hi => by simp [AV.atss] at hi
  | a :: l, L, h, i, hi => by
    obtain ⟨A, M, rfl, h1, h2⟩ := h.of_cons
    simp only [AV.atss] at hi
    rcases List.mem_append.1 hi with hi | hi
    · exact rel_ats a h1 i hi
    · exact relL_ats l h2 i hi
end
theorem atsH_ok [Sig] {H : Tr AB} (hs : Sat lo r H w) : ∀ {l : List (Nat × AB)}, (∀ x ∈ l, H.get x.1 = some x.2) → ∀ i ∈ atsH l, ∃ d, r.at' i = some d
  | [], _, i, hi => by simp [atsH] at hi
  | (b, ab) :: l, h, i, hi => by
    simp only [atsH] at hi
    rcases List.mem_append.1 hi with hi | hi
    · split at hi
      · rename_i c hc
        obtain ⟨B, K, _, _, hh⟩ := hs.row b ab (h _ List.mem_cons_self)
        obtain ⟨L, hL, _⟩ := hh.cells hc
        exact relL_ats c hL i hi
      · simp at hi
    · exact atsH_ok hs (fun x hx => h x (List.mem_cons_of_mem _ hx)) i hi
theorem okN_den {a : Val X} {f : Nat → Bool} (h : ∀ i, f i = true → ∃ d, a i = some d) {e : SE} (he : e.okN f = true) : ∃ d, den a e = some d := by
  obtain ⟨d, h1, _⟩ := den_two (f := fun i => .at i) (g := fun i => .at i) (a := a) (a' := a) (oa := f) (fun j hj => (let ⟨d, hd⟩ := h j hj; ⟨d, hd, hd⟩)) he
  have : ∀ e : SE, e.sub (fun i => .at i) = e := by
    intro e
    induction e with
    | op o x y ihx ihy => simp only [SE.sub, ihx, ihy]
    | _ => rfl
  rw [this] at h1
  exact ⟨d, h1⟩
mutual
theorem rel_typs [Sig] : ∀ (a : AV) {V : Value}, Rel r a V → ∀ x ∈ a.typs, ∃ d, r.at' x.1 = some d ∧ BndK x.2 d
  | .b _, _, _, i, hi | .i _ _, _, _, i, hi | .s _, _, _, i, hi | .p0, _, _, i, hi | .sl0, _, _, i, hi | .se, _, _, i, hi | .nf, _, _, i, hi | .m0, _, _, i, hi | .n0, _, _, i, hi | .o _, _, _, i, hi
  | .p _ _, _, _, i, hi | .ez .., _, _, i, hi | .sl .., _, _, i, hi | .m _, _, _, i, hi | .y _, _, _, i, hi | .xi _ _, _, _, i, hi | .xb _, _, _, i, hi | .xs _, _, _, i, hi | .xq _ _ _ _, _, _, i, hi | .it _ _, _, _, i, hi => by simp [AV.typs] at hi
  | .f _ cs, V, h, i, hi => by
    obtain ⟨L, _, h2⟩ := rel_f h
    exact relL_typs cs h2 i (by simpa [AV.typs] using hi)
  | .fb _ fs cs, V, h, i, hi => by
    obtain ⟨L, M, _, h2, h3⟩ := rel_fb h
    simp only [AV.typs] at hi
    rcases List.mem_append.1 hi with hi | hi
    · exact relL_typs fs h2 i hi
    · exact relL_typs cs h3 i hi
  | .g l, V, h, i, hi => by
    obtain ⟨L, _, h2⟩ := rel_g h
    exact relL_typs l h2 i (by simpa [AV.typs] using hi)
  | .t l, V, h, i, hi => by
    obtain ⟨L, _, h2⟩ := rel_t h
    exact relL_typs l h2 i (by simpa [AV.typs] using hi)
  | .xv fs e, V, h, i, hi => by
    obtain ⟨d, h1, h2⟩ := rel_xv h
    cases e <;> simp [AV.typs] at hi
    subst hi
    exact ⟨d, h1, relK_bnd _ h2⟩
  | .xw e, V, h, i, hi => by
    obtain ⟨d, h1, h2⟩ := rel_xw h
    cases e <;> simp [AV.typs] at hi
    subst hi
    exact ⟨d, h1, relK_bnd _ h2⟩
theorem relL_typs [Sig] : ∀ (l : List AV) {L : List Value}, RelL r l L → ∀ x ∈ AV.typss l, ∃ d, r.at' x.1 = some d ∧ BndK x.2 d
  | [], _, _, i, hi => by simp [AV.typss] at hi
  | a :: l, L, h, i, hi => by
    obtain ⟨A, M, rfl, h1, h2⟩ := h.of_cons
    simp only [AV.typss] at hi
    rcases List.mem_append.1 hi with hi | hi
    · exact rel_typs a h1 i hi
    · exact relL_typs l h2 i hi
end
theorem typsH_ok [Sig] {H : Tr AB} (hs : Sat lo r H w) : ∀ {l : List (Nat × AB)}, (∀ x ∈ l, H.get x.1 = some x.2) → ∀ x ∈ typsH l, ∃ d, r.at' x.1 = some d ∧ BndK x.2 d
  | [], _, i, hi => by simp [typsH] at hi
  | (b, ab) :: l, h, i, hi => by
    simp only [typsH] at hi
    rcases List.mem_append.1 hi with hi | hi
    · split at hi
      · rename_i c hc
        obtain ⟨B, K, _, _, hh⟩ := hs.row b ab (h _ List.mem_cons_self)
        obtain ⟨L, hL, _⟩ := hh.cells hc
        exact relL_typs c hL i hi
      · simp at hi
    · exact typsH_ok hs (fun x hx => h x (List.mem_cons_of_mem _ hx)) i hi
theorem matchQB_ok [Sig] {p a : AB} {z z' : QS} (h : z.matchB p a = some z') : QLe z z' ∧ p.wr = a.wr ∧ p.live = a.live ∧ ∀ (mF : Mt) (w : World) (B K : Nat), z'.m.le mF → EqsOK r.at' z'.q → Holds r w B K a → Holds (mF.rho r) w B K p := by
  unfold QS.matchB at h
  split at h
  · obtain ⟨h1, h2⟩ := matchQL_ok (r := r) _ h
    exact ⟨h1, rfl, rfl, fun mF w B K hF hq ⟨L, k1, k2⟩ => ⟨L, h2 mF L hF hq k1, k2⟩⟩
  · split at h
    · rename_i q1 q2
      rw [Nat.eq_of_beq_eq_true q1, Nat.eq_of_beq_eq_true q2]
      obtain ⟨h1, h2⟩ := matchQL_ok (r := r) _ h
      exact ⟨h1, rfl, rfl, fun mF w B K hF hq ⟨L, ext, k1, k2⟩ => ⟨L, ext, h2 mF L hF hq k1, k2⟩⟩
    · cases h
  · obtain ⟨h1, h2⟩ := matchQL_ok (r := r) _ h
    exact ⟨h1, rfl, rfl, fun mF w B K hF hq ⟨L, k1, k2⟩ => ⟨L, h2 mF L hF hq k1, k2⟩⟩
  · split at h
    · rename_i q1
      rw [Nat.eq_of_beq_eq_true q1]
      cases h
      exact ⟨QLe.refl _, rfl, rfl, fun mF w B K hF hq ⟨E, k1, k2⟩ => ⟨E, k1, k2⟩⟩
    · cases h
  · cases h
theorem matchQH_ok [Sig] {H : Tr AB} : ∀ {l : List (Nat × AB)} {z z' : QS}, z.matchH H l = some z' → QLe z z' ∧ (EqsOK r.at' z'.q → ∀ x ∈ l, Met r H z'.m x.1 x.2)
  | [], z, z', h => by
    simp only [QS.matchH] at h
    cases h
    exact ⟨QLe.refl z, fun _ x hx => (by simp at hx)⟩
  | (b, ab) :: l, z, z', h => by
    simp only [QS.matchH] at h
    split at h
    · rename_i b2 hb
      split at h
      · rename_i ab2 hH
        split at h
        · rename_i z2 h2
          obtain ⟨k1, k2, k3, k4⟩ := matchQB_ok (r := r) h2
          obtain ⟨k5, k6⟩ := matchQH_ok (l := l) h
          refine ⟨k1.trans k5, fun hq x hx => ?_⟩
          rcases List.mem_cons.1 hx with rfl | hx
          · exact ⟨b2, ab2, (k1.trans k5).1.b _ _ hb, hH, k2, k3, fun mF w B K hF hh => k4 mF w B K (k5.1.trans hF) (fun q hq' => hq q (k5.2 q hq')) hh⟩
          · exact k6 hq x hx
        · cases h
      · cases h
    · cases h
theorem qCT_ok [Sig] {na : Nat} {l : List (Nat × AB)} {ats : List Nat} (hn : (l.map (·.1)).Nodup) (hk : ∀ x ∈ l, x.1 < na) (hs : Sat lo r (ctrH na l) w) (hats : ∀ i ∈ ats, ∃ d, r.at' i = some d) {rL : Rho X} {w' : World} {V : Value} {z : AV × ST} (hle : r.le rL) (hV : Rel rL z.1 V) (hsL : Sat lo rL z.2.H w') (hf : FrmC r (ctrH na l) w rL z.2.H w') (hpc : PcOK rL.at' z.2.pc) :
    ∀ {ct : CT}, ct.wf na (l.map (·.1)) = true → (qCT na ats ct z).vc EqsOK rL.at' → ct.left lo na r (ctrH na l) w V w'
  | .done nn v Hs, hwf, hev => by
    simp only [CT.wf] at hwf
    split at hwf
    · rename_i p1 p2 p3
      simp only [qCT] at hev
      split at hev
      · rename_i z1 hz1
        split at hev
        · rename_i z2 hz2
          split at hev
          · rename_i hnd
            have hq : EqsOK rL.at' z2.q := hev
            obtain ⟨a1, a2⟩ := matchQV_ok (r := rL) v hz1
            obtain ⟨b1, b2⟩ := matchQH_ok (r := rL) hz2
            obtain ⟨i1, i2⟩ := idMt_spec (n := na + nn) (j := na)
            have hn2 : z2.m.n = na + nn := by rw [b1.1.n, a1.1.n]; exact i1
            have hkeys : ∀ x ∈ Hs, x.1 < na + nn := fun x hx => by
              rcases postKeys_spec p1 x hx with k | ⟨_, k, _⟩
              · obtain ⟨y, hy, e⟩ := List.mem_map.1 k
                have := hk y hy
                omega
              · exact k
            have hM : MeetP lo rL z.2.H w' (na + nn) z2.m Hs := ⟨hn2, hkeys, nodupN_spec p2, p3, b2 hq, nodupN_spec hnd, hsL⟩
            have hlt : ∀ b, (ctrH na l).get b ≠ none → b < na := fun b hb => by
              rw [ctrH_get hn hk] at hb
              by_cases h : b < na
              · exact h
              · rw [if_neg h] at hb; exact absurd rfl hb
            refine ⟨z2.m.rho rL, ⟨fun b x hx => ?_, fun k o ho => hle.f k o ho, fun i d hd => ?_⟩, a2 z2.m V b1.1 (fun q hq' => hq q (b1.2 q hq')) hV, hM.pat, hf.mod, fun k hkk hi => hf.grow k hkk (hM.inW hi), hf.fzn⟩
            · have hb : b < na := hlt b fun hc => by rw [(hs.free b hc).1] at hx; cases hx
              exact rho_blk (by rw [hn2]; omega) (b1.1.b _ _ (a1.1.b _ _ (i2 b hb).2)) (hle.b _ _ hx)
            · have hi : i < na := hlt i fun hc => by rw [(hs.free i hc).2] at hd; cases hd
              have hg := b1.1.a _ _ (a1.1.a _ _ (i2 i hi).1)
              simp only [Mt.rho, hn2, if_pos (show i < na + nn by omega), hg, Option.bind_some, den]
              exact hle.a _ _ hd
          · exact hev.elim
        · exact hev.elim
      · exact hev.elim
    · cases hwf
  | .fork e t f, hwf, hev => by
    simp only [CT.wf] at hwf
    split at hwf
    · rename_i hwt
      simp only [qCT] at hev
      split at hev
      · rename_i ho
        obtain ⟨d, hd⟩ := okN_den (a := r.at') (fun i hi => hats i (memN_iff.1 hi)) ho
        have hdL := den_mono hle.a hd
        split at hev
        · rename_i hq
          obtain ⟨d2, h1, h2⟩ := pcFind_ok hpc hq
          rw [hdL] at h1
          cases h1
          exact .inl ⟨⟨d, hd, h2⟩, qCT_ok hn hk hs hats hle hV hsL hf hpc hwt hev⟩
        · rename_i hq
          obtain ⟨d2, h1, h2⟩ := pcFind_ok hpc hq
          rw [hdL] at h1
          cases h1
          exact .inr ⟨⟨d, hd, h2⟩, qCT_ok hn hk hs hats hle hV hsL hf hpc hwf hev⟩
        · obtain ⟨d2, h1, h2, h3⟩ := hev
          rw [hdL] at h1
          cases h1
          cases hb : d.tr with
          | true => exact .inl ⟨⟨d, hd, hb⟩, qCT_ok hn hk hs hats hle hV hsL hf hpc hwt (h2 hb)⟩
          | false => exact .inr ⟨⟨d, hd, hb⟩, qCT_ok hn hk hs hats hle hV hsL hf hpc hwf (h3 hb)⟩
      · exact hev.elim
    · cases hwf
theorem ctr_ok [Sig] {plans : Nat → Nat → Option Plan} {ext : CallX} {lx : LoopX} (hmix : P.follows .mixedOrders = true) (hsz : P.funcs.size ≤ YB) (hok0 : ∀ f c, Sig.ok f c ↔ (okC plans f c = true ∧ InF P f c)) (hfs : OkAll P plans) (hext : CallOK X P lo ext) (hlx : LoopXOK X P plans lo lx) {C : Ctr} {k : Nat} {vt : Out (List Eqn)}
    (hwf : C.wf = true) (hrun : Out.same (C.run P plans ext lx k).slim vt = true) (hv : ∀ s : Val X, (∀ i ∈ C.ats, ∃ d, s i = some d) → (∀ x ∈ C.typs, ∃ d, s x.1 = some d ∧ BndK x.2 d) → (∀ c ∈ C.pre, Tru s c) → vt.vc EqsOK s) : CtrOK X P lo C := by
  intro r w Args hA hs hpre
  unfold Ctr.wf at hwf
  split at hwf
  · rename_i c1 c2 c3 c4
    have hn := nodupN_spec c2
    have hk := keysB_spec c1
    have hats : ∀ i ∈ C.ats, ∃ d, r.at' i = some d := fun i hi => by
      unfold Ctr.ats at hi
      rcases List.mem_append.1 hi with hi | hi
      · exact relL_ats _ hA i hi
      · exact atsH_ok hs (fun x hx => putL_in hn hx) i hi
    have htyp : ∀ x ∈ C.typs, ∃ d, r.at' x.1 = some d ∧ BndK x.2 d := fun i hi => by
      unfold Ctr.typs at hi
      rcases List.mem_append.1 hi with hi | hi
      · exact relL_typs _ hA i hi
      · exact typsH_ok hs (fun x hx => putL_in hn hx) i hi
    have h := hv r.at' hats htyp hpre
    rw [← Out.same_eq hrun] at h
    have h := slim_vc h
    refine (evText_sound hmix hsz hok0 hfs hext hlx k C.f C.args _ _ r w Args (vc_bind h) hA hs (fun x hx => ?_)).mono fun V w' ⟨r', z, g1, g2, g3, g4, g5, g6⟩ => qCT_ok hn hk hs hats g2 g3 g4 g5 g6 c4 g1
    obtain ⟨c, hc, e⟩ := List.mem_map.1 hx
    subst e
    exact hpre c hc
  · cases hwf
end
end Go.Proofs.YtbjomeonjlialaaGreat.V.S
