/-
  The run on what nobody writes any more: readings of slices that are known by terms. No condition: these are rules over any program; The reckoned run on operations, plans and regions, where terms may decide the way. No condition: these are rules over any program.
-/
import Derived.Test.YtbjomeonjlialaaGreatZaq
import Derived.Test.YtbjomeonjlialaaGreatZam
import Derived.Test.YtbjomeonjlialaaGreatZap
set_option linter.unusedVariables false
set_option linter.unusedSimpArgs false
namespace Go.Proofs.YtbjomeonjlialaaGreat.V.S
theorem flatten_get {α : Type} {sz : Nat} : ∀ {rows : List (List α)} {j m : Nat} {L : List α} {v : α}, (∀ x ∈ rows, x.length = sz) → rows[j]? = some L → L[m]? = some v → rows.flatten[j * sz + m]? = some v
  | [], _, _, _, _, _, h, _ => by simp at h
  | x :: rows, 0, m, L, v, hl, h, k => by
    simp at h
    subst h
    have hm : m < x.length := (List.getElem?_eq_some_iff.1 k).1
    simp only [List.flatten_cons, Nat.zero_mul, Nat.zero_add]
    rw [List.getElem?_append_left hm]
    exact k
  | x :: rows, j + 1, m, L, v, hl, h, k => by
    have h1 : x.length = sz := hl x List.mem_cons_self
    have ih := flatten_get (rows := rows) (j := j) (fun y hy => hl y (List.mem_cons_of_mem _ hy)) (by simpa using h) k
    simp only [List.flatten_cons]
    rw [List.getElem?_append_right (by rw [Nat.add_mul]; omega)]
    have : (j + 1) * sz + m - x.length = j * sz + m := by rw [Nat.add_mul]; omega
    rw [this]
    exact ih
def FzW {X : Type} (r : Rho X) (w : World) : Prop := ∀ k ob, r.fz k = some ob → w.heap[k]? = some ob
theorem Sat.fzW {X : Type} [Spec X] [Sig] {lo : Nat} {r : Rho X} {w : World} {H : Tr AB} (h : Sat lo r H w) : FzW r w := fun k ob hk => (h.fz k ob hk).1
theorem FzW.mono {X : Type} {r r0 : Rho X} {w : World} (h : r0.le r) (k : FzW r w) : FzW r0 w := fun i ob hi => k i ob (h.f _ _ hi)
theorem FzAt.sla {X : Type} {r : Rho X} {w : World} {a : Option Addr} {cells : List Value} (hz : FzW r w) (h : FzAt r a cells) : SlA w a cells := by
  rcases h with rfl | ⟨B, o, cs, t, fr, rfl, h2, h3⟩
  · exact SlA.empty _ _
  · intro i v hv
    rw [cell_of_row w B _ cs t _ (hz _ _ h2)]
    exact h3 i v hv
theorem FzAt.at {X : Type} {r : Rho X} {w : World} {B o : Nat} {cells : List Value} (hz : FzW r w) (h : FzAt r (some ⟨B, o, none⟩) cells) : At w B o cells := by
  have := h.sla hz
  exact this
section
variable {X : Type} [Spec X] {P : Program} {n lo : Nat} {r r0 : Rho X} {e : Env} {w : World} {T : Tr AV} {st : ST} {dst : Option Tmp} {ty : TypeId} {pos : String} {aft : Array Edge} {g : Option (Nat × Bool)}
theorem cellK_rel [Sig] {c : SE} {d : D X} (h : den r.at' c = some d) : ∀ {k : SK} {A : Value}, RelK r k d A → Rel r (cellK c k) A
  | .i _, _, hk => by unfold RelK at hk; unfold cellK Rel; exact ⟨d, h, hk⟩
  | .b, _, hk => by unfold RelK at hk; unfold cellK Rel; exact ⟨d, h, hk⟩
  | .s, _, hk => by unfold RelK at hk; unfold cellK Rel; exact ⟨d, h, hk⟩
  | .w, _, hk => by unfold cellK Rel; exact ⟨d, h, hk⟩
  | .v _, _, hk => by unfold cellK Rel; exact ⟨d, h, hk⟩
theorem cellsK_multi [Sig] {row : SE} {x : D X} (h : den r.at' row = some x) : ∀ {fs : List SK} {i : Nat} {L : List Value}, RelKs r fs (x.lst.drop i) L → RelL r (cellsK row false fs i) L
  | [], _, L, k => by unfold RelKs at k; rw [k]; exact RelL.nil r
  | f :: fs, i, L, k => by
    unfold RelKs at k
    obtain ⟨A, M, rfl, h1, h2⟩ := k
    have hd : den r.at' (.u1 (.fl i) row) = some ((x.lst.drop i).headD (.i 0)) := by
      rw [den_u1 h]
      simp only [SOp.run]
      congr 1
      cases hx : x.lst.drop i with
      | nil =>
        have : x.lst[i]? = none := by
          have := List.drop_eq_nil_iff.1 hx
          exact List.getElem?_eq_none this
        rw [this]
        rfl
      | cons y l =>
        have : x.lst[i]? = some y := by
          have h0 : (x.lst.drop i)[0]? = some y := by rw [hx]; rfl
          simpa using h0
        rw [this]
        rfl
    refine RelL.cons (cellK_rel hd h1) (cellsK_multi h ?_)
    have : (x.lst.drop i).tail = x.lst.drop (i + 1) := by simp
    rw [← this]
    exact h2
theorem cellsK_rel [Sig] {row : SE} {x : D X} (h : den r.at' row = some x) {fs : List SK} {L : List Value} (k : RelKs r fs (rowD fs x) L) : RelL r (cellsK row (singleB fs) fs 0) L := by
  cases hs : singleB fs with
  | false =>
    unfold rowD at k
    rw [hs] at k
    exact cellsK_multi h (by simpa using k)
  | true =>
    unfold rowD at k
    rw [hs] at k
    match fs, hs with
    | [f], _ =>
      unfold RelKs at k
      obtain ⟨A, M, rfl, h1, h2⟩ := k
      unfold RelKs at h2
      subst h2
      exact RelL.cons (cellK_rel h h1) (RelL.nil r)
theorem elem_at [Sig] (hle : r0.le r) {fs : List SK} {E j : SE} {o : Nat} {V : Value} (h : Rel r (.xq fs E j o) V) (h0 : ∃ V0, Rel r0 (.xv fs E) V0) :
    ∃ B off L, V = .pointer (some ⟨B, off + o, none⟩) ∧ RelL r (cellsK (.op .nth (.u1 .p2 E) j) (singleB fs) fs 0) L ∧ ∀ w, FzW r0 w → At w B off L := by
  obtain ⟨d, dj, B, q, c, h1, h2, h3, h4, h5, rfl⟩ := rel_xq h
  obtain ⟨V0, hV0⟩ := h0
  obtain ⟨d0, k1, k2⟩ := rel_xv hV0
  have hd := den_mono hle.a k1
  rw [h1] at hd
  cases hd
  obtain ⟨e1, a, c', e2, rows, hr1, hr2, hr3, _⟩ := k2.v_inv
  have e3 := h5.v_inv.1
  rw [← e1, e2] at e3
  simp only [Value.slice.injEq] at e3
  obtain ⟨rfl, _, _⟩ := e3
  obtain ⟨x, hx⟩ : ∃ x, d.snd.lst[dj.int.toNat]? = some x := ⟨_, List.getElem?_eq_getElem h4⟩
  obtain ⟨L, hL⟩ : ∃ L, rows[dj.int.toNat]? = some L := ⟨_, List.getElem?_eq_getElem (by omega)⟩
  have hk := (hr2 _ x L hx hL).mono hle
  have hrow : den r.at' (.op .nth (.u1 .p2 E) j) = some x := by
    rw [den_op (den_u1 h1) h2]
    simp only [SOp.run, hx, Option.getD_some]
  refine ⟨B, q + dj.int.toNat * fs.length, L, rfl, cellsK_rel hrow hk, fun w hw => ?_⟩
  have hlen : ∀ y ∈ rows, y.length = fs.length := by
    intro y hy
    obtain ⟨i, hi⟩ := List.getElem?_of_mem hy
    obtain ⟨z, hz⟩ : ∃ z, d.snd.lst[i]? = some z := ⟨_, List.getElem?_eq_getElem (by have := (List.getElem?_eq_some_iff.1 hi).1; omega)⟩
    exact (hr2 i z y hz hi).length
  have hA := FzAt.at hw hr3
  exact hA.sub _ L fun m v hv => flatten_get hlen hL hv
theorem slice_of [Sig] {fs : List SK} {E j : SE} {o : Nat} {V : Value} (h : Rel r (.xq fs E j o) V) : ∃ V0, Rel r (.xv fs E) V0 := by
  obtain ⟨d, dj, B, q, c, h1, h2, h3, h4, h5, rfl⟩ := rel_xq h
  exact ⟨_, by unfold Rel; exact ⟨d, h1, h5⟩⟩
theorem elem_load [Sig] (hle : r0.le r) {fs : List SK} {E j : SE} {o size : Nat} {agg : Bool} {t : TypeId} {v : AV} {V : Value} (h : Rel r (.xq fs E j o) V) (h0 : ∃ V0, Rel r0 (.xv fs E) V0) (ht : tyB P t = some (agg, size)) (hv : elemA fs E j o size agg = some v) :
    ∃ U, Rel r v U ∧ ∀ w, FzW r0 w → (Instr.loadAt t V).run P w = .ok U w := by
  obtain ⟨B, off, L, rfl, hL, hA⟩ := elem_at hle h h0
  unfold elemA at hv
  split at hv
  · rename_i part hp
    obtain ⟨h1, h2, h3⟩ := cellsAt_rel hL hp
    obtain ⟨U, hU, hrun⟩ := load_run ht h1 (by rw [← h1.length, h2]) hv
    exact ⟨U, hU, fun w hw => hrun w B (off + o) ((hA w hw).take o size)⟩
  · cases hv
theorem evMemX_at [Fr] [Sig] (hle : r0.le r) (hE : EnvR r e T) {op : Op} {v : AV} (h : evMemX P T op = some v) (hq : ∀ fs E j o V, Rel r (.xq fs E j o) V → (∃ t x, op = .load t x ∧ av T x = some (.xq fs E j o)) → ∃ V0, Rel r0 (.xv fs E) V0)
    (hb : ∀ E V, Rel r (.xw E) V → (∃ s d x, op = .convert s d x ∧ av T x = some (.xw E)) → Rel r0 (.xw E) V) :
    ∃ V, Rel r v V ∧ ∀ a, Knows a e n → ∀ w, FzW r0 w → (execOp a.eval ⟨dst, op, ty, pos, aft, g⟩).run P w = .ok (.value V) w := by
  unfold evMemX at h
  split at h
  · rename_i t x
    split at h
    · rename_i fs E j o agg size hx ht
      obtain ⟨A, h1, h2⟩ := av_rel hE hx
      obtain ⟨U, hU, hrun⟩ := elem_load (P := P) hle h2 (hq fs E j o A h2 ⟨t, x, rfl, hx⟩) ht h
      exact ⟨U, hU, fun a ha w hw => by simp [execOp, ev_eq ha h1, hrun w hw]⟩
    · cases h
  · rename_i s d x
    split at h
    · rename_i E el hx hs hd
      split at h
      · rename_i hel
        cases h
        obtain ⟨A, h1, h2⟩ := av_rel hE hx
        have h3 := hb E A h2 ⟨s, d, x, rfl, hx⟩
        obtain ⟨dd, k1, k2⟩ := rel_xw h3
        obtain ⟨_, a0, c, rfl, hfz, _⟩ := k2.w_inv
        refine ⟨_, mk_xs (den_u1 (den_mono hle.a k1)) rfl, fun a ha w hw => ?_⟩
        have := str_run (P := P) (w := w) (c := c) hs hel hd (l := dd.snd.str) (a := a0) rfl (hfz.sla hw)
        simp only [SOp.run]
        simp [execOp, ev_eq ha h1, this]
      · cases h
    · cases h
  · cases h
theorem evMemX_sound [Fr] [Sig] (hE : EnvR r e T) (hz : FzW r w) {op : Op} {v : AV} (h : evMemX P T op = some v) :
    ∃ V, Rel r v V ∧ ∀ a, Knows a e n → (execOp a.eval ⟨dst, op, ty, pos, aft, g⟩).run P w = .ok (.value V) w := by
  obtain ⟨V, h1, h2⟩ := evMemX_at (n := n) (dst := dst) (ty := ty) (pos := pos) (aft := aft) (g := g) (Rho.le.refl r) hE h (fun _ _ _ _ _ k _ => slice_of k) (fun _ _ k _ => k)
  exact ⟨V, h1, fun a ha => h2 a ha w hz⟩
end
end Go.Proofs.YtbjomeonjlialaaGreat.V.S
namespace Go.Proofs.YtbjomeonjlialaaGreat.V.S
section
variable {X : Type} [Spec X]
def Val.set (s : Val X) (i : Nat) (d : D X) : Val X := fun j => if j = i then some d else s j
def Out.vc {α : Type} (K : Val X → α → Prop) : Out α → Val X → Prop
  | .bad, _ => False
  | .done, _ => True
  | .any i t, s => ∀ d, t.vc K (Val.set s i d)
  | .leaf a, s => K s a
  | .fork e t f, s => ∃ d, den s e = some d ∧ (d.tr = true → t.vc K s) ∧ (d.tr = false → f.vc K s)
  | .need e t, s => Tru s e ∧ t.vc K s
  | .both t f, s => t.vc K s ∧ f.vc K s
theorem vc_mono {α : Type} {K K' : Val X → α → Prop} (h : ∀ s a, K s a → K' s a) : ∀ {t : Out α} {s : Val X}, t.vc K s → t.vc K' s
  | .bad, _, k => k
  | .done, _, k => k
  | .any i t, s, k => fun d => vc_mono h (k d)
  | .leaf a, s, k => h s a k
  | .fork e t f, s, ⟨d, h1, h2, h3⟩ => ⟨d, h1, fun hd => vc_mono h (h2 hd), fun hd => vc_mono h (h3 hd)⟩
  | .need e t, s, ⟨h1, h2⟩ => ⟨h1, vc_mono h h2⟩
  | .both t f, s, ⟨h1, h2⟩ => ⟨vc_mono h h1, vc_mono h h2⟩
theorem vc_bind {α β : Type} {K : Val X → β → Prop} {k : α → Out β} : ∀ {t : Out α} {s : Val X}, (t.bind k).vc K s → t.vc (fun s a => (k a).vc K s) s
  | .bad, _, h => h
  | .done, _, h => h
  | .any i t, s, h => fun d => vc_bind (h d)
  | .leaf a, s, h => h
  | .fork e t f, s, ⟨d, h1, h2, h3⟩ => ⟨d, h1, fun hd => vc_bind (h2 hd), fun hd => vc_bind (h3 hd)⟩
  | .need e t, s, ⟨h1, h2⟩ => ⟨h1, vc_bind h2⟩
  | .both t f, s, ⟨h1, h2⟩ => ⟨vc_bind h1, vc_bind h2⟩
theorem vc_leaves {α : Type} {K : Val X → α → Prop} : ∀ {t : Out α} {s : Val X}, t.vc K s → t.vc (fun s a => K s a ∧ a ∈ t.leaves) s
  | .bad, _, h => h
  | .done, _, h => h
  | .any i t, s, h => fun d => vc_leaves (h d)
  | .leaf a, s, h => ⟨h, List.mem_singleton.2 rfl⟩
  | .fork e t f, s, ⟨d, h1, h2, h3⟩ => ⟨d, h1, fun hd => vc_mono (fun _ _ h => ⟨h.1, List.mem_append.2 (.inl h.2)⟩) (vc_leaves (h2 hd)), fun hd => vc_mono (fun _ _ h => ⟨h.1, List.mem_append.2 (.inr h.2)⟩) (vc_leaves (h3 hd))⟩
  | .need e t, s, ⟨h1, h2⟩ => ⟨h1, vc_leaves h2⟩
  | .both t f, s, ⟨h1, h2⟩ => ⟨vc_mono (fun _ _ h => ⟨h.1, List.mem_append.2 (.inl h.2)⟩) (vc_leaves h1), vc_mono (fun _ _ h => ⟨h.1, List.mem_append.2 (.inr h.2)⟩) (vc_leaves h2)⟩
theorem vc_out {α : Type} {K : Val X → α → Prop} {t : Out α} {s : Val X} (h : t.live.vc K s) : t.live = t ∧ (∃ a, a ∈ t.leaves) ∧ t.vc K s := by
  unfold Out.live at h ⊢
  split at h
  · exact h.elim
  · rename_i a l hl
    rw [hl]
    exact ⟨rfl, ⟨a, List.mem_cons_self⟩, h⟩
theorem vc_ofO {α : Type} {K : Val X → α → Prop} {o : Option α} {s : Val X} (h : (Out.ofO o).vc K s) : ∃ a, o = some a ∧ K s a := by
  cases o with
  | none => exact h.elim
  | some a => exact ⟨a, rfl, h⟩
theorem vc_flat {α : Type} {K : Val X → α → Prop} : ∀ {t : Out α} {l : List α} {s : Val X}, t.flat = some l → (∀ a ∈ l, K s a) → t.vc K s
  | .bad, _, _, h, _ => by simp [Out.flat] at h
  | .done, _, _, h, _ => by simp [Out.flat] at h
  | .any .., _, _, h, _ => by simp [Out.flat] at h
  | .leaf a, l, s, h, k => by
    simp only [Out.flat, Option.some.injEq] at h
    subst h
    exact k a (List.mem_singleton.2 rfl)
  | .fork .., _, _, h, _ => by simp [Out.flat] at h
  | .need .., _, _, h, _ => by simp [Out.flat] at h
  | .both t f, l, s, h, k => by
    simp only [Out.flat] at h
    split at h
    · rename_i l1 l2 h1 h2
      cases h
      exact ⟨vc_flat h1 fun a ha => k a (List.mem_append.2 (.inl ha)), vc_flat h2 fun a ha => k a (List.mem_append.2 (.inr ha))⟩
    · cases h
theorem vc_all {α : Type} {K : Val X → α → Prop} : ∀ {l : List (Out α)} {s : Val X}, (Out.all l).vc K s → ∀ t ∈ l, t.vc K s
  | [], _, h, _, _ => h.elim
  | [t], s, h, u, hu => by
    rw [List.mem_singleton.1 hu]
    exact h
  | t :: t2 :: l, s, h, u, hu => by
    have h : t.vc K s ∧ (Out.all (t2 :: l)).vc K s := h
    rcases List.mem_cons.1 hu with rfl | hu
    · exact h.1
    · exact vc_all h.2 u hu
def PcOK (s : Val X) (pc : List (SE × Bool)) : Prop := ∀ x ∈ pc, ∃ d, den s x.1 = some d ∧ d.tr = x.2
theorem PcOK.nil (s : Val X) : PcOK s [] := fun x hx => by simp at hx
theorem PcOK.cons {s : Val X} {pc : List (SE × Bool)} (h : PcOK s pc) {c : SE} {d : D X} {b : Bool} (hd : den s c = some d) (hb : d.tr = b) : PcOK s ((c, b) :: pc) := fun x hx => by
  rcases List.mem_cons.1 hx with rfl | hx
  · exact ⟨d, hd, hb⟩
  · exact h x hx
theorem binSame_eq {a b : BinOp} (h : binSame a b = true) : a = b := by
  have h := Nat.eq_of_beq_eq_true h
  cases a <;> cases b <;> first | rfl | (simp [binN] at h)
theorem sopSame_eq {a b : SOp} (h : sopSame a b = true) : a = b := by
  unfold sopSame at h
  split at h
  · split at h
    · rename_i h1
      rw [binSame_eq h1, kindEq_eq h]
    · cases h
  · rw [binSame_eq h]
  · rw [kindEq_eq h]
  · rw [kindEq_eq h]
  · rw [binSame_eq h]
  all_goals first | rfl | (rw [Nat.eq_of_beq_eq_true h]) | cases h
theorem SE.same_eq : ∀ {a b : SE}, SE.same a b = true → a = b := by
  intro a
  induction a with
  | «at» i => intro b h; cases b <;> first | (rw [Nat.eq_of_beq_eq_true h]) | (simp [SE.same] at h)
  | li n =>
    intro b h
    cases b <;> first | (simp [SE.same] at h; done) | skip
    rename_i m
    simp only [SE.same] at h
    rw [intEq_eq] at h
    rw [of_decide_eq_true h]
  | lb x =>
    intro b h
    cases b <;> first | (simp [SE.same] at h; done) | skip
    rename_i y
    cases x <;> cases y <;> first | rfl | (simp [SE.same] at h)
  | ls l =>
    intro b h
    cases b <;> first | (simp [SE.same] at h; done) | skip
    rename_i m
    simp only [SE.same] at h
    rw [natsEq_eq] at h
    rw [of_decide_eq_true h]
  | nl => intro b h; cases b <;> first | rfl | (simp [SE.same] at h)
  | nb => intro b h; cases b <;> first | rfl | (simp [SE.same] at h)
  | op o s t ihs iht =>
    intro b h
    cases b <;> first | (simp [SE.same] at h; done) | skip
    rename_i o2 s2 t2
    simp only [SE.same] at h
    split at h
    · rename_i h1 h2
      rw [sopSame_eq h1, ihs h2, iht h]
    · cases h
theorem pcFind_ok {s : Val X} {c : SE} {b : Bool} : ∀ {pc : List (SE × Bool)}, PcOK s pc → pcFind c pc = some b → ∃ d, den s c = some d ∧ d.tr = b
  | [], _, h => by simp [pcFind] at h
  | (x, z) :: pc, hp, h => by
    simp only [pcFind] at h
    split at h
    · rename_i he
      cases h
      rw [SE.same_eq he]
      exact hp _ List.mem_cons_self
    · exact pcFind_ok (fun y hy => hp y (List.mem_cons_of_mem _ hy)) h
end
section
variable {X : Type} [Spec X] {P : Program} {ops : Array Oper} {Q : Exit → Act → World → Prop} {S : World → Prop} {n lo : Nat} {r r0 : Rho X} {e : Env} {w : World} {st st' : ST} {call : CallA}
theorem EnvR.bool [Sig] {T : Tr AV} (hE : EnvR r e T) {t : Nat} {c : SE} {d : D X} {b : Bool} (ht : T.get t = some (.xb c)) (hd : den r.at' c = some d) (hb : d.tr = b) : EnvR r e (T.put t (.b b)) := fun s a hs => by
  rw [Tr.get_put] at hs
  split at hs
  · rename_i e1
    subst e1
    cases hs
    obtain ⟨A, h1, h2⟩ := hE _ _ ht
    obtain ⟨d', h3, rfl⟩ := rel_xb h2
    rw [hd] at h3
    cases h3
    exact ⟨_, h1, by rw [hb]; exact mk_b b⟩
  · exact hE s a hs
structure Finer [Sig] (r : Rho X) (e : Env) (st st' : ST) : Prop where
  env : EnvR r e st'.T
  H : st'.H = st.H
  next : st'.next = st.next
  mks : st'.mks = st.mks
  pc : PcOK r.at' st'.pc
theorem Finer.trans [Sig] {s1 s2 s3 : ST} (h : Finer r e s1 s2) (k : Finer r e s2 s3) : Finer r e s1 s3 := ⟨k.env, k.H.trans h.H, k.next.trans h.next, k.mks.trans h.mks, k.pc⟩
theorem splitOn_vc [Sig] {α : Type} {K : Val X → α → Prop} {k : ST → Out α} (hE : EnvR r e st.T) (hpc : PcOK r.at' st.pc) {t : Nat} {c : SE} (ht : st.T.get t = some (.xb c)) (h : (splitOn st t c k).vc K r.at') : ∃ s, Finer r e st s ∧ (k s).vc K r.at' ∧ ∀ b ∈ (k s).leaves, b ∈ (splitOn st t c k).leaves := by
  unfold splitOn at h ⊢
  split at h
  · rename_i b hb
    try rw [hb]
    obtain ⟨d, hd, hdb⟩ := pcFind_ok hpc hb
    exact ⟨st.slot t b, ⟨hE.bool ht hd hdb, rfl, rfl, rfl, hpc⟩, h, fun _ h => h⟩
  · rename_i hb
    try rw [hb]
    obtain ⟨d, hd, h1, h2⟩ := h
    cases hdb : d.tr with
    | true => exact ⟨(st.slot t true).know c true, ⟨hE.bool ht hd hdb, rfl, rfl, rfl, hpc.cons hd hdb⟩, h1 hdb, fun _ h => List.mem_append.2 (.inl h)⟩
    | false => exact ⟨(st.slot t false).know c false, ⟨hE.bool ht hd hdb, rfl, rfl, rfl, hpc.cons hd hdb⟩, h2 hdb, fun _ h => List.mem_append.2 (.inr h)⟩
theorem guardX_spec {T : Tr AV} {o : Oper} {t : Nat} {c : SE} (h : guardX ops T o = some (t, c)) : T.get t = some (.xb c) := by
  unfold guardX at h
  split at h
  · split at h
    · split at h
      · split at h
        · rename_i ht
          cases h
          exact ht
        · cases h
      · cases h
    · cases h
  · cases h
theorem pickX_spec {T : Tr AV} {op : Op} {t : Nat} {c : SE} (h : pickX T op = some (t, c)) : T.get t = some (.xb c) := by
  unfold pickX at h
  split at h
  · split at h
    · rename_i ht
      cases h
      exact ht
    · cases h
  · cases h
theorem evSplit_vc [Sig] {α : Type} {K : Val X → α → Prop} {k : ST → Out α} (hE : EnvR r e st.T) (hpc : PcOK r.at' st.pc) {o : Oper} (h : (evSplit ops o st k).vc K r.at') : ∃ s, Finer r e st s ∧ (k s).vc K r.at' ∧ ∀ b ∈ (k s).leaves, b ∈ (evSplit ops o st k).leaves := by
  have step : ∀ s : ST, EnvR r e s.T → PcOK r.at' s.pc → (match wantedA ops s.T o, pickX s.T o.op with | some true, some (t, c) => splitOn s t c k | _, _ => k s : Out α).vc K r.at' → ∃ s', Finer r e s s' ∧ (k s').vc K r.at' ∧ ∀ b ∈ (k s').leaves, b ∈ (match wantedA ops s.T o, pickX s.T o.op with | some true, some (t, c) => splitOn s t c k | _, _ => k s : Out α).leaves := by
    intro s hE hpc h
    split at h
    · rename_i t c hw hp
      try rw [hw, hp]
      exact splitOn_vc hE hpc (pickX_spec hp) h
    · exact ⟨s, ⟨hE, rfl, rfl, rfl, hpc⟩, h, fun _ h => h⟩
  unfold evSplit at h ⊢
  split at h
  · rename_i t c hg
    try rw [hg]
    obtain ⟨s, h1, h2, h3⟩ := splitOn_vc hE hpc (guardX_spec hg) h
    obtain ⟨s', h4, h5, h6⟩ := step s h1.env h1.pc h2
    exact ⟨s', h1.trans h4, h5, fun b hb => h3 b (h6 b hb)⟩
  · rename_i hg
    try rw [hg]
    exact step st hE hpc h
theorem needs_vc [Sig] {α : Type} {K : Val X → α → Prop} {k : ST → Out α} : ∀ {ns : List SE} {st : ST}, EnvR r e st.T → PcOK r.at' st.pc → (needs st ns k).vc K r.at' → ∃ s, Finer r e st s ∧ s.T = st.T ∧ (∀ c ∈ ns, Tru r.at' c) ∧ (k s).vc K r.at' ∧ ∀ b ∈ (k s).leaves, b ∈ (needs st ns k).leaves
  | [], st, hE, hpc, h => ⟨st, ⟨hE, rfl, rfl, rfl, hpc⟩, rfl, fun c hc => (by simp at hc), h, fun _ h => h⟩
  | c :: ns, st, hE, hpc, h => by
    simp only [needs] at h ⊢
    split at h
    · rename_i hf
      try rw [hf]
      obtain ⟨d, hd, hdb⟩ := pcFind_ok hpc hf
      obtain ⟨s, h1, h2, h3, h4, h5⟩ := needs_vc hE hpc h
      refine ⟨s, h1, h2, fun x hx => ?_, h4, h5⟩
      rcases List.mem_cons.1 hx with rfl | hx
      · exact ⟨d, hd, hdb⟩
      · exact h3 x hx
    · rename_i hne
      obtain ⟨⟨d, hd, hdb⟩, h⟩ := h
      obtain ⟨s, h1, h2, h3, h4, h5⟩ := needs_vc (st := st.know c true) hE (hpc.cons hd hdb) h
      refine ⟨s, ⟨h1.env, h1.H, h1.next, h1.mks, h1.pc⟩, h2, fun x hx => ?_, h4, ?_⟩
      · rcases List.mem_cons.1 hx with rfl | hx
        · exact ⟨d, hd, hdb⟩
        · exact h3 x hx
      · exact h5
def Left [Sig] (lo : Nat) (r : Rho X) (H : Tr AB) (w : World) (K : Val X → AV × ST → Prop) (V : Value) (w' : World) : Prop :=
  ∃ r' z, K r'.at' z ∧ r.le r' ∧ Rel r' z.1 V ∧ Sat lo r' z.2.H w' ∧ FrmC r H w r' z.2.H w' ∧ PcOK r'.at' z.2.pc
theorem Left.mono [Sig] {H : Tr AB} {K K' : Val X → AV × ST → Prop} (h : ∀ s z, K s z → K' s z) {V : Value} {w' : World} (k : Left lo r H w K V w') : Left lo r H w K' V w' := let ⟨r', z, h1, h2⟩ := k; ⟨r', z, h _ _ h1, h2⟩
def CallOK (X : Type) [Spec X] [Sig] (P : Program) (lo : Nat) (call : CallX) : Prop :=
  ∀ (f : Nat) (args : List AV) (st : ST) (t : Out (AV × ST)), call f args st = some t → ∀ (K : Val X → AV × ST → Prop) (r : Rho X) (w : World) (Args : List Value), t.vc K r.at' → RelL r args Args → Sat lo r st.H w → PcOK r.at' st.pc → Ret P f Args.toArray w (Left lo r st.H w K)
def YieldOK (P : Program) (B : Nat) (Args : List Value) (w : World) (R : Value → World → Prop) : Prop :=
  ∃ fn tmps asg body, (Instr.yield B Args.toArray).run P w = .ok (.round B fn tmps asg body) w ∧ RoundIn Fence.wide 0 P B fn tmps asg body w fun en w' => ∃ V, en = .returned V ∧ R V w'
structure AnyOK (X : Type) [Spec X] [Sig] (P : Program) (lo : Nat) (call : CallA) : Prop where
  fn : ∀ (f : Nat) (args : List AV) (st : ST), callB P f = true → ∀ (K : Val X → AV × ST → Prop) (r : Rho X) (w : World) (Args : List Value), (call f args st).vc K r.at' → RelL r args Args → Sat lo r st.H w → PcOK r.at' st.pc → Ret P f Args.toArray w (Left lo r st.H w K)
  yl : ∀ (l : Nat) (args : List AV) (st : ST) (K : Val X → AV × ST → Prop) (r : Rho X) (w : World) (Args : List Value) (B K' : Nat), (call (Nat.add YB l) args st).vc K r.at' → RelL r args Args → Sat lo r st.H w → PcOK r.at' st.pc → r l = some (B, K') → YieldOK P B Args w (Left lo r st.H w K)
theorem GO.yield [Fr] {i : Nat} {p : Plan} {x : Operand} {args : Array Operand} {ts : Array TypeId} {B : Nat} {vs : List Value} {R : Value → World → Prop} {dst : Option Tmp} {ty : TypeId} {pos : String} {aft : Array Edge} {g : Option (Nat × Bool)}
    (hw : wantedE ops e ⟨dst, .call ⟨.value x, args, ts⟩, ty, pos, aft, g⟩ = some true) (hx : ev e x = some (.func (.yield B) #[] #[])) (hy : evs e args.toList = some vs) (hd : fits n dst = true) (hc : YieldOK P B vs w R)
    (h : ∀ v w', R v w' → (lateIx ops i = false → S w → S w') ∧ GX P ops Q S n p (e.put dst v) w') : GO P ops Q S n .eff i ⟨dst, .call ⟨.value x, args, ts⟩, ty, pos, aft, g⟩ p e w := by
  refine GO.act (R := R) hw hd (fun a ha K hK => ?_) h
  obtain ⟨fn, tmps, asg, body, hyl, hr⟩ := hc
  have hrun : (execOp a.eval ⟨dst, .call ⟨.value x, args, ts⟩, ty, pos, aft, g⟩).run P w = .ok (.round B fn tmps asg body) w := by
    simp only [execOp, resolve, Sem.run_bind, Deferred.ofValue, ev_eq ha hx, evs_arr ha hy, Sem.run_pure, Result.andThen_ok, invoke]
    simpa using hyl
  refine ⟨fun f _ => trivial, ?_⟩
  rw [semAt_of hrun (by simp), Oper.uponIn_round]
  refine ⟨fun h => (by cases h), RoundIn.mono (F := Fr.F) (show RoundIn Fr.F 0 P B fn tmps asg body w _ from hr) fun en w' ⟨v, he, hR⟩ => ?_⟩
  subst he
  exact hK v w' hR
theorem put_spec [Sig] {d : Option Nat} {v : AV} (h : st.put n d v = some st') : fits n d = true ∧ st'.H = st.H ∧ st'.next = st.next ∧ st'.mks = st.mks ∧ st'.pc = st.pc ∧ ∀ (r : Rho X) (e : Env) (V : Value), EnvR r e st.T → Rel r v V → EnvR r (e.put d V) st'.T := by
  unfold ST.put at h
  split at h
  · split at h
    · rename_i hd
      cases h
      exact ⟨hd, rfl, rfl, rfl, rfl, fun r e V hE hV => hE.put hV⟩
    · cases h
  · cases h
    exact ⟨rfl, rfl, rfl, rfl, rfl, fun r e V hE _ => hE⟩
theorem undef_rel [Sig] : Rel r (.t []) undef := mk_t (RelL.nil r)
theorem evCalled_split [Sig] {op : Op} {K : Val X → AV × ST → Prop} {s : Val X} (h : (evCalled P call st op).vc K s) :
    (∃ x args ts l vs, op = .call ⟨.value x, args, ts⟩ ∧ av st.T x = some (.y l) ∧ avs st.T args.toList = some vs ∧ (call (Nat.add YB l) vs st).vc K s) ∨
    ∃ x args ts g fs cs vs u, op = .call ⟨.value x, args, ts⟩ ∧ av st.T x = some u ∧ (∀ (r : Rho X) U, Rel r u U → ∃ Fs Cs, U = .func (.func g) Fs.toArray Cs.toArray ∧ RelL r fs Fs ∧ RelL r cs Cs) ∧ avs st.T args.toList = some vs ∧ callB P g = true ∧ (call g (fs ++ (vs ++ cs)) st).vc K s := by
  unfold evCalled at h
  split at h
  · rename_i c
    obtain ⟨cal, args, ts⟩ := c
    split at h
    · rename_i x hx
      simp only at hx
      subst hx
      split at h
      · rename_i g cs vs h1 h2
        split at h
        · rename_i h3
          exact .inr ⟨x, args, ts, g, [], cs, vs, _, rfl, h1, fun r U hU => (let ⟨Cs, e, hC⟩ := rel_f hU; ⟨[], Cs, e, RelL.nil r, hC⟩), h2, h3, h⟩
        · exact h.elim
      · rename_i g fs cs vs h1 h2
        split at h
        · rename_i h3
          exact .inr ⟨x, args, ts, g, fs, cs, vs, _, rfl, h1, fun r U hU => rel_fb hU, h2, h3, h⟩
        · exact h.elim
      · rename_i l vs h1 h2
        exact .inl ⟨x, args, ts, l, vs, rfl, h1, h2, h⟩
      · exact h.elim
    · exact h.elim
  · exact h.elim
def Then [Sig] (lo : Nat) (r : Rho X) (H : Tr AB) (mks : List MK) (w : World) (K : Val X → ST → Prop) (G : Rho X → Env → World → Prop) : Prop :=
  ∀ r' e' w' s, K r'.at' s → r.le r' → EnvR r' e' s.T → Sat lo r' s.H w' → PcOK r'.at' s.pc → s.mks = mks → FrmC r H w r' s.H w' → G r' e' w'
theorem Then.of [Sig] {H : Tr AB} {mks : List MK} {K : Val X → ST → Prop} {G : Rho X → Env → World → Prop} (h : Then lo r H mks w K G) (hle : r.le r0) {w1 : World} {H1 : Tr AB} (hf : FrmC r H w r0 H1 w1) : Then lo r0 H1 mks w1 K G :=
  fun r' e' w' s k1 k2 k3 k4 k5 k6 k7 => h r' e' w' s k1 (hle.trans k2) k3 k4 k5 k6 (hf.trans k7)
theorem evDo_sound [Fr] [Sig] (hc : AnyOK X P lo call) (hE : EnvR r e st.T) (hs : Sat lo r st.H w) (hpc : PcOK r.at' st.pc) {o : Oper} {i : Nat} {p : Plan} {K : Val X → ST → Prop} (hwt : wantedE ops e o = some true) (h : (evDo P call n o st).vc K r.at')
    (hq : Then lo r st.H st.mks w K fun _ e' w' => (lateIx ops i = false → S w → S w') ∧ GX P ops Q S n p e' w') : GO P ops Q S n .eff i o p e w := by
  unfold evDo at h
  obtain ⟨dst, op, ty, pos, aft, g⟩ := o
  split at h
  · rename_i v hv
    obtain ⟨s, hp, hK⟩ := vc_ofO h
    obtain ⟨hd, hH, _, hm, hpc', hP⟩ := put_spec (X := X) hp
    exact evPure_sound rfl hE hv hwt hd fun A hA => (hq r _ w s hK (Rho.le.refl r) (hP r e A hE hA) (hH ▸ hs) (hpc' ▸ hpc) hm (by rw [hH]; exact FrmC.refl r _ w)).2
  · split at h
    · rename_i v ns hv
      obtain ⟨s0, h1, h2, h3, h4, _⟩ := needs_vc hE hpc h
      obtain ⟨s, hp, hK⟩ := vc_ofO h4
      obtain ⟨hd, hH, _, hm, hpc', hP⟩ := put_spec (X := X) hp
      have hH := hH.trans h1.H
      exact evX_sound rfl hE hv h3 hwt hd fun A hA => (hq r _ w s hK (Rho.le.refl r) (hP r e A h1.env hA) (hH ▸ hs) (hpc' ▸ h1.pc) (hm.trans h1.mks) (by rw [hH]; exact FrmC.refl r _ w)).2
    · split at h
      · rename_i v st2 hv
        obtain ⟨s, hp, hK⟩ := vc_ofO h
        obtain ⟨hd, hH, _, hm, hpc', hP⟩ := put_spec (X := X) hp
        have hmm := evMem_sound (dst := dst) (ty := ty) (pos := pos) (aft := aft) (g := g) (n := n) hE hs hv
        refine GO.run (R := fun V w' => After lo r st.H w v st2.H V w') hwt hd hmm fun V w' hA => ?_
        obtain ⟨r', hle, hR, hS, hM⟩ := hA
        exact hq r' _ w' s (by rw [hM.atoms]; exact hK) hle (hP r' e V (hE.mono hle) hR) (hH ▸ hS) (by rw [hpc', hM.atoms]; exact hpc) hm (by rw [hH]; exact hM.c)
      · split at h
        · rename_i v hv
          obtain ⟨s, hp, hK⟩ := vc_ofO h
          obtain ⟨hd, hH, _, hm, hpc', hP⟩ := put_spec (X := X) hp
          obtain ⟨V, hV, hrun⟩ := evMemX_sound (n := n) (dst := dst) (ty := ty) (pos := pos) (aft := aft) (g := g) hE hs.fzW hv
          refine GO.run (R := fun U w' => U = V ∧ w' = w) hwt hd (fun a ha => ⟨_, V, w, hrun a ha, .inl rfl, rfl, rfl⟩) ?_
          rintro U w' ⟨rfl, rfl⟩
          exact hq r _ _ s hK (Rho.le.refl r) (hP r e _ hE hV) (hH ▸ hs) (hpc' ▸ hpc) hm (by rw [hH]; exact FrmC.refl r _ _)
        · split at h
          case h_2 => exact h.elim
          rename_i hd
          have h := vc_bind h
          rcases evCalled_split h with ⟨x, args, ts, l, vs, rfl, h1, h2, h4⟩ | ⟨x, args, ts, f, fs, cs, vs, u, rfl, h1, hu, h2, h3, h4⟩
          · obtain ⟨U, hx1, hx2⟩ := av_rel hE h1
            unfold Rel at hx2
            obtain ⟨B, K', hrl, rfl⟩ := hx2
            obtain ⟨Vs, hv1, hv2⟩ := avs_rel hE h2
            refine GO.yield (R := Left lo r st.H w _) hwt hx1 hv1 hd (hc.yl l vs st _ r w Vs B K' h4 hv2 hs hpc hrl) fun V w' hA => ?_
            obtain ⟨r', z, hz, hle, hR, hS, hF, hPc⟩ := hA
            obtain ⟨s, hp, hK⟩ := vc_ofO hz
            obtain ⟨_, hH, _, hm, hpc', hP⟩ := put_spec (X := X) hp
            exact hq r' _ w' s hK hle (hP r' e V (hE.mono hle) hR) (hH ▸ hS) (hpc' ▸ hPc) hm (by rw [hH]; exact hF)
          · obtain ⟨U, hx1, hx2⟩ := av_rel hE h1
            obtain ⟨Fs, Cs, rfl, hFs, hCs⟩ := hu r U hx2
            obtain ⟨Vs, hv1, hv2⟩ := avs_rel hE h2
            have hret := hc.fn f (fs ++ (vs ++ cs)) st h3 _ r w (Fs ++ (Vs ++ Cs)) h4 (hFs.app (hv2.app hCs)) hs hpc
            haveI : CaF P f := ⟨h3⟩
            refine GO.callL (R := Left lo r st.H w _) hwt hx1 hv1 hd (al := Fs ++ (Vs ++ Cs)) (by simp) hret fun V w' hA => ?_
            obtain ⟨r', z, hz, hle, hR, hS, hF, hPc⟩ := hA
            obtain ⟨s, hp, hK⟩ := vc_ofO hz
            obtain ⟨_, hH, _, hm, hpc', hP⟩ := put_spec (X := X) hp
            exact hq r' _ w' s hK hle (hP r' e V (hE.mono hle) hR) (hH ▸ hS) (hpc' ▸ hPc) hm (by rw [hH]; exact hF)
theorem evOp_sound [Fr] [Sig] (hc : AnyOK X P lo call) (hE : EnvR r e st.T) (hs : Sat lo r st.H w) (hpc : PcOK r.at' st.pc) {o : Oper} {i : Nat} {p : Plan} {K : Val X → ST → Prop} (h : (evOp P call n ops o st).vc K r.at')
    (hq : Then lo r st.H st.mks w K fun _ e' w' => (lateIx ops i = false → S w → S w') ∧ GX P ops Q S n p e' w') : GO P ops Q S n .eff i o p e w := by
  unfold evOp at h
  obtain ⟨s0, h1, h2, _⟩ := evSplit_vc hE hpc h
  split at h2
  · rename_i hw
    obtain ⟨s, hp, hK⟩ := vc_ofO h2
    obtain ⟨hd, hH, _, hm, hpc', hP⟩ := put_spec (X := X) hp
    have hH := hH.trans h1.H
    exact GO.skip (.inr rfl) (wanted_rel h1.env hw) hd (hq r _ w s hK (Rho.le.refl r) (hP r e _ h1.env undef_rel) (hH ▸ hs) (hpc' ▸ h1.pc) (hm.trans h1.mks) (by rw [hH]; exact FrmC.refl r _ w)).2
  · rename_i hw
    refine evDo_sound hc h1.env (h1.H ▸ hs) h1.pc (wanted_rel h1.env hw) h2 ?_
    rw [h1.H, h1.mks]
    exact hq
  · exact h2.elim
def effs : List Nat → Plan
  | [] => .done
  | i :: l => .eff i (effs l)
theorem planIdx_effs : ∀ l, planIdx (effs l) = some l
  | [] => rfl
  | i :: l => by simp [effs, planIdx, planIdx_effs l]
theorem evNextN_sound [Fr] [Sig] (hE : EnvR r e st.T) (hs : Sat lo r st.H w) (hpc : PcOK r.at' st.pc) {o : Oper} {i : Nat} {p : Plan} {l : List (Option ST)} {K : Val X → ST → Prop} (h : evNextN ops n o st = some l) (hl : ∀ x ∈ l, ∃ s, x = some s ∧ K r.at' s)
    (hq : Then lo r st.H st.mks w K fun _ e' w' => (lateIx ops i = false → S w → S w') ∧ GX P ops Q S n p e' w') : GO P ops Q S n .eff i o p e w := by
  unfold evNextN at h
  split at h
  · rename_i x hw hop
    have hw := wanted_rel hE hw
    obtain ⟨dst, op, ty, pos, aft, g⟩ := o
    dsimp only at hop
    subst hop
    split at h
    · rename_i zs hz
      cases h
      obtain ⟨U, hx⟩ : ∃ U, av st.T x = some U := by
        cases hx : av st.T x with
        | none => rw [hx] at hz; simp [evNexts] at hz
        | some U => exact ⟨U, rfl⟩
      rw [hx] at hz
      obtain ⟨V0, h1, h2⟩ := av_rel hE hx
      obtain ⟨V, w', hrun, z, hzm, hA⟩ := evNexts_sound (P := P) (ty := ty) hs h2 hz
      obtain ⟨s, hput, hK⟩ := hl _ (List.mem_map.2 ⟨z, hzm, rfl⟩)
      obtain ⟨hd, hH, _, hm, hpc', hP⟩ := put_spec (X := X) hput
      refine GO.run (R := fun U u => U = V ∧ u = w') hw hd (fun a ha => ⟨_, V, w', by simp [execOp, ev_eq ha h1, hrun], .inl rfl, rfl, rfl⟩) ?_
      rintro U u ⟨rfl, rfl⟩
      obtain ⟨r', hle, hR, hS, hM⟩ := hA
      exact hq r' _ _ s (by rw [hM.atoms]; exact hK) hle (hP r' e _ (hE.mono hle) hR) (hH ▸ hS) (by rw [hpc', hM.atoms]; exact hpc) hm (by rw [hH]; exact hM.c)
    · cases h
  · cases h
theorem evOpsN_sound [Fr] [Sig] (hc : AnyOK X P lo call) {K : Val X → ST → Prop} : ∀ (l : List Oper) (i : Nat) (st : ST) (r : Rho X) (e : Env) (w : World), ops.toList.drop i = l → (evOpsN P call n ops l st).vc K r.at' → EnvR r e st.T → Sat lo r st.H w → PcOK r.at' st.pc →
    (Then lo r st.H st.mks w K fun _ e' w' => GX P ops Q (fun _ => True) n .done e' w') → GX P ops Q (fun _ => True) n (effs (List.range' i l.length)) e w
  | [], i, st, r, e, w, _, h, hE, hs, hpc, hq => hq r e w st h (Rho.le.refl r) hE hs hpc rfl (FrmC.refl r _ w)
  | o :: l, i, st, r, e, w, hl, h, hE, hs, hpc, hq => by
    have hoi : ops[i]? = some o := by
      have : (ops.toList.drop i)[0]? = some o := by rw [hl]; rfl
      simpa using this
    have hl' : ops.toList.drop (i + 1) = l := by
      have : (ops.toList.drop i).drop 1 = l := by rw [hl]; rfl
      rw [List.drop_drop] at this
      exact this
    simp only [evOpsN] at h
    rw [List.length_cons, List.range'_succ]
    split at h
    · rename_i zs hz
      refine GX.eff hoi (evNextN_sound (K := fun s st1 => (evOpsN P call n ops l st1).vc K s) hE hs hpc hz (fun x hx => ?_) fun r1 e1 w1 s1 k1 k2 k3 k4 k5 k6 k7 => ⟨fun _ _ => trivial, ?_⟩)
      · have := vc_bind (vc_all h _ (List.mem_map.2 ⟨x, hx, rfl⟩))
        exact vc_ofO this
      · exact evOpsN_sound hc l (i + 1) s1 r1 e1 w1 hl' k1 k3 k4 k5 (k6 ▸ hq.of k2 k7)
    · refine GX.eff hoi (evOp_sound hc hE hs hpc (vc_bind h) fun r1 e1 w1 s1 k1 k2 k3 k4 k5 k6 k7 => ⟨fun _ _ => trivial, ?_⟩)
      exact evOpsN_sound hc l (i + 1) s1 r1 e1 w1 hl' k1 k3 k4 k5 (k6 ▸ hq.of k2 k7)
end
end Go.Proofs.YtbjomeonjlialaaGreat.V.S
