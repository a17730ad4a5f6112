/-
  The reckoned run on code and on calls: what it says of a call holds of the call. No condition: these are rules over any program.
-/
import Derived.Test.YtdebdlpfecmdhaaGreatEj
import Derived.LoopN
import Derived.Scope
namespace Go.Proofs.YtdebdlpfecmdhaaGreat.V
section
variable {P : Program} {ops : Array Oper} {Q : Exit → Act → World → Prop} {S : World → Prop} {n lo : Nat} {r r0 : Rho} {e : Env} {w : World} {st st' : ST} {call : CallA} {plans : Nat → Nat → Option Plan} {ext : CallA}

/-! ### What is read stands -/

theorem Sx_ok [Sig] {H' : Tr AB} (hle : r0.le r) (hs : Sat lo r H' w) {x : RI} (h : x.ok H' = true) : Sx r0 w x := by
  cases x with
  | cells b o part =>
    simp only [RI.ok] at h
    intro B K L h1 h2
    split at h
    · rename_i l hl
      have hsf : l = part ∧ AV.fixs part = true := by
        split at h
        · exact ⟨sameVs_eq ‹_›, h⟩
        · cases h
      obtain ⟨rfl, hf⟩ := hsf
      obtain ⟨_, L', h3, h4, _⟩ := atH_sound hs hl (hle _ _ h1)
      rw [RelL.det _ hf (h2.mono hle) h3]
      exact h4
    · cases h
  | look b d k v =>
    simp only [RI.ok] at h
    intro B K X h1 h2
    split at h
    · rename_i es clock hb hf
      obtain ⟨_, E, hE, hB⟩ := hs.here hb (hle _ _ h1)
      have hX := h2.mono hle
      refine ⟨E, clock, hB, ?_⟩
      split at h
      · rename_i i u born v hfa
        split at h
        · rename_i hsame
          have := sameV_eq hsame
          subst this
          intro V hV
          obtain ⟨_, V', k1, k2, _⟩ := (findA_rel hf hX hE hfa).2 _ _ _ rfl
          rw [Rel.det _ h (hV.mono hle) k2]
          exact ⟨_, k1⟩
        · cases h
      · rename_i hfa
        exact (findA_rel hf hX hE hfa).1 rfl
      · cases h
    · cases h
theorem Rx_ok [Sig] {H' : Tr AB} (hs : Sat lo r H' w) {x : RI} (h : x.ok H' = true) : Rx r x := by
  cases x with
  | cells b o part =>
    simp only [RI.ok] at h
    split at h
    · rename_i l hl
      have hsf : l = part ∧ AV.fixs part = true := by
        split at h
        · exact ⟨sameVs_eq ‹_›, h⟩
        · cases h
      obtain ⟨rfl, hf⟩ := hsf
      have hb : ∃ ab, H'.get b = some ab := by
        unfold atH at hl
        split at hl
        · exact ⟨_, ‹_›⟩
        · cases hl
      obtain ⟨ab, hb⟩ := hb
      obtain ⟨B, K, hr, _, _⟩ := hs.row _ _ hb
      obtain ⟨_, L, h1, h2, _⟩ := atH_sound hs hl hr
      exact ⟨B, K, L, hr, h1⟩
    · cases h
  | look b d k v =>
    simp only [RI.ok] at h
    split at h
    · rename_i es clock hb hf
      obtain ⟨B, K, hr, _, E, hE, hB⟩ := hs.row _ _ hb
      refine ⟨hf, B, K, hr, ?_⟩
      rintro u rfl
      split at h
      · rename_i i u' born v' hfa hv
        cases hv
        split at h
        · rename_i hsame
          have := sameV_eq hsame
          subst this
          exact findA_val hE hfa
        · cases h
      · rename_i hv; cases hv
      · cases h
    · cases h
theorem oks_mem : ∀ {l : List RI} {H : Tr AB}, RI.oks l H = true → ∀ x ∈ l, x.ok H = true
  | [], _, _, x, hx => by simp at hx
  | y :: l, H, h, x, hx => by
    simp only [RI.oks] at h
    split at h
    · rename_i h1
      rcases List.mem_cons.1 hx with rfl | hx
      · exact h1
      · exact oks_mem h x hx
    · cases h
theorem oksAll_mem {l : List RI} : ∀ {m : List (Tr AB)}, oksAll l m = true → ∀ H ∈ m, RI.oks l H = true
  | [], _, H, hH => by simp at hH
  | K :: m, h, H, hH => by
    simp only [oksAll] at h
    split at h
    · rename_i h1
      rcases List.mem_cons.1 hH with rfl | hH
      · exact h1
      · exact oksAll_mem h H hH
    · cases h

theorem GC.regionS {id : Nat} {ops : Array Oper} (pl : Plan) (S : World → Prop) (hm : P.follows .mixedOrders = true) (hp : okR ops pl = true)
    (h : GX P ops (NoPanic Q) S n pl e w.drew) : GC P (.region id ops true) Q n e w := by
  unfold okR at hp
  split at hp
  · rename_i hs
    unfold GC
    exact fun a ha => wp_region_noPanic (wp_region_any hm (wpAny_of_L _ _ _ _ (covers_spec (Region.noSelect_spec hs) (fun _ _ _ h => h) _ _ _ _ _ hp (h a ha))))
  · cases hp

/-! ### Code -/

def Xt.toExit : Xt → Exit
  | .normal => .normal
  | .exit id => .exit id
  | .ret => .ret
/-- What is asked where code is left. -/
def Fin [Sig] (lo n : Nat) (r : Rho) (w : World) (st' : ST) (x : Xt) (Q : Exit → Act → World → Prop) : Prop :=
  ∀ r' e' w', r.le r' → EnvR r' e' st'.T → Sat lo r' st'.H w' → Mod (fun k => lo ≤ k) w w' → GQ Q x.toExit n e' w'
theorem Fin.after [Sig] {r1 : Rho} {w1 : World} {st' : ST} {x : Xt} (h : Fin lo n r w st' x Q) (hr : r.le r1) (hm : Mod (fun k => lo ≤ k) w w1) : Fin lo n r1 w1 st' x Q :=
  fun r' e' w' h1 h2 h3 h4 => h r' e' w' (hr.trans h1) h2 h3 (hm.trans h4)

def RunOK [Sig] (P : Program) (plans : Nat → Nat → Option Plan) (ext : CallA) (lo k : Nat) : Prop :=
  ∀ f n c st x st', okC plans f c = true → evRun P plans ext k f n c st = some (x, st') → ∀ r e w Q, EnvR r e st.T → Sat lo r st.H w → Fin lo n r w st' x Q → GC P c Q n e w
def LoopOK [Sig] (P : Program) (plans : Nat → Nat → Option Plan) (ext : CallA) (lo k : Nat) : Prop :=
  ∀ f n c st x st', okC plans f c = true → evRun P plans ext k f n (.loop c) st = some (x, st') → ∃ m, ∀ r e w Q, EnvR r e st.T → Sat lo r st.H w → Fin lo n r w st' x Q → ∀ a, Knows a e n → Code.rounds P c Q m a w

theorem argT_rel [Sig] : ∀ {l : List AV} {L : List Value} {t : Nat} {T : Tr AV}, RelL r l L → (∀ s a, T.get s = some a → s < t) → ∀ s a, (argT t l T).get s = some a → (s < t ∧ T.get s = some a) ∨ ∃ A, look s (argE t L) = some A ∧ Rel r a A
  | [], _, t, T, _, hT, s, a, h => .inl ⟨hT s a h, h⟩
  | v :: l, L, t, T, hL, hT, s, a, h => by
    obtain ⟨V, M, rfl, hV, hM⟩ := hL.of_cons
    simp only [argT] at h
    have hT' : ∀ s a, (T.put t v).get s = some a → s < t + 1 := by
      intro s a hs
      rw [Tr.get_put] at hs
      split at hs
      · omega
      · have := hT s a hs; omega
    rcases argT_rel hM hT' s a h with ⟨h1, h2⟩ | ⟨A, h1, h2⟩
    · rw [Tr.get_put] at h2
      split at h2
      · rename_i hst
        subst hst
        cases h2
        exact .inr ⟨V, by simp [argE, look], hV⟩
      · rename_i hst
        exact .inl ⟨by omega, h2⟩
    · refine .inr ⟨A, ?_, h2⟩
      obtain ⟨h3, _⟩ := look_argE M (t + 1) s A h1
      have hb : Nat.beq t s = false := by
        cases hb : Nat.beq t s with
        | true => have := Nat.eq_of_beq_eq_true hb; omega
        | false => rfl
      simp [argE, look, hb, h1]
theorem enter_rel [Sig] {l : List AV} {L : List Value} (h : RelL r l L) : EnvR r (argE 0 L) (argT 0 l .e) := fun s a hs => by
  rcases argT_rel h (fun s a hs => by simp [Tr.get] at hs) s a hs with ⟨h1, _⟩ | h1
  · omega
  · exact h1

theorem results_sound [Sig] (hs : Sat lo r st.H w) {a : Act} (hE : EnvR r e st.T) (ha : Knows a e n) : ∀ {l : List ResultVar} {out : List AV}, resA P st l = some out →
    ∃ L, RelL r out L ∧ (l.mapM (m := Sem) (fun | .tmp t => pure (a.tmps.getD t undef) | .cell x t => do loadVar t (← asAddr (a.tmps.getD x undef)))).run P w = .ok L w
  | [], out, h => by
    simp only [resA, Option.some.injEq] at h
    subst h
    exact ⟨[], RelL.nil r, by simp⟩
  | .tmp t :: l, out, h => by
    simp only [resA] at h
    split at h
    · rename_i v m hv hm
      cases h
      obtain ⟨L, h1, h2⟩ := results_sound hs hE ha hm
      obtain ⟨V, h3, h4⟩ := hE t v hv
      have h5 := ha.slot t V h3
      refine ⟨V :: L, RelL.cons h4 h1, ?_⟩
      have hg : a.tmps.getD t undef = V := by simp [h5]
      simp only [List.mapM_cons, Sem.run_bind, hg, Sem.run_pure, Result.andThen_ok, h2]
    · cases h
  | .cell p t :: l, out, h => by
    simp only [resA] at h
    split at h
    · rename_i b o agg size hv ht
      split at h
      · rename_i part hp
        split at h
        · rename_i v m hpv hm
          cases h
          obtain ⟨L, h1, h2⟩ := results_sound hs hE ha hm
          obtain ⟨V, h3, h4⟩ := hE p _ hv
          obtain ⟨B, K, hr, rfl⟩ := rel_p h4
          have h5 := ha.slot p _ h3
          obtain ⟨_, Lp, hL, hA, hl⟩ := atH_sound hs hp hr
          obtain ⟨W, hW, hrun⟩ := load_run ht hL hl hpv
          have h6 := hrun w B o hA
          refine ⟨W :: L, RelL.cons hW h1, ?_⟩
          simp only [Instr.loadAt, Instr.sureAddr, Sem.run_bind, Sem.run_pure, Result.andThen_ok] at h6
          have hg : a.tmps.getD p undef = .pointer (some ⟨B, o, none⟩) := by simp [h5]
          have hg' : (asAddr (a.tmps.getD p undef)).run P w = .ok ⟨B, o, none⟩ w := by rw [hg]; simp [asAddr]
          simp only [List.mapM_cons, Sem.run_bind, hg', Sem.run_pure, Result.andThen_ok, h6, h2]
        · cases h
      · cases h
    · cases h
theorem resV_rel [Sig] {out : List AV} {L : List Value} (h : RelL r out L) : Rel r (resV out) (if h : L.toArray.size = 1 then L.toArray[0] else .tuple L.toArray) := by
  match out, L, h with
  | [], L, h => rw [h.of_nil]; simpa [resV] using mk_t (RelL.nil r)
  | [v], L, h =>
    obtain ⟨V, M, rfl, hV, hM⟩ := h.of_cons
    have := hM.of_nil
    subst this
    simpa [resV] using hV
  | v :: u :: l, L, h =>
    have hl := h.length
    have : ¬ L.toArray.size = 1 := by simp at hl ⊢; omega
    rw [dif_neg this]
    exact mk_t h
theorem resultsOf [Sig] {fn : Func} {a : Act} (hs : Sat lo r st.H w) (hE : EnvR r e st.T) (ha : Knows a e n) {out : List AV} (h : resA P st fn.results.toList = some out) :
    ∃ V, (results fn a.tmps).run P w = .ok V w ∧ Rel r (resV out) V := by
  obtain ⟨L, h1, h2⟩ := results_sound hs hE ha h
  refine ⟨_, ?_, resV_rel h1⟩
  unfold results
  rw [Array.mapM_eq_mapM_toList]
  simp only [Sem.run_bind, Sem.run_map]
  erw [h2]
  rfl

/-! ### All of it -/

/-- The plans go with every order, in all functions. -/
def OkAll (P : Program) (plans : Nat → Nat → Option Plan) : Prop := ∀ (f : Nat) fn c, P.funcs[f]? = some fn → fn.body = some c → okC plans f c = true
theorem okC_none {f : Nat} (h : ∀ id, plans f id = none) (c : Code) : okC plans f c = true := by
  induction c with
  | region id ops draw => cases draw <;> simp [okC, h]
  | seq a b iha ihb => simp [okC, iha, ihb]
  | cond x a b iha ihb => simp [okC, iha, ihb]
  | block id a ih => simpa [okC] using ih
  | loop a ih => simpa [okC] using ih
  | scope a ih => simpa [okC] using ih
  | _ => simp [okC]
theorem okB_nil : ∀ f, memN f [] = true → okB P plans f = true := fun f h => by simp [memN] at h
theorem okB_cons {g : Nat} {l : List Nat} (h : okB P plans g = true) (hl : ∀ f, memN f l = true → okB P plans f = true) : ∀ f, memN f (g :: l) = true → okB P plans f = true := fun f hf => by
  simp only [memN] at hf
  split at hf
  · rename_i he
    rw [← Nat.eq_of_beq_eq_true he]; exact h
  · exact hl f hf
theorem keysIn_get {t : Tr (List (Nat × Plan))} {l : List Nat} : ∀ {m : Nat}, keysIn t l m = true → ∀ f, f < m → t.get f = none ∨ memN f l = true
  | 0, _, f, hf => by omega
  | m + 1, h, f, hf => by
    simp only [keysIn] at h
    split at h
    · rename_i hn
      rcases Nat.lt_or_ge f m with h1 | h1
      · exact keysIn_get h f h1
      · have : f = m := by omega
        exact .inl (this ▸ hn)
    · split at h
      · rename_i hm
        rcases Nat.lt_or_ge f m with h1 | h1
        · exact keysIn_get h f h1
        · have : f = m := by omega
          exact .inr (this ▸ hm)
      · cases h
theorem okB_all {t : Tr (List (Nat × Plan))} {l : List Nat} {m : Nat} (hk : ∀ f, memN f l = true → okB P (plansIn t) f = true) (ha : keysIn t l m = true) (hm : Nat.ble P.funcs.size m = true) :
    OkAll P (plansIn t) := fun f fn c hf hc => by
  have hlt : f < m := by
    have h1 : f < P.funcs.size := by
      rcases Nat.lt_or_ge f P.funcs.size with h | h
      · exact h
      · rw [Array.getElem?_eq_none h] at hf; cases hf
    have := Nat.le_of_ble_eq_true hm
    omega
  rcases keysIn_get ha f hlt with h | h
  · exact okC_none (fun id => by simp [plansIn, h]) c
  · have := hk f h
    simpa [okB, hf, hc] using this

theorem callOK_of [Sig] (hfs : OkAll P plans) (hext : CallOK P lo ext) {k : Nat} (h : RunOK P plans ext lo k) : CallOK P lo (evText P plans ext k) := by
  intro g args st v st' hev r w Args hArgs hs
  unfold evText at hev
  split at hev
  · rename_i z hz
    cases hev
    exact hext g args st v st' hz r w Args hArgs hs
  · split at hev
    · rename_i fn hfn
      split at hev
      · rename_i c hbody hle
        have hok : okC plans g c = true := hfs g fn c hfn hbody
        have main : ∀ x s' out, evRun P plans ext k g fn.ntmps c ⟨argT 0 args .e, st.H, st.next⟩ = some (x, s') → (x = .normal ∨ x = .ret) → resA P s' fn.results.toList = some out →
            Ret P g Args.toArray w fun V w' => After lo r w (resV out) s'.H V w' := by
          intro x s' out hrun hx hres
          refine Ret.enter hfn hbody rfl (by rw [← hArgs.length]; exact hle) ?_
          refine h g fn.ntmps c _ x s' hok hrun r _ w _ (enter_rel hArgs) hs ?_
          intro r' e' w' h1 h2 h3 h4
          have : ∀ a, Knows a e' fn.ntmps → a.defers = [] ∧ ∃ v, (results fn a.tmps).run P w' = .ok v w' ∧ ∃ V, Ending.returned v = .returned V ∧ After lo r w (resV out) s'.H V w' := by
            intro a ha
            obtain ⟨V, h5, h6⟩ := resultsOf h3 h2 ha hres
            exact ⟨ha.defers, V, h5, V, rfl, r', h1, h6, h3, h4⟩
          rcases hx with rfl | rfl
          · unfold GQ; exact this
          · unfold GQ; exact this
        split at hev
        · cases hev
        · rename_i x s' hne hrun
          split at hev
          · rename_i out hres
            cases hev
            refine main x _ _ hrun ?_ hres
            cases x with
            | normal => exact .inl rfl
            | ret => exact .inr rfl
            | exit id => exact (hne id rfl).elim
          · cases hev
        · cases hev
      · cases hev
    · cases hev

theorem run_sound [Sig] (hmix : P.follows .mixedOrders = true) (hfs : OkAll P plans) (hext : CallOK P lo ext) : ∀ k, RunOK P plans ext lo k ∧ LoopOK P plans ext lo k
  | 0 => ⟨fun f n c st x st' _ h => by simp [evRun] at h, fun f n c st x st' _ h => by simp [evRun] at h⟩
  | k + 1 => by
    obtain ⟨ihR, ihL⟩ := run_sound hmix hfs hext k
    have hloop : LoopOK P plans ext lo (k + 1) := by
      intro f n c st x st' hok h
      simp only [evRun] at h
      split at h
      · rename_i st1 h1
        obtain ⟨m, hm⟩ := ihL f n c st1 x st' hok h
        refine ⟨m + 1, fun r e w Q hE hs hF a ha => ?_⟩
        rw [rounds_succ]
        have hgc : GC P c (Exit.then (Code.rounds P c Q m) Q) n e w := ihR f n c st .normal st1 hok h1 r e w _ hE hs (fun r1 e1 w1 k1 k2 k3 k4 => by
          unfold GQ
          exact fun a ha => hm r1 e1 w1 Q k2 k3 (hF.after k1 k4) a ha)
        unfold GC at hgc
        exact hgc a ha
      · rename_i hne
        refine ⟨1, fun r e w Q hE hs hF a ha => ?_⟩
        rw [rounds_succ]
        have hgc : GC P c (Exit.then (Code.rounds P c Q 0) Q) n e w := ihR f n c st x st' hok h r e w _ hE hs (fun r1 e1 w1 k1 k2 k3 k4 => by
          have hq := hF r1 e1 w1 k1 k2 k3 k4
          cases x with
          | normal => exact absurd h (hne st')
          | exit id => unfold GQ at hq ⊢; exact hq
          | ret => unfold GQ at hq ⊢; exact hq)
        unfold GC at hgc
        exact hgc a ha
    refine ⟨?_, hloop⟩
    intro f n c st x st' hok h r e w Q hE hs hF
    cases c with
    | skip =>
      simp only [evRun, Option.some.injEq, Prod.mk.injEq] at h
      obtain ⟨rfl, rfl⟩ := h
      exact GC.skip (hF r e w (Rho.le.refl r) hE hs (Mod.refl w))
    | label l =>
      simp only [evRun, Option.some.injEq, Prod.mk.injEq] at h
      obtain ⟨rfl, rfl⟩ := h
      have hq := hF r e w (Rho.le.refl r) hE hs (Mod.refl w)
      unfold GC
      unfold GQ at hq
      exact fun a ha => wp_label (hq a ha)
    | region id ops draw =>
      have hcall : CallOK P lo (evText P plans ext k) := callOK_of hfs hext ihR
      simp only [evRun] at h
      cases draw with
      | true =>
        simp only at h
        split at h
        · rename_i pl hpl
          simp only [okC, hpl] at hok
          split at h
          · rename_i res hres
            have hres : evPlan P (evText P plans ext k) n ops pl [] st = some res := hres
            have hxx : x = .normal ∧ st' = res.st ∧ (res.rd = [] ∨ oksAll res.rd (st.H :: res.sn) = true) := by
              split at h
              · cases h; exact ⟨rfl, rfl, .inl ‹_›⟩
              · rename_i y l hy
                split at h
                · rename_i ho
                  cases h; exact ⟨rfl, rfl, .inr ho⟩
                · cases h
            obtain ⟨rfl, rfl, hrd⟩ := hxx
            have hsd := hs.ext (Ext.drew w)
            have hfin : ∀ (S : World → Prop) r' e' w', r.le r' → EnvR r' e' res.st.T → Sat lo r' res.st.H w' → Mod (fun k => lo ≤ k) w.drew w' → GX P ops (NoPanic Q) S n .done e' w' := fun S r' e' w' k1 k2 k3 k4 => by
              have hq := hF r' e' w' k1 k2 k3 ((modLo (Ext.drew w)).trans k4)
              exact GX.doneD (by simpa [Xt.toExit] using hq)
            rcases hrd with hrd | hrd
            · exact GC.regionS pl (fun _ => True) hmix hok (evPlan_sound hcall pl [] st res r e _ hres (Rho.le.refl r) hE hsd (by rw [hrd]; simp) (fun _ _ _ _ _ _ => trivial) (hfin _))
            · have hall := oksAll_mem hrd
              refine GC.regionS pl (fun w' => ∀ x ∈ res.rd, Sx r w' x) hmix hok (evPlan_sound hcall pl [] st res r e _ hres (Rho.le.refl r) hE hsd ?_ ?_ (hfin _))
              · intro x hx
                have hx0 := oks_mem (hall st.H (by simp)) x hx
                exact ⟨Rx_ok hs hx0, fun w' hS => hS x hx⟩
              · intro H hH r' w' hle hsat x hx
                exact Sx_ok hle hsat (oks_mem (hall H (by simp [hH])) x hx)
          · cases h
        · cases h
      | false =>
        simp only at h
        split at h
        · rename_i st1 h1
          have h1 : evOps P (evText P plans ext k) n ops ops.toList st = some st1 := h1
          simp only [Option.some.injEq, Prod.mk.injEq] at h
          obtain ⟨rfl, rfl⟩ := h
          have hx := evOps_sound (Q := Q) hcall ops.toList 0 st _ r e w (by simp) h1 hE hs (fun r' e' w' k1 k2 k3 k4 => GX.done (hF r' e' w' k1 k2 k3 k4))
          refine GC.region (effs (List.range' 0 ops.toList.length)) ?_ hx
          rw [planIdx_effs, List.range_eq_range']
          simp
        · cases h
    | seq a b =>
      simp only [evRun] at h
      simp only [okC] at hok
      split at hok
      · rename_i hoka
        split at h
        · rename_i st1 h1
          refine GC.seq (ihR f n a st .normal st1 hoka h1 r e w _ hE hs fun r1 e1 w1 k1 k2 k3 k4 => GQ.goNormal ?_)
          exact ihR f n b st1 x st' hok h r1 e1 w1 _ k2 k3 (hF.after k1 k4)
        · rename_i hne
          refine GC.seq (ihR f n a st x st' hoka h r e w _ hE hs fun r1 e1 w1 k1 k2 k3 k4 => ?_)
          have hq := hF r1 e1 w1 k1 k2 k3 k4
          cases x with
          | normal => exact absurd h (hne st')
          | exit id => exact GQ.goExit hq
          | ret => exact GQ.goRet hq
      · cases hok
    | cond y a b =>
      simp only [evRun] at h
      simp only [okC] at hok
      split at hok
      · rename_i hoka
        split at h
        · rename_i hy
          obtain ⟨V, h1, h2⟩ := av_rel hE hy
          have := rel_b h2
          subst this
          exact GC.cond h1 (fun _ => ihR f n a st x st' hoka h r e w Q hE hs hF) (fun h => by cases h)
        · rename_i hy
          obtain ⟨V, h1, h2⟩ := av_rel hE hy
          have := rel_b h2
          subst this
          exact GC.cond h1 (fun h => by cases h) (fun _ => ihR f n b st x st' hok h r e w Q hE hs hF)
        · cases h
      · cases hok
    | block id a =>
      simp only [evRun] at h
      simp only [okC] at hok
      refine GC.block ?_
      split at h
      · rename_i j st1 h1
        split at h
        · rename_i hj
          have hj := Nat.eq_of_beq_eq_true hj
          subst hj
          simp only [Option.some.injEq, Prod.mk.injEq] at h
          obtain ⟨rfl, rfl⟩ := h
          exact ihR f n a st _ _ hok h1 r e w _ hE hs fun r1 e1 w1 k1 k2 k3 k4 => GQ.inExit (hF r1 e1 w1 k1 k2 k3 k4)
        · rename_i hj
          simp only [Option.some.injEq, Prod.mk.injEq] at h
          obtain ⟨rfl, rfl⟩ := h
          exact ihR f n a st _ _ hok h1 r e w _ hE hs fun r1 e1 w1 k1 k2 k3 k4 => GQ.inExitNe hj (hF r1 e1 w1 k1 k2 k3 k4)
      · rename_i hne
        refine ihR f n a st x st' hok h r e w _ hE hs fun r1 e1 w1 k1 k2 k3 k4 => ?_
        have hq := hF r1 e1 w1 k1 k2 k3 k4
        cases x with
        | normal => exact GQ.inNormal hq
        | exit id => exact absurd h (hne id st')
        | ret => exact GQ.inRet hq
    | loop a =>
      simp only [okC] at hok
      obtain ⟨m, hm⟩ := hloop f n a st x st' hok h
      unfold GC
      exact fun act ha => wp_loop_rounds m (hm r e w Q hE hs hF act ha)
    | scope a =>
      simp only [evRun] at h
      simp only [okC] at hok
      have hgc : GC P a (Exit.noGoto Q) n e w := ihR f n a st x st' hok h r e w _ hE hs fun r1 e1 w1 k1 k2 k3 k4 => by
        have hq := hF r1 e1 w1 k1 k2 k3 k4
        cases x with
        | normal => unfold GQ at hq ⊢; exact hq
        | exit id => unfold GQ at hq ⊢; exact hq
        | ret => unfold GQ at hq ⊢; exact hq
      unfold GC at hgc ⊢
      exact fun act ha => wp_scope_straight (hgc act ha)
    | exit id =>
      simp only [evRun, Option.some.injEq, Prod.mk.injEq] at h
      obtain ⟨rfl, rfl⟩ := h
      exact GC.exit (hF r e w (Rho.le.refl r) hE hs (Mod.refl w))
    | ret =>
      simp only [evRun, Option.some.injEq, Prod.mk.injEq] at h
      obtain ⟨rfl, rfl⟩ := h
      exact GC.ret (hF r e w (Rho.le.refl r) hE hs (Mod.refl w))
    | rangeFunc => simp [evRun] at h
    | goto => simp [evRun] at h
    | refuse => simp [evRun] at h
/-- **What the run says of a call holds of the call.** -/
theorem evText_sound [Sig] (hmix : P.follows .mixedOrders = true) (hfs : OkAll P plans) (hext : CallOK P lo ext) (k : Nat) : CallOK P lo (evText P plans ext k) :=
  callOK_of hfs hext (run_sound hmix hfs hext k).1
end
end Go.Proofs.YtdebdlpfecmdhaaGreat.V
