/-
  A deferred function that does nothing where nobody panics. No condition: these are rules over any program; The reckoned run on code and on calls: what it says of a call holds of the call. No condition: these are rules over any program.
-/
import Derived.Test.YtfoabgljfikklaaGreatDoorWao
import Derived.Recover
import Derived.LoopN
import Derived.RangeFuncRecord
import Derived.Scope
set_option linter.unusedVariables false
set_option linter.unusedSimpArgs false
namespace Go.Proofs.YtfoabgljfikklaaGreatDoor.V
section
variable {P : Program} {n : Nat}
theorem qOp_ok {e : Env} {a : Act} (ha : @Knows ⟨none, []⟩ a e n) {o : Oper} {v : Value} (h : qOp P e o.op = some v) (w : World) :
    (execOp a.eval o).run P w = .ok (.value v) w ∨ ((execOp a.eval o).run P w = .ok .recover w ∧ v = .nilIface) := by
  letI fr : Fr := ⟨none, []⟩
  obtain ⟨dst, op, ty, pos, aft, g⟩ := o
  simp only at h
  cases op <;> simp only [qOp] at h <;> try (cases h; done)
  case move x => exact .inl (by simp [execOp, ev_eq ha h])
  case assign x => exact .inl (by simp [execOp, ev_eq ha h])
  case extract x k =>
    split at h
    · rename_i l hx
      exact .inl (by simp at h; simp [execOp, ev_eq ha hx, Instr.extract, h])
    · cases h
  case typeAssert x t s c =>
    cases c with
    | false => simp [qOp] at h
    | true =>
      simp only [qOp] at h
      split at h
      · rename_i d i hx hu hi
        split at h
        · rename_i z hz
          cases h
          refine .inl ?_
          have hz' : (zeroValue s).run P w = .ok z w := by simp [zeroValue, typeInfo, hi, hz]
          simp only [execOp, ev_eq ha hx, Instr.typeAssert, Sem.run_bind, run_underlying hu, Result.andThen_ok]
          cases d <;> simp [hz']
        · cases h
      · cases h
  case call c =>
    obtain ⟨cal, args, ts⟩ := c
    simp only at h
    split at h
    · cases h
      exact .inr ⟨by simp [execOp, resolve, invoke, builtin], rfl⟩
    · cases h
variable {ops : Array Oper} {c0 : Frame} {cs : List Frame} {w : World}
theorem qOps_ok (hc : c0.mode = .returning) {Q : Exit → Act → List Frame → World → Prop} : ∀ (l : List Oper) (k : Nat) (e e' : Env) (a : Act), ops.toList.drop k = l → qOps P n l e = some e' → @Knows ⟨none, []⟩ a e n →
    (∀ a', @Knows ⟨none, []⟩ a' e' n → Q .normal a' (c0 :: cs) w) → wpOpsS P ops Q (List.range' k l.length) a (c0 :: cs) w
  | [], k, e, e', a, _, h, ha, hq => by
    simp only [qOps, Option.some.injEq] at h
    subst h
    simpa [wpOpsS] using hq a ha
  | o :: l, k, e, e', a, hl, h, ha, hq => by
    have hk : ops[k]? = some o := by
      have := congrArg (fun l => l[0]?) hl
      simpa using this
    have hl' : ops.toList.drop (k + 1) = l := by
      have := congrArg (fun l => l.drop 1) hl
      simpa [Nat.add_comm] using this
    simp only [qOps] at h
    split at h
    · rename_i v hg ho hf
      have hput : ∀ v, @Knows ⟨none, []⟩ (a.put o.dst v) (e.put o.dst v) n := by
        intro v
        cases hd : o.dst with
        | none => exact ha
        | some d => rw [hd] at hf; exact @Knows.put ⟨none, []⟩ _ _ _ ha _ hf v
      have hw : ∀ y, Region.wanted o y = true := fun y => by simp [Region.wanted, hg]
      have ih := qOps_ok hc (Q := Q) l (k + 1) _ e' (a.put o.dst v) hl' h (hput v) hq
      simp only [List.length_cons, List.range'_succ, wpOpsS, hk, hw, if_true]
      rcases qOp_ok ha ho w with hr | ⟨hr, rfl⟩
      · rw [hr]
        exact ih
      · rw [hr]
        simp only [recoverD, hc]
        exact ih
    · cases h
theorem qCode_ok (hc : c0.mode = .returning) : ∀ (c : Code) {Q : Exit → Act → List Frame → World → Prop} (e e' : Env) (a : Act), qCode P n c e = some e' → @Knows ⟨none, []⟩ a e n →
    (∀ a', @Knows ⟨none, []⟩ a' e' n → Q .normal a' (c0 :: cs) w) → c.wpS P Q a (c0 :: cs) w := by
  intro c
  induction c with
  | skip =>
    intro Q e e' a h ha hq
    simp only [qCode, Option.some.injEq] at h
    subst h
    exact wpS_of_wp (wp_skip (hq a ha))
  | region id ops draw =>
    intro Q e e' a h ha hq
    cases draw with
    | true => simp [qCode] at h
    | false =>
      simp only [qCode] at h
      refine wpS_region ?_
      have := qOps_ok (ops := ops) (P := P) (cs := cs) (w := w) (Q := Q) hc ops.toList 0 e e' a rfl h ha hq
      rw [List.range_eq_range']
      simpa using this
  | seq x y ihx ihy =>
    intro Q e e' a h ha hq
    simp only [qCode] at h
    split at h
    · rename_i e1 h1
      exact wpS_seq (ihx e e1 a h1 ha fun a' ha' => ihy e1 e' a' h ha' hq)
    · cases h
  | cond t x y ihx ihy =>
    intro Q e e' a h ha hq
    simp only [qCode] at h
    split at h
    · rename_i ht
      exact wpS_cond (t := true) (@ev_eq ⟨none, []⟩ _ _ _ ha _ _ ht) (ihx e e' a h ha hq)
    · rename_i ht
      exact wpS_cond (t := false) (@ev_eq ⟨none, []⟩ _ _ _ ha _ _ ht) (ihy e e' a h ha hq)
    · cases h
  | _ => intro Q e e' a h; simp [qCode] at h
theorem quiet_ok {f m d : Nat} (h : quietB P f m = true) {args : Array Value} (hm : args.size = m) (w : World) :
    CallsDIn Fence.wide d P f args .returning w fun en u' w' => (∃ v, en = .returned v) ∧ u' = .returning ∧ w' = w := by
  unfold quietB at h
  split at h
  · rename_i fn hf
    split at h
    · rename_i c hb hres hle
      have hle := Nat.le_of_ble_eq_true hle
      split at h
      · rename_i e' hq
        refine ⟨trivial, fun c0 cs hu _ => ?_⟩
        let b : Frame := { (default : Frame) with fn := f, kind := .deferred }
        have henter : Frame.enter P f args .deferred = b.at { tmps := args ++ Array.replicate (fn.ntmps - args.size) undef, defers := [] } [.code c] := by
          simp [Frame.enter, Frame.at, hf, hb, b]
        have hk : @Knows ⟨none, []⟩ { tmps := args ++ Array.replicate (fn.ntmps - args.size) undef, defers := [] } [] fn.ntmps :=
          ⟨rfl, by simp; omega, fun t v ht => by simp [look] at ht⟩
        obtain ⟨en, a', cs', w', ⟨hen, hcs, hw, hd⟩, harr⟩ := qCode_ok (w := w) hu c (Q := fun en a' cs' w' => en = .normal ∧ cs' = c0 :: cs ∧ w' = w ∧ a'.defers = []) [] e' _ hq hk
          (fun a' ha' => ⟨rfl, rfl, rfl, @Knows.defers ⟨none, []⟩ _ _ _ ha'⟩) b [] rfl rfl
        subst hen hcs hw
        rw [← henter] at harr
        have hc : ({ c0 with mode := FrameMode.returning } : Frame) = c0 := by rw [← hu]
        refine ⟨.returned (.tuple #[]), .returning, w', _, ⟨⟨_, rfl⟩, rfl, rfl⟩, comesIn_wide.2 (by rw [hc]; exact Steps.trans harr (.one step_end)), rfl, rfl, rfl, hd, fn, hf, ?_⟩
        have hr : fn.results = #[] := by
          apply Array.toList_inj.1
          simpa using hres
        simp [results, hr]
      · cases h
    · cases h
  · cases h
end
end Go.Proofs.YtfoabgljfikklaaGreatDoor.V
namespace Go.Proofs.YtfoabgljfikklaaGreatDoor.V
section
variable {P : Program} {ops : Array Oper} {Q : Exit → Act → World → Prop} {S : World → Prop} {n lo : Nat} {r r0 : Rho} {e : Env} {w : World} {st st' : ST} {call : CallA} {plans : Nat → Nat → Option Plan} {ext : CallA}
theorem Sx_ok [Sig] {H' : Tr AB} (hle : r0.le r) (hs : Sat lo r H' w) {x : RI} (h : x.ok H' = true) : Sx r0 w x := by
  cases x with
  | cells b o part =>
    simp only [RI.ok] at h
    intro B K L h1 h2
    split at h
    · rename_i l hl
      have hsf : l = part ∧ AV.fixs part = true := by
        split at h
        · exact ⟨sameVs_eq ‹_›, h⟩
        · cases h
      obtain ⟨rfl, hf⟩ := hsf
      obtain ⟨_, L', h3, h4, _⟩ := atH_sound hs hl (hle _ _ h1)
      rw [RelL.det _ hf (h2.mono hle) h3]
      exact h4
    · cases h
  | look b d k v =>
    simp only [RI.ok] at h
    intro B K X h1 h2
    split at h
    · rename_i es clock hb hf
      obtain ⟨_, E, hE, hB⟩ := hs.here hb (hle _ _ h1)
      have hX := h2.mono hle
      refine ⟨E, clock, hB, ?_⟩
      split at h
      · rename_i i u born v hfa
        split at h
        · rename_i hsame
          have := sameV_eq hsame
          subst this
          intro V hV
          obtain ⟨_, V', k1, k2, _⟩ := (findA_rel hf hX hE hfa).2 _ _ _ rfl
          rw [Rel.det _ h (hV.mono hle) k2]
          exact ⟨_, k1⟩
        · cases h
      · rename_i hfa
        exact (findA_rel hf hX hE hfa).1 rfl
      · cases h
    · cases h
theorem Rx_ok [Sig] {H' : Tr AB} (hs : Sat lo r H' w) {x : RI} (h : x.ok H' = true) : Rx r x := by
  cases x with
  | cells b o part =>
    simp only [RI.ok] at h
    split at h
    · rename_i l hl
      have hsf : l = part ∧ AV.fixs part = true := by
        split at h
        · exact ⟨sameVs_eq ‹_›, h⟩
        · cases h
      obtain ⟨rfl, hf⟩ := hsf
      have hb : ∃ ab, H'.get b = some ab := by
        unfold atH at hl
        split at hl
        · exact ⟨_, ‹_›⟩
        · cases hl
      obtain ⟨ab, hb⟩ := hb
      obtain ⟨B, K, hr, _, _⟩ := hs.row _ _ hb
      obtain ⟨_, L, h1, h2, _⟩ := atH_sound hs hl hr
      exact ⟨B, K, L, hr, h1⟩
    · cases h
  | look b d k v =>
    simp only [RI.ok] at h
    split at h
    · rename_i es clock hb hf
      obtain ⟨B, K, hr, _, E, hE, hB⟩ := hs.row _ _ hb
      refine ⟨hf, B, K, hr, ?_⟩
      rintro u rfl
      split at h
      · rename_i i u' born v' hfa hv
        cases hv
        split at h
        · rename_i hsame
          have := sameV_eq hsame
          subst this
          exact findA_val hE hfa
        · cases h
      · rename_i hv; cases hv
      · cases h
    · cases h
theorem oks_mem : ∀ {l : List RI} {H : Tr AB}, RI.oks l H = true → ∀ x ∈ l, x.ok H = true
  | [], _, _, x, hx => by simp at hx
  | y :: l, H, h, x, hx => by
    simp only [RI.oks] at h
    split at h
    · rename_i h1
      rcases List.mem_cons.1 hx with rfl | hx
      · exact h1
      · exact oks_mem h x hx
    · cases h
theorem oksAll_mem {l : List RI} : ∀ {m : List (Tr AB)}, oksAll l m = true → ∀ H ∈ m, RI.oks l H = true
  | [], _, H, hH => by simp at hH
  | K :: m, h, H, hH => by
    simp only [oksAll] at h
    split at h
    · rename_i h1
      rcases List.mem_cons.1 hH with rfl | hH
      · exact h1
      · exact oksAll_mem h H hH
    · cases h
theorem GC.regionS [Fr] {id : Nat} {ops : Array Oper} (pl : Plan) (S : World → Prop) (hm : P.follows .mixedOrders = true) (hp : okR ops pl = true)
    (h : GX P ops (NoPanic Q) S n pl e w.drew) : GC P (.region id ops true) Q n e w := by
  unfold okR at hp
  split at hp
  · rename_i hs
    unfold GC
    exact fun a ha => Code.wpIn_mono NoPanic.imp (wpIn_region_any hm (wpAny_of_L _ _ _ _ (covers_spec (Region.noSelect_spec hs) (fun _ _ _ h => h) _ _ _ _ _ hp (h a ha))))
  · cases hp
def Xt.toExit : Xt → Exit
  | .normal => .normal
  | .exit id => .exit id
  | .ret => .ret
def DsR (P : Program) (r : Rho) : List MK → List Deferred → Prop
  | [], ds => ds = []
  | .d d :: l, ds => ∃ D K ds', r d = some (D, K) ∧ ds = { target := .collected D, args := #[] } :: ds' ∧ DsR P r l ds'
  | .q f m :: l, ds => ∃ (cs : Array Value) (ds' : List Deferred), cs.size = m ∧ callB P f = true ∧ ds = { target := .fn (.func f) cs, args := #[] } :: ds' ∧ DsR P r l ds'
theorem DsR.mono {P : Program} {r r' : Rho} (h : r.le r') : ∀ {l : List MK} {ds : List Deferred}, DsR P r l ds → DsR P r' l ds
  | [], _, k => k
  | .d _ :: _, _, ⟨D, K, ds', h1, h2, h3⟩ => ⟨D, K, ds', h _ _ h1, h2, DsR.mono h h3⟩
  | .q _ _ :: _, _, ⟨cs, ds', h1, h0, h2, h3⟩ => ⟨cs, ds', h1, h0, h2, DsR.mono h h3⟩
def Fin [Sig] (P : Program) (rd : Option Nat) (lo n : Nat) (r : Rho) (w : World) (z : Xt × ST) (Q : Exit → Act → World → Prop) : Prop :=
  ∀ r' e' w' ds', r.le r' → EnvR r' e' z.2.T → Sat lo r' z.2.H w' → DsR P r' z.2.mks ds' → Mod (fun k => lo ≤ k) w w' → @GQ ⟨rd, ds'⟩ Q z.1.toExit n e' w'
theorem Fin.after [Sig] {rd : Option Nat} {r1 : Rho} {w1 : World} {z : Xt × ST} (h : Fin P rd lo n r w z Q) (hr : r.le r1) (hm : Mod (fun k => lo ≤ k) w w1) : Fin P rd lo n r1 w1 z Q :=
  fun r' e' w' ds' h1 h2 h3 h4 h5 => h r' e' w' ds' (hr.trans h1) h2 h3 h4 (hm.trans h5)
def RunOK [Sig] (P : Program) (plans : Nat → Nat → Option Plan) (ext : CallA) (lo k : Nat) : Prop :=
  ∀ (rd : Option Nat) (ds : List Deferred) (f n : Nat) (c : Code) (st : ST) (outs : List (Xt × ST)), okC plans f c = true → evRun P plans ext k rd.isSome f n c st = some outs → ∀ r e w Q, EnvR r e st.T → Sat lo r st.H w → DsR P r st.mks ds → (∀ z ∈ outs, Fin P rd lo n r w z Q) → @GC ⟨rd, ds⟩ P c Q n e w
def LoopAt [Sig] (P : Program) (lo n : Nat) (rd : Option Nat) (c : Code) (st : ST) (outs : List (Xt × ST)) (m : Nat) : Prop :=
  ∀ ds r e w Q, EnvR r e st.T → Sat lo r st.H w → DsR P r st.mks ds → (∀ z ∈ outs, Fin P rd lo n r w z Q) → ∀ a, @Knows ⟨rd, ds⟩ a e n → Code.roundsIn (@Fr.F ⟨rd, []⟩) 0 P c Q m a w
def LoopOK [Sig] (P : Program) (plans : Nat → Nat → Option Plan) (ext : CallA) (lo k : Nat) : Prop :=
  ∀ (rd : Option Nat) (f n : Nat) (c : Code) (st : ST) (outs : List (Xt × ST)), okC plans f c = true → evRun P plans ext k rd.isSome f n (.loop c) st = some outs → ∃ m, LoopAt P lo n rd c st outs m
theorem roundsIn_mono {F : Fence} {c : Code} : ∀ {m m' : Nat} {a : Act} {w : World}, m ≤ m' → Code.roundsIn F 0 P c Q m a w → Code.roundsIn F 0 P c Q m' a w
  | 0, _, _, _, _, h => h.elim
  | m + 1, 0, _, _, hm, _ => by omega
  | m + 1, m' + 1, a, w, hm, h => by
    rw [roundsIn_succ] at h ⊢
    refine Code.wpIn_mono (fun e a w hq => ?_) h
    cases e with
    | normal => exact roundsIn_mono (by omega) hq
    | _ => exact hq
theorem LoopAt.mono [Sig] {rd : Option Nat} {c : Code} {outs : List (Xt × ST)} {m m' : Nat} (hm : m ≤ m') (h : LoopAt P lo n rd c st outs m) : LoopAt P lo n rd c st outs m' :=
  fun ds r e w Q h1 h2 h3 h4 a ha => roundsIn_mono hm (h ds r e w Q h1 h2 h3 h4 a ha)
theorem exists_all {α : Type} {C : α → Nat → Prop} (hC : ∀ a m m', m ≤ m' → C a m → C a m') : ∀ {l : List α}, (∀ a ∈ l, ∃ m, C a m) → ∃ m, ∀ a ∈ l, C a m
  | [], _ => ⟨0, by simp⟩
  | b :: l, h => by
    obtain ⟨m1, h1⟩ := h b List.mem_cons_self
    obtain ⟨m2, h2⟩ := exists_all hC fun a ha => h a (List.mem_cons_of_mem _ ha)
    refine ⟨max m1 m2, fun a ha => ?_⟩
    rcases List.mem_cons.1 ha with rfl | ha
    · exact hC _ _ _ (Nat.le_max_left _ _) h1
    · exact hC _ _ _ (Nat.le_max_right _ _) (h2 a ha)
theorem argT_rel [Sig] : ∀ {l : List AV} {L : List Value} {t : Nat} {T : Tr AV}, RelL r l L → (∀ s a, T.get s = some a → s < t) → ∀ s a, (argT t l T).get s = some a → (s < t ∧ T.get s = some a) ∨ ∃ A, look s (argE t L) = some A ∧ Rel r a A
  | [], _, t, T, _, hT, s, a, h => .inl ⟨hT s a h, h⟩
  | v :: l, L, t, T, hL, hT, s, a, h => by
    obtain ⟨V, M, rfl, hV, hM⟩ := hL.of_cons
    simp only [argT] at h
    have hT' : ∀ s a, (T.put t v).get s = some a → s < t + 1 := by
      intro s a hs
      rw [Tr.get_put] at hs
      split at hs
      · omega
      · have := hT s a hs; omega
    rcases argT_rel hM hT' s a h with ⟨h1, h2⟩ | ⟨A, h1, h2⟩
    · rw [Tr.get_put] at h2
      split at h2
      · rename_i hst
        subst hst
        cases h2
        exact .inr ⟨V, by simp [argE, look], hV⟩
      · rename_i hst
        exact .inl ⟨by omega, h2⟩
    · refine .inr ⟨A, ?_, h2⟩
      obtain ⟨h3, _⟩ := look_argE M (t + 1) s A h1
      have hb : Nat.beq t s = false := by
        cases hb : Nat.beq t s with
        | true => have := Nat.eq_of_beq_eq_true hb; omega
        | false => rfl
      simp [argE, look, hb, h1]
theorem enter_rel [Sig] {l : List AV} {L : List Value} (h : RelL r l L) : EnvR r (argE 0 L) (argT 0 l .e) := fun s a hs => by
  rcases argT_rel h (fun s a hs => by simp [Tr.get] at hs) s a hs with ⟨h1, _⟩ | h1
  · omega
  · exact h1
theorem results_sound [Fr] [Sig] (hs : Sat lo r st.H w) {a : Act} (hE : EnvR r e st.T) (ha : Knows a e n) : ∀ {l : List ResultVar} {out : List AV}, resA P st l = some out →
    ∃ L, RelL r out L ∧ (l.mapM (m := Sem) (fun | .tmp t => pure (a.tmps.getD t undef) | .cell x t => do loadVar t (← asAddr (a.tmps.getD x undef)))).run P w = .ok L w
  | [], out, h => by
    simp only [resA, Option.some.injEq] at h
    subst h
    exact ⟨[], RelL.nil r, by simp⟩
  | .tmp t :: l, out, h => by
    simp only [resA] at h
    split at h
    · rename_i v m hv hm
      cases h
      obtain ⟨L, h1, h2⟩ := results_sound hs hE ha hm
      obtain ⟨V, h3, h4⟩ := hE t v hv
      have h5 := ha.slot t V h3
      refine ⟨V :: L, RelL.cons h4 h1, ?_⟩
      have hg : a.tmps.getD t undef = V := by simp [h5]
      simp only [List.mapM_cons, Sem.run_bind, hg, Sem.run_pure, Result.andThen_ok, h2]
    · cases h
  | .cell p t :: l, out, h => by
    simp only [resA] at h
    split at h
    · rename_i b o agg size hv ht
      split at h
      · rename_i part hp
        split at h
        · rename_i v m hpv hm
          cases h
          obtain ⟨L, h1, h2⟩ := results_sound hs hE ha hm
          obtain ⟨V, h3, h4⟩ := hE p _ hv
          obtain ⟨B, K, hr, rfl⟩ := rel_p h4
          have h5 := ha.slot p _ h3
          obtain ⟨_, Lp, hL, hA, hl⟩ := atH_sound hs hp hr
          obtain ⟨W, hW, hrun⟩ := load_run ht hL hl hpv
          have h6 := hrun w B o hA
          refine ⟨W :: L, RelL.cons hW h1, ?_⟩
          simp only [Instr.loadAt, Instr.sureAddr, Sem.run_bind, Sem.run_pure, Result.andThen_ok] at h6
          have hg : a.tmps.getD p undef = .pointer (some ⟨B, o, none⟩) := by simp [h5]
          have hg' : (asAddr (a.tmps.getD p undef)).run P w = .ok ⟨B, o, none⟩ w := by rw [hg]; simp [asAddr]
          simp only [List.mapM_cons, Sem.run_bind, hg', Sem.run_pure, Result.andThen_ok, h6, h2]
        · cases h
      · cases h
    · cases h
theorem resV_rel [Sig] {out : List AV} {L : List Value} (h : RelL r out L) : Rel r (resV out) (if h : L.toArray.size = 1 then L.toArray[0] else .tuple L.toArray) := by
  match out, L, h with
  | [], L, h => rw [h.of_nil]; simpa [resV] using mk_t (RelL.nil r)
  | [v], L, h =>
    obtain ⟨V, M, rfl, hV, hM⟩ := h.of_cons
    have := hM.of_nil
    subst this
    simpa [resV] using hV
  | v :: u :: l, L, h =>
    have hl := h.length
    have : ¬ L.toArray.size = 1 := by simp at hl ⊢; omega
    rw [dif_neg this]
    exact mk_t h
theorem resultsOf [Fr] [Sig] {fn : Func} {a : Act} (hs : Sat lo r st.H w) (hE : EnvR r e st.T) (ha : Knows a e n) {out : List AV} (h : resA P st fn.results.toList = some out) :
    ∃ V, (results fn a.tmps).run P w = .ok V w ∧ Rel r (resV out) V := by
  obtain ⟨L, h1, h2⟩ := results_sound hs hE ha h
  refine ⟨_, ?_, resV_rel h1⟩
  unfold results
  rw [Array.mapM_eq_mapM_toList]
  simp only [Sem.run_bind, Sem.run_map]
  erw [h2]
  rfl
def OkAll (P : Program) (plans : Nat → Nat → Option Plan) : Prop := ∀ (f : Nat) fn c, P.funcs[f]? = some fn → fn.body = some c → okC plans f c = true
theorem okC_none {f : Nat} (h : ∀ id, plans f id = none) (c : Code) : okC plans f c = true := by
  induction c with
  | region id ops draw => cases draw <;> simp [okC, h]
  | seq a b iha ihb => simp [okC, iha, ihb]
  | cond x a b iha ihb => simp [okC, iha, ihb]
  | block id a ih => simpa [okC] using ih
  | loop a ih => simpa [okC] using ih
  | scope a ih => simpa [okC] using ih
  | rangeFunc _ _ a b iha ihb => simp [okC, iha, ihb]
  | _ => simp [okC]
theorem okB_nil : ∀ f, memN f [] = true → okB P plans f = true := fun f h => by simp [memN] at h
theorem okB_cons {g : Nat} {l : List Nat} (h : okB P plans g = true) (hl : ∀ f, memN f l = true → okB P plans f = true) : ∀ f, memN f (g :: l) = true → okB P plans f = true := fun f hf => by
  simp only [memN] at hf
  split at hf
  · rename_i he
    rw [← Nat.eq_of_beq_eq_true he]; exact h
  · exact hl f hf
theorem keysIn_get {t : Tr (List (Nat × Plan))} {l : List Nat} : ∀ {m : Nat}, keysIn t l m = true → ∀ f, f < m → t.get f = none ∨ memN f l = true
  | 0, _, f, hf => by omega
  | m + 1, h, f, hf => by
    simp only [keysIn] at h
    split at h
    · rename_i hn
      rcases Nat.lt_or_ge f m with h1 | h1
      · exact keysIn_get h f h1
      · have : f = m := by omega
        exact .inl (this ▸ hn)
    · split at h
      · rename_i hm
        rcases Nat.lt_or_ge f m with h1 | h1
        · exact keysIn_get h f h1
        · have : f = m := by omega
          exact .inr (this ▸ hm)
      · cases h
theorem okB_all {t : Tr (List (Nat × Plan))} {l : List Nat} {m : Nat} (hk : ∀ f, memN f l = true → okB P (plansIn t) f = true) (ha : keysIn t l m = true) (hm : Nat.ble P.funcs.size m = true) :
    OkAll P (plansIn t) := fun f fn c hf hc => by
  have hlt : f < m := by
    have h1 : f < P.funcs.size := by
      rcases Nat.lt_or_ge f P.funcs.size with h | h
      · exact h
      · rw [Array.getElem?_eq_none h] at hf; cases hf
    have := Nat.le_of_ble_eq_true hm
    omega
  rcases keysIn_get ha f hlt with h | h
  · exact okC_none (fun id => by simp [plansIn, h]) c
  · have := hk f h
    simpa [okB, hf, hc] using this
theorem Ret.enterM {f : FuncId} {fn : Func} {c : Code} {vs : List Value} {R : Value → World → Prop} (hf : P.funcs[f]? = some fn) (hb : fn.body = some c) (hn : fn.ntmps = n) (hle : Nat.ble vs.length n = true)
    (h : @GC ⟨none, []⟩ P c (bodyPostM Fence.wide 0 P fn (fun en w' => ∃ v, en = .returned v ∧ R v w')) n (argE 0 vs) w) : Ret P f vs.toArray w R := by
  have hle' := Nat.le_of_ble_eq_true hle
  have hk : @Knows ⟨none, []⟩ { tmps := vs.toArray ++ Array.replicate (fn.ntmps - vs.toArray.size) undef, defers := [] } (argE 0 vs) n := by
    refine ⟨rfl, by simp [hn]; omega, fun t v ht => ?_⟩
    obtain ⟨_, h2⟩ := look_argE vs 0 t v ht
    have hlt : t < vs.length := (List.getElem?_eq_some_iff.1 (by simpa using h2)).1
    rw [Array.getElem?_append_left (by simpa using hlt)]
    simpa using h2
  unfold GC at h
  unfold Ret
  exact (callsIn_wide (n := 0)).1 (callsIn_of_wp_marks (F := Fence.wide) hf hb trivial (h _ hk))
theorem mod_put (w : World) (b : Nat) (o : Obj) : Mod (· = b) w (w.putObj b o) := mod_setB w b o
theorem leavesM [Sig] {fn : Func} {tmps : Array Value} {R : Ending → World → Prop} : ∀ {mks : List MK} {ds : List Deferred} {H H' : Tr AB} {w : World}, DsR P r mks ds → Sat lo r H w → killM P H mks = some H' →
    (∀ w2, Sat lo r H' w2 → Mod (fun k => lo ≤ k) w w2 → ∃ v, (results fn tmps).run P w2 = .ok v w2 ∧ R (.returned v) w2) → LeavesInM Fence.wide 0 P fn tmps R ds .returning w
  | [], ds, H, H', w, hd, hs, hk, h => by
    have hd : ds = [] := hd
    subst hd
    simp only [killM, Option.some.injEq] at hk
    subst hk
    exact h w hs (Mod.refl w)
  | .q f m :: l, ds, H, H', w, hd, hs, hk, h => by
    obtain ⟨cs, ds', hm, hcb, rfl, h3⟩ := hd
    simp only [killM] at hk
    split at hk
    · rename_i hq
      have hinv : (invoke (.fn (.func f) cs) #[]).run P w = .ok (.enter f cs) w := by
        have := run_callFunc ⟨hcb⟩ (#[] ++ cs) w
        simpa [invoke] using this
      refine ⟨by simp, .inr ⟨fun h => (by cases h), _, _, f, cs, rfl, hinv, fun _ _ => trivial, (quiet_ok hq hm w).mono ?_⟩⟩
      rintro en u' w' ⟨⟨v, rfl⟩, rfl, rfl⟩
      exact leavesM h3 hs hk h
    · cases hk
  | .d d :: l, ds, H, H', w, hd, hs, hk, h => by
    obtain ⟨D, K, ds', h1, rfl, h3⟩ := hd
    simp only [killM] at hk
    split at hk
    · rename_i hdf
      obtain ⟨hlo, hB⟩ := hs.here hdf h1
      have hB : w.heap[D]? = some (.deferred (some [])) := hB
      have hmod := mod_put w D (.deferred none)
      have hs' := hs.upd hdf rfl h1 (hlo rfl) hmod (ab' := .dead) trivial
      refine ⟨by simp, .inl ⟨D, _, rfl, run_takeDeferred hB, ?_⟩⟩
      exact leavesM h3 hs' hk fun w2 k1 k2 => h w2 k1 ((hmod.weaken fun k _ hk => by subst hk; exact hlo rfl).trans k2)
    · cases hk
theorem deadL_sat [Sig] : ∀ (D : List Nat) {H : Tr AB}, Sat lo r H w → Sat lo r (deadL D H) w
  | [], _, h => h
  | a :: D, H, h => by
    simp only [deadL]
    split
    · rename_i hm
      obtain ⟨B, K, hr, _⟩ := h.row _ _ hm
      exact deadL_sat D (h.kill hm hr)
    · exact deadL_sat D h
theorem sameOut_spec {v : AV} {H : Tr AB} {next : Nat} {D : List Nat} : ∀ {l : List (AV × ST)}, sameOut v H next D l = true → ∀ z ∈ l, z.1 = v ∧ deadL D z.2.H = H
  | [], _, z, hz => by simp at hz
  | y :: l, h, z, hz => by
    simp only [sameOut] at h
    split at h
    · rename_i h1 h2 h3
      rcases List.mem_cons.1 hz with rfl | hz
      · exact ⟨sameV_eq h1, Tr.same_eq (fun _ _ h => AB.same_eq h) h3⟩
      · exact sameOut_spec h z hz
    · cases h
theorem mergeOut_spec {n0 : Nat} {l : List (AV × ST)} {v : AV} {st : ST} (h : mergeOut n0 l = some (v, st)) : ∀ z ∈ l, z.1 = v ∧ (st.H = z.2.H ∨ ∃ D, st.H = deadL D z.2.H) := by
  unfold mergeOut at h
  split at h
  · cases h
  · rename_i z
    cases h
    intro y hy
    simp at hy
    subst hy
    exact ⟨rfl, .inl rfl⟩
  · rename_i z l hne
    split at h
    · rename_i hso
      cases h
      intro y hy
      rcases List.mem_cons.1 hy with rfl | hy
      · exact ⟨rfl, .inr ⟨_, rfl⟩⟩
      · obtain ⟨h1, h2⟩ := sameOut_spec hso y hy
        exact ⟨h1, .inr ⟨_, h2.symm⟩⟩
    · cases h
theorem evCall_ok [Sig] (hfs : OkAll P plans) (hext : CallOK P lo ext) {k : Nat} (h : RunOK P plans ext lo k) : CallOK P lo (evCall P ext (evRun P plans ext k)) := by
  intro g args st v st' hev r w Args hArgs hs
  unfold evCall at hev
  split at hev
  · rename_i z hz
    cases hev
    exact hext g args st v st' hz r w Args hArgs hs
  · split at hev
    · rename_i fn hfn
      split at hev
      · rename_i c hbody hle
        have hok : okC plans g c = true := hfs g fn c hfn hbody
        split at hev
        · rename_i l hrun
          split at hev
          · rename_i outs houts
            have hmerge := mergeOut_spec hev
            refine Ret.enterM hfn hbody rfl (by rw [← hArgs.length]; exact hle) ?_
            refine h none [] g fn.ntmps c ⟨argT 0 args .e, st.H, st.next, []⟩ l hok hrun r _ w _ (enter_rel hArgs) hs rfl ?_
            intro z hz r' e' w' ds' h1 h2 h3 h4 h5
            obtain ⟨x, hx, hxm⟩ := evEach_mem houts z hz
            unfold evEnd at hx
            have main : (z.1 = .normal ∨ z.1 = .ret) → ∀ H out, killM P z.2.H z.2.mks = some H → resA P ⟨z.2.T, H, z.2.next, []⟩ fn.results.toList = some out → x = [(resV out, ⟨.e, H, z.2.next, []⟩)] →
                ∀ a, @Knows ⟨none, ds'⟩ a e' fn.ntmps → LeavesInM Fence.wide 0 P fn a.tmps (fun en w' => ∃ V, en = .returned V ∧ After lo r w v st'.H V w') a.defers .returning w' := by
              intro _ H out hk hres hxe a ha
              have hd : a.defers = ds' := @Knows.defers ⟨none, ds'⟩ _ _ _ ha
              rw [hd]
              refine leavesM h4 h3 hk fun w2 k1 k2 => ?_
              letI fr : Fr := ⟨none, ds'⟩
              obtain ⟨V, h6, h7⟩ := resultsOf (fn := fn) (a := a) (st := ⟨z.2.T, H, z.2.next, []⟩) k1 h2 ha hres
              obtain ⟨hv, hH⟩ := hmerge _ (hxm (resV out, ⟨.e, H, z.2.next, []⟩) (by rw [hxe]; simp))
              refine ⟨V, h6, V, rfl, r', h1, hv ▸ h7, ?_, h5.trans k2⟩
              rcases hH with hH | ⟨q, hH⟩
              · rw [hH]; exact k1
              · rw [hH]; exact deadL_sat _ k1
            split at hx
            · cases hx
            · rename_i hne
              split at hx
              · rename_i H hk
                split at hx
                · rename_i out hres
                  cases hx
                  cases hzz : z.1 with
                  | normal => unfold GQ; exact main (.inl hzz) H out hk hres rfl
                  | ret => unfold GQ; exact main (.inr hzz) H out hk hres rfl
                  | exit id => exact absurd hzz (hne id)
                · cases hx
              · cases hx
          · cases hev
        · cases hev
      · cases hev
    · cases hev
end
end Go.Proofs.YtfoabgljfikklaaGreatDoor.V
