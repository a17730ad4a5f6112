/-
  A deferred function that does nothing where nobody panics. No condition: these are rules over any program.
-/
import Derived.Test.YtbjomeonjlialaaGreatEj
import Derived.Recover
namespace Go.Proofs.YtbjomeonjlialaaGreat.V
section
variable {P : Program} {n : Nat}

theorem qOp_ok {e : Env} {a : Act} (ha : @Knows ⟨none, []⟩ a e n) {o : Oper} {v : Value} (h : qOp P e o.op = some v) (w : World) :
    (execOp a.eval o).run P w = .ok (.value v) w ∨ ((execOp a.eval o).run P w = .ok .recover w ∧ v = .nilIface) := by
  letI fr : Fr := ⟨none, []⟩
  obtain ⟨dst, op, ty, pos, aft, g⟩ := o
  simp only at h
  cases op <;> simp only [qOp] at h <;> try (cases h; done)
  case move x => exact .inl (by simp [execOp, ev_eq ha h])
  case assign x => exact .inl (by simp [execOp, ev_eq ha h])
  case extract x k =>
    split at h
    · rename_i l hx
      exact .inl (by simp at h; simp [execOp, ev_eq ha hx, Instr.extract, h])
    · cases h
  case typeAssert x t s c =>
    cases c with
    | false => simp [qOp] at h
    | true =>
      simp only [qOp] at h
      split at h
      · rename_i d i hx hu hi
        split at h
        · rename_i z hz
          cases h
          refine .inl ?_
          have hz' : (zeroValue s).run P w = .ok z w := by simp [zeroValue, typeInfo, hi, hz]
          simp only [execOp, ev_eq ha hx, Instr.typeAssert, Sem.run_bind, run_underlying hu, Result.andThen_ok]
          cases d <;> simp [hz']
        · cases h
      · cases h
  case call c =>
    obtain ⟨cal, args, ts⟩ := c
    simp only at h
    split at h
    · cases h
      exact .inr ⟨by simp [execOp, resolve, invoke, builtin], rfl⟩
    · cases h

variable {ops : Array Oper} {c0 : Frame} {cs : List Frame} {w : World}
theorem qOps_ok (hc : c0.mode = .returning) {Q : Exit → Act → List Frame → World → Prop} : ∀ (l : List Oper) (k : Nat) (e e' : Env) (a : Act), ops.toList.drop k = l → qOps P n l e = some e' → @Knows ⟨none, []⟩ a e n →
    (∀ a', @Knows ⟨none, []⟩ a' e' n → Q .normal a' (c0 :: cs) w) → wpOpsS P ops Q (List.range' k l.length) a (c0 :: cs) w
  | [], k, e, e', a, _, h, ha, hq => by
    simp only [qOps, Option.some.injEq] at h
    subst h
    simpa [wpOpsS] using hq a ha
  | o :: l, k, e, e', a, hl, h, ha, hq => by
    have hk : ops[k]? = some o := by
      have := congrArg (fun l => l[0]?) hl
      simpa using this
    have hl' : ops.toList.drop (k + 1) = l := by
      have := congrArg (fun l => l.drop 1) hl
      simpa [Nat.add_comm] using this
    simp only [qOps] at h
    split at h
    · rename_i v hg ho hf
      have hput : ∀ v, @Knows ⟨none, []⟩ (a.put o.dst v) (e.put o.dst v) n := by
        intro v
        cases hd : o.dst with
        | none => exact ha
        | some d => rw [hd] at hf; exact @Knows.put ⟨none, []⟩ _ _ _ ha _ hf v
      have hw : ∀ y, Region.wanted o y = true := fun y => by simp [Region.wanted, hg]
      have ih := qOps_ok hc (Q := Q) l (k + 1) _ e' (a.put o.dst v) hl' h (hput v) hq
      simp only [List.length_cons, List.range'_succ, wpOpsS, hk, hw, if_true]
      rcases qOp_ok ha ho w with hr | ⟨hr, rfl⟩
      · rw [hr]
        exact ih
      · rw [hr]
        simp only [recoverD, hc]
        exact ih
    · cases h
theorem qCode_ok (hc : c0.mode = .returning) : ∀ (c : Code) {Q : Exit → Act → List Frame → World → Prop} (e e' : Env) (a : Act), qCode P n c e = some e' → @Knows ⟨none, []⟩ a e n →
    (∀ a', @Knows ⟨none, []⟩ a' e' n → Q .normal a' (c0 :: cs) w) → c.wpS P Q a (c0 :: cs) w := by
  intro c
  induction c with
  | skip =>
    intro Q e e' a h ha hq
    simp only [qCode, Option.some.injEq] at h
    subst h
    exact wpS_of_wp (wp_skip (hq a ha))
  | region id ops draw =>
    intro Q e e' a h ha hq
    cases draw with
    | true => simp [qCode] at h
    | false =>
      simp only [qCode] at h
      refine wpS_region ?_
      have := qOps_ok (ops := ops) (P := P) (cs := cs) (w := w) (Q := Q) hc ops.toList 0 e e' a rfl h ha hq
      rw [List.range_eq_range']
      simpa using this
  | seq x y ihx ihy =>
    intro Q e e' a h ha hq
    simp only [qCode] at h
    split at h
    · rename_i e1 h1
      exact wpS_seq (ihx e e1 a h1 ha fun a' ha' => ihy e1 e' a' h ha' hq)
    · cases h
  | cond t x y ihx ihy =>
    intro Q e e' a h ha hq
    simp only [qCode] at h
    split at h
    · rename_i ht
      exact wpS_cond (t := true) (@ev_eq ⟨none, []⟩ _ _ _ ha _ _ ht) (ihx e e' a h ha hq)
    · rename_i ht
      exact wpS_cond (t := false) (@ev_eq ⟨none, []⟩ _ _ _ ha _ _ ht) (ihy e e' a h ha hq)
    · cases h
  | _ => intro Q e e' a h; simp [qCode] at h

/-- **What a deferred call of it does where nobody panics: nothing.** -/
theorem quiet_ok {f m d : Nat} (h : quietB P f m = true) {args : Array Value} (hm : args.size = m) (w : World) :
    CallsDIn Fence.wide d P f args .returning w fun en u' w' => (∃ v, en = .returned v) ∧ u' = .returning ∧ w' = w := by
  unfold quietB at h
  split at h
  · rename_i fn hf
    split at h
    · rename_i c hb hres hle
      have hle := Nat.le_of_ble_eq_true hle
      split at h
      · rename_i e' hq
        refine ⟨trivial, fun c0 cs hu _ => ?_⟩
        let b : Frame := { (default : Frame) with fn := f, kind := .deferred }
        have henter : Frame.enter P f args .deferred = b.at { tmps := args ++ Array.replicate (fn.ntmps - args.size) undef, defers := [] } [.code c] := by
          simp [Frame.enter, Frame.at, hf, hb, b]
        have hk : @Knows ⟨none, []⟩ { tmps := args ++ Array.replicate (fn.ntmps - args.size) undef, defers := [] } [] fn.ntmps :=
          ⟨rfl, by simp; omega, fun t v ht => by simp [look] at ht⟩
        obtain ⟨en, a', cs', w', ⟨hen, hcs, hw, hd⟩, harr⟩ := qCode_ok (w := w) hu c (Q := fun en a' cs' w' => en = .normal ∧ cs' = c0 :: cs ∧ w' = w ∧ a'.defers = []) [] e' _ hq hk
          (fun a' ha' => ⟨rfl, rfl, rfl, @Knows.defers ⟨none, []⟩ _ _ _ ha'⟩) b [] rfl rfl
        subst hen hcs hw
        rw [← henter] at harr
        have hc : ({ c0 with mode := FrameMode.returning } : Frame) = c0 := by rw [← hu]
        refine ⟨.returned (.tuple #[]), .returning, w', _, ⟨⟨_, rfl⟩, rfl, rfl⟩, comesIn_wide.2 (by rw [hc]; exact Steps.trans harr (.one step_end)), rfl, rfl, rfl, hd, fn, hf, ?_⟩
        have hr : fn.results = #[] := by
          apply Array.toList_inj.1
          simpa using hres
        simp [results, hr]
      · cases h
    · cases h
  · cases h
end
end Go.Proofs.YtbjomeonjlialaaGreat.V
