/-
  What a call may be told from outside: a function without arguments that gives a known value, a function that is shown by other means. A run's word for a call, from the world in which it begins. No condition: these are rules over any program.
-/
import Derived.Test.YtbjomeonjlialaaGreatFa
namespace Go.Proofs.YtbjomeonjlialaaGreat.V
section
variable {P : Program}

/-- One word after the other. -/
def orExt (a b : CallA) : CallA := fun g args st => match a g args st with
  | some z => some z
  | none => b g args st
theorem orExt_ok [Sig] {lo : Nat} {a b : CallA} (ha : CallOK P lo a) (hb : CallOK P lo b) : CallOK P lo (orExt a b) := by
  intro g args st v st' h
  unfold orExt at h
  split at h
  · rename_i z hz
    cases h
    exact ha g args st v st' hz
  · exact hb g args st v st' h
/-- A function that gives one value at one list of arguments. -/
def extAt (f : Nat) (args : List AV) (v : AV) : CallA := fun g ys st => match Nat.beq g f, sameVs ys args with
  | true, true => some (v, st)
  | _, _ => none
theorem extAt_ok [Sig] {lo f : Nat} {args : List AV} {v : AV} (h : ∀ (r : Rho) (w : World) (Args : List Value), RelL r args Args → lo ≤ w.heap.size → Mod (fun k => lo ≤ k) Sig.base w → Ret P f Args.toArray w fun V w' => Rel r v V ∧ Ext w w') : CallOK P lo (extAt f args v) := by
  intro g ys st u st' he r w Args hA hs
  unfold extAt at he
  split at he
  · rename_i h1 h2
    cases he
    have h1 := Nat.eq_of_beq_eq_true h1
    have h2 := sameVs_eq h2
    subst h1 h2
    exact (h r w Args hA hs.size hs.old).mono fun V w' ⟨k1, k2⟩ => ⟨r, Rho.le.refl r, k1, hs.ext k2, modLo k2⟩
  · cases he

/-- The strangers are these values; the world is this one. -/
abbrev sigOf (plans : Nat → Nat → Option Plan) (l : List Value) (h : ∀ v ∈ l, v.oneCell' = true) (w : World) : Sig where
  val i := l.getD i (.bool false)
  one i := by
    cases hi : l[i]? with
    | none => simp [List.getD, hi, Value.oneCell']
    | some v => simpa [List.getD, hi] using h v (List.mem_of_getElem? hi)
  ok f c := okC plans f c = true
  base := w
/-- What a run stands on. -/
structure RunBase [Sig] (P : Program) (plans : Nat → Nat → Option Plan) : Prop where
  mix : P.follows .mixedOrders = true
  sz : Nat.ble P.funcs.size YB = true
  ok : ∀ f c, Sig.ok f c ↔ okC plans f c = true
  fs : OkAll P plans
theorem RunBase.of {plans : Nat → Nat → Option Plan} (h1 : P.follows .mixedOrders = true) (h2 : Nat.ble P.funcs.size YB = true) (h3 : OkAll P plans) (l : List Value) (h : ∀ v ∈ l, v.oneCell' = true) (w : World) : @RunBase (sigOf plans l h w) P plans :=
  @RunBase.mk (sigOf plans l h w) P plans h1 h2 (fun _ _ => Iff.rfl) h3
theorem RunBase.call [Sig] {lo : Nat} {plans : Nat → Nat → Option Plan} {ext : CallA} (h : RunBase P plans) (hext : CallOK P lo ext) (k : Nat) : CallOK P lo (evText P plans ext k) :=
  evText_sound h.mix (Nat.le_of_ble_eq_true h.sz) h.ok h.fs hext k
theorem Sat.begin [Sig] (w : World) (h : Sig.base = w) : Sat w.heap.size (fun _ => none) .e w :=
  ⟨fun b ab hb => by simp [Tr.get] at hb, fun b c ab ac B K K' hb => by simp [Tr.get] at hb, fun b _ => rfl, Nat.le_refl _, by rw [h]; exact Mod.refl w⟩
/-- The run's word for a call is this bool. -/
def runsTo (P : Program) (plans : Nat → Nat → Option Plan) (ext : CallA) (k f : Nat) (args : List AV) (z : Bool) : Bool :=
  match evText P plans ext k f args ⟨.e, .e, 0, []⟩ with
  | some (.b b, _) => (match b, z with | true, true => true | false, false => true | _, _ => false)
  | _ => false
/-- **What the run says of a call, of the call**: a bool comes, nothing that was there is changed. -/
theorem run_bool [Sig] {plans : Nat → Nat → Option Plan} {ext : CallA} {k f : Nat} {args : List AV} {Args : List Value} {w : World} {z : Bool} (hbase : Sig.base = w) (hb : RunBase P plans) (hext : CallOK P w.heap.size ext)
    (hA : RelL (fun _ => none) args Args) (h : runsTo P plans ext k f args z = true) :
    Ret P f Args.toArray w fun V w' => V = .bool z ∧ Ext w w' := by
  unfold runsTo at h
  split at h
  · rename_i b st' he
    have hbz : b = z := by revert h; cases b <;> cases z <;> simp
    subst hbz
    refine (hb.call hext k f args ⟨.e, .e, 0, []⟩ _ _ he (fun _ => none) w Args hA (Sat.begin w hbase)).mono ?_
    rintro V w' ⟨r', _, h2, _, h4⟩
    refine ⟨rel_b h2, ?_⟩
    exact ⟨h4.os, h4.tape, h4.output, h4.size, fun k hk _ => h4.block k hk (Nat.not_le_of_lt hk)⟩
  · cases h
/-- A function without arguments that gives one bool, wherever it is called. -/
theorem extTrue_ok [Sig] {lo f : Nat} {z : Bool} (h : ∀ w, Ret P f #[] w fun V w' => V = .bool z ∧ Ext w w') : CallOK P lo (extAt f [] (.b z)) :=
  extAt_ok fun r w Args hA _ _ => by
    have := hA.of_nil
    subst this
    refine (h w).mono fun V w' ⟨k1, k2⟩ => ⟨?_, k2⟩
    subst k1
    unfold Rel
    rfl
end
end Go.Proofs.YtbjomeonjlialaaGreat.V
