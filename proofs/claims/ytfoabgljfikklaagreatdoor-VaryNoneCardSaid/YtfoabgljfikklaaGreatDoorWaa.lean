/-
  The core of a walk by named slots: what is known of a frame is a list of slots with their values; one rule for each form of code; a region that draws its order is walked by a plan that a closed check holds against the order's edges. No condition: these are rules over any program; The rules of a walk by named slots: one rule for each operation, each form of code, a call, a return. No condition: these are rules over any program.
-/
import Derived.WalkKit
import Derived.OrdersHeld
import Derived.Deep.RegionHeld3
import Derived.OrdersIn
import Derived.RangeFuncIn
import Derived.RangeFuncLeaves
import Derived.LoopNIn
import Derived.ControlIn
import Derived.Laws.AppendOwn
import Derived.Laws.AppendOwnNone
import Derived.Laws.MakeOwn
import Derived.Laws.IdiomCopy
import Derived.WalkLawsBesides
set_option linter.unusedVariables false
set_option linter.unusedSimpArgs false
namespace Go.Proofs.YtfoabgljfikklaaGreatDoor.V
abbrev Env := List (Nat × Value)
def look (t : Nat) : Env → Option Value
  | [] => none
  | (s, v) :: r => match Nat.beq s t with
    | true => some v
    | false => look t r
def ev (e : Env) : Operand → Option Value
  | .tmp t => look t e
  | .const v => some v
  | .global g => some (.pointer (some ⟨g, 0, none⟩))
  | .func f => some (.func (.func f) #[] #[])
def evs (e : Env) : List Operand → Option (List Value)
  | [] => some []
  | x :: r => match ev e x, evs e r with
    | some v, some vs => some (v :: vs)
    | _, _ => none
class Fr where
  rd : Option Nat
  ds : List Deferred
instance (priority := low) Fr.plain : Fr := ⟨none, []⟩
def Fr.F [Fr] : Fence := { Fence.wide with round := Fr.rd }
theorem Fr.calls [Fr] {n : Nat} {P : Program} {f : FuncId} {args : Array Value} {w : World} {R : Ending → World → Prop} : CallsIn Fr.F n P f args w R ↔ Calls P f args w R :=
  ⟨fun h => (callsIn_wide (n := n)).1 h, fun h => (callsIn_wide (n := n)).2 h⟩
theorem semAt_of {P : Program} {ro : Option Nat} {o : Oper} {ρ : Operand → Value} {w w' : World} {x : Next} (hx : (execOp ρ o).run P w = .ok x w') (hd : ∀ d, x ≠ .defer d) : (o.semAt ro ρ).run P w = .ok x w' := by
  by_cases h : ∃ c, o.op = .defer c
  · obtain ⟨c, hc⟩ := h
    exfalso
    unfold execOp at hx
    simp only [hc, Sem.run_bind] at hx
    cases hr : (resolve ρ c o.type).run P w with
    | ok d w1 => rw [hr] at hx; simp at hx; exact hd d hx.1.symm
    | halt y w1 => rw [hr] at hx; cases hx
  · rw [Oper.semAt_eq _ _ _ fun c hc => h ⟨c, hc⟩]
    exact hx
structure Knows [Fr] (a : Act) (e : Env) (n : Nat) : Prop where
  defers : a.defers = Fr.ds
  size : a.tmps.size = n
  slot : ∀ t v, look t e = some v → a.tmps[t]? = some v
theorem ev_eq [Fr] {a : Act} {e : Env} {n : Nat} (h : Knows a e n) {x : Operand} {v : Value} (hx : ev e x = some v) : a.eval x = v := by
  cases x with
  | tmp t => have := h.slot t v hx; simp [Act.eval, this]
  | const u => simpa [ev, Act.eval] using hx
  | global g => simpa [ev, Act.eval] using hx
  | func f => simpa [ev, Act.eval] using hx
theorem evs_eq [Fr] {a : Act} {e : Env} {n : Nat} (h : Knows a e n) : ∀ {xs : List Operand} {vs : List Value}, evs e xs = some vs → xs.map a.eval = vs
  | [], vs, hx => by simp [evs] at hx; simp [hx]
  | x :: r, vs, hx => by
    simp only [evs] at hx
    split at hx
    · rename_i v us h1 h2
      cases hx
      simp [ev_eq h h1, evs_eq h h2]
    · cases hx
theorem evs_arr [Fr] {a : Act} {e : Env} {n : Nat} (h : Knows a e n) {xs : Array Operand} {vs : List Value} (hx : evs e xs.toList = some vs) : xs.map a.eval = vs.toArray := by
  have := evs_eq h hx
  apply Array.toList_inj.1
  simpa using this
theorem Knows.put [Fr] {a : Act} {e : Env} {n : Nat} (h : Knows a e n) {d : Nat} (hd : Nat.blt d n = true) (v : Value) : Knows (a.put (some d) v) ((d, v) :: e) n := by
  have hd' : d < n := by have := hd; simp [Nat.blt] at this; omega
  refine ⟨h.defers, by simp [Act.put, h.size], fun t u hu => ?_⟩
  simp only [look] at hu
  cases hb : Nat.beq d t with
  | true =>
    have hdt : d = t := Nat.eq_of_beq_eq_true hb
    rw [hb] at hu
    subst hdt
    simp only [Option.some.injEq] at hu
    subst hu
    simp [Act.put, h.size, hd']
  | false =>
    have hdt : d ≠ t := Nat.ne_of_beq_eq_false hb
    rw [hb] at hu
    simp only [] at hu
    simp [Act.put, Array.getElem?_setIfInBounds_ne hdt, h.slot t u hu]
def Env.put (e : Env) : Option Tmp → Value → Env
  | some d, v => (d, v) :: e
  | none, _ => e
def fits (n : Nat) : Option Tmp → Bool
  | some d => Nat.blt d n
  | none => true
theorem Knows.putO [Fr] {a : Act} {e : Env} {n : Nat} (h : Knows a e n) {d : Option Tmp} (hd : fits n d = true) (v : Value) : Knows (a.put d v) (e.put d v) n := by
  cases d with
  | none => exact h
  | some d => exact h.put hd v
def Sub (e' e : Env) : Prop := ∀ t v, look t e' = some v → look t e = some v
theorem Knows.sub [Fr] {a : Act} {e e' : Env} {n : Nat} (h : Knows a e n) (hs : Sub e' e) : Knows a e' n := ⟨h.defers, h.size, fun t v ht => h.slot t v (hs t v ht)⟩
theorem Sub.nil (e : Env) : Sub [] e := fun _ _ h => by cases h
theorem Sub.cons {e e' : Env} {s : Nat} {v : Value} (h1 : look s e = some v) (h2 : Sub e' e) : Sub ((s, v) :: e') e := by
  intro t u hu
  simp only [look] at hu
  cases hb : Nat.beq s t with
  | true =>
    have hst : s = t := Nat.eq_of_beq_eq_true hb
    rw [hb] at hu
    subst hst
    simp only [Option.some.injEq] at hu
    subst hu
    exact h1
  | false => rw [hb] at hu; exact h2 t u hu
def pickE (e : Env) : List Nat → Option Env
  | [] => some []
  | s :: r => match look s e, pickE e r with
    | some v, some x => some ((s, v) :: x)
    | _, _ => none
theorem sub_pick {e : Env} : ∀ {l : List Nat} {e' : Env}, pickE e l = some e' → Sub e' e
  | [], e', h => by simp [pickE] at h; subst h; exact Sub.nil e
  | s :: r, e', h => by
    simp only [pickE] at h
    split at h
    · rename_i v x h1 h2
      cases h
      exact Sub.cons h1 (sub_pick h2)
    · cases h
def wantedE (ops : Array Oper) (e : Env) (o : Oper) : Option Bool :=
  match o.guard with
  | none => some true
  | some (j, want) => match ops[j]? with
    | some oj => match oj.dst with
      | some t => match look t e with
        | some (.bool b) => some (match b, want with | true, true => true | false, false => true | _, _ => false)
        | some (.tuple _) => some false
        | _ => none
      | none => none
    | none => none
theorem wantedE_eq [Fr] {ops : Array Oper} {a : Act} {e : Env} {n : Nat} (h : Knows a e n) {o : Oper} {b : Bool} (hw : wantedE ops e o = some b) : Region.wanted o (yielded ops a.tmps) = b := by
  unfold wantedE at hw
  unfold Region.wanted
  cases hg : o.guard with
  | none => simp [hg] at hw; simp [hw]
  | some gw =>
    obtain ⟨j, want⟩ := gw
    simp only [hg] at hw
    cases hj : ops[j]? with
    | none => simp [hj] at hw
    | some oj =>
      simp only [hj] at hw
      cases ht : oj.dst with
      | none => simp [ht] at hw
      | some t =>
        simp only [ht] at hw
        cases hl : look t e with
        | none => simp [hl] at hw
        | some v =>
          have hs := h.slot t v hl
          simp only [hl] at hw
          cases v <;> simp only [Option.some.injEq, reduceCtorEq] at hw <;> simp only [yielded, hj, ht, hs, Option.bind_some]
          case bool c => cases c <;> cases want <;> simp_all
          case tuple vs => subst hw; rfl
inductive Plan where
  | done
  | pure (i : Nat) (p : Plan)
  | read (i : Nat) (p : Plan)
  | eff (i : Nat) (p : Plan)
  | alt (p q : Plan)
def lateOp (o : Oper) : Bool := o.after.any fun e => match e.ground with | .phase => true | _ => false
def lateIx (ops : Array Oper) (i : Nat) : Bool := match ops[i]? with | some o => lateOp o | none => true
def wpPlan [Fr] (P : Program) (ops : Array Oper) (Q : Exit → Act → World → Prop) (S : World → Prop) : Plan → Act → World → Prop
  | .done, a, w => Q .normal a w
  | .pure i p, a, w => ∃ o v, ops[i]? = some o ∧ YieldsIf P ops (fun _ => True) o v a ∧ wpPlan P ops Q S p (a.put o.dst v) w
  | .read i p, a, w => S w ∧ ∃ o v, ops[i]? = some o ∧ YieldsIf P ops S o v a ∧ wpPlan P ops Q S p (a.put o.dst v) w
  | .eff i p, a, w => wpOpIn Fr.F 0 P ops Q i (fun a' w' => (lateIx ops i = false → S w → S w') ∧ wpPlan P ops Q S p a' w') a w
  | .alt p q, a, w => wpPlan P ops Q S p a w ∧ wpPlan P ops Q S q a w
section
variable {P : Program} {ops : Array Oper} {Q : Exit → Act → World → Prop} {S : World → Prop} {md : Region.Mode}
theorem YieldsIf.wpOpF [Fr] {C : World → Prop} {i : Nat} {o : Oper} {v : Value} {a : Act} (hi : ops[i]? = some o) (hy : YieldsIf P ops C o v a) {K : Act → World → Prop} {w : World} (hS : C w) (h : K (a.put o.dst v) w) : wpOpIn Fr.F 0 P ops Q i K a w := by
  unfold Go.wpOpIn
  simp only [hi]
  rcases hy with ⟨hw, hv⟩ | ⟨hw, rfl⟩
  · simp only [hw, if_true, Oper.wpIn]
    refine ⟨fun f _ => trivial, ?_⟩
    rw [semAt_of (hv w hS) (by simp)]
    exact h
  · simp only [hw, Bool.false_eq_true, if_false]
    exact ⟨fun f _ => trivial, h⟩
theorem semAt_put {ro : Option Nat} (o : Oper) (hs : ∀ cs b, o.op ≠ .select cs b) (a : Act) (dst : Option Tmp) (v : Value) (h : ∀ d, dst = some d → d ∉ o.looksAt ops) : o.semAt ro (a.put dst v).eval = o.semAt ro a.eval := by
  have he := execOp_put o hs a dst v h
  unfold Oper.semAt
  cases ro with
  | none => exact he
  | some l =>
    cases ho : o.op <;> first | exact he | skip
    rename_i c
    have e := resolve_congr (ρ := (a.put dst v).eval) (ρ' := a.eval) c o.type (fun x hx => Act.eval_put fun d hd hxd => h d hd (by
      subst hxd
      exact List.mem_append_left _ (List.mem_filterMap.2 ⟨.tmp d, by rw [ho]; simpa [Op.operands] using hx, rfl⟩)))
    simp only [e]
theorem wpOpIn_putIf [Fr] {C : World → Prop} {j : Nat} {oi oj : Oper} {v : Value} (hj : ops[j]? = some oj) (hap : oi.apart ops oj = true)
    (hsi : ∀ cs b, oi.op ≠ .select cs b) (hsj : ∀ cs b, oj.op ≠ .select cs b)
    (hQ : ∀ c a w, Q (.panic c) (a.put oi.dst v) w → Q (.panic c) a w) {K : Act → World → Prop} {a : Act} {w : World}
    (hy : YieldsIf P ops C oi v a) (h : wpOpIn Fr.F 0 P ops Q j K (a.put oi.dst v) w) :
    wpOpIn Fr.F 0 P ops Q j (fun a' w' => YieldsIf P ops C oi v a' ∧ K (a'.put oi.dst v) w') a w := by
  obtain ⟨h1, h2, h3⟩ := Oper.apart_spec hap
  have keep : ∀ (a : Act), YieldsIf P ops C oi v a → ∀ u, YieldsIf P ops C oi v (a.put oj.dst u) := fun a hy u =>
    hy.of_same (execOp_put oi hsi a oj.dst u h3) (wanted_put oi a oj.dst u h3)
  have keepD : ∀ d, YieldsIf P ops C oi v { a with defers := d :: a.defers } := fun d => hy.of_same rfl rfl
  unfold wpOpIn at *
  simp only [hj] at *
  rw [wanted_put oj a oi.dst v h1] at h
  split
  · rename_i hw
    simp only [hw, if_true] at h
    unfold Oper.wpIn at *
    refine ⟨fun f _ => trivial, ?_⟩
    have h := h.2
    rw [semAt_put oj hsj a oi.dst v h1] at h
    generalize (oj.semAt Fr.F.round a.eval).run P w = r at *
    cases r with
    | ok x w' =>
      cases x <;> simp only [Oper.uponIn] at h ⊢
      case value u => exact ⟨keep a hy u, by rw [← Act.put_comm a v u h2]; exact h⟩
      case skip => exact ⟨keep a hy _, by rw [← Act.put_comm a v undef h2]; exact h⟩
      case defer d =>
        refine ⟨keep _ (keepD d) _, ?_⟩
        rw [← Act.put_comm _ v undef h2, ← Act.put_defers]
        exact h
      case enter f args =>
        refine ⟨h.1, CallsIn.mono h.2 fun e w'' he => ?_⟩
        cases e with
        | returned u => exact ⟨keep a hy u, by rw [← Act.put_comm a v u h2]; exact he⟩
        | panicked c => exact hQ _ _ _ he
        | outgrown => exact he
      case row row args => exact ⟨h.1, RowsIn.mono h.2 fun u w'' he => ⟨keep a hy u, by rw [← Act.put_comm a v u h2]; exact he⟩⟩
      case round l f tmps assign body =>
        refine ⟨h.1, RoundIn.mono h.2 fun e w'' he => ?_⟩
        cases e with
        | returned u => exact ⟨keep a hy u, by rw [← Act.put_comm a v u h2]; exact he⟩
        | panicked c => exact hQ _ _ _ he
        | outgrown => exact he
    | halt x w' =>
      cases x <;> simp only [Oper.uponIn] at h ⊢
      case panic u => exact hQ _ _ _ h
  · rename_i hw
    simp only [hw] at h
    exact ⟨fun f _ => trivial, keep a hy _, by rw [← Act.put_comm a v undef h2]; exact h.2⟩
def wpAnyL [Fr] (P : Program) (md : Region.Mode) (ops : Array Oper) (Q : Exit → Act → World → Prop) (S : World → Prop) : Nat → Array Bool → Act → World → Prop
  | 0, listed, a, w => Region.ready md ops listed = [] ∧ Q .normal a w
  | fuel + 1, listed, a, w =>
    (Region.ready md ops listed = [] → Q .normal a w) ∧
    ∀ i ∈ Region.ready md ops listed, wpOpIn Fr.F 0 P ops Q i (fun a' w' => (lateIx ops i = false → S w → S w') ∧ wpAnyL P md ops Q S fuel (listed.setIfInBounds i true) a' w') a w
theorem wpAny_of_L [Fr] : ∀ (fuel : Nat) (listed : Array Bool) (a : Act) (w : World), wpAnyL P md ops Q S fuel listed a w → wpAnyIn Fr.F 0 P md ops Q fuel listed a w
  | 0, _, _, _, h => h
  | fuel + 1, _, _, _, h => ⟨h.1, fun i hi => wpOpIn_mono (fun a' w' h' => wpAny_of_L fuel _ a' w' h'.2) (h.2 i hi)⟩
theorem wpAnyL_first [Fr] {C : World → Prop} {i : Nat} {oi : Oper} {v : Value} {B : List Nat} (hi : ops[i]? = some oi) (hsel : ∀ (j : Nat) (o : Oper) cs b, ops[j]? = some o → o.op ≠ .select cs b)
    (hQ : ∀ c a w, Q (.panic c) (a.put oi.dst v) w → Q (.panic c) a w) (hB : ∀ j ∈ B, j ≠ i → ∃ oj, ops[j]? = some oj ∧ ∃ e ∈ oj.after, Region.binds md e = true ∧ e.on ∈ B) :
    ∀ (fuel : Nat) (listed : Array Bool) (a : Act) (w : World), (∀ j ∈ B, listed.getD j true = false) →
      (∀ j oj, ops[j]? = some oj → j ≠ i → listed.getD j true = false → j ∉ B → oi.apart ops oj = true ∧ ∀ w w', (lateIx ops j = false → S w → S w') → C w → C w') →
      i ∈ Region.ready md ops listed → YieldsIf P ops C oi v a → C w →
      wpAnyL P md ops Q S fuel (listed.setIfInBounds i true) (a.put oi.dst v) w → wpAnyL P md ops Q S (fuel + 1) listed a w := by
  intro fuel
  induction fuel with
  | zero =>
    intro listed a w _ _ hr hy hC H
    refine ⟨fun h => (by rw [h] at hr; cases hr), fun j hj => ?_⟩
    by_cases hji : j = i
    · subst hji; exact YieldsIf.wpOpF hi hy hC ⟨fun _ h => h, H⟩
    · have := ready_mono hj hji
      rw [H.1] at this
      cases this
  | succ fuel ih =>
    intro listed a w hBl hfree hr hy hC H
    refine ⟨fun h => (by rw [h] at hr; cases hr), fun j hj => ?_⟩
    by_cases hji : j = i
    · subst hji; exact YieldsIf.wpOpF hi hy hC ⟨fun _ h => h, H⟩
    · have h1 := H.2 j (ready_mono hj hji)
      obtain ⟨hjun, oj, hoj, hall⟩ := mem_ready.1 hj
      have hjB : j ∉ B := fun hjB => by
        obtain ⟨oj', hoj', e, he, hb, hon⟩ := hB j hjB hji
        rw [hoj] at hoj'
        cases hoj'
        have h1 := hall e he hb
        have h0 := hBl _ hon
        rcases Nat.lt_or_ge e.on listed.size with h' | h'
        · simp [h'] at h0 h1; rw [h0] at h1; cases h1
        · simp [Array.getElem?_eq_none h'] at h1
      obtain ⟨hap, hto⟩ := hfree j oj hoj hji hjun hjB
      have h2 := wpOpIn_putIf hoj hap (fun cs b => hsel i oi cs b hi) (fun cs b => hsel j oj cs b hoj) hQ hy h1
      have hBl' : ∀ k ∈ B, (listed.setIfInBounds j true).getD k true = false := fun k hk => by
        have hjk : j ≠ k := fun h => hjB (by rw [h]; exact hk)
        rw [getD_set_ne true hjk]
        exact hBl k hk
      have hfree' : ∀ k ok, ops[k]? = some ok → k ≠ i → (listed.setIfInBounds j true).getD k true = false → k ∉ B →
          oi.apart ops ok = true ∧ ∀ w w', (lateIx ops k = false → S w → S w') → C w → C w' := fun k ok hk hki hun hno => by
        refine hfree k ok hk hki ?_ hno
        by_cases hjk : j = k
        · subst hjk; exact hjun
        · rw [getD_set_ne true hjk] at hun; exact hun
      refine wpOpIn_mono (fun a' w' h3 => ⟨h3.2.1, ih (listed.setIfInBounds j true) a' w' hBl' hfree' (ready_mono hr (Ne.symm hji)) h3.1 (hto _ _ h3.2.1 hC) ?_⟩) h2
      rw [Array.setIfInBounds_comm _ _ hji]
      exact h3.2.2
def waitL (md : Region.Mode) (ops : Array Oper) (listed : Array Bool) : List Nat → List Nat → List Nat
  | [], B => B
  | j :: r, B => match ops[j]? with
    | some oj => match !(listed.getD j true) && oj.after.any (fun e => Region.binds md e && B.contains e.on) with
      | true => waitL md ops listed r (j :: B)
      | false => waitL md ops listed r B
    | none => waitL md ops listed r B
theorem waitL_spec {listed : Array Bool} {i : Nat} : ∀ {r B : List Nat}, (i ∈ B ∧ ∀ j ∈ B, j ≠ i → listed.getD j true = false ∧ ∃ oj, ops[j]? = some oj ∧ ∃ e ∈ oj.after, Region.binds md e = true ∧ e.on ∈ B) →
    i ∈ waitL md ops listed r B ∧ ∀ j ∈ waitL md ops listed r B, j ≠ i → listed.getD j true = false ∧ ∃ oj, ops[j]? = some oj ∧ ∃ e ∈ oj.after, Region.binds md e = true ∧ e.on ∈ waitL md ops listed r B
  | [], _, h => h
  | j :: r, B, h => by
    unfold waitL
    split
    · rename_i oj hj
      split
      · rename_i hc
        simp only [Bool.and_eq_true, Bool.not_eq_true'] at hc
        refine waitL_spec ⟨List.mem_cons_of_mem _ h.1, fun k hk hki => ?_⟩
        rcases List.mem_cons.1 hk with rfl | hk
        · obtain ⟨e, he, hb⟩ := Array.any_eq_true'.1 hc.2
          simp only [Bool.and_eq_true, List.contains_iff_mem] at hb
          exact ⟨hc.1, oj, hj, e, he, hb.1, List.mem_cons_of_mem _ hb.2⟩
        · obtain ⟨h1, ok, h2, e, h3, h4, h5⟩ := h.2 k hk hki
          exact ⟨h1, ok, h2, e, h3, h4, List.mem_cons_of_mem _ h5⟩
      · exact waitL_spec h
    · exact waitL_spec h
def freeB (ops : Array Oper) (rd : Bool) (listed : Array Bool) (i : Nat) (oi : Oper) (B : List Nat) : Bool :=
  (List.range ops.size).all fun j => j == i || listed.getD j true || B.contains j || match ops[j]? with
      | some oj => oi.apart ops oj && !(rd && lateOp oj)
      | none => true
def freeL (md : Region.Mode) (ops : Array Oper) (rd : Bool) (listed : Array Bool) (i : Nat) : Bool :=
  match ops[i]? with
  | none => false
  | some oi => freeB ops rd listed i oi (waitL md ops listed (List.range ops.size) [i])
theorem freeL_spec {rd : Bool} {i : Nat} {oi : Oper} {listed : Array Bool} (hi : ops[i]? = some oi) (hr : i ∈ Region.ready md ops listed) (h : freeL md ops rd listed i = true) :
    ∃ B : List Nat, (∀ j ∈ B, j ≠ i → ∃ oj, ops[j]? = some oj ∧ ∃ e ∈ oj.after, Region.binds md e = true ∧ e.on ∈ B) ∧ (∀ j ∈ B, listed.getD j true = false) ∧
      ∀ j oj, ops[j]? = some oj → j ≠ i → listed.getD j true = false → j ∉ B → oi.apart ops oj = true ∧ (rd = true → lateIx ops j = false) := by
  simp only [freeL, hi] at h
  obtain ⟨_, hB⟩ := waitL_spec (md := md) (ops := ops) (listed := listed) (i := i) (r := List.range ops.size) (B := [i]) ⟨List.mem_singleton.2 rfl, fun j hj hji => absurd (List.mem_singleton.1 hj) hji⟩
  generalize waitL md ops listed (List.range ops.size) [i] = B at h hB
  refine ⟨B, fun j hj hji => (hB j hj hji).2, fun j hj => ?_, fun j oj hj hne hun hno => ?_⟩
  · by_cases hji : j = i
    · subst hji; exact (mem_ready.1 hr).1
    · exact (hB j hj hji).1
  · simp only [freeB, List.all_eq_true, List.mem_range] at h
    have h1 := h j (Array.getElem?_eq_some_iff.1 hj).1
    simp only [hj, Bool.or_eq_true, beq_iff_eq, hne, false_or, hun, Bool.false_eq_true, List.contains_iff_mem, hno, Bool.and_eq_true, Bool.not_eq_true', Bool.and_eq_false_iff] at h1
    refine ⟨h1.1, fun hr => ?_⟩
    simp only [lateIx, hj]
    rcases h1.2 with h2 | h2
    · rw [hr] at h2; cases h2
    · exact h2
def Plan.heads : Plan → List (Nat × Plan)
  | .eff i p => [(i, p)]
  | .alt p q => p.heads ++ q.heads
  | _ => []
theorem wpPlan_heads [Fr] {a : Act} {w : World} : ∀ {p : Plan} {i : Nat} {q : Plan}, (i, q) ∈ p.heads → wpPlan P ops Q S p a w → wpPlan P ops Q S (.eff i q) a w
  | .eff j p, i, q, hm, h => by
    simp only [Plan.heads, List.mem_singleton] at hm
    obtain ⟨rfl, rfl⟩ := Prod.mk.inj hm
    exact h
  | .alt p1 p2, i, q, hm, h => by
    simp only [Plan.heads, List.mem_append] at hm
    rcases hm with hm | hm
    · exact wpPlan_heads hm h.1
    · exact wpPlan_heads hm h.2
  | .done, _, _, hm, _ => by cases hm
  | .pure .., _, _, hm, _ => by cases hm
  | .read .., _, _, hm, _ => by cases hm
def covers (md : Region.Mode) (ops : Array Oper) : Nat → Array Bool → Plan → Bool
  | 0, listed, p => (Region.ready md ops listed).isEmpty && match p with | .done => true | _ => false
  | fuel + 1, listed, p => match p with
    | .done => (Region.ready md ops listed).isEmpty
    | .pure i p => (Region.ready md ops listed).contains i && freeL md ops false listed i && covers md ops fuel (listed.setIfInBounds i true) p
    | .read i p => (Region.ready md ops listed).contains i && freeL md ops true listed i && covers md ops fuel (listed.setIfInBounds i true) p
    | .eff i p => (Region.ready md ops listed).all (· == i) && (Region.ready md ops listed).contains i && covers md ops fuel (listed.setIfInBounds i true) p
    | .alt p q => !(Region.ready md ops listed).isEmpty && (Region.ready md ops listed).all fun i => ((Plan.alt p q).heads.find? (fun h => h.1 == i)).any fun h => covers md ops fuel (listed.setIfInBounds i true) h.2
theorem covers_spec [Fr] (hsel : ∀ (j : Nat) (o : Oper) cs b, ops[j]? = some o → o.op ≠ .select cs b) (hQ : ∀ c a w, ¬ Q (.panic c) a w) :
    ∀ (fuel : Nat) (listed : Array Bool) (p : Plan) (a : Act) (w : World), covers md ops fuel listed p = true → wpPlan P ops Q S p a w → wpAnyL P md ops Q S fuel listed a w
  | 0, listed, p, a, w, hc, h => by
    simp only [covers, Bool.and_eq_true, List.isEmpty_iff] at hc
    obtain ⟨h1, h2⟩ := hc
    cases p <;> simp at h2
    exact ⟨h1, h⟩
  | fuel + 1, listed, p, a, w, hc, h => by
    cases p with
    | done =>
      simp only [covers, List.isEmpty_iff] at hc
      exact ⟨fun _ => h, by rw [hc]; simp⟩
    | pure i p =>
      simp only [covers, Bool.and_eq_true] at hc
      obtain ⟨⟨h1, h2⟩, h3⟩ := hc
      obtain ⟨o, v, ho, hy, hp⟩ := h
      obtain ⟨B, b1, b2, b3⟩ := freeL_spec ho (by simpa using h1) h2
      exact wpAnyL_first (C := fun _ => True) (B := B) ho hsel (fun c a w hh => absurd hh (hQ c _ w)) b1 fuel listed a w b2
        (fun j oj hj hji hun hno => ⟨(b3 j oj hj hji hun hno).1, fun _ _ _ _ => trivial⟩) (by simpa using h1) hy trivial (covers_spec hsel hQ fuel _ p _ w h3 hp)
    | read i p =>
      simp only [covers, Bool.and_eq_true] at hc
      obtain ⟨⟨h1, h2⟩, h3⟩ := hc
      obtain ⟨hS, o, v, ho, hy, hp⟩ := h
      obtain ⟨B, b1, b2, b3⟩ := freeL_spec ho (by simpa using h1) h2
      exact wpAnyL_first (C := S) (B := B) ho hsel (fun c a w hh => absurd hh (hQ c _ w)) b1 fuel listed a w b2
        (fun j oj hj hji hun hno => ⟨(b3 j oj hj hji hun hno).1, fun w w' hk hw => hk ((b3 j oj hj hji hun hno).2 rfl) hw⟩) (by simpa using h1) hy hS (covers_spec hsel hQ fuel _ p _ w h3 hp)
    | eff i p =>
      simp only [covers, Bool.and_eq_true, List.all_eq_true, beq_iff_eq] at hc
      obtain ⟨⟨h1, h2⟩, h3⟩ := hc
      refine ⟨fun h0 => by simp [h0] at h2, fun j hj => ?_⟩
      obtain rfl := h1 j hj
      exact wpOpIn_mono (fun a' w' hh => ⟨hh.1, covers_spec hsel hQ fuel _ p _ w' h3 hh.2⟩) h
    | alt p q =>
      simp only [covers, Bool.and_eq_true, List.all_eq_true] at hc
      obtain ⟨hne, hc⟩ := hc
      refine ⟨fun h0 => by simp [h0] at hne, fun j hj => ?_⟩
      · have h1 := hc j hj
        cases hf : ((Plan.alt p q).heads.find? (fun h => h.1 == j)) with
        | none => simp [hf] at h1
        | some x =>
          obtain ⟨k, r⟩ := x
          have hk : k = j := by simpa using List.find?_some hf
          subst hk
          have hm := List.mem_of_find?_eq_some hf
          have h2 := wpPlan_heads hm h
          simp only [hf, Option.any_some] at h1
          exact wpOpIn_mono (fun a' w' hh => ⟨hh.1, covers_spec hsel hQ fuel _ r _ w' h1 hh.2⟩) h2
end
end Go.Proofs.YtfoabgljfikklaaGreatDoor.V
namespace Go.Proofs.YtfoabgljfikklaaGreatDoor.V
def At (w : World) (b o : Nat) (l : List Value) : Prop := ∀ i v, l[i]? = some v → w.cell? ⟨b, o + i, none⟩ = some v
def Blk (w : World) (b : Nat) (l : List Value) : Prop := ∃ t, w.heap[b]? = some (.cells l.toArray t (0, 0))
structure Mod (S : Nat → Prop) (w w' : World) : Prop where
  os : w'.os = w.os
  tape : w'.tape = w.tape
  output : w'.output = w.output
  size : w.heap.size ≤ w'.heap.size
  block : ∀ k, k < w.heap.size → ¬ S k → w'.heap[k]? = w.heap[k]?
abbrev Ext (w w' : World) : Prop := Mod (fun _ => False) w w'
theorem Mod.refl {S : Nat → Prop} (w : World) : Mod S w w := ⟨rfl, rfl, rfl, Nat.le_refl _, fun _ _ _ => rfl⟩
theorem Mod.weaken {S T : Nat → Prop} {w w' : World} (h : Mod S w w') (hs : ∀ k, k < w.heap.size → S k → T k) : Mod T w w' :=
  ⟨h.os, h.tape, h.output, h.size, fun k hk hn => h.block k hk fun hS => hn (hs k hk hS)⟩
theorem Ext.mod {S : Nat → Prop} {w w' : World} (h : Ext w w') : Mod S w w' := h.weaken fun _ _ h => h.elim
theorem Mod.trans {S : Nat → Prop} {a b c : World} (h : Mod S a b) (k : Mod S b c) : Mod S a c :=
  ⟨k.os.trans h.os, k.tape.trans h.tape, k.output.trans h.output, Nat.le_trans h.size k.size,
   fun i hi hn => (k.block i (Nat.lt_of_lt_of_le hi h.size) hn).trans (h.block i hi hn)⟩
theorem Mod.then {S T : Nat → Prop} {a b c : World} (h : Mod S a b) (k : Mod T b c) (hs : ∀ i, i < a.heap.size → T i → S i) : Mod S a c :=
  ⟨k.os.trans h.os, k.tape.trans h.tape, k.output.trans h.output, Nat.le_trans h.size k.size,
   fun i hi hn => (k.block i (Nat.lt_of_lt_of_le hi h.size) fun hT => hn (hs i hi hT)).trans (h.block i hi hn)⟩
theorem Ext.drew (w : World) : Ext w w.drew := ⟨rfl, rfl, rfl, Nat.le_refl _, fun _ _ _ => rfl⟩
theorem Ext.alloc (w : World) (o : Obj) : Ext w (w.alloc o) := ⟨rfl, rfl, rfl, by simp, fun k hk _ => RowKit.Below.heap_alloc w o k hk⟩
theorem Mod.of_grown {w w' : World} {r : Option Nat} (h : w.grownBy w' r) : Mod (fun k => some k = r) w w' := ⟨h.os, h.tape, h.output, h.size, fun k hk hn => h.block k hk hn⟩
theorem Ext.below {w w' : World} (h : Ext w w') : RowKit.Below w.heap.size w w' := ⟨h.os, h.tape, h.output, h.size, fun k hk => h.block k hk id⟩
theorem Mod.cell {S : Nat → Prop} {w w' : World} (h : Mod S w w') {a : Addr} {v : Value} (hv : w.cell? a = some v) (hn : ¬ S a.block) : w'.cell? a = some v :=
  (World.cell?_of_block (h.block a.block (block_lt_of_cell hv) hn)).trans hv
theorem Mod.row {S : Nat → Prop} {w w' : World} (h : Mod S w w') {b : Nat} {o : Obj} (hv : w.heap[b]? = some o) (hn : ¬ S b) : w'.heap[b]? = some o :=
  (h.block b (Array.getElem?_eq_some_iff.1 hv).1 hn).trans hv
theorem At.nil (w : World) (b o : Nat) : At w b o [] := fun _ _ h => by cases h
theorem At.mod {S : Nat → Prop} {w w' : World} {b o : Nat} {l : List Value} (h : At w b o l) (hm : Mod S w w') (hn : ¬ S b) : At w' b o l :=
  fun i v hv => hm.cell (h i v hv) hn
theorem At.ext {w w' : World} {b o : Nat} {l : List Value} (h : At w b o l) (hm : Ext w w') : At w' b o l := h.mod hm id
theorem At.sub {w : World} {b o : Nat} {l : List Value} (h : At w b o l) (k : Nat) (m : List Value) (hm : ∀ i v, m[i]? = some v → l[k + i]? = some v) : At w b (o + k) m :=
  fun i v hv => by rw [Nat.add_assoc]; exact h (k + i) v (hm i v hv)
theorem At.take {w : World} {b o : Nat} {l : List Value} (h : At w b o l) (k n : Nat) : At w b (o + k) ((l.drop k).take n) :=
  h.sub k _ fun i v hv => by
    rw [List.getElem?_take] at hv
    split at hv
    · simpa using hv
    · cases hv
theorem At.append {w : World} {b o : Nat} {l m : List Value} (h : At w b o l) (k : At w b (o + l.length) m) : At w b o (l ++ m) := fun i v hv => by
  by_cases hi : i < l.length
  · rw [List.getElem?_append_left hi] at hv; exact h i v hv
  · rw [List.getElem?_append_right (by omega)] at hv
    have := k _ v hv
    rwa [show o + l.length + (i - l.length) = o + i by omega] at this
theorem At.left {w : World} {b o : Nat} {l m : List Value} (h : At w b o (l ++ m)) : At w b o l := fun i v hv => h i v (by
  rw [List.getElem?_append_left (List.getElem?_eq_some_iff.1 hv).1]; exact hv)
theorem Blk.mod {S : Nat → Prop} {w w' : World} {b : Nat} {l : List Value} (h : Blk w b l) (hm : Mod S w w') (hn : ¬ S b) : Blk w' b l :=
  let ⟨t, ht⟩ := h; ⟨t, hm.row ht hn⟩
theorem Blk.ext {w w' : World} {b : Nat} {l : List Value} (h : Blk w b l) (hm : Ext w w') : Blk w' b l := h.mod hm id
theorem Blk.lt {w : World} {b : Nat} {l : List Value} (h : Blk w b l) : b < w.heap.size := let ⟨_, ht⟩ := h; (Array.getElem?_eq_some_iff.1 ht).1
theorem Blk.at {w : World} {b : Nat} {l : List Value} (h : Blk w b l) : At w b 0 l := by
  obtain ⟨t, ht⟩ := h
  intro i v hv
  rw [cell_of_row w b _ _ t _ ht]
  simpa using hv
theorem Blk.new (w : World) (l : List Value) (t : TypeId) : Blk (w.alloc (.cells l.toArray t)) w.heap.size l := ⟨t, heap_alloc_new w _⟩
theorem add_none (b o k : Nat) : (⟨b, o, none⟩ : Addr).add k = ⟨b, o + k, none⟩ := by unfold Addr.add; split <;> simp_all
structure Put (w w' : World) (b o : Nat) (vs : List Value) : Prop where
  os : w'.os = w.os
  tape : w'.tape = w.tape
  output : w'.output = w.output
  size : w'.heap.size = w.heap.size
  other : ∀ k, k ≠ b → w'.heap[k]? = w.heap[k]?
  here : ∀ c t fr, w.heap[b]? = some (.cells c t fr) → w'.heap[b]? = some (.cells (c.toList.take o ++ vs ++ c.toList.drop (o + vs.length)).toArray t fr)
theorem Put.mod {w w' : World} {b o : Nat} {vs : List Value} (h : Put w w' b o vs) : Mod (· = b) w w' :=
  ⟨h.os, h.tape, h.output, Nat.le_of_eq h.size.symm, fun k _ hk => h.other k hk⟩
theorem Put.blk {w w' : World} {b o : Nat} {vs l : List Value} (h : Put w w' b o vs) (hb : Blk w b l) : Blk w' b (l.take o ++ vs ++ l.drop (o + vs.length)) := by
  obtain ⟨t, ht⟩ := hb
  exact ⟨t, by simpa using h.here _ _ _ ht⟩
def tyB (P : Program) (t : TypeId) : Option (Bool × Nat) :=
  match P.underlying t, P.info? t with
  | some d, some i => some ((match d with | .struct _ | .array _ _ => true | _ => false), i.size)
  | _, _ => none
class TyF (P : Program) (t : TypeId) (agg : outParam Bool) (size : outParam Nat) : Prop where
  out : tyB P t = some (agg, size)
section
variable {P : Program} {t : TypeId} {agg : Bool} {size : Nat}
theorem TyF.info (h : TyF P t agg size) : ∃ i, P.info? t = some i ∧ i.size = size := by
  have := h.out
  unfold tyB at this
  split at this
  · rename_i d i h1 h2; simp at this; exact ⟨i, h2, this.2⟩
  · cases this
theorem TyF.isAgg (h : TyF P t agg size) (w : World) : (isAgg t).run P w = .ok agg w := by
  have := h.out
  unfold tyB at this
  split at this
  · rename_i d i h1 h2
    simp only [Option.some.injEq, Prod.mk.injEq] at this
    unfold Go.isAgg
    rw [Sem.run_bind, run_underlying h1 w]
    obtain ⟨h3, _⟩ := this
    subst h3
    cases d <;> rfl
  · cases this
theorem TyF.sizeOf (h : TyF P t agg size) (w : World) : (sizeOf t).run P w = .ok size w := by
  obtain ⟨i, hi, hs⟩ := h.info
  simp [Go.sizeOf, typeInfo, hi, hs]
end
def fieldB (P : Program) (s : TypeId) (f : Nat) : Option (Nat × Nat × Bool) :=
  match P.underlying s with
  | some (.struct fs) => match fs[f]? with
    | some x => match tyB P x.type with
      | some (g, z) => some (x.offset, z, g)
      | none => none
    | none => none
  | _ => none
class FdF (P : Program) (s : TypeId) (f : Nat) (off : outParam Nat) (size : outParam Nat) (agg : outParam Bool) : Prop where
  out : fieldB P s f = some (off, size, agg)
def sliceB (P : Program) (t : TypeId) : Option (TypeId × Nat × Nat) :=
  match P.underlying t with
  | some (.slice e) => match P.info? e with
    | some i => match i.zero with
      | some z => if z.cells.size = i.size then some (e, i.size, i.bytes) else none
      | none => none
    | none => none
  | _ => none
class SlF (P : Program) (t : TypeId) (e : outParam TypeId) (size : outParam Nat) (bytes : outParam Nat) : Prop where
  out : sliceB P t = some (e, size, bytes)
section
variable {P : Program} {t e : TypeId} {size bytes : Nat}
theorem SlF.facts (h : SlF P t e size bytes) : P.underlying t = some (.slice e) ∧ ∃ i z, P.info? e = some i ∧ i.zero = some z ∧ i.size = size ∧ i.bytes = bytes ∧ z.cells.size = size := by
  have := h.out
  unfold sliceB at this
  split at this
  · rename_i e' h1
    split at this
    · rename_i i h2
      split at this
      · rename_i z h3
        split at this
        · rename_i h4
          simp only [Option.some.injEq, Prod.mk.injEq] at this
          obtain ⟨rfl, rfl, rfl⟩ := this
          exact ⟨h1, i, z, h2, h3, rfl, rfl, h4⟩
        · cases this
      · cases this
    · cases this
  · cases this
theorem SlF.und (h : SlF P t e size bytes) : P.underlying t = some (.slice e) := h.facts.1
theorem SlF.sizeE (h : SlF P t e size bytes) (w : World) : (sizeOf e).run P w = .ok size w := by
  obtain ⟨_, i, z, h2, _, h4, _⟩ := h.facts
  simp [Go.sizeOf, typeInfo, h2, h4]
theorem SlF.sizeX (h : SlF P t e size bytes) (w : World) : (sizeOf (P.elem t)).run P w = .ok size w := by
  have : P.elem t = e := by simp [Program.elem, h.und]
  rw [this]; exact h.sizeE w
theorem SlF.undX (h : SlF P t e size bytes) : P.underlying t = some (.slice (P.elem t)) := by
  have : P.elem t = e := by simp [Program.elem, h.und]
  rw [this]; exact h.und
end
section
variable {P : Program} {ops : Array Oper} {Q : Exit → Act → World → Prop} {S : World → Prop} {n : Nat}
def GX [Fr] (P : Program) (ops : Array Oper) (Q : Exit → Act → World → Prop) (S : World → Prop) (n : Nat) (p : Plan) (e : Env) (w : World) : Prop :=
  ∀ a, Knows a e n → wpPlan P ops Q S p a w
inductive Kd where
  | pure | read | eff
def GO [Fr] (P : Program) (ops : Array Oper) (Q : Exit → Act → World → Prop) (S : World → Prop) (n : Nat) (k : Kd) (i : Nat) (o : Oper) (p : Plan) (e : Env) (w : World) : Prop :=
  ops[i]? = some o → ∀ a, Knows a e n → wpPlan P ops Q S (match k with | .pure => .pure i p | .read => .read i p | .eff => .eff i p) a w
theorem GX.pure [Fr] {i : Nat} {o : Oper} {p : Plan} {e : Env} {w : World} (ho : ops[i]? = some o) (h : GO P ops Q S n .pure i o p e w) : GX P ops Q S n (.pure i p) e w := fun a ha => h ho a ha
theorem GX.read [Fr] {i : Nat} {o : Oper} {p : Plan} {e : Env} {w : World} (ho : ops[i]? = some o) (h : GO P ops Q S n .read i o p e w) : GX P ops Q S n (.read i p) e w := fun a ha => h ho a ha
theorem GX.eff [Fr] {i : Nat} {o : Oper} {p : Plan} {e : Env} {w : World} (ho : ops[i]? = some o) (h : GO P ops Q S n .eff i o p e w) : GX P ops Q S n (.eff i p) e w := fun a ha => h ho a ha
theorem GX.alt [Fr] {p q : Plan} {e : Env} {w : World} (h1 : GX P ops Q S n p e w) (h2 : GX P ops Q S n q e w) : GX P ops Q S n (.alt p q) e w := fun a ha => ⟨h1 a ha, h2 a ha⟩
theorem GX.sub [Fr] {p : Plan} {e e' : Env} {w : World} (hs : Sub e' e) (h : GX P ops Q S n p e' w) : GX P ops Q S n p e w := fun a ha => h a (ha.sub hs)
theorem GX.pick [Fr] {p : Plan} {e e' : Env} {w : World} (l : List Nat) (hs : pickE e l = some e') (h : GX P ops Q S n p e' w) : GX P ops Q S n p e w := h.sub (sub_pick hs)
theorem GX.case [Fr] {p : Plan} {e : Env} {w : World} (t : Nat) {b : Bool} (hl : look t e = some (.bool b)) (h1 : b = true → GX P ops Q S n p ((t, .bool true) :: e) w) (h2 : b = false → GX P ops Q S n p ((t, .bool false) :: e) w) : GX P ops Q S n p e w := by
  cases b with
  | true => exact (h1 rfl).sub (fun s v hs => by
      simp only [look] at hs
      cases hb : Nat.beq t s with
      | true => rw [hb] at hs; simp at hs; subst hs; rw [← Nat.eq_of_beq_eq_true hb]; exact hl
      | false => rw [hb] at hs; exact hs)
  | false => exact (h2 rfl).sub (fun s v hs => by
      simp only [look] at hs
      cases hb : Nat.beq t s with
      | true => rw [hb] at hs; simp at hs; subst hs; rw [← Nat.eq_of_beq_eq_true hb]; exact hl
      | false => rw [hb] at hs; exact hs)
section
variable {i : Nat} {o : Oper} {p : Plan} {e : Env} {w : World}
theorem GO.val [Fr] {k : Kd} (hk : k = .pure ∨ k = .eff) {v : Value} (hw : wantedE ops e o = some true) (hd : fits n o.dst = true)
    (hv : ∀ a, Knows a e n → ∀ w, (execOp a.eval o).run P w = .ok (.value v) w) (h : GX P ops Q S n p (e.put o.dst v) w) : GO P ops Q S n k i o p e w := by
  intro ho a ha
  have hy : YieldsIf P ops (fun _ => True) o v a := .inl ⟨wantedE_eq ha hw, fun w _ => hv a ha w⟩
  rcases hk with rfl | rfl
  · exact ⟨o, v, ho, hy, h _ (ha.putO hd v)⟩
  · exact YieldsIf.wpOpF ho hy trivial ⟨fun _ h => h, h _ (ha.putO hd v)⟩
theorem GO.rd [Fr] {v : Value} (hS : S w) (hw : wantedE ops e o = some true) (hd : fits n o.dst = true)
    (hv : ∀ a, Knows a e n → ∀ w, S w → (execOp a.eval o).run P w = .ok (.value v) w) (h : GX P ops Q S n p (e.put o.dst v) w) : GO P ops Q S n .read i o p e w :=
  fun ho a ha => ⟨hS, o, v, ho, .inl ⟨wantedE_eq ha hw, fun w hw' => hv a ha w hw'⟩, h _ (ha.putO hd v)⟩
theorem GO.skip [Fr] {k : Kd} (hk : k = .pure ∨ k = .eff) (hw : wantedE ops e o = some false) (hd : fits n o.dst = true) (h : GX P ops Q S n p (e.put o.dst undef) w) : GO P ops Q S n k i o p e w := by
  intro ho a ha
  have hy : YieldsIf P ops (fun _ => True) o undef a := .inr ⟨wantedE_eq ha hw, rfl⟩
  rcases hk with rfl | rfl
  · exact ⟨o, undef, ho, hy, h _ (ha.putO hd _)⟩
  · exact YieldsIf.wpOpF ho hy trivial ⟨fun _ h => h, h _ (ha.putO hd _)⟩
theorem GO.skipRead [Fr] (hS : S w) (hw : wantedE ops e o = some false) (hd : fits n o.dst = true) (h : GX P ops Q S n p (e.put o.dst undef) w) : GO P ops Q S n .read i o p e w :=
  fun ho a ha => ⟨hS, o, undef, ho, .inr ⟨wantedE_eq ha hw, rfl⟩, h _ (ha.putO hd _)⟩
theorem GO.act [Fr] {R : Value → World → Prop} (hw : wantedE ops e o = some true) (hd : fits n o.dst = true)
    (hx : ∀ a, Knows a e n → ∀ (K : Act → World → Prop), (∀ v w', R v w' → K (a.put o.dst v) w') → o.wpIn Fr.F 0 P a w K Q)
    (h : ∀ v w', R v w' → (lateIx ops i = false → S w → S w') ∧ GX P ops Q S n p (e.put o.dst v) w') : GO P ops Q S n .eff i o p e w := by
  intro ho a ha
  unfold wpPlan wpOpIn
  simp only [ho, wantedE_eq ha hw, if_true]
  exact hx a ha _ fun v w' hR => ⟨(h v w' hR).1, (h v w' hR).2 _ (ha.putO hd v)⟩
theorem GO.run [Fr] {R : Value → World → Prop} (hw : wantedE ops e o = some true) (hd : fits n o.dst = true)
    (hx : ∀ a, Knows a e n → ∃ x v w', (execOp a.eval o).run P w = .ok x w' ∧ (x = .value v ∨ x = .skip ∧ v = undef) ∧ R v w')
    (h : ∀ v w', R v w' → (lateIx ops i = false → S w → S w') ∧ GX P ops Q S n p (e.put o.dst v) w') : GO P ops Q S n .eff i o p e w :=
  GO.act (R := R) hw hd (fun a ha K hK => by
    obtain ⟨x, v, w', hr, hx, hR⟩ := hx a ha
    refine ⟨fun f _ => trivial, ?_⟩
    rcases hx with rfl | ⟨rfl, rfl⟩
    · rw [semAt_of hr (by simp)]; exact hK v w' hR
    · rw [semAt_of hr (by simp)]; exact hK _ w' hR) h
end
end
end Go.Proofs.YtfoabgljfikklaaGreatDoor.V
