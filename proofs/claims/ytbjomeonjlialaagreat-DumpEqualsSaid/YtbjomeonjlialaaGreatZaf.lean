/-
  The rules for calls of functions, for each form of code, a loop, an entry, a return. No condition: these are rules over any program; More rules for single operations: a slice literal without elements, a slice against nil. No condition: these are rules over any program.
-/
import Derived.Test.YtbjomeonjlialaaGreatZae
import Derived.Deep.LoopGhost
import Derived.Scope
set_option linter.unusedVariables false
set_option linter.unusedSimpArgs false
namespace Go.Proofs.YtbjomeonjlialaaGreat.V
def Ret (P : Program) (f : FuncId) (args : Array Value) (w : World) (R : Value → World → Prop) : Prop :=
  Calls P f args w fun en w' => ∃ v, en = .returned v ∧ R v w'
theorem Ret.mono {P : Program} {f : FuncId} {args : Array Value} {w : World} {R R' : Value → World → Prop} (h : Ret P f args w R) (hr : ∀ v w', R v w' → R' v w') : Ret P f args w R' :=
  Calls.mono h fun _ _ ⟨v, he, hR⟩ => ⟨v, he, hr v _ hR⟩
def callB (P : Program) (f : FuncId) : Bool :=
  match P.funcs[f]? with
  | some fn => !(fn.name == "runtime.NumGoroutine") && fn.body.isSome
  | none => false
class CaF (P : Program) (f : FuncId) : Prop where
  out : callB P f = true
theorem run_callFunc {P : Program} {f : FuncId} (h : CaF P f) (args : Array Value) (w : World) : (callFunc f args).run P w = .ok (.enter f args) w := by
  have := h.out
  unfold callB at this
  split at this
  · rename_i fn hf
    simp only [Bool.and_eq_true, Bool.not_eq_true'] at this
    obtain ⟨h1, h2⟩ := this
    have h3 : fn.body.isNone = false := by cases hb : fn.body <;> simp_all
    simp only [callFunc, Sem.run_bind, run_program, Result.andThen_ok, hf, h1, h3]
    rfl
  · cases this
section
variable {P : Program} {ops : Array Oper} {Q : Exit → Act → World → Prop} {S : World → Prop} {n : Nat}
variable {i : Nat} {p : Plan} {e : Env} {w : World} {k : Kd} {dst : Option Tmp} {ty : TypeId} {pos : String} {aft : Array Edge} {g : Option (Nat × Bool)}
theorem GO.callL [Fr] {x : Operand} {args : Array Operand} {ts : Array TypeId} {f : FuncId} {fs cs : Array Value} {vs : List Value} {R : Value → World → Prop} [hf : CaF P f] (hw : wantedE ops e ⟨dst, .call ⟨.value x, args, ts⟩, ty, pos, aft, g⟩ = some true) (hx : ev e x = some (.func (.func f) fs cs)) (hy : evs e args.toList = some vs) (hd : fits n dst = true)
    {al : List Value} (hal : fs.toList ++ vs ++ cs.toList = al) (hc : Ret P f al.toArray w R)
    (h : ∀ v w', R v w' → (lateIx ops i = false → S w → S w') ∧ GX P ops Q S n p (e.put dst v) w') : GO P ops Q S n .eff i ⟨dst, .call ⟨.value x, args, ts⟩, ty, pos, aft, g⟩ p e w := by
  refine GO.act (R := R) hw hd (fun a ha K hK => ?_) h
  have hall : (fs ++ vs.toArray ++ cs) = al.toArray := by
    subst hal
    apply Array.toList_inj.1
    simp
  have hrun : (execOp a.eval ⟨dst, .call ⟨.value x, args, ts⟩, ty, pos, aft, g⟩).run P w = .ok (.enter f al.toArray) w := by
    simp only [execOp, resolve, Sem.run_bind, Deferred.ofValue, ev_eq ha hx, evs_arr ha hy, Sem.run_pure, Result.andThen_ok, invoke, run_callFunc hf, hall]
  refine ⟨fun f _ => trivial, ?_⟩
  rw [semAt_of hrun (by simp), Oper.uponIn_enter]
  refine ⟨fun h => (by cases h), Fr.calls.2 (Calls.mono hc fun en w' ⟨v, he, hR⟩ => ?_)⟩
  subst he
  exact hK v w' hR
theorem stepR_scope {P : Program} {b : Frame} {a : Act} {k : List Item} {cs : List Frame} {w : World} {c : Code} : step P (lone (b.atR a (.code (.scope c) :: k)) cs w) = .next (lone (b.atR a (.code c :: .inScope c :: k)) cs w) :=
  step_lone_go (by simp [stepG, stepG.exec, Frame.atR])
theorem stepR_inScope {P : Program} {b : Frame} {a : Act} {k : List Item} {cs : List Frame} {w : World} {c : Code} : step P (lone (b.atR a (.inScope c :: k)) cs w) = .next (lone (b.atR a k) cs w) :=
  step_lone_go (by simp [stepG, stepG.exec, Frame.atR])
theorem wpIn_scope {F : Fence} {m : Nat} {P : Program} {Q : Exit → Act → World → Prop} {a : Act} {w : World} {c : Code} (h : c.wpIn F m P (Exit.noGoto Q) a w) : (Code.scope c).wpIn F m P Q a w := by
  intro b k cs hro hb hr
  have h0 : (lone (b.atR a (.code (.scope c) :: k)) cs w).fenced P F := fenced_calm hb hr rfl
  obtain ⟨e, a₁, w₁, hq, harr⟩ := h b (.inScope c :: k) cs hro hb hr
  cases e with
  | normal => exact ⟨.normal, a₁, w₁, hq, .head h0 stepR_scope (StepsIn.trans harr (.one (fenced_calm hb hr rfl) stepR_inScope))⟩
  | exit id =>
    have hx : exitTo id (.inScope c :: k) = exitTo id k := by simp [exitTo]
    exact ⟨_, a₁, w₁, hq, fun k' hk => .head h0 stepR_scope (harr.1 k' (by rw [hx]; exact hk)),
      fun hr' hk => let ⟨k₁, h1, h2⟩ := harr.2 hr' (by rw [hx]; exact hk); ⟨k₁, h1, .head h0 stepR_scope h2⟩⟩
  | goto l => exact hq.elim
  | ret => exact ⟨_, a₁, w₁, hq, .of_steps (.one h0 stepR_scope) harr⟩
  | panic ch => exact ⟨_, a₁, w₁, hq, .of_steps (.one h0 stepR_scope) harr⟩
  | outgrown => exact ⟨_, a₁, w₁, hq, .of_steps (.one h0 stepR_scope) harr⟩
def GC [Fr] (P : Program) (c : Code) (Q : Exit → Act → World → Prop) (n : Nat) (e : Env) (w : World) : Prop := ∀ a, Knows a e n → c.wpIn Fr.F 0 P Q a w
def GQ [Fr] (Q : Exit → Act → World → Prop) (x : Exit) (n : Nat) (e : Env) (w : World) : Prop := ∀ a, Knows a e n → Q x a w
def Go [Fr] (P : Program) (c : Code) (Q : Exit → Act → World → Prop) : Exit → Act → World → Prop := Exit.then (fun a w => c.wpIn Fr.F 0 P Q a w) Q
theorem GC.sub [Fr] {c : Code} {e' : Env} (hs : Sub e' e) (h : GC P c Q n e' w) : GC P c Q n e w := fun a ha => h a (ha.sub hs)
theorem GC.pick [Fr] {c : Code} {e' : Env} (l : List Nat) (hs : pickE e l = some e') (h : GC P c Q n e' w) : GC P c Q n e w := h.sub (sub_pick hs)
theorem GQ.sub [Fr] {x : Exit} {e' : Env} (hs : Sub e' e) (h : GQ Q x n e' w) : GQ Q x n e w := fun a ha => h a (ha.sub hs)
theorem GQ.pick [Fr] {x : Exit} {e' : Env} (l : List Nat) (hs : pickE e l = some e') (h : GQ Q x n e' w) : GQ Q x n e w := h.sub (sub_pick hs)
theorem GC.seq [Fr] {x y : Code} (h : GC P x (Go P y Q) n e w) : GC P (.seq x y) Q n e w := fun a ha => wpIn_seq (h a ha)
theorem GC.skip [Fr] (h : GQ Q .normal n e w) : GC P .skip Q n e w := fun a ha => wpIn_skip (h a ha)
theorem GC.ret [Fr] (h : GQ Q .ret n e w) : GC P .ret Q n e w := fun a ha => wpIn_ret (h a ha)
theorem GC.exit [Fr] {id : Nat} (h : GQ Q (.exit id) n e w) : GC P (.exit id) Q n e w := fun a ha => wpIn_exit (h a ha)
theorem GC.block [Fr] {id : Nat} {c : Code} (h : GC P c (Exit.inBlock id Q) n e w) : GC P (.block id c) Q n e w := fun a ha => wpIn_block (h a ha)
theorem GC.cond [Fr] {c : Operand} {x y : Code} {b : Bool} (hc : ev e c = some (.bool b)) (h1 : b = true → GC P x Q n e w) (h2 : b = false → GC P y Q n e w) : GC P (.cond c x y) Q n e w :=
  fun a ha => wpIn_cond_split (ev_eq ha hc) (fun hb => h1 hb a ha) (fun hb => h2 hb a ha)
theorem GQ.inNormal [Fr] {id : Nat} (h : GQ Q .normal n e w) : GQ (Exit.inBlock id Q) .normal n e w := h
theorem GQ.inRet [Fr] {id : Nat} (h : GQ Q .ret n e w) : GQ (Exit.inBlock id Q) .ret n e w := h
theorem GQ.inExit [Fr] {id : Nat} (h : GQ Q .normal n e w) : GQ (Exit.inBlock id Q) (.exit id) n e w := fun a ha => by simpa [Exit.inBlock] using h a ha
theorem GQ.inExitNe [Fr] {id id' : Nat} (hne : Nat.beq id' id = false) (h : GQ Q (.exit id') n e w) : GQ (Exit.inBlock id Q) (.exit id') n e w := fun a ha => by
  have : id' ≠ id := Nat.ne_of_beq_eq_false hne
  simpa [Exit.inBlock, this] using h a ha
def planIdx : Plan → Option (List Nat)
  | .done => some []
  | .pure i p | .eff i p => (planIdx p).map (i :: ·)
  | _ => none
theorem wpOps_plan [Fr] : ∀ (p : Plan) (l : List Nat) (a : Act) (w : World), planIdx p = some l → wpPlan P ops Q S p a w → wpOpsIn Fr.F 0 P ops Q l a w
  | .done, l, a, w, hl, h => by simp [planIdx] at hl; subst hl; exact h
  | .pure i p, l, a, w, hl, h => by
    simp only [planIdx, Option.map_eq_some_iff] at hl
    obtain ⟨l', hl', rfl⟩ := hl
    obtain ⟨o, v, ho, hy, hp⟩ := h
    rw [wpOpsIn_cons]
    exact YieldsIf.wpOpF ho hy trivial (wpOps_plan p l' _ w hl' hp)
  | .eff i p, l, a, w, hl, h => by
    simp only [planIdx, Option.map_eq_some_iff] at hl
    obtain ⟨l', hl', rfl⟩ := hl
    rw [wpOpsIn_cons]
    exact wpOpIn_mono (fun a' w' hh => wpOps_plan p l' a' w' hl' hh.2) h
  | .read .., _, _, _, hl, _ => by cases hl
  | .alt .., _, _, _, hl, _ => by cases hl
theorem GC.region [Fr] {id : Nat} {ops : Array Oper} (pl : Plan) (hp : planIdx pl = some (List.range ops.size)) (h : GX P ops Q (fun _ => True) n pl e w) : GC P (.region id ops false) Q n e w :=
  fun a ha => wpIn_region (wpOps_plan pl _ a w hp (h a ha))
theorem GX.done [Fr] (h : GQ Q .normal n e w) : GX P ops Q S n .done e w := h
theorem GX.doneD [Fr] (h : GQ Q .normal n e w) : GX P ops (NoPanic Q) S n .done e w := h
def Again [Fr] {X : Type} (E : X → Env) (J : X → World → Prop) (μ : X → Nat) (n : Nat) (m : Nat) (a : Act) (w : World) : Prop := ∃ x, Knows a (E x) n ∧ J x w ∧ μ x < m
theorem GC.loop [Fr] {X : Type} {c : Code} (E : X → Env) (J : X → World → Prop) (μ : X → Nat) (x0 : X) (h0 : Sub (E x0) e) (hJ : J x0 w)
    (round : ∀ x w, J x w → GC P c (Exit.then (Again E J μ n (μ x)) Q) n (E x) w) : GC P (.loop c) Q n e w := by
  intro a ha
  have key : ∀ (m : Nat) (a : Act) (w : World), (∃ x, μ x < m ∧ Knows a (E x) n ∧ J x w) → Code.roundsIn Fr.F 0 P c Q m a w := by
    intro m
    induction m with
    | zero => rintro a w ⟨x, hx, _⟩; omega
    | succ m ih =>
      rintro a w ⟨x, hx, hk, hj⟩
      rw [roundsIn_succ]
      refine Code.wpIn_mono (fun e a w hq => ?_) (round x w hj a hk)
      cases e with
      | normal => obtain ⟨x', h1, h2, h3⟩ := hq; exact ih a w ⟨x', by omega, h1, h2⟩
      | _ => exact hq
  exact wpIn_loop_rounds (μ x0 + 1) (key _ a w ⟨x0, Nat.lt_succ_self _, ha.sub h0, hJ⟩)
def argE (t : Nat) : List Value → Env
  | [] => []
  | v :: r => (t, v) :: argE (t + 1) r
theorem look_argE : ∀ (l : List Value) (t s : Nat) (v : Value), look s (argE t l) = some v → t ≤ s ∧ l[s - t]? = some v
  | [], t, s, v, h => by cases h
  | u :: r, t, s, v, h => by
    simp only [argE, look] at h
    cases hb : Nat.beq t s with
    | true =>
      have := Nat.eq_of_beq_eq_true hb
      rw [hb] at h
      subst this
      simp at h
      simp [h]
    | false =>
      have hne := Nat.ne_of_beq_eq_false hb
      rw [hb] at h
      obtain ⟨h1, h2⟩ := look_argE r (t + 1) s v h
      refine ⟨by omega, ?_⟩
      have : s - t = (s - (t + 1)) + 1 := by omega
      rw [this, List.getElem?_cons_succ]
      exact h2
theorem Ret.enter {f : FuncId} {fn : Func} {c : Code} {vs : List Value} {R : Value → World → Prop} (hf : P.funcs[f]? = some fn) (hb : fn.body = some c) (hn : fn.ntmps = n) (hle : Nat.ble vs.length n = true)
    (h : GC P c (bodyPost P fn (fun en w' => ∃ v, en = .returned v ∧ R v w')) n (argE 0 vs) w) : Ret P f vs.toArray w R := by
  have hle' := Nat.le_of_ble_eq_true hle
  have hk : Knows { tmps := vs.toArray ++ Array.replicate (fn.ntmps - vs.toArray.size) undef, defers := [] } (argE 0 vs) n := by
    refine ⟨rfl, by simp [hn]; omega, fun t v ht => ?_⟩
    obtain ⟨_, h2⟩ := look_argE vs 0 t v ht
    have hlt : t < vs.length := (List.getElem?_eq_some_iff.1 (by simpa using h2)).1
    rw [Array.getElem?_append_left (by simpa using hlt)]
    simpa using h2
  exact calls_of_wp hf hb ((wpIn_wide (n := 0)).1 (h _ hk))
end
theorem Ret.calls {P : Program} {f : FuncId} {args : Array Value} {w : World} {R : Value → World → Prop} (h : Ret P f args w R) : Calls P f args w fun en w' => ∃ v, en = .returned v ∧ R v w' := h
attribute [irreducible] GC GQ Ret Again
end Go.Proofs.YtbjomeonjlialaaGreat.V
namespace Go.Proofs.YtbjomeonjlialaaGreat.V
section
variable {P : Program} {ops : Array Oper} {Q : Exit → Act → World → Prop} {S : World → Prop} {n : Nat}
variable {i : Nat} {p : Plan} {e : Env} {w : World} {k : Kd} {dst : Option Tmp} {ty : TypeId} {pos : String} {aft : Array Edge} {g : Option (Nat × Bool)}
theorem run_equalIn_slcNil (d : Nat) {t el : TypeId} (hu : P.underlying t = some (.slice el)) (a : Option Addr) (n c : Nat) (w : World) : (Op.equalIn (d + 1) t (.slice a n c) (.slice none 0 0)).run P w = .ok a.isNone w := by
  cases a <;> simp [Op.equalIn, run_underlying hu]
theorem run_slcEqlNil {t el : TypeId} (hu : P.underlying t = some (.slice el)) (a : Option Addr) (n c : Nat) (w : World) : (binOp .eql t (.slice a n c) (.slice none 0 0)).run P w = .ok (.bool a.isNone) w := by
  have h := run_equalIn_slcNil (P := P) 9999 hu a n c w
  simp only [binOp, Op.equal, Op.maxDepth, Sem.run_bind, h, Result.andThen_ok]
  rfl
theorem run_slcNeqNil {t el : TypeId} (hu : P.underlying t = some (.slice el)) (a : Option Addr) (n c : Nat) (w : World) : (binOp .neq t (.slice a n c) (.slice none 0 0)).run P w = .ok (.bool a.isSome) w := by
  have h := run_equalIn_slcNil (P := P) 9999 hu a n c w
  simp only [binOp, Op.equal, Op.maxDepth, Sem.run_bind, h, Result.andThen_ok]
  cases a <;> rfl
theorem GO.slcEqlNil [Fr] {k : Kd} (hk : kOk k = true) {t t2 el : TypeId} [hu : UnF P t (.slice el)] {x y : Operand} {a : Option Addr} {m c : Nat} (hw : wantedE ops e ⟨dst, .binOp .eql t x y t2, ty, pos, aft, g⟩ = some true) (hx : ev e x = some (.slice a m c)) (hy : ev e y = some (.slice none 0 0)) (hd : fits n dst = true)
    (h : GX P ops Q S n p (e.put dst (.bool a.isNone)) w) : GO P ops Q S n k i ⟨dst, .binOp .eql t x y t2, ty, pos, aft, g⟩ p e w :=
  GO.bin hk hw hx hy hd (fun w => rfl) (fun w => run_slcEqlNil hu.out a m c w) h
theorem GO.slcNeqNil [Fr] {k : Kd} (hk : kOk k = true) {t t2 el : TypeId} [hu : UnF P t (.slice el)] {x y : Operand} {a : Option Addr} {m c : Nat} (hw : wantedE ops e ⟨dst, .binOp .neq t x y t2, ty, pos, aft, g⟩ = some true) (hx : ev e x = some (.slice a m c)) (hy : ev e y = some (.slice none 0 0)) (hd : fits n dst = true)
    (h : GX P ops Q S n p (e.put dst (.bool a.isSome)) w) : GO P ops Q S n k i ⟨dst, .binOp .neq t x y t2, ty, pos, aft, g⟩ p e w :=
  GO.bin hk hw hx hy hd (fun w => rfl) (fun w => run_slcNeqNil hu.out a m c w) h
end
theorem SlA.bytes {w : World} {a : Option Addr} {l : List UInt8} (h : SlA w a (bytesV l)) (lo m k : Nat) (hm : m = lo → k = 0) : SlA w (sliced' a lo m 1) (bytesV ((l.drop lo).take k)) := by
  have := h.sliced lo m 1 k hm
  simpa [bytesV, List.map_take, List.map_drop] using this
end Go.Proofs.YtbjomeonjlialaaGreat.V
