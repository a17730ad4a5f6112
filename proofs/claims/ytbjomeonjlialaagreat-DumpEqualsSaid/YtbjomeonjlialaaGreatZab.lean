/-
  The rules of a walk by named slots: one rule for each operation, each form of code, a call, a return. No condition: these are rules over any program.
-/
import Derived.Test.YtbjomeonjlialaaGreatZaa
import Derived.Laws.AppendOwn
import Derived.Laws.AppendOwnNone
import Derived.Laws.MakeOwn
import Derived.Laws.IdiomCopy
import Derived.WalkLawsBesides
set_option linter.unusedVariables false
set_option linter.unusedSimpArgs false
namespace Go.Proofs.YtbjomeonjlialaaGreat.V
def At (w : World) (b o : Nat) (l : List Value) : Prop := ∀ i v, l[i]? = some v → w.cell? ⟨b, o + i, none⟩ = some v
def Blk (w : World) (b : Nat) (l : List Value) : Prop := ∃ t, w.heap[b]? = some (.cells l.toArray t (0, 0))
structure Mod (S : Nat → Prop) (w w' : World) : Prop where
  os : w'.os = w.os
  tape : w'.tape = w.tape
  output : w'.output = w.output
  size : w.heap.size ≤ w'.heap.size
  block : ∀ k, k < w.heap.size → ¬ S k → w'.heap[k]? = w.heap[k]?
abbrev Ext (w w' : World) : Prop := Mod (fun _ => False) w w'
theorem Mod.refl {S : Nat → Prop} (w : World) : Mod S w w := ⟨rfl, rfl, rfl, Nat.le_refl _, fun _ _ _ => rfl⟩
theorem Mod.weaken {S T : Nat → Prop} {w w' : World} (h : Mod S w w') (hs : ∀ k, k < w.heap.size → S k → T k) : Mod T w w' :=
  ⟨h.os, h.tape, h.output, h.size, fun k hk hn => h.block k hk fun hS => hn (hs k hk hS)⟩
theorem Ext.mod {S : Nat → Prop} {w w' : World} (h : Ext w w') : Mod S w w' := h.weaken fun _ _ h => h.elim
theorem Mod.trans {S : Nat → Prop} {a b c : World} (h : Mod S a b) (k : Mod S b c) : Mod S a c :=
  ⟨k.os.trans h.os, k.tape.trans h.tape, k.output.trans h.output, Nat.le_trans h.size k.size,
   fun i hi hn => (k.block i (Nat.lt_of_lt_of_le hi h.size) hn).trans (h.block i hi hn)⟩
theorem Mod.then {S T : Nat → Prop} {a b c : World} (h : Mod S a b) (k : Mod T b c) (hs : ∀ i, i < a.heap.size → T i → S i) : Mod S a c :=
  ⟨k.os.trans h.os, k.tape.trans h.tape, k.output.trans h.output, Nat.le_trans h.size k.size,
   fun i hi hn => (k.block i (Nat.lt_of_lt_of_le hi h.size) fun hT => hn (hs i hi hT)).trans (h.block i hi hn)⟩
theorem Ext.drew (w : World) : Ext w w.drew := ⟨rfl, rfl, rfl, Nat.le_refl _, fun _ _ _ => rfl⟩
theorem Ext.alloc (w : World) (o : Obj) : Ext w (w.alloc o) := ⟨rfl, rfl, rfl, by simp, fun k hk _ => RowKit.Below.heap_alloc w o k hk⟩
theorem Mod.of_grown {w w' : World} {r : Option Nat} (h : w.grownBy w' r) : Mod (fun k => some k = r) w w' := ⟨h.os, h.tape, h.output, h.size, fun k hk hn => h.block k hk hn⟩
theorem Ext.below {w w' : World} (h : Ext w w') : RowKit.Below w.heap.size w w' := ⟨h.os, h.tape, h.output, h.size, fun k hk => h.block k hk id⟩
theorem Mod.cell {S : Nat → Prop} {w w' : World} (h : Mod S w w') {a : Addr} {v : Value} (hv : w.cell? a = some v) (hn : ¬ S a.block) : w'.cell? a = some v :=
  (World.cell?_of_block (h.block a.block (block_lt_of_cell hv) hn)).trans hv
theorem Mod.row {S : Nat → Prop} {w w' : World} (h : Mod S w w') {b : Nat} {o : Obj} (hv : w.heap[b]? = some o) (hn : ¬ S b) : w'.heap[b]? = some o :=
  (h.block b (Array.getElem?_eq_some_iff.1 hv).1 hn).trans hv
theorem At.nil (w : World) (b o : Nat) : At w b o [] := fun _ _ h => by cases h
theorem At.mod {S : Nat → Prop} {w w' : World} {b o : Nat} {l : List Value} (h : At w b o l) (hm : Mod S w w') (hn : ¬ S b) : At w' b o l :=
  fun i v hv => hm.cell (h i v hv) hn
theorem At.ext {w w' : World} {b o : Nat} {l : List Value} (h : At w b o l) (hm : Ext w w') : At w' b o l := h.mod hm id
theorem At.sub {w : World} {b o : Nat} {l : List Value} (h : At w b o l) (k : Nat) (m : List Value) (hm : ∀ i v, m[i]? = some v → l[k + i]? = some v) : At w b (o + k) m :=
  fun i v hv => by rw [Nat.add_assoc]; exact h (k + i) v (hm i v hv)
theorem At.take {w : World} {b o : Nat} {l : List Value} (h : At w b o l) (k n : Nat) : At w b (o + k) ((l.drop k).take n) :=
  h.sub k _ fun i v hv => by
    rw [List.getElem?_take] at hv
    split at hv
    · simpa using hv
    · cases hv
theorem At.append {w : World} {b o : Nat} {l m : List Value} (h : At w b o l) (k : At w b (o + l.length) m) : At w b o (l ++ m) := fun i v hv => by
  by_cases hi : i < l.length
  · rw [List.getElem?_append_left hi] at hv; exact h i v hv
  · rw [List.getElem?_append_right (by omega)] at hv
    have := k _ v hv
    rwa [show o + l.length + (i - l.length) = o + i by omega] at this
theorem At.left {w : World} {b o : Nat} {l m : List Value} (h : At w b o (l ++ m)) : At w b o l := fun i v hv => h i v (by
  rw [List.getElem?_append_left (List.getElem?_eq_some_iff.1 hv).1]; exact hv)
theorem At.right {w : World} {b o : Nat} {l m : List Value} (h : At w b o (l ++ m)) : At w b (o + l.length) m := h.sub l.length m fun i v hv => by
  rw [List.getElem?_append_right (by omega)]; simpa using hv
theorem Blk.mod {S : Nat → Prop} {w w' : World} {b : Nat} {l : List Value} (h : Blk w b l) (hm : Mod S w w') (hn : ¬ S b) : Blk w' b l :=
  let ⟨t, ht⟩ := h; ⟨t, hm.row ht hn⟩
theorem Blk.ext {w w' : World} {b : Nat} {l : List Value} (h : Blk w b l) (hm : Ext w w') : Blk w' b l := h.mod hm id
theorem Blk.lt {w : World} {b : Nat} {l : List Value} (h : Blk w b l) : b < w.heap.size := let ⟨_, ht⟩ := h; (Array.getElem?_eq_some_iff.1 ht).1
theorem Blk.at {w : World} {b : Nat} {l : List Value} (h : Blk w b l) : At w b 0 l := by
  obtain ⟨t, ht⟩ := h
  intro i v hv
  rw [cell_of_row w b _ _ t _ ht]
  simpa using hv
theorem Blk.new (w : World) (l : List Value) (t : TypeId) : Blk (w.alloc (.cells l.toArray t)) w.heap.size l := ⟨t, heap_alloc_new w _⟩
theorem add_none (b o k : Nat) : (⟨b, o, none⟩ : Addr).add k = ⟨b, o + k, none⟩ := by unfold Addr.add; split <;> simp_all
structure Put (w w' : World) (b o : Nat) (vs : List Value) : Prop where
  os : w'.os = w.os
  tape : w'.tape = w.tape
  output : w'.output = w.output
  size : w'.heap.size = w.heap.size
  other : ∀ k, k ≠ b → w'.heap[k]? = w.heap[k]?
  here : ∀ c t fr, w.heap[b]? = some (.cells c t fr) → w'.heap[b]? = some (.cells (c.toList.take o ++ vs ++ c.toList.drop (o + vs.length)).toArray t fr)
theorem Put.mod {w w' : World} {b o : Nat} {vs : List Value} (h : Put w w' b o vs) : Mod (· = b) w w' :=
  ⟨h.os, h.tape, h.output, Nat.le_of_eq h.size.symm, fun k _ hk => h.other k hk⟩
theorem Put.blk {w w' : World} {b o : Nat} {vs l : List Value} (h : Put w w' b o vs) (hb : Blk w b l) : Blk w' b (l.take o ++ vs ++ l.drop (o + vs.length)) := by
  obtain ⟨t, ht⟩ := hb
  exact ⟨t, by simpa using h.here _ _ _ ht⟩
def tyB (P : Program) (t : TypeId) : Option (Bool × Nat) :=
  match P.underlying t, P.info? t with
  | some d, some i => some ((match d with | .struct _ | .array _ _ => true | _ => false), i.size)
  | _, _ => none
class TyF (P : Program) (t : TypeId) (agg : outParam Bool) (size : outParam Nat) : Prop where
  out : tyB P t = some (agg, size)
section
variable {P : Program} {t : TypeId} {agg : Bool} {size : Nat}
theorem TyF.info (h : TyF P t agg size) : ∃ i, P.info? t = some i ∧ i.size = size := by
  have := h.out
  unfold tyB at this
  split at this
  · rename_i d i h1 h2; simp at this; exact ⟨i, h2, this.2⟩
  · cases this
theorem TyF.isAgg (h : TyF P t agg size) (w : World) : (isAgg t).run P w = .ok agg w := by
  have := h.out
  unfold tyB at this
  split at this
  · rename_i d i h1 h2
    simp only [Option.some.injEq, Prod.mk.injEq] at this
    unfold Go.isAgg
    rw [Sem.run_bind, run_underlying h1 w]
    obtain ⟨h3, _⟩ := this
    subst h3
    cases d <;> rfl
  · cases this
theorem TyF.sizeOf (h : TyF P t agg size) (w : World) : (sizeOf t).run P w = .ok size w := by
  obtain ⟨i, hi, hs⟩ := h.info
  simp [Go.sizeOf, typeInfo, hi, hs]
end
def fieldB (P : Program) (s : TypeId) (f : Nat) : Option (Nat × Nat × Bool) :=
  match P.underlying s with
  | some (.struct fs) => match fs[f]? with
    | some x => match tyB P x.type with
      | some (g, z) => some (x.offset, z, g)
      | none => none
    | none => none
  | _ => none
class FdF (P : Program) (s : TypeId) (f : Nat) (off : outParam Nat) (size : outParam Nat) (agg : outParam Bool) : Prop where
  out : fieldB P s f = some (off, size, agg)
def sliceB (P : Program) (t : TypeId) : Option (TypeId × Nat × Nat) :=
  match P.underlying t with
  | some (.slice e) => match P.info? e with
    | some i => match i.zero with
      | some z => if z.cells.size = i.size then some (e, i.size, i.bytes) else none
      | none => none
    | none => none
  | _ => none
class SlF (P : Program) (t : TypeId) (e : outParam TypeId) (size : outParam Nat) (bytes : outParam Nat) : Prop where
  out : sliceB P t = some (e, size, bytes)
section
variable {P : Program} {t e : TypeId} {size bytes : Nat}
theorem SlF.facts (h : SlF P t e size bytes) : P.underlying t = some (.slice e) ∧ ∃ i z, P.info? e = some i ∧ i.zero = some z ∧ i.size = size ∧ i.bytes = bytes ∧ z.cells.size = size := by
  have := h.out
  unfold sliceB at this
  split at this
  · rename_i e' h1
    split at this
    · rename_i i h2
      split at this
      · rename_i z h3
        split at this
        · rename_i h4
          simp only [Option.some.injEq, Prod.mk.injEq] at this
          obtain ⟨rfl, rfl, rfl⟩ := this
          exact ⟨h1, i, z, h2, h3, rfl, rfl, h4⟩
        · cases this
      · cases this
    · cases this
  · cases this
theorem SlF.und (h : SlF P t e size bytes) : P.underlying t = some (.slice e) := h.facts.1
theorem SlF.sizeE (h : SlF P t e size bytes) (w : World) : (sizeOf e).run P w = .ok size w := by
  obtain ⟨_, i, z, h2, _, h4, _⟩ := h.facts
  simp [Go.sizeOf, typeInfo, h2, h4]
theorem SlF.sizeX (h : SlF P t e size bytes) (w : World) : (sizeOf (P.elem t)).run P w = .ok size w := by
  have : P.elem t = e := by simp [Program.elem, h.und]
  rw [this]; exact h.sizeE w
theorem SlF.undX (h : SlF P t e size bytes) : P.underlying t = some (.slice (P.elem t)) := by
  have : P.elem t = e := by simp [Program.elem, h.und]
  rw [this]; exact h.und
end
section
variable {P : Program} {ops : Array Oper} {Q : Exit → Act → World → Prop} {S : World → Prop} {n : Nat}
def GX [Fr] (P : Program) (ops : Array Oper) (Q : Exit → Act → World → Prop) (S : World → Prop) (n : Nat) (p : Plan) (e : Env) (w : World) : Prop :=
  ∀ a, Knows a e n → wpPlan P ops Q S p a w
inductive Kd where
  | pure | read | eff
def GO [Fr] (P : Program) (ops : Array Oper) (Q : Exit → Act → World → Prop) (S : World → Prop) (n : Nat) (k : Kd) (i : Nat) (o : Oper) (p : Plan) (e : Env) (w : World) : Prop :=
  ops[i]? = some o → ∀ a, Knows a e n → wpPlan P ops Q S (match k with | .pure => .pure i p | .read => .read i p | .eff => .eff i p) a w
theorem GX.pure [Fr] {i : Nat} {o : Oper} {p : Plan} {e : Env} {w : World} (ho : ops[i]? = some o) (h : GO P ops Q S n .pure i o p e w) : GX P ops Q S n (.pure i p) e w := fun a ha => h ho a ha
theorem GX.read [Fr] {i : Nat} {o : Oper} {p : Plan} {e : Env} {w : World} (ho : ops[i]? = some o) (h : GO P ops Q S n .read i o p e w) : GX P ops Q S n (.read i p) e w := fun a ha => h ho a ha
theorem GX.eff [Fr] {i : Nat} {o : Oper} {p : Plan} {e : Env} {w : World} (ho : ops[i]? = some o) (h : GO P ops Q S n .eff i o p e w) : GX P ops Q S n (.eff i p) e w := fun a ha => h ho a ha
theorem GX.alt [Fr] {p q : Plan} {e : Env} {w : World} (h1 : GX P ops Q S n p e w) (h2 : GX P ops Q S n q e w) : GX P ops Q S n (.alt p q) e w := fun a ha => ⟨h1 a ha, h2 a ha⟩
theorem GX.sub [Fr] {p : Plan} {e e' : Env} {w : World} (hs : Sub e' e) (h : GX P ops Q S n p e' w) : GX P ops Q S n p e w := fun a ha => h a (ha.sub hs)
theorem GX.pick [Fr] {p : Plan} {e e' : Env} {w : World} (l : List Nat) (hs : pickE e l = some e') (h : GX P ops Q S n p e' w) : GX P ops Q S n p e w := h.sub (sub_pick hs)
theorem GX.case [Fr] {p : Plan} {e : Env} {w : World} (t : Nat) {b : Bool} (hl : look t e = some (.bool b)) (h1 : b = true → GX P ops Q S n p ((t, .bool true) :: e) w) (h2 : b = false → GX P ops Q S n p ((t, .bool false) :: e) w) : GX P ops Q S n p e w := by
  cases b with
  | true => exact (h1 rfl).sub (fun s v hs => by
      simp only [look] at hs
      cases hb : Nat.beq t s with
      | true => rw [hb] at hs; simp at hs; subst hs; rw [← Nat.eq_of_beq_eq_true hb]; exact hl
      | false => rw [hb] at hs; exact hs)
  | false => exact (h2 rfl).sub (fun s v hs => by
      simp only [look] at hs
      cases hb : Nat.beq t s with
      | true => rw [hb] at hs; simp at hs; subst hs; rw [← Nat.eq_of_beq_eq_true hb]; exact hl
      | false => rw [hb] at hs; exact hs)
section
variable {i : Nat} {o : Oper} {p : Plan} {e : Env} {w : World}
theorem GO.val [Fr] {k : Kd} (hk : k = .pure ∨ k = .eff) {v : Value} (hw : wantedE ops e o = some true) (hd : fits n o.dst = true)
    (hv : ∀ a, Knows a e n → ∀ w, (execOp a.eval o).run P w = .ok (.value v) w) (h : GX P ops Q S n p (e.put o.dst v) w) : GO P ops Q S n k i o p e w := by
  intro ho a ha
  have hy : YieldsIf P ops (fun _ => True) o v a := .inl ⟨wantedE_eq ha hw, fun w _ => hv a ha w⟩
  rcases hk with rfl | rfl
  · exact ⟨o, v, ho, hy, h _ (ha.putO hd v)⟩
  · exact YieldsIf.wpOpF ho hy trivial ⟨fun _ h => h, h _ (ha.putO hd v)⟩
theorem GO.rd [Fr] {v : Value} (hS : S w) (hw : wantedE ops e o = some true) (hd : fits n o.dst = true)
    (hv : ∀ a, Knows a e n → ∀ w, S w → (execOp a.eval o).run P w = .ok (.value v) w) (h : GX P ops Q S n p (e.put o.dst v) w) : GO P ops Q S n .read i o p e w :=
  fun ho a ha => ⟨hS, o, v, ho, .inl ⟨wantedE_eq ha hw, fun w hw' => hv a ha w hw'⟩, h _ (ha.putO hd v)⟩
theorem GO.skip [Fr] {k : Kd} (hk : k = .pure ∨ k = .eff) (hw : wantedE ops e o = some false) (hd : fits n o.dst = true) (h : GX P ops Q S n p (e.put o.dst undef) w) : GO P ops Q S n k i o p e w := by
  intro ho a ha
  have hy : YieldsIf P ops (fun _ => True) o undef a := .inr ⟨wantedE_eq ha hw, rfl⟩
  rcases hk with rfl | rfl
  · exact ⟨o, undef, ho, hy, h _ (ha.putO hd _)⟩
  · exact YieldsIf.wpOpF ho hy trivial ⟨fun _ h => h, h _ (ha.putO hd _)⟩
theorem GO.skipRead [Fr] (hS : S w) (hw : wantedE ops e o = some false) (hd : fits n o.dst = true) (h : GX P ops Q S n p (e.put o.dst undef) w) : GO P ops Q S n .read i o p e w :=
  fun ho a ha => ⟨hS, o, undef, ho, .inr ⟨wantedE_eq ha hw, rfl⟩, h _ (ha.putO hd _)⟩
theorem GO.act [Fr] {R : Value → World → Prop} (hw : wantedE ops e o = some true) (hd : fits n o.dst = true)
    (hx : ∀ a, Knows a e n → ∀ (K : Act → World → Prop), (∀ v w', R v w' → K (a.put o.dst v) w') → o.wpIn Fr.F 0 P a w K Q)
    (h : ∀ v w', R v w' → (lateIx ops i = false → S w → S w') ∧ GX P ops Q S n p (e.put o.dst v) w') : GO P ops Q S n .eff i o p e w := by
  intro ho a ha
  unfold wpPlan wpOpIn
  simp only [ho, wantedE_eq ha hw, if_true]
  exact hx a ha _ fun v w' hR => ⟨(h v w' hR).1, (h v w' hR).2 _ (ha.putO hd v)⟩
theorem GO.run [Fr] {R : Value → World → Prop} (hw : wantedE ops e o = some true) (hd : fits n o.dst = true)
    (hx : ∀ a, Knows a e n → ∃ x v w', (execOp a.eval o).run P w = .ok x w' ∧ (x = .value v ∨ x = .skip ∧ v = undef) ∧ R v w')
    (h : ∀ v w', R v w' → (lateIx ops i = false → S w → S w') ∧ GX P ops Q S n p (e.put o.dst v) w') : GO P ops Q S n .eff i o p e w :=
  GO.act (R := R) hw hd (fun a ha K hK => by
    obtain ⟨x, v, w', hr, hx, hR⟩ := hx a ha
    refine ⟨fun f _ => trivial, ?_⟩
    rcases hx with rfl | ⟨rfl, rfl⟩
    · rw [semAt_of hr (by simp)]; exact hK v w' hR
    · rw [semAt_of hr (by simp)]; exact hK _ w' hR) h
end
end
end Go.Proofs.YtbjomeonjlialaaGreat.V
