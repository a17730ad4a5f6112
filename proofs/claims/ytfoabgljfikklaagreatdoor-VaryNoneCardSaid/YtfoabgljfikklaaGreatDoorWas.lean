/-
  Short rules for walks: operations on maps, and ranges over them. No condition: these are rules over any program; and what follows from it.
-/
import Derived.Test.YtfoabgljfikklaaGreatDoorWar
import Derived.Test.YtfoabgljfikklaaGreatDoorWaq
set_option linter.unusedVariables false
set_option linter.unusedSimpArgs false
namespace Go.Proofs.YtfoabgljfikklaaGreatDoor.V.M
attribute [local irreducible] GX GO
set_option linter.unusedSectionVars false
section
variable {P : Program} {ops : Array Oper} {Q : Exit → Act → World → Prop} {S : World → Prop} {n : Nat}
variable {i m : Nat} {p : Plan} {e : Env} {w : World} {k : Kd} {dst : Option Tmp} {ty : TypeId} {pos : String} {aft : Array Edge} {g : Option (Nat × Bool)}
variable {κ ν : Type} [DecidableEq κ] {kv : κ → Value} {vv : ν → Value} {b : Nat} {M : List (κ × ν)} {t kt el : TypeId}
theorem beqB (a b : ByteArray) : (a == b) = decide (a = b) := by
  rw [beq_toListBytes, Bool.beq_eq_decide_eq]
  simp only [toList_iff]
abbrev iV (z : Int) : Value := .int .i64 z
abbrev uV (z : Nat) : Value := .int .u64 z
instance keyStr [h : UnF P kt .string] : KeyV P str kt := ⟨.string, h.out, fun a b => by
    have : (⟨a.toArray⟩ : ByteArray) = ⟨b.toArray⟩ ↔ a = b := by
      constructor
      · intro h; cases h; rfl
      · rintro rfl; rfl
    have hb : ((⟨a.toArray⟩ : ByteArray) == ⟨b.toArray⟩) = decide (a = b) := by rw [beqB, decide_eq_decide]; exact this
    simp [str, Instr.sameNow, hb], fun em a w => by
    rw [show (10000 : Nat) = 9999 + 1 from rfl, Instr.checkKey]
    simp [run_underlying h.out, str], fun a => by simp [Instr.sameBits, str, beqB]⟩
theorem keyInt_ok {ik : IntKind} (h : UnF P kt (.int ik)) (f : κ → Int) (hf : ∀ a b, f a = f b → a = b) : KeyV P (fun a : κ => Value.int ik (f a)) kt := ⟨.int ik, h.out, fun a b => by
    have : (f a == f b) = decide (a = b) := by
      by_cases hab : a = b
      · subst hab; simp
      · rw [decide_eq_false hab, beq_eq_false_iff_ne]
        exact fun h => hab (hf _ _ h)
    simp [Instr.sameNow, this], fun em a w => by
    rw [show (10000 : Nat) = 9999 + 1 from rfl, Instr.checkKey]
    simp [run_underlying h.out], fun a => by simp [Instr.sameBits]⟩
instance keyI [h : UnF P kt (.int .i64)] : KeyV P iV kt := keyInt_ok h id fun _ _ h => h
instance keyU [h : UnF P kt (.int .u64)] : KeyV P uV kt := keyInt_ok h (fun n : Nat => (n : Int)) fun _ _ h => Int.ofNat.inj h
theorem GX.lookup [Fr] {x y : Operand} {ok : Bool} {a : κ} {Z : Value} (hM : MapB w b kv vv M) (hk : KeyV P kv kt) (hz : ∀ w, (zeroValue el).run P w = .ok Z w)
    (ho : ops[i]? = some ⟨dst, .lookup t x y ok, ty, pos, aft, g⟩) [hu : UnF P t (.map kt el)] (hw : wantedE ops e ⟨dst, .lookup t x y ok, ty, pos, aft, g⟩ = some true) (hx : ev e x = some (.map (some b))) (hy : ev e y = some (kv a)) (hd : fits n dst = true)
    (h : GX P ops Q S n (effs (i + 1) m) (e.put dst (lookV vv Z ok (mget M a))) w) : GX P ops Q S n (effs i (m + 1)) e w :=
  GX.eff ho (GO.run (R := fun u w' => u = lookV vv Z ok (mget M a) ∧ w' = w) hw hd (fun ac ha => ⟨_, _, w, by simp [execOp, ev_eq ha hx, ev_eq ha hy, run_lookup hM hu.out hk hz a ok], .inl rfl, rfl, rfl⟩) (by rintro _ _ ⟨rfl, rfl⟩; exact ⟨fun _ h => h, h⟩))
theorem GX.mapUpdate [Fr] {x y z : Operand} {a : κ} {v : ν} (hM : MapB w b kv vv M) (hk : KeyV P kv kt)
    (ho : ops[i]? = some ⟨none, .mapUpdate t x y z, ty, pos, aft, g⟩) [hu : UnF P t (.map kt el)] (hw : wantedE ops e ⟨none, .mapUpdate t x y z, ty, pos, aft, g⟩ = some true) (hx : ev e x = some (.map (some b))) (hy : ev e y = some (kv a)) (hv : ev e z = some (vv v))
    (h : ∀ w', MapB w' b kv vv (mput M a v) → Mod (· = b) w w' → GX P ops Q (fun _ => True) n (effs (i + 1) m) e w') : GX P ops Q (fun _ => True) n (effs i (m + 1)) e w := by
  obtain ⟨w1, h1, h2, h3⟩ := run_update hM hu.out hk a v
  exact GX.eff ho (GO.run (R := fun _ w' => w' = w1) hw rfl (fun ac ha => ⟨.skip, undef, _, by simp [execOp, ev_eq ha hx, ev_eq ha hy, ev_eq ha hv, h1], .inr ⟨rfl, rfl⟩, rfl⟩) (by rintro _ _ rfl; exact ⟨fun _ _ => trivial, h _ h2 h3⟩))
theorem GX.makeMap [Fr] (kv : κ → Value) (vv : ν → Value)
    (ho : ops[i]? = some ⟨dst, .makeMap t none, ty, pos, aft, g⟩) (hw : wantedE ops e ⟨dst, .makeMap t none, ty, pos, aft, g⟩ = some true) (hd : fits n dst = true)
    (h : ∀ b w', b = w.heap.size → MapB w' b kv vv [] → Ext w w' → GX P ops Q (fun _ => True) n (effs (i + 1) m) (e.put dst (.map (some b))) w') : GX P ops Q (fun _ => True) n (effs i (m + 1)) e w :=
  GX.eff ho (GO.run (R := fun u w' => u = .map (some w.heap.size) ∧ w' = w.alloc (.map #[] 0)) hw hd (fun ac ha => ⟨_, _, _, by simp [execOp, Instr.makeMap], .inl rfl, rfl, rfl⟩)
    (by rintro _ _ ⟨rfl, rfl⟩; exact ⟨fun _ _ => trivial, h _ _ rfl ⟨[], 0, heap_alloc_new w _, trivial, List.nodup_nil, fun _ h => by cases h⟩ (Ext.alloc w _)⟩))
def ItB (w : World) (it b : Nat) (kv : κ → Value) (vv : ν → Value) (M R : List (κ × ν)) : Prop :=
  ∃ (E : List MapEntry) (clock since last : Nat) (seen : List Nat), w.heap[b]? = some (.map E.toArray clock) ∧ EM kv vv E M ∧ (E.map (·.born)).Nodup ∧ (∀ x ∈ E, x.born < clock) ∧
    w.heap[it]? = some (.mapIter (some b) since seen.toArray last) ∧ clock ≤ since ∧ clock ≤ last ∧ EM kv vv (E.filter fun x => !seen.contains x.born) R
theorem ItB.map {w : World} {it : Nat} {R : List (κ × ν)} (h : ItB w it b kv vv M R) : MapB w b kv vv M := let ⟨E, c, _, _, _, h1, h2, h3, h4, _⟩ := h; ⟨E, c, h1, h2, h3, h4⟩
theorem ItB.mod {T : Nat → Prop} {w w' : World} {it : Nat} {R : List (κ × ν)} (h : ItB w it b kv vv M R) (hm : Mod T w w') (hn : ¬ T b) (hi : ¬ T it) : ItB w' it b kv vv M R :=
  let ⟨E, c, s, l, sn, h1, h2, h3, h4, h5, h6⟩ := h; ⟨E, c, s, l, sn, hm.row h1 hn, h2, h3, h4, hm.row h5 hi, h6⟩
theorem ItB.lt {w : World} {it : Nat} {R : List (κ × ν)} (h : ItB w it b kv vv M R) : it < w.heap.size := let ⟨_, _, _, _, _, _, _, _, _, h1, _⟩ := h; (Array.getElem?_eq_some_iff.1 h1).1
theorem GX.range [Fr] {x : Operand} (hM : MapB w b kv vv M)
    (ho : ops[i]? = some ⟨dst, .range t x, ty, pos, aft, g⟩) [hu : UnF P t (.map kt el)] (hw : wantedE ops e ⟨dst, .range t x, ty, pos, aft, g⟩ = some true) (hx : ev e x = some (.map (some b))) (hd : fits n dst = true)
    (h : ∀ it w', it = w.heap.size → ItB w' it b kv vv M M → Ext w w' → GX P ops Q (fun _ => True) n (effs (i + 1) m) (e.put dst (.pointer (some ⟨it, 0, none⟩))) w') : GX P ops Q (fun _ => True) n (effs i (m + 1)) e w := by
  obtain ⟨E, c, h1, h2, h3, h4⟩ := hM
  refine GX.eff ho (GO.run (R := fun u w' => u = .pointer (some ⟨w.heap.size, 0, none⟩) ∧ w' = w.alloc (.mapIter (some b) c #[] c)) hw hd (fun ac ha => ⟨_, _, _, by simp [execOp, ev_eq ha hx, Instr.range, run_underlying hu.out, getMap h1], .inl rfl, rfl, rfl⟩) ?_)
  rintro _ _ ⟨rfl, rfl⟩
  have hE := Ext.alloc w (.mapIter (some b) c #[] c)
  refine ⟨fun _ _ => trivial, h _ _ rfl ⟨E, c, c, c, [], hE.row h1 id, h2, h3, h4, heap_alloc_new w _, Nat.le_refl _, Nat.le_refl _, ?_⟩ hE⟩
  rw [List.filter_eq_self.2 (by simp)]
  exact h2
theorem EM.split : ∀ {E : List MapEntry} {M : List (κ × ν)} {x : MapEntry}, EM kv vv E M → x ∈ E → ∃ y M1 M2 E1 E2, M = M1 ++ y :: M2 ∧ E = E1 ++ x :: E2 ∧ x.key = kv y.1 ∧ x.val = vv y.2 ∧ EM kv vv (E1 ++ E2) (M1 ++ M2)
  | x :: E, y :: M, z, h, hz => by
    obtain ⟨h1, h2, h3⟩ := h
    rcases List.mem_cons.1 hz with rfl | hz
    · exact ⟨y, [], M, [], E, rfl, rfl, h1, h2, h3⟩
    · obtain ⟨u, M1, M2, E1, E2, q1, q2, q3, q4, q5⟩ := h3.split hz
      exact ⟨u, y :: M1, M2, x :: E1, E2, by simp [q1], by simp [q2], q3, q4, h1, h2, q5⟩
def EntB (w : World) (it : Nat) (K V : Value) : Prop :=
  ∃ (m : Nat) (E : List MapEntry) (c s st : Nat) (seen : List Nat) (x : MapEntry), w.heap[it]? = some (.mapIter (some m) s seen.toArray c) ∧ w.heap[m]? = some (.map E.toArray c) ∧ seen.getLast? = some st ∧ E.find? (fun z => z.born == st) = some x ∧ x.key = K ∧ x.val = V
theorem run_entry {it : Nat} {K V : Value} (h : EntB w it K V) : (Instr.entry (.pointer (some ⟨it, 0, none⟩))).run P w = .ok (.tuple #[K, V]) w := by
  obtain ⟨m, E, c, s, st, seen, x, h1, h2, h3, h4, rfl, rfl⟩ := h
  have hb : seen.toArray.back? = some st := by simpa using h3
  have hf : E.toArray.find? (fun z => z.born == st) = some x := by simpa using h4
  simp [Instr.entry, getIt h1, getMap h2, hb, hf]
theorem GO.entry [Fr] {x : Operand} {it : Nat} {K V : Value} (hw : wantedE ops e ⟨dst, .entry x, ty, pos, aft, g⟩ = some true) (hx : ev e x = some (.pointer (some ⟨it, 0, none⟩))) (hd : fits n dst = true) (hE : EntB w it K V)
    (h : GX P ops Q S n p (e.put dst (.tuple #[K, V])) w) : GO P ops Q S n .eff i ⟨dst, .entry x, ty, pos, aft, g⟩ p e w :=
  GO.run (R := fun u w' => u = .tuple #[K, V] ∧ w' = w) hw hd (fun ac ha => ⟨_, _, w, by simp [execOp, ev_eq ha hx, run_entry hE], .inl rfl, rfl, rfl⟩) (by rintro _ _ ⟨rfl, rfl⟩; exact ⟨fun _ h => h, h⟩)
end
end Go.Proofs.YtfoabgljfikklaaGreatDoor.V.M
namespace Go.Proofs.YtfoabgljfikklaaGreatDoor.V.M
attribute [local irreducible] GX GO
abbrev Bs := List UInt8
theorem str_app (l m : List UInt8) : (⟨l.toArray⟩ : ByteArray) ++ ⟨m.toArray⟩ = ⟨(l ++ m).toArray⟩ := by
  apply ByteArray.ext
  simp
theorem str_iff (l m : List UInt8) : ((⟨l.toArray⟩ : ByteArray) = ⟨m.toArray⟩) ↔ l = m := by simp
theorem bytesLess_lt : ∀ (x y : List UInt8), Op.bytesLess x y = decide (x < y)
  | _, [] => by cases ‹List UInt8› <;> simp [Op.bytesLess]
  | [], _ :: _ => by simp [Op.bytesLess]
  | a :: x, b :: y => by
    rw [Op.bytesLess, bytesLess_lt x y, Bool.eq_iff_iff]
    simp [List.cons_lt_cons_iff]
section
variable {P : Program} {ops : Array Oper} {Q : Exit → Act → World → Prop} {S : World → Prop} {n : Nat}
variable {i : Nat} {p : Plan} {e : Env} {w : World} {k : Kd} {dst : Option Tmp} {ty : TypeId} {pos : String} {aft : Array Edge} {g : Option (Nat × Bool)}
theorem strCat [Fr] (l m : List UInt8) (hk : kOk k = true) {t t2 : TypeId} {x y : Operand} (hw : wantedE ops e ⟨dst, .binOp .add t x y t2, ty, pos, aft, g⟩ = some true) (hx : ev e x = some (str l)) (hy : ev e y = some (str m)) (hd : fits n dst = true)
    (hl : l.length + m.length ≤ 9223372036854775807) (h : GX P ops Q S n p (e.put dst (str (l ++ m))) w) : GO P ops Q S n k i ⟨dst, .binOp .add t x y t2, ty, pos, aft, g⟩ p e w :=
  GO.strAdd hk hw hx hy hd (by simpa [ByteArray.size] using hl) (by rw [str_app]; exact h)
theorem strLen [Fr] (l : List UInt8) (hk : kOk k = true) {x : Operand} {t : TypeId} [hu : UnF P t .string] (hw : wantedE ops e ⟨dst, .call ⟨.builtin .len, #[x], #[t]⟩, ty, pos, aft, g⟩ = some true) (hx : ev e x = some (str l)) (hd : fits n dst = true)
    (h : GX P ops Q S n p (e.put dst (.int .i64 l.length)) w) : GO P ops Q S n k i ⟨dst, .call ⟨.builtin .len, #[x], #[t]⟩, ty, pos, aft, g⟩ p e w :=
  GO.lenStr hk hw hx hd (by simpa [ByteArray.size] using h)
theorem strLss [Fr] (l m : List UInt8) (hk : kOk k = true) {t t2 : TypeId} {x y : Operand} (hw : wantedE ops e ⟨dst, .binOp .lss t x y t2, ty, pos, aft, g⟩ = some true) (hx : ev e x = some (str l)) (hy : ev e y = some (str m)) (hd : fits n dst = true)
    (h : GX P ops Q S n p (e.put dst (.bool (decide (l < m)))) w) : GO P ops Q S n k i ⟨dst, .binOp .lss t x y t2, ty, pos, aft, g⟩ p e w :=
  GO.bin hk hw hx hy hd (fun w => rfl) (fun w => by
    have := bytesLess_lt l m
    simp [binOp, Op.stringOp, str, this]) h
theorem strEq [Fr] (l m : List UInt8) (hk : kOk k = true) {t t2 : TypeId} {x y : Operand} (hw : wantedE ops e ⟨dst, .binOp .eql t x y t2, ty, pos, aft, g⟩ = some true) (hx : ev e x = some (str l)) (hy : ev e y = some (str m)) (hd : fits n dst = true)
    (h : GX P ops Q S n p (e.put dst (.bool (decide (l = m)))) w) : GO P ops Q S n k i ⟨dst, .binOp .eql t x y t2, ty, pos, aft, g⟩ p e w :=
  GO.strEql hk hw hx hy hd (by rw [decide_eq_decide.2 (str_iff l m)]; exact h)
theorem strNe [Fr] (l m : List UInt8) (hk : kOk k = true) {t t2 : TypeId} {x y : Operand} (hw : wantedE ops e ⟨dst, .binOp .neq t x y t2, ty, pos, aft, g⟩ = some true) (hx : ev e x = some (str l)) (hy : ev e y = some (str m)) (hd : fits n dst = true)
    (h : GX P ops Q S n p (e.put dst (.bool (decide (l ≠ m)))) w) : GO P ops Q S n k i ⟨dst, .binOp .neq t x y t2, ty, pos, aft, g⟩ p e w :=
  GO.strNeq hk hw hx hy hd (by
    have : ((⟨l.toArray⟩ : ByteArray) ≠ ⟨m.toArray⟩) ↔ l ≠ m := not_congr (str_iff l m)
    rw [decide_eq_decide.2 this]; exact h)
theorem asBin [Fr] {bo : BinOp} {t t2 : TypeId} {x y : Operand} (h : GO P ops Q S n k i ⟨dst, .binOp bo t x y t2, ty, pos, aft, g⟩ p e w) : GO P ops Q S n k i ⟨dst, .binOp bo t x y t2, ty, pos, aft, g⟩ p e w := h
theorem asCall [Fr] {c : Call} (h : GO P ops Q S n k i ⟨dst, .call c, ty, pos, aft, g⟩ p e w) : GO P ops Q S n k i ⟨dst, .call c, ty, pos, aft, g⟩ p e w := h
theorem asLoad [Fr] {t : TypeId} {x : Operand} (h : GO P ops Q S n k i ⟨dst, .load t x, ty, pos, aft, g⟩ p e w) : GO P ops Q S n k i ⟨dst, .load t x, ty, pos, aft, g⟩ p e w := h
theorem asConv [Fr] {t t2 : TypeId} {x : Operand} (h : GO P ops Q S n k i ⟨dst, .convert t t2 x, ty, pos, aft, g⟩ p e w) : GO P ops Q S n k i ⟨dst, .convert t t2 x, ty, pos, aft, g⟩ p e w := h
theorem asFld [Fr] {t : TypeId} {x : Operand} {f : Nat} (h : GO P ops Q S n k i ⟨dst, .field t x f, ty, pos, aft, g⟩ p e w) : GO P ops Q S n k i ⟨dst, .field t x f, ty, pos, aft, g⟩ p e w := h
theorem asPick [Fr] {c x y : Operand} (h : GO P ops Q S n k i ⟨dst, .pick c x y, ty, pos, aft, g⟩ p e w) : GO P ops Q S n k i ⟨dst, .pick c x y, ty, pos, aft, g⟩ p e w := h
theorem asNil [Fr] {x : Operand} (h : GO P ops Q S n k i ⟨dst, .nilCheck x, ty, pos, aft, g⟩ p e w) : GO P ops Q S n k i ⟨dst, .nilCheck x, ty, pos, aft, g⟩ p e w := h
structure Hold (q : Prop) : Prop where
  out : q
theorem go {p q : Prop} (k : q) (h : Hold q → p := by
    intro h
    repeat (first
      | refine GX.stop ?_
      | refine GX.doneD ?_
      | refine GX.done ?_
      | refine GQ.goNormal ?_
      | refine GC.seq ?_
      | refine GC.regionE rfl ?_
      | refine GC.skip ?_
      | refine GC.block ?_
      | refine GC.exit ?_
      | refine GC.ret ?_
      | refine GQ.goExit ?_
      | refine GQ.goRet ?_
      | refine GQ.inNormal ?_
      | refine GQ.inExit ?_
      | refine GQ.inExitNe rfl ?_
      | refine GQ.inRet ?_
      | refine GQ.loopExit ?_
      | refine GQ.loopRet ?_
      | refine GQ.cutExit ?_
      | refine GQ.cutRet ?_
      | refine GC.condT rfl ?_
      | refine GC.condF rfl ?_
      | (refine GX.next rfl ?_
         first
         | refine GO.move rfl rfl rfl rfl ?_
         | refine GO.assign rfl rfl rfl rfl ?_
         | refine GO.fieldAddr rfl rfl rfl rfl rfl ?_
         | (refine asLoad ?_
            first
            | refine GO.ldB1 rfl rfl rfl (by assumption) (by rfl) ?_
            | refine GO.ldBN rfl rfl rfl (by assumption) (by rfl) (by rfl) ?_
            | refine GO.ldA1 rfl rfl rfl (by assumption) ?_
            | refine GO.ldAN rfl rfl rfl (by assumption) (by rfl) ?_
            | refine GO.skip (.inr rfl) rfl rfl ?_)
         | (refine asBin ?_
            first
            | refine GO.lss rfl rfl rfl rfl rfl ?_
            | refine GO.gtr rfl rfl rfl rfl rfl ?_
            | refine GO.leq rfl rfl rfl rfl rfl ?_
            | refine GO.geq rfl rfl rfl rfl rfl ?_
            | refine GO.eql rfl rfl rfl rfl rfl ?_
            | refine GO.neq rfl rfl rfl rfl rfl ?_
            | refine GO.add rfl rfl rfl rfl rfl (wrapIn (by dsimp only [InK]; omega)) ?_
            | refine GO.sub rfl rfl rfl rfl rfl (wrapIn (by dsimp only [InK]; omega)) ?_
            | refine strEq _ _ rfl rfl rfl rfl rfl ?_
            | refine strNe _ _ rfl rfl rfl rfl rfl ?_
            | refine strLss _ _ rfl rfl rfl rfl rfl ?_
            | refine GO.ptrEqlNil rfl rfl rfl rfl rfl ?_
            | refine GO.ptrNeqNil rfl rfl rfl rfl rfl ?_
            | refine GO.slcEqlNil rfl rfl rfl rfl rfl ?_
            | refine GO.slcNeqNil rfl rfl rfl rfl rfl ?_
            | refine GO.boolEql rfl rfl rfl rfl rfl ?_
            | refine GO.boolNeq rfl rfl rfl rfl rfl ?_
            | refine GO.skip (.inr rfl) rfl rfl ?_)
         | (refine asCall ?_
            first
            | refine GO.lenSlice rfl rfl rfl rfl ?_
            | refine strLen _ rfl rfl rfl rfl ?_
            | refine GO.max2 rfl rfl rfl rfl rfl rfl ?_
            | refine GO.min2 rfl rfl rfl rfl rfl rfl ?_
            | refine GO.skip (.inr rfl) rfl rfl ?_)
         | refine GO.not rfl rfl rfl rfl ?_
         | refine GO.extract rfl rfl rfl rfl rfl ?_
         | (refine asPick ?_
            first
            | refine GO.pickT rfl rfl rfl rfl rfl ?_
            | refine GO.pickF rfl rfl rfl rfl rfl ?_
            | refine GO.skip (.inr rfl) rfl rfl ?_)
         | (refine asNil ?_
            first
            | refine GO.nilCheck rfl rfl rfl rfl ?_
            | refine GO.nilCheckF rfl rfl rfl rfl ?_
            | refine GO.skip (.inr rfl) rfl rfl ?_)
         | (refine asConv ?_
            first
            | refine GO.conv rfl rfl rfl rfl (wrapIn (by dsimp only [InK]; omega)) ?_
            | refine GO.convStr rfl rfl rfl rfl ?_
            | refine GO.skip (.inr rfl) rfl rfl ?_)
         | (refine asFld ?_
            first
            | refine GO.field1 rfl rfl rfl rfl rfl ?_
            | refine GO.fieldN rfl rfl rfl rfl rfl ?_
            | refine GO.skip (.inr rfl) rfl rfl ?_)
         | refine GO.build rfl rfl rfl rfl rfl rfl rfl ?_
         | refine GO.makeFunc rfl rfl rfl rfl rfl ?_
         | refine GO.entry rfl rfl rfl (by assumption) ?_
         | refine GO.skip (.inr rfl) rfl rfl ?_)
      | refine GQ.r1 rfl rfl ?_
      | refine GQ.r0 rfl ?_
      | refine GQ.r0n rfl ?_
      | refine GQ.r2 rfl rfl rfl ?_
      | refine GQ.r3 rfl rfl rfl rfl ?_)
    exact Hold.out h) : p := h ⟨k⟩
end
end Go.Proofs.YtfoabgljfikklaaGreatDoor.V.M
namespace Go.Proofs.YtfoabgljfikklaaGreatDoor.V.Ky
open Go.Proofs.YtfoabgljfikklaaGreatDoor.V.M
attribute [local irreducible] GX GO
set_option maxHeartbeats 2000000 in
theorem few2_ret (names : List Bs) (l : List Attr) (a a2 : Option Addr) (c c2 : Nat) (w : World) (hN : StrsAt w a c names) (hA : AttrsAt w a2 c2 l) :
    Ret Tryz.prog 5 [.slice a names.length c, .slice a2 l.length c2].toArray w fun v w' => (∃ z, v = .bool z ∧ (z = true ↔ FewP names l)) ∧ w' = w := by
  refine Ret.enter Tryz.func5 rfl Tryz.ntmps5 rfl (go ?_)
  (first | refine GC.condD rfl (fun h => go ?_) (fun h => go ?_) | refine GC.condN rfl (fun h => go ?_) (fun h => go ?_) | refine GX.caseD rfl rfl rfl rfl rfl (fun h => go ?_) (fun h => go ?_) | refine GX.caseN rfl rfl rfl rfl rfl (fun h => go ?_) (fun h => go ?_))
  · exact ⟨⟨false, rfl, fun h => by (cases h), fun hF => by have := hF.n; omega⟩, rfl⟩
  (first | refine GC.condD rfl (fun q => go ?_) (fun q => go ?_) | refine GC.condN rfl (fun q => go ?_) (fun q => go ?_) | refine GX.caseD rfl rfl rfl rfl rfl (fun q => go ?_) (fun q => go ?_) | refine GX.caseN rfl rfl rfl rfl rfl (fun q => go ?_) (fun q => go ?_))
  · exact ⟨⟨false, rfl, fun h => by (cases h), fun hF => by have := hF.m; omega⟩, rfl⟩
  refine GC.loopN [0, 1] (fun k : Nat => [(5, .int .i64 k)]) (fun k w' => k ≤ names.length ∧ (∀ s ∈ names.take k, s.length ≤ 100) ∧ w = w') (fun k => names.length - k) 0 rfl rfl ⟨Nat.zero_le _, by simp, rfl⟩ ?_
  rintro k _ ⟨hk, hall, rfl⟩
  refine go ?_
  (first | refine GC.condD rfl (fun hc => go ?_) (fun hc => go ?_) | refine GC.condN rfl (fun hc => go ?_) (fun hc => go ?_) | refine GX.caseD rfl rfl rfl rfl rfl (fun hc => go ?_) (fun hc => go ?_) | refine GX.caseN rfl rfl rfl rfl rfl (fun hc => go ?_) (fun hc => go ?_))
  · have hlt : k < names.length := by omega
    obtain ⟨b, o, rfl, hAt⟩ := strs_at hN hlt
    refine GX.next rfl (GO.indexAddr rfl rfl rfl rfl (by omega) (by omega) rfl ?_)
    refine GX.load1 (hAt (k : Int) (by omega)) rfl rfl rfl rfl ?_
    refine go ?_
    (first | refine GC.condD rfl (fun hl => go ?_) (fun hl => go ?_) | refine GC.condN rfl (fun hl => go ?_) (fun hl => go ?_) | refine GX.caseD rfl rfl rfl rfl rfl (fun hl => go ?_) (fun hl => go ?_) | refine GX.caseN rfl rfl rfl rfl rfl (fun hl => go ?_) (fun hl => go ?_))
    · exact ⟨⟨false, rfl, fun h => by (cases h), fun hF => by have := hF.ns _ (List.getElem_mem hlt); omega⟩, rfl⟩
    refine GQ.againN (k + 1) rfl ⟨hlt, fun s hs => ?_, rfl⟩ (by omega)
    rw [List.take_succ_eq_append_getElem hlt] at hs
    rcases List.mem_append.1 hs with hs | hs
    · exact hall s hs
    · simp at hs; subst hs; omega
  have hge : k = names.length := by omega
  subst hge
  rw [List.take_length] at hall
  refine GC.loopN [1] (fun k : Nat => [(6, .int .i64 k)]) (fun k w' => k ≤ l.length ∧ (∀ x ∈ l.take k, x.1.length ≤ 100 ∧ x.2.length ≤ 100) ∧ w = w') (fun k => l.length - k) 0 rfl rfl ⟨Nat.zero_le _, by simp, rfl⟩ ?_
  rintro k _ ⟨hk, hal, rfl⟩
  refine go ?_
  (first | refine GC.condD rfl (fun hc => go ?_) (fun hc => go ?_) | refine GC.condN rfl (fun hc => go ?_) (fun hc => go ?_) | refine GX.caseD rfl rfl rfl rfl rfl (fun hc => go ?_) (fun hc => go ?_) | refine GX.caseN rfl rfl rfl rfl rfl (fun hc => go ?_) (fun hc => go ?_))
  · have hlt : k < l.length := by omega
    obtain ⟨b, o, rfl, hAt⟩ := attrs_at hA hlt
    refine GX.next rfl (GO.indexAddr rfl rfl rfl rfl (by omega) (by omega) rfl ?_)
    refine GX.next rfl (GO.fieldAddr rfl rfl rfl rfl rfl ?_)
    refine GX.load1 (hAt (k : Int) (by omega)) rfl rfl rfl rfl ?_
    refine go ?_
    (first | refine GC.condD rfl (fun q1 => go ?_) (fun q1 => go ?_) | refine GC.condN rfl (fun q1 => go ?_) (fun q1 => go ?_) | refine GX.caseD rfl rfl rfl rfl rfl (fun q1 => go ?_) (fun q1 => go ?_) | refine GX.caseN rfl rfl rfl rfl rfl (fun q1 => go ?_) (fun q1 => go ?_))
    · exact ⟨⟨false, rfl, fun h => by (cases h), fun hF => by have := (hF.az _ (List.getElem_mem hlt)).1; omega⟩, rfl⟩
    refine GX.next rfl (GO.indexAddr rfl rfl rfl rfl (by omega) (by omega) rfl ?_)
    refine GX.next rfl (GO.fieldAddr rfl rfl rfl rfl rfl ?_)
    refine GX.load1 (At.one (hAt (k : Int) (by omega)) (k := 1) rfl) rfl rfl rfl rfl ?_
    refine go ?_
    (first | refine GC.condD rfl (fun q2 => go ?_) (fun q2 => go ?_) | refine GC.condN rfl (fun q2 => go ?_) (fun q2 => go ?_) | refine GX.caseD rfl rfl rfl rfl rfl (fun q2 => go ?_) (fun q2 => go ?_) | refine GX.caseN rfl rfl rfl rfl rfl (fun q2 => go ?_) (fun q2 => go ?_))
    · exact ⟨⟨false, rfl, fun h => by (cases h), fun hF => by have := (hF.az _ (List.getElem_mem hlt)).2; omega⟩, rfl⟩
    refine GQ.againN (k + 1) rfl ⟨hlt, fun s hs => ?_, rfl⟩ (by omega)
    rw [List.take_succ_eq_append_getElem hlt] at hs
    rcases List.mem_append.1 hs with hs | hs
    · exact hal s hs
    · simp at hs; subst hs; exact ⟨by omega, by omega⟩
  have hge : k = l.length := by omega
  subst hge
  rw [List.take_length] at hal
  exact ⟨⟨true, rfl, fun _ => ⟨by omega, by omega, hall, hal⟩, fun _ => rfl⟩, rfl⟩
end Go.Proofs.YtfoabgljfikklaaGreatDoor.V.Ky
namespace Go.Proofs.YtfoabgljfikklaaGreatDoor.V.Ky
open Go.Proofs.YtfoabgljfikklaaGreatDoor.V.M
attribute [local irreducible] GX GO
structure LightV (nm : Bs) (names : List Bs) (at_ : List Attr) (c : Cmd) : Prop where
  tags : ∀ i s, c.tags[i]? = some s → s.length ≤ 300 ∧ i ≤ 20
  nm : nm.length ≤ 300
  few : FewP names at_
  keys : c.keys.length = 0
  key : c.key.length ≤ 300
  child : c.child.length ≤ 300
  pre : c.pre.length ≤ 300
  tag : c.tag.length ≤ 300
  value : c.value.length ≤ 300
set_option maxHeartbeats 4000000 in
theorem light_ret (v0 v1 : Value) (nm : Bs) (names : List Bs) (at_ : List Attr) (na aa : Option Addr) (nc ac : Nat) (c : Cmd) (l : List Value) (w : World) (hV : CmdW w l c) (hN : StrsAt w na nc names) (hA : AttrsAt w aa ac at_) (hv0 : v0.oneCell' = true) (hv1 : v1.oneCell' = true) :
    Ret Tryz.prog 9 [.agg (v0 :: v1 :: str nm :: .slice na names.length nc :: .slice aa at_.length ac :: l).toArray].toArray w fun v w' => (∃ z, v = .bool z ∧ (z = true ↔ LightV nm names at_ c)) ∧ Ext w w' := by
  obtain ⟨ka, kc, va, vc, ta, tc, rfl, hK, hT⟩ := hV
  refine Ret.enter Tryz.func9 rfl Tryz.ntmps9 rfl (go ?_)
  refine GX.box (l := v0 :: v1 :: str nm :: .slice na names.length nc :: .slice aa at_.length ac :: cmdCells c ka kc va vc ta tc) rfl rfl rfl rfl rfl fun b1 w1 hb1 hB1 hE1 => go ?_
  refine GX.alloc rfl rfl rfl fun b2 w2 hb2 hB2 hE2 => go ?_
  refine GX.store (vs := cmdCells c ka kc va vc ta tc) hB2 rfl rfl rfl rfl rfl rfl rfl (by simp [cmdCells, Value.oneCell', str]) rfl fun w3 hB3 hM3 => go ?_
  have h12 : b1 < w2.heap.size := Nat.lt_of_lt_of_le hB1.lt hE2.size
  have hB1' : Blk w3 b1 (v0 :: v1 :: str nm :: .slice na names.length nc :: .slice aa at_.length ac :: cmdCells c ka kc va vc ta tc) := (hB1.ext hE2).mod hM3 (fun e => by have := hB1.lt; omega)
  have hE : Ext w w3 := (hE1.trans hE2).then hM3 (fun i hi h => by have := hE1.size; omega)
  have hT3 := hT.mod hE fun _ _ _ h => h
  have hN3 := hN.mod hE fun _ _ _ h => h
  have hA3 := hA.mod hE fun _ _ _ h => h
  clear hB1 hB2
  refine GC.loopN [1, 3] (fun k : Nat => [(4, .int .i64 k)]) (fun k w' => k ≤ c.tags.length ∧ (∀ i s, i < k → c.tags[i]? = some s → s.length ≤ 300 ∧ i ≤ 20) ∧ w3 = w') (fun k => c.tags.length - k) 0 rfl rfl ⟨Nat.zero_le _, by simp, rfl⟩ ?_
  rintro k _ ⟨hk, hall, rfl⟩
  refine go ?_
  (first | refine GC.condD rfl (fun hc => go ?_) (fun hc => go ?_) | refine GC.condN rfl (fun hc => go ?_) (fun hc => go ?_) | refine GX.caseD rfl rfl rfl rfl rfl (fun hc => go ?_) (fun hc => go ?_) | refine GX.caseN rfl rfl rfl rfl rfl (fun hc => go ?_) (fun hc => go ?_))
  · have hlt : k < c.tags.length := by omega
    obtain ⟨b, o, e, hAt⟩ := strs_at hT3 hlt
    subst e
    refine GX.next rfl (GO.indexAddr rfl rfl rfl rfl (by omega) (by omega) rfl ?_)
    refine GX.load1 (hAt (k : Int) (by omega)) rfl rfl rfl rfl ?_
    refine go ?_
    have hget : c.tags[k]? = some c.tags[k] := by simp [hlt]
    (first | refine GC.condD rfl (fun q1 => go ?_) (fun q1 => go ?_) | refine GC.condN rfl (fun q1 => go ?_) (fun q1 => go ?_) | refine GX.caseD rfl rfl rfl rfl rfl (fun q1 => go ?_) (fun q1 => go ?_) | refine GX.caseN rfl rfl rfl rfl rfl (fun q1 => go ?_) (fun q1 => go ?_))
    · exact ⟨⟨false, rfl, fun h => by (cases h), fun hL => by have := (hL.tags k _ hget).1; omega⟩, hE⟩
    (first | refine GC.condD rfl (fun q2 => go ?_) (fun q2 => go ?_) | refine GC.condN rfl (fun q2 => go ?_) (fun q2 => go ?_) | refine GX.caseD rfl rfl rfl rfl rfl (fun q2 => go ?_) (fun q2 => go ?_) | refine GX.caseN rfl rfl rfl rfl rfl (fun q2 => go ?_) (fun q2 => go ?_))
    · exact ⟨⟨false, rfl, fun h => by (cases h), fun hL => by have := (hL.tags k _ hget).2; omega⟩, hE⟩
    refine GQ.againN (k + 1) rfl ⟨hlt, fun i s hi hs => ?_, rfl⟩ (by omega)
    by_cases hik : i = k
    · subst hik
      rw [hget] at hs
      cases hs
      exact ⟨by omega, by omega⟩
    · exact hall i s (by omega) hs
  have hge : k = c.tags.length := by omega
  subst hge
  have hall' : ∀ i s, c.tags[i]? = some s → s.length ≤ 300 ∧ i ≤ 20 := fun i s h => hall i s (List.getElem?_eq_some_iff.1 h).1 h
  (first | refine GC.condD rfl (fun q0 => go ?_) (fun q0 => go ?_) | refine GC.condN rfl (fun q0 => go ?_) (fun q0 => go ?_) | refine GX.caseD rfl rfl rfl rfl rfl (fun q0 => go ?_) (fun q0 => go ?_) | refine GX.caseN rfl rfl rfl rfl rfl (fun q0 => go ?_) (fun q0 => go ?_))
  rotate_left
  · exact ⟨⟨false, rfl, fun h => by (cases h), fun hL => by have := hL.nm; omega⟩, hE⟩
  refine GX.call (few2_ret names at_ na aa nc ac _ hN3 hA3) rfl rfl rfl rfl rfl rfl ?_
  rintro _ _ ⟨⟨z, rfl, hz⟩, rfl⟩
  refine go ?_
  cases z with
  | false =>
    refine go ?_
    exact ⟨⟨false, rfl, fun h => by (cases h), fun hL => by have := hz.2 hL.few; cases this⟩, hE⟩
  | true =>
    have hF := hz.1 rfl
    refine go ?_
    (first | refine GC.condD rfl (fun q1 => go ?_) (fun q1 => go ?_) | refine GC.condN rfl (fun q1 => go ?_) (fun q1 => go ?_) | refine GX.caseD rfl rfl rfl rfl rfl (fun q1 => go ?_) (fun q1 => go ?_) | refine GX.caseN rfl rfl rfl rfl rfl (fun q1 => go ?_) (fun q1 => go ?_))
    rotate_left
    · exact ⟨⟨false, rfl, fun h => by (cases h), fun hL => by have := hL.keys; omega⟩, hE⟩
    (first | refine GC.condD rfl (fun q2 => go ?_) (fun q2 => go ?_) | refine GC.condN rfl (fun q2 => go ?_) (fun q2 => go ?_) | refine GX.caseD rfl rfl rfl rfl rfl (fun q2 => go ?_) (fun q2 => go ?_) | refine GX.caseN rfl rfl rfl rfl rfl (fun q2 => go ?_) (fun q2 => go ?_))
    rotate_left
    · exact ⟨⟨false, rfl, fun h => by (cases h), fun hL => by have := hL.key; omega⟩, hE⟩
    (first | refine GC.condD rfl (fun q3 => go ?_) (fun q3 => go ?_) | refine GC.condN rfl (fun q3 => go ?_) (fun q3 => go ?_) | refine GX.caseD rfl rfl rfl rfl rfl (fun q3 => go ?_) (fun q3 => go ?_) | refine GX.caseN rfl rfl rfl rfl rfl (fun q3 => go ?_) (fun q3 => go ?_))
    rotate_left
    · exact ⟨⟨false, rfl, fun h => by (cases h), fun hL => by have := hL.child; omega⟩, hE⟩
    (first | refine GC.condD rfl (fun q4 => go ?_) (fun q4 => go ?_) | refine GC.condN rfl (fun q4 => go ?_) (fun q4 => go ?_) | refine GX.caseD rfl rfl rfl rfl rfl (fun q4 => go ?_) (fun q4 => go ?_) | refine GX.caseN rfl rfl rfl rfl rfl (fun q4 => go ?_) (fun q4 => go ?_))
    rotate_left
    · exact ⟨⟨false, rfl, fun h => by (cases h), fun hL => by have := hL.pre; omega⟩, hE⟩
    (first | refine GC.condD rfl (fun q5 => go ?_) (fun q5 => go ?_) | refine GC.condN rfl (fun q5 => go ?_) (fun q5 => go ?_) | refine GX.caseD rfl rfl rfl rfl rfl (fun q5 => go ?_) (fun q5 => go ?_) | refine GX.caseN rfl rfl rfl rfl rfl (fun q5 => go ?_) (fun q5 => go ?_))
    rotate_left
    · exact ⟨⟨false, rfl, fun h => by (cases h), fun hL => by have := hL.tag; omega⟩, hE⟩
    exact ⟨⟨_, rfl, fun h => by
      have := of_decide_eq_true h
      exact ⟨hall', by omega, hF, by omega, by omega, by omega, by omega, by omega, by omega⟩, fun hL => decide_eq_true (by have := hL.value; omega)⟩, hE⟩
end Go.Proofs.YtfoabgljfikklaaGreatDoor.V.Ky
namespace Go.Proofs.YtfoabgljfikklaaGreatDoor.V.Ky
attribute [local irreducible] GX GO
theorem tdiv16 (n : Nat) (h : n < 256) : IntKind.u8.wrap ((n : Int).tdiv 16) = ((n / 16 : Nat) : Int) := by
  rw [wrapU8, Int.tdiv_eq_ediv_of_nonneg (by omega)]
  omega
theorem tmod16 (n : Nat) : (n : Int).tmod 16 = ((n % 16 : Nat) : Int) := by
  rw [Int.tmod_eq_emod_of_nonneg (by omega)]
  omega
end Go.Proofs.YtfoabgljfikklaaGreatDoor.V.Ky
