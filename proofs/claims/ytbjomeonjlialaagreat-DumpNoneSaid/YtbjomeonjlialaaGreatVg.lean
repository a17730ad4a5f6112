/-
  More rules for single operations: a slice literal without elements, a slice against nil. No condition: these are rules over any program.
-/
import Derived.Test.YtbjomeonjlialaaGreatVf
namespace Go.Proofs.YtbjomeonjlialaaGreat.V
section
variable {P : Program} {ops : Array Oper} {Q : Exit → Act → World → Prop} {S : World → Prop} {n : Nat}
variable {i : Nat} {p : Plan} {e : Env} {w : World} {k : Kd} {dst : Option Tmp} {ty : TypeId} {pos : String} {aft : Array Edge} {g : Option (Nat × Bool)}

/-- A slice literal with no element. -/
theorem GO.buildSlice0 [Fr] {t : TypeId} {el : TypeId} {sz by_ : Nat} [hf : SlF P t el sz by_]
    (hw : wantedE ops e ⟨dst, .buildSlice t 0 #[], ty, pos, aft, g⟩ = some true) (hd : fits n dst = true)
    (h : ∀ b w', b = w.heap.size → OwnS w' el sz (some b) (some ⟨b, 0, none⟩) 0 0 [] → Ext w w' → (lateIx ops i = false → S w → S w') ∧ GX P ops Q S n p (e.put dst (.slice (some ⟨b, 0, none⟩) 0 0)) w') : GO P ops Q S n .eff i ⟨dst, .buildSlice t 0 #[], ty, pos, aft, g⟩ p e w := by
  refine GO.run (R := fun u w' => u = .slice (some ⟨w.heap.size, 0, none⟩) 0 0 ∧ OwnS w' el sz (some w.heap.size) (some ⟨w.heap.size, 0, none⟩) 0 0 [] ∧ Ext w w') hw hd (fun a ha => ?_) (by rintro _ w' ⟨rfl, h1, h2⟩; exact h _ w' rfl h1 h2)
  obtain ⟨hu, ii, z, hi, hz, hs, _, hzs⟩ := hf.facts
  refine ⟨_, _, w.alloc (.cells #[] el), ?_, .inl rfl, rfl, ?_, Ext.alloc _ _⟩
  · have h0 : ¬ ((0 : Nat) > 2 ^ 24) := by omega
    simp only [execOp, Sem.run_bind, Instr.buildSlice, run_underlying hu, Result.andThen_ok, Go.sizeOf, typeInfo, run_program, hi, Sem.run_pure, if_neg h0, Nat.zero_mul, if_true]
    simp [Instr.fill, newRow, Array.range_zero']
  · exact OwnS.new ⟨by simp, .inr ⟨w.heap.size, 0, #[], rfl, Nat.zero_le _, heap_alloc_new w _, Nat.le_refl _, Nat.zero_le _, by simp, by simp⟩⟩

theorem run_equalIn_slcNil (d : Nat) {t el : TypeId} (hu : P.underlying t = some (.slice el)) (a : Option Addr) (n c : Nat) (w : World) : (Op.equalIn (d + 1) t (.slice a n c) (.slice none 0 0)).run P w = .ok a.isNone w := by
  cases a <;> simp [Op.equalIn, run_underlying hu]
theorem run_slcEqlNil {t el : TypeId} (hu : P.underlying t = some (.slice el)) (a : Option Addr) (n c : Nat) (w : World) : (binOp .eql t (.slice a n c) (.slice none 0 0)).run P w = .ok (.bool a.isNone) w := by
  have h := run_equalIn_slcNil (P := P) 9999 hu a n c w
  simp only [binOp, Op.equal, Op.maxDepth, Sem.run_bind, h, Result.andThen_ok]
  rfl
theorem run_slcNeqNil {t el : TypeId} (hu : P.underlying t = some (.slice el)) (a : Option Addr) (n c : Nat) (w : World) : (binOp .neq t (.slice a n c) (.slice none 0 0)).run P w = .ok (.bool a.isSome) w := by
  have h := run_equalIn_slcNil (P := P) 9999 hu a n c w
  simp only [binOp, Op.equal, Op.maxDepth, Sem.run_bind, h, Result.andThen_ok]
  cases a <;> rfl
theorem GO.slcEqlNil [Fr] {k : Kd} (hk : kOk k = true) {t t2 el : TypeId} [hu : UnF P t (.slice el)] {x y : Operand} {a : Option Addr} {m c : Nat} (hw : wantedE ops e ⟨dst, .binOp .eql t x y t2, ty, pos, aft, g⟩ = some true) (hx : ev e x = some (.slice a m c)) (hy : ev e y = some (.slice none 0 0)) (hd : fits n dst = true)
    (h : GX P ops Q S n p (e.put dst (.bool a.isNone)) w) : GO P ops Q S n k i ⟨dst, .binOp .eql t x y t2, ty, pos, aft, g⟩ p e w :=
  GO.bin hk hw hx hy hd (fun w => rfl) (fun w => run_slcEqlNil hu.out a m c w) h
theorem GO.slcNeqNil [Fr] {k : Kd} (hk : kOk k = true) {t t2 el : TypeId} [hu : UnF P t (.slice el)] {x y : Operand} {a : Option Addr} {m c : Nat} (hw : wantedE ops e ⟨dst, .binOp .neq t x y t2, ty, pos, aft, g⟩ = some true) (hx : ev e x = some (.slice a m c)) (hy : ev e y = some (.slice none 0 0)) (hd : fits n dst = true)
    (h : GX P ops Q S n p (e.put dst (.bool a.isSome)) w) : GO P ops Q S n k i ⟨dst, .binOp .neq t x y t2, ty, pos, aft, g⟩ p e w :=
  GO.bin hk hw hx hy hd (fun w => rfl) (fun w => run_slcNeqNil hu.out a m c w) h

theorem GO.toStr' [Fr] {src dT el : TypeId} [hs : UnF P src (.slice el)] [hel : UnF P el (.int .u8)] [hd' : UnF P dT .string] {x : Operand} {l : List UInt8} {a : Option Addr} {m c : Nat} (h : SlA w a (bytesV l)) (hm : l.length = m) (hw : wantedE ops e ⟨dst, .convert src dT x, ty, pos, aft, g⟩ = some true) (hx : ev e x = some (.slice a m c)) (hd : fits n dst = true)
    (hh : GX P ops Q S n p (e.put dst (str l)) w) : GO P ops Q S n .eff i ⟨dst, .convert src dT x, ty, pos, aft, g⟩ p e w := by
  subst hm; exact GO.toStr h hw hx hd hh
theorem GO.toStrR' [Fr] {src dT el : TypeId} [hs : UnF P src (.slice el)] [hel : UnF P el (.int .u8)] [hd' : UnF P dT .string] {x : Operand} {l : List UInt8} {a : Option Addr} {m c : Nat} (hS : S w) (h : ∀ w', S w' → SlA w' a (bytesV l)) (hm : l.length = m) (hw : wantedE ops e ⟨dst, .convert src dT x, ty, pos, aft, g⟩ = some true) (hx : ev e x = some (.slice a m c)) (hd : fits n dst = true)
    (hh : GX P ops Q S n p (e.put dst (str l)) w) : GO P ops Q S n .read i ⟨dst, .convert src dT x, ty, pos, aft, g⟩ p e w := by
  subst hm; exact GO.toStrR hS h hw hx hd hh
end

/-- A part of a byte slice. -/
theorem SlA.bytes {w : World} {a : Option Addr} {l : List UInt8} (h : SlA w a (bytesV l)) (lo m k : Nat) (hm : m = lo → k = 0) : SlA w (sliced' a lo m 1) (bytesV ((l.drop lo).take k)) := by
  have := h.sliced lo m 1 k hm
  simpa [bytesV, List.map_take, List.map_drop] using this
end Go.Proofs.YtbjomeonjlialaaGreat.V
