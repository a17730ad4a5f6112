/-
  The rules for single operations, for each form of code, for a call and for a return. No condition: these are rules over any program.
-/
import Derived.Test.YtfoabgljfikklaaGreatDoorWaa
set_option linter.unusedVariables false
set_option linter.unusedSimpArgs false
namespace Go.Proofs.YtfoabgljfikklaaGreatDoor.V
def kOk : Kd → Bool
  | .read => false
  | _ => true
theorem kOk_or {k : Kd} (h : kOk k = true) : k = .pure ∨ k = .eff := by cases k <;> simp_all [kOk]
class UnF (P : Program) (t : TypeId) (d : outParam TypeDesc) : Prop where
  out : P.underlying t = some d
section
variable {P : Program} {ops : Array Oper} {Q : Exit → Act → World → Prop} {S : World → Prop} {n : Nat}
variable {i : Nat} {p : Plan} {e : Env} {w : World} {k : Kd} {dst : Option Tmp} {ty : TypeId} {pos : String} {aft : Array Edge} {g : Option (Nat × Bool)}
theorem GO.move [Fr] (hk : kOk k = true) {x : Operand} {v : Value} (hw : wantedE ops e ⟨dst, .move x, ty, pos, aft, g⟩ = some true) (hx : ev e x = some v) (hd : fits n dst = true)
    (h : GX P ops Q S n p (e.put dst v) w) : GO P ops Q S n k i ⟨dst, .move x, ty, pos, aft, g⟩ p e w :=
  GO.val (kOk_or hk) hw hd (fun a ha w => by simp [execOp, ev_eq ha hx]) h
theorem GO.assign [Fr] (hk : kOk k = true) {x : Operand} {v : Value} (hw : wantedE ops e ⟨dst, .assign x, ty, pos, aft, g⟩ = some true) (hx : ev e x = some v) (hd : fits n dst = true)
    (h : GX P ops Q S n p (e.put dst v) w) : GO P ops Q S n k i ⟨dst, .assign x, ty, pos, aft, g⟩ p e w :=
  GO.val (kOk_or hk) hw hd (fun a ha w => by simp [execOp, ev_eq ha hx]) h
theorem GO.pickT [Fr] (hk : kOk k = true) {c x y : Operand} {v : Value} (hw : wantedE ops e ⟨dst, .pick c x y, ty, pos, aft, g⟩ = some true) (hc : ev e c = some (.bool true)) (hx : ev e x = some v) (hd : fits n dst = true)
    (h : GX P ops Q S n p (e.put dst v) w) : GO P ops Q S n k i ⟨dst, .pick c x y, ty, pos, aft, g⟩ p e w :=
  GO.val (kOk_or hk) hw hd (fun a ha w => by simp [execOp, ev_eq ha hx, ev_eq ha hc, asBool]) h
theorem GO.pickF [Fr] (hk : kOk k = true) {c x y : Operand} {v : Value} (hw : wantedE ops e ⟨dst, .pick c x y, ty, pos, aft, g⟩ = some true) (hc : ev e c = some (.bool false)) (hy : ev e y = some v) (hd : fits n dst = true)
    (h : GX P ops Q S n p (e.put dst v) w) : GO P ops Q S n k i ⟨dst, .pick c x y, ty, pos, aft, g⟩ p e w :=
  GO.val (kOk_or hk) hw hd (fun a ha w => by simp [execOp, ev_eq ha hy, ev_eq ha hc, asBool]) h
theorem GO.nilCheck [Fr] (hk : kOk k = true) {x : Operand} {ad : Addr} (hw : wantedE ops e ⟨dst, .nilCheck x, ty, pos, aft, g⟩ = some true) (hx : ev e x = some (.pointer (some ad))) (hd : fits n dst = true)
    (h : GX P ops Q S n p (e.put dst (.pointer (some ad))) w) : GO P ops Q S n k i ⟨dst, .nilCheck x, ty, pos, aft, g⟩ p e w :=
  GO.val (kOk_or hk) hw hd (fun a ha w => by simp [execOp, ev_eq ha hx]) h
theorem GO.nilCheckF [Fr] (hk : kOk k = true) {x : Operand} {f : FuncId} {fs cs : Array Value} (hw : wantedE ops e ⟨dst, .nilCheck x, ty, pos, aft, g⟩ = some true) (hx : ev e x = some (.func (.func f) fs cs)) (hd : fits n dst = true)
    (h : GX P ops Q S n p (e.put dst (.func (.func f) fs cs)) w) : GO P ops Q S n k i ⟨dst, .nilCheck x, ty, pos, aft, g⟩ p e w :=
  GO.val (kOk_or hk) hw hd (fun a ha w => by simp [execOp, ev_eq ha hx]) h
theorem run_fieldAt {s : TypeId} {f off size : Nat} {agg : Bool} (hf : FdF P s f off size agg) (hz : size ≠ 0) (b o : Nat) (w : World) :
    (Instr.fieldAt s (.pointer (some ⟨b, o, none⟩)) f).run P w = .ok (.pointer (some ⟨b, o + off, none⟩)) w := by
  have := hf.out
  unfold fieldB at this
  split at this
  · rename_i fs h1
    split at this
    · rename_i x h2
      split at this
      · rename_i g z h3
        simp only [Option.some.injEq, Prod.mk.injEq] at this
        obtain ⟨rfl, rfl, rfl⟩ := this
        have hs := TyF.sizeOf ⟨h3⟩ w
        simp [Instr.fieldAt, run_underlying h1, h2, Instr.sureAddr, fieldPlace, hs, hz, add_none]
      · cases this
    · cases this
  · cases this
theorem GO.fieldAddr [Fr] (hk : kOk k = true) {s : TypeId} {x : Operand} {f off size : Nat} {agg : Bool} [hf : FdF P s f off size agg] {b o : Nat} (hw : wantedE ops e ⟨dst, .fieldAddr s x f, ty, pos, aft, g⟩ = some true)
    (hx : ev e x = some (.pointer (some ⟨b, o, none⟩))) (hz : Nat.blt 0 size = true) (hd : fits n dst = true)
    (h : GX P ops Q S n p (e.put dst (.pointer (some ⟨b, o + off, none⟩))) w) : GO P ops Q S n k i ⟨dst, .fieldAddr s x f, ty, pos, aft, g⟩ p e w :=
  GO.val (kOk_or hk) hw hd (fun a ha w => by
    have hz' : size ≠ 0 := by have := hz; simp [Nat.blt] at this; omega
    simp [execOp, ev_eq ha hx, run_fieldAt hf hz']) h
theorem run_field1 {s : TypeId} {f off : Nat} (hf : FdF P s f off 1 false) {cs : Array Value} {v : Value} (hv : cs[off]? = some v) (w : World) :
    (Instr.field s (.agg cs) f).run P w = .ok v w := by
  have := hf.out
  unfold fieldB at this
  split at this
  · rename_i fs h1
    split at this
    · rename_i x h2
      split at this
      · rename_i g z h3
        simp only [Option.some.injEq, Prod.mk.injEq] at this
        obtain ⟨rfl, rfl, rfl⟩ := this
        have hs := TyF.isAgg ⟨h3⟩ w
        simp [Instr.field, run_underlying h1, h2, asAgg, part, hs, hv]
      · cases this
    · cases this
  · cases this
theorem run_fieldN {s : TypeId} {f off size : Nat} (hf : FdF P s f off size true) {cs : Array Value} (w : World) :
    (Instr.field s (.agg cs) f).run P w = .ok (.agg (cs.extract off (off + size))) w := by
  have := hf.out
  unfold fieldB at this
  split at this
  · rename_i fs h1
    split at this
    · rename_i x h2
      split at this
      · rename_i g z h3
        simp only [Option.some.injEq, Prod.mk.injEq] at this
        obtain ⟨rfl, rfl, rfl⟩ := this
        have hs := TyF.isAgg ⟨h3⟩ w
        have hz := TyF.sizeOf ⟨h3⟩ w
        simp [Instr.field, run_underlying h1, h2, asAgg, part, hs, hz]
      · cases this
    · cases this
  · cases this
theorem GO.field1 [Fr] (hk : kOk k = true) {s : TypeId} {x : Operand} {f off : Nat} [hf : FdF P s f off 1 false] {l : List Value} {v : Value} (hw : wantedE ops e ⟨dst, .field s x f, ty, pos, aft, g⟩ = some true)
    (hx : ev e x = some (.agg l.toArray)) (hv : l[off]? = some v) (hd : fits n dst = true)
    (h : GX P ops Q S n p (e.put dst v) w) : GO P ops Q S n k i ⟨dst, .field s x f, ty, pos, aft, g⟩ p e w :=
  GO.val (kOk_or hk) hw hd (fun a ha w => by simp [execOp, ev_eq ha hx, run_field1 hf (cs := l.toArray) (v := v) (by simpa using hv)]) h
theorem GO.fieldN [Fr] (hk : kOk k = true) {s : TypeId} {x : Operand} {f off size : Nat} [hf : FdF P s f off size true] {l l' : List Value} (hw : wantedE ops e ⟨dst, .field s x f, ty, pos, aft, g⟩ = some true)
    (hx : ev e x = some (.agg l.toArray)) (hl : (l.drop off).take size = l') (hd : fits n dst = true)
    (h : GX P ops Q S n p (e.put dst (.agg l'.toArray)) w) : GO P ops Q S n k i ⟨dst, .field s x f, ty, pos, aft, g⟩ p e w :=
  GO.val (kOk_or hk) hw hd (fun a ha w => by
    have : l.toArray.extract off (off + size) = l'.toArray := by
      subst hl
      apply Array.toList_inj.1
      simp [List.extract_eq_take_drop]
    simp [execOp, ev_eq ha hx, run_fieldN hf, this]) h
theorem GO.indexAddr [Fr] (hk : kOk k = true) {t el : TypeId} {sz by_ : Nat} [hf : SlF P t el sz by_] {x y : Operand} {b o len cap : Nat} {ki : IntKind} {j : Int} (hw : wantedE ops e ⟨dst, .indexAddr t x y, ty, pos, aft, g⟩ = some true)
    (hx : ev e x = some (.slice (some ⟨b, o, none⟩) len cap)) (hy : ev e y = some (.int ki j)) (h0 : 0 ≤ j) (h1 : j < len) (hd : fits n dst = true)
    (h : GX P ops Q S n p (e.put dst (.pointer (some ⟨b, o + j.toNat * sz, none⟩))) w) : GO P ops Q S n k i ⟨dst, .indexAddr t x y, ty, pos, aft, g⟩ p e w :=
  GO.val (kOk_or hk) hw hd (fun a ha w => by simp [execOp, ev_eq ha hx, ev_eq ha hy, run_indexAt_slice w t _ len cap ki j hf.undX, h0, h1, hf.sizeX, add_none]) h
theorem GO.indexStr [Fr] (hk : kOk k = true) {t : TypeId} [hu : UnF P t .string] {x y : Operand} {s : ByteArray} {u : UInt8} {ki : IntKind} {j : Int} (hw : wantedE ops e ⟨dst, .index t x y, ty, pos, aft, g⟩ = some true)
    (hx : ev e x = some (.string s)) (hy : ev e y = some (.int ki j)) (h0 : 0 ≤ j) (hv : s.data.toList[j.toNat]? = some u) (hd : fits n dst = true)
    (h : GX P ops Q S n p (e.put dst (.int .u8 u.toNat)) w) : GO P ops Q S n k i ⟨dst, .index t x y, ty, pos, aft, g⟩ p e w :=
  GO.val (kOk_or hk) hw hd (fun a ha w => by
    obtain ⟨hlt, hval⟩ := List.getElem?_eq_some_iff.1 hv
    have hlt' : j.toNat < s.size := by simpa using hlt
    have hs : s[j.toNat]? = some u := by
      rw [ByteArray.getElem?_lt' s _ hlt']
      congr 1
    simp [execOp, ev_eq ha hx, ev_eq ha hy, Instr.index, run_underlying hu.out, asIntOf, h0, hs]) h
theorem run_eqGuard_int (op : BinOp) (t : TypeId) (x y : Operand) (ki : IntKind) (a b : Int) (w : World) : (eqGuard op t x y (.int ki a) (.int ki b)).run P w = .ok () w := by
  cases op <;> rfl
theorem GO.bin [Fr] (hk : kOk k = true) {op : BinOp} {t t2 : TypeId} {x y : Operand} {u v r : Value} (hw : wantedE ops e ⟨dst, .binOp op t x y t2, ty, pos, aft, g⟩ = some true) (hx : ev e x = some u) (hy : ev e y = some v) (hd : fits n dst = true)
    (hg : ∀ w, (eqGuard op t x y u v).run P w = .ok () w) (hr : ∀ w, (binOp op t u v).run P w = .ok r w)
    (h : GX P ops Q S n p (e.put dst r) w) : GO P ops Q S n k i ⟨dst, .binOp op t x y t2, ty, pos, aft, g⟩ p e w :=
  GO.val (kOk_or hk) hw hd (fun a ha w => by simp [execOp, ev_eq ha hx, ev_eq ha hy, hg, hr]) h
section
variable {t t2 : TypeId} {x y : Operand} {ki : IntKind} {a b c : Int}
theorem GO.add [Fr] (hk : kOk k = true) (hw : wantedE ops e ⟨dst, .binOp .add t x y t2, ty, pos, aft, g⟩ = some true) (hx : ev e x = some (.int ki a)) (hy : ev e y = some (.int ki b)) (hd : fits n dst = true)
    (hr : ki.wrap (a + b) = c) (h : GX P ops Q S n p (e.put dst (.int ki c)) w) : GO P ops Q S n k i ⟨dst, .binOp .add t x y t2, ty, pos, aft, g⟩ p e w :=
  GO.bin hk hw hx hy hd (run_eqGuard_int _ _ _ _ _ _ _) (fun w => by subst hr; simp [binOp, Op.intArith]) h
theorem GO.sub [Fr] (hk : kOk k = true) (hw : wantedE ops e ⟨dst, .binOp .sub t x y t2, ty, pos, aft, g⟩ = some true) (hx : ev e x = some (.int ki a)) (hy : ev e y = some (.int ki b)) (hd : fits n dst = true)
    (hr : ki.wrap (a - b) = c) (h : GX P ops Q S n p (e.put dst (.int ki c)) w) : GO P ops Q S n k i ⟨dst, .binOp .sub t x y t2, ty, pos, aft, g⟩ p e w :=
  GO.bin hk hw hx hy hd (run_eqGuard_int _ _ _ _ _ _ _) (fun w => by subst hr; simp [binOp, Op.intArith]) h
theorem GO.mul [Fr] (hk : kOk k = true) (hw : wantedE ops e ⟨dst, .binOp .mul t x y t2, ty, pos, aft, g⟩ = some true) (hx : ev e x = some (.int ki a)) (hy : ev e y = some (.int ki b)) (hd : fits n dst = true)
    (hr : ki.wrap (a * b) = c) (h : GX P ops Q S n p (e.put dst (.int ki c)) w) : GO P ops Q S n k i ⟨dst, .binOp .mul t x y t2, ty, pos, aft, g⟩ p e w :=
  GO.bin hk hw hx hy hd (run_eqGuard_int _ _ _ _ _ _ _) (fun w => by subst hr; simp [binOp, Op.intArith]) h
theorem GO.quo [Fr] (hk : kOk k = true) (hw : wantedE ops e ⟨dst, .binOp .quo t x y t2, ty, pos, aft, g⟩ = some true) (hx : ev e x = some (.int ki a)) (hy : ev e y = some (.int ki b)) (hd : fits n dst = true)
    (h0 : b ≠ 0) (hr : ki.wrap (a.tdiv b) = c) (h : GX P ops Q S n p (e.put dst (.int ki c)) w) : GO P ops Q S n k i ⟨dst, .binOp .quo t x y t2, ty, pos, aft, g⟩ p e w :=
  GO.bin hk hw hx hy hd (run_eqGuard_int _ _ _ _ _ _ _) (fun w => by subst hr; simp [binOp, Op.intDiv, h0]) h
theorem GO.rem [Fr] (hk : kOk k = true) (hw : wantedE ops e ⟨dst, .binOp .rem t x y t2, ty, pos, aft, g⟩ = some true) (hx : ev e x = some (.int ki a)) (hy : ev e y = some (.int ki b)) (hd : fits n dst = true)
    (h0 : b ≠ 0) (hr : a.tmod b = c) (h : GX P ops Q S n p (e.put dst (.int ki c)) w) : GO P ops Q S n k i ⟨dst, .binOp .rem t x y t2, ty, pos, aft, g⟩ p e w :=
  GO.bin hk hw hx hy hd (run_eqGuard_int _ _ _ _ _ _ _) (fun w => by subst hr; simp [binOp, Op.intDiv, h0]) h
theorem GO.bits [Fr] (hk : kOk k = true) {op : BinOp} (hw : wantedE ops e ⟨dst, .binOp op t x y t2, ty, pos, aft, g⟩ = some true) (hx : ev e x = some (.int ki a)) (hy : ev e y = some (.int ki b)) (hd : fits n dst = true)
    (hr : ∀ w, (binOp op t (.int ki a) (.int ki b)).run P w = .ok (.int ki c) w) (h : GX P ops Q S n p (e.put dst (.int ki c)) w) : GO P ops Q S n k i ⟨dst, .binOp op t x y t2, ty, pos, aft, g⟩ p e w :=
  GO.bin hk hw hx hy hd (run_eqGuard_int _ _ _ _ _ _ _) hr h
theorem GO.shl [Fr] (hk : kOk k = true) {k2 : IntKind} (hw : wantedE ops e ⟨dst, .binOp .shl t x y t2, ty, pos, aft, g⟩ = some true) (hx : ev e x = some (.int ki a)) (hy : ev e y = some (.int k2 b)) (hd : fits n dst = true)
    (h0 : 0 ≤ b) (hr : ki.wrap (a * 2 ^ min b.toNat ki.bits) = c) (h : GX P ops Q S n p (e.put dst (.int ki c)) w) : GO P ops Q S n k i ⟨dst, .binOp .shl t x y t2, ty, pos, aft, g⟩ p e w :=
  GO.bin hk hw hx hy hd (fun w => rfl) (fun w => by subst hr; simp [binOp, shift_shl_any _ _ _ _ h0]) h
theorem GO.shr [Fr] (hk : kOk k = true) {k2 : IntKind} (hw : wantedE ops e ⟨dst, .binOp .shr t x y t2, ty, pos, aft, g⟩ = some true) (hx : ev e x = some (.int ki a)) (hy : ev e y = some (.int k2 b)) (hd : fits n dst = true)
    (h0 : 0 ≤ b) (hr : a / 2 ^ min b.toNat ki.bits = c) (h : GX P ops Q S n p (e.put dst (.int ki c)) w) : GO P ops Q S n k i ⟨dst, .binOp .shr t x y t2, ty, pos, aft, g⟩ p e w :=
  GO.bin hk hw hx hy hd (fun w => rfl) (fun w => by subst hr; simp [binOp, shift_shr_any _ _ _ _ h0]) h
theorem GO.lss [Fr] (hk : kOk k = true) (hw : wantedE ops e ⟨dst, .binOp .lss t x y t2, ty, pos, aft, g⟩ = some true) (hx : ev e x = some (.int ki a)) (hy : ev e y = some (.int ki b)) (hd : fits n dst = true)
    (h : GX P ops Q S n p (e.put dst (.bool (decide (a < b)))) w) : GO P ops Q S n k i ⟨dst, .binOp .lss t x y t2, ty, pos, aft, g⟩ p e w :=
  GO.bin hk hw hx hy hd (run_eqGuard_int _ _ _ _ _ _ _) (fun w => by simp [binOp, Op.intCmp]) h
theorem GO.leq [Fr] (hk : kOk k = true) (hw : wantedE ops e ⟨dst, .binOp .leq t x y t2, ty, pos, aft, g⟩ = some true) (hx : ev e x = some (.int ki a)) (hy : ev e y = some (.int ki b)) (hd : fits n dst = true)
    (h : GX P ops Q S n p (e.put dst (.bool (decide (a ≤ b)))) w) : GO P ops Q S n k i ⟨dst, .binOp .leq t x y t2, ty, pos, aft, g⟩ p e w :=
  GO.bin hk hw hx hy hd (run_eqGuard_int _ _ _ _ _ _ _) (fun w => by simp [binOp, Op.intCmp]) h
theorem GO.gtr [Fr] (hk : kOk k = true) (hw : wantedE ops e ⟨dst, .binOp .gtr t x y t2, ty, pos, aft, g⟩ = some true) (hx : ev e x = some (.int ki a)) (hy : ev e y = some (.int ki b)) (hd : fits n dst = true)
    (h : GX P ops Q S n p (e.put dst (.bool (decide (b < a)))) w) : GO P ops Q S n k i ⟨dst, .binOp .gtr t x y t2, ty, pos, aft, g⟩ p e w :=
  GO.bin hk hw hx hy hd (run_eqGuard_int _ _ _ _ _ _ _) (fun w => by simp [binOp, Op.intCmp]) h
theorem GO.geq [Fr] (hk : kOk k = true) (hw : wantedE ops e ⟨dst, .binOp .geq t x y t2, ty, pos, aft, g⟩ = some true) (hx : ev e x = some (.int ki a)) (hy : ev e y = some (.int ki b)) (hd : fits n dst = true)
    (h : GX P ops Q S n p (e.put dst (.bool (decide (b ≤ a)))) w) : GO P ops Q S n k i ⟨dst, .binOp .geq t x y t2, ty, pos, aft, g⟩ p e w :=
  GO.bin hk hw hx hy hd (run_eqGuard_int _ _ _ _ _ _ _) (fun w => by simp [binOp, Op.intCmp]) h
theorem GO.eql [Fr] (hk : kOk k = true) (hw : wantedE ops e ⟨dst, .binOp .eql t x y t2, ty, pos, aft, g⟩ = some true) (hx : ev e x = some (.int ki a)) (hy : ev e y = some (.int ki b)) (hd : fits n dst = true)
    (h : GX P ops Q S n p (e.put dst (.bool (decide (a = b)))) w) : GO P ops Q S n k i ⟨dst, .binOp .eql t x y t2, ty, pos, aft, g⟩ p e w :=
  GO.bin hk hw hx hy hd (run_eqGuard_int _ _ _ _ _ _ _) (fun w => by simp [binOp, Op.intCmp, Bool.beq_eq_decide_eq]) h
theorem GO.neq [Fr] (hk : kOk k = true) (hw : wantedE ops e ⟨dst, .binOp .neq t x y t2, ty, pos, aft, g⟩ = some true) (hx : ev e x = some (.int ki a)) (hy : ev e y = some (.int ki b)) (hd : fits n dst = true)
    (h : GX P ops Q S n p (e.put dst (.bool (decide (a ≠ b)))) w) : GO P ops Q S n k i ⟨dst, .binOp .neq t x y t2, ty, pos, aft, g⟩ p e w :=
  GO.bin hk hw hx hy hd (run_eqGuard_int _ _ _ _ _ _ _) (fun w => by
    have : (a != b) = decide (a ≠ b) := by by_cases hab : a = b <;> simp [hab]
    simp [binOp, Op.intCmp, this]) h
end
theorem GO.not [Fr] (hk : kOk k = true) {t : TypeId} {x : Operand} {b : Bool} (hw : wantedE ops e ⟨dst, .unOp .not t x, ty, pos, aft, g⟩ = some true) (hx : ev e x = some (.bool b)) (hd : fits n dst = true)
    (h : GX P ops Q S n p (e.put dst (.bool (!b))) w) : GO P ops Q S n k i ⟨dst, .unOp .not t x, ty, pos, aft, g⟩ p e w :=
  GO.val (kOk_or hk) hw hd (fun a ha w => by simp [execOp, ev_eq ha hx, Op.unary]) h
theorem GO.neg [Fr] (hk : kOk k = true) {t : TypeId} {x : Operand} {ki : IntKind} {a c : Int} (hw : wantedE ops e ⟨dst, .unOp .neg t x, ty, pos, aft, g⟩ = some true) (hx : ev e x = some (.int ki a)) (hd : fits n dst = true)
    (hr : ki.wrap (0 - a) = c) (h : GX P ops Q S n p (e.put dst (.int ki c)) w) : GO P ops Q S n k i ⟨dst, .unOp .neg t x, ty, pos, aft, g⟩ p e w :=
  GO.val (kOk_or hk) hw hd (fun a ha w => by subst hr; simp [execOp, ev_eq ha hx, Op.unary, Op.intArith]) h
theorem run_convert_ints {src dT : TypeId} {sd : TypeDesc} {kd ks : IntKind} {a : Int} (hs : P.underlying src = some sd) (hu : P.underlying dT = some (.int kd)) (w : World) :
    (convert src dT (.int ks a)).run P w = .ok (.int kd (kd.wrap a)) w := by
  simp only [convert, Sem.run_bind, run_underlying hs, run_underlying hu, Result.andThen_ok]
  cases sd <;> simp [Conv.intToInt]
theorem GO.conv [Fr] (hk : kOk k = true) {src dT : TypeId} {sd : TypeDesc} {kd ks : IntKind} [hs : UnF P src sd] [hu : UnF P dT (.int kd)] {x : Operand} {a c : Int} (hw : wantedE ops e ⟨dst, .convert src dT x, ty, pos, aft, g⟩ = some true) (hx : ev e x = some (.int ks a)) (hd : fits n dst = true)
    (hr : kd.wrap a = c) (h : GX P ops Q S n p (e.put dst (.int kd c)) w) : GO P ops Q S n k i ⟨dst, .convert src dT x, ty, pos, aft, g⟩ p e w :=
  GO.val (kOk_or hk) hw hd (fun a ha w => by subst hr; simp [execOp, ev_eq ha hx, run_convert_ints hs.out hu.out]) h
theorem GO.convStr [Fr] (hk : kOk k = true) {src dT : TypeId} [hs : UnF P src .string] [hu : UnF P dT .string] {x : Operand} {s : ByteArray} (hw : wantedE ops e ⟨dst, .convert src dT x, ty, pos, aft, g⟩ = some true) (hx : ev e x = some (.string s)) (hd : fits n dst = true)
    (h : GX P ops Q S n p (e.put dst (.string s)) w) : GO P ops Q S n k i ⟨dst, .convert src dT x, ty, pos, aft, g⟩ p e w :=
  GO.val (kOk_or hk) hw hd (fun a ha w => by simp [execOp, ev_eq ha hx, convert, run_underlying hs.out, run_underlying hu.out]) h
theorem toList_iff (a b : ByteArray) : a.toList = b.toList ↔ a = b := by
  simp only [ByteArray.toList_eq]
  constructor
  · intro h; cases a; cases b; simp_all
  · rintro rfl; rfl
theorem GO.strEql [Fr] (hk : kOk k = true) {t t2 : TypeId} {x y : Operand} {a b : ByteArray} (hw : wantedE ops e ⟨dst, .binOp .eql t x y t2, ty, pos, aft, g⟩ = some true) (hx : ev e x = some (.string a)) (hy : ev e y = some (.string b)) (hd : fits n dst = true)
    (h : GX P ops Q S n p (e.put dst (.bool (decide (a = b)))) w) : GO P ops Q S n k i ⟨dst, .binOp .eql t x y t2, ty, pos, aft, g⟩ p e w :=
  GO.bin hk hw hx hy hd (fun w => rfl) (fun w => by
    have : (a.toList == b.toList) = decide (a = b) := by
      rw [Bool.beq_eq_decide_eq]
      simp only [toList_iff]
    simp [binOp, Op.stringOp, this]) h
theorem GO.strNeq [Fr] (hk : kOk k = true) {t t2 : TypeId} {x y : Operand} {a b : ByteArray} (hw : wantedE ops e ⟨dst, .binOp .neq t x y t2, ty, pos, aft, g⟩ = some true) (hx : ev e x = some (.string a)) (hy : ev e y = some (.string b)) (hd : fits n dst = true)
    (h : GX P ops Q S n p (e.put dst (.bool (decide (a ≠ b)))) w) : GO P ops Q S n k i ⟨dst, .binOp .neq t x y t2, ty, pos, aft, g⟩ p e w :=
  GO.bin hk hw hx hy hd (fun w => rfl) (fun w => by
    have : (!(a.toList == b.toList)) = decide (a ≠ b) := by
      rw [Bool.beq_eq_decide_eq, ← decide_not]
      simp only [toList_iff, ne_eq]
    simp [binOp, Op.stringOp, this]) h
theorem GO.strAdd [Fr] (hk : kOk k = true) {t t2 : TypeId} {x y : Operand} {a b : ByteArray} (hw : wantedE ops e ⟨dst, .binOp .add t x y t2, ty, pos, aft, g⟩ = some true) (hx : ev e x = some (.string a)) (hy : ev e y = some (.string b)) (hd : fits n dst = true)
    (hl : a.size + b.size ≤ 9223372036854775807) (h : GX P ops Q S n p (e.put dst (.string (a ++ b))) w) : GO P ops Q S n k i ⟨dst, .binOp .add t x y t2, ty, pos, aft, g⟩ p e w :=
  GO.bin hk hw hx hy hd (fun w => rfl) (fun w => by
    have : ¬ (IntKind.i64.max < ((a.size + b.size : Nat) : Int)) := by simp [IntKind.max, IntKind.bits, IntKind.signed]; omega
    simp only [binOp, Op.stringOp, gt_iff_lt, this, if_false]; rfl) h
theorem GO.boolEql [Fr] (hk : kOk k = true) {t t2 : TypeId} [hu : UnF P t .bool] {x y : Operand} {a b : Bool} (hw : wantedE ops e ⟨dst, .binOp .eql t x y t2, ty, pos, aft, g⟩ = some true) (hx : ev e x = some (.bool a)) (hy : ev e y = some (.bool b)) (hd : fits n dst = true)
    (h : GX P ops Q S n p (e.put dst (.bool (a == b))) w) : GO P ops Q S n k i ⟨dst, .binOp .eql t x y t2, ty, pos, aft, g⟩ p e w :=
  GO.bin hk hw hx hy hd (fun w => rfl) (fun w => run_eql_bool w t a b hu.out) h
theorem GO.boolNeq [Fr] (hk : kOk k = true) {t t2 : TypeId} [hu : UnF P t .bool] {x y : Operand} {a b : Bool} (hw : wantedE ops e ⟨dst, .binOp .neq t x y t2, ty, pos, aft, g⟩ = some true) (hx : ev e x = some (.bool a)) (hy : ev e y = some (.bool b)) (hd : fits n dst = true)
    (h : GX P ops Q S n p (e.put dst (.bool (!(a == b)))) w) : GO P ops Q S n k i ⟨dst, .binOp .neq t x y t2, ty, pos, aft, g⟩ p e w :=
  GO.bin hk hw hx hy hd (fun w => rfl) (fun w => run_neq_bool w t a b hu.out) h
theorem undPtr {t el : TypeId} (h : P.underlying t = some (.pointer el)) : P.underlying t = some (.pointer (P.pointee t)) := by
  have : P.pointee t = el := by simp [Program.pointee, h]
  rw [this]; exact h
theorem GO.ptrEqlNil [Fr] (hk : kOk k = true) {t t2 el : TypeId} [hu : UnF P t (.pointer el)] {x y : Operand} {a : Option Addr} (hw : wantedE ops e ⟨dst, .binOp .eql t x y t2, ty, pos, aft, g⟩ = some true) (hx : ev e x = some (.pointer a)) (hy : ev e y = some (.pointer none)) (hd : fits n dst = true)
    (h : GX P ops Q S n p (e.put dst (.bool a.isNone)) w) : GO P ops Q S n k i ⟨dst, .binOp .eql t x y t2, ty, pos, aft, g⟩ p e w :=
  GO.bin hk hw hx hy hd (fun w => rfl) (fun w => by
    have := run_eql_pointer_nil (P := P) (w := w) t a (undPtr hu.out)
    simpa using this) h
theorem GO.ptrNeqNil [Fr] (hk : kOk k = true) {t t2 el : TypeId} [hu : UnF P t (.pointer el)] {x y : Operand} {a : Option Addr} (hw : wantedE ops e ⟨dst, .binOp .neq t x y t2, ty, pos, aft, g⟩ = some true) (hx : ev e x = some (.pointer a)) (hy : ev e y = some (.pointer none)) (hd : fits n dst = true)
    (h : GX P ops Q S n p (e.put dst (.bool a.isSome)) w) : GO P ops Q S n k i ⟨dst, .binOp .neq t x y t2, ty, pos, aft, g⟩ p e w :=
  GO.bin hk hw hx hy hd (fun w => rfl) (fun w => by
    have := run_neq_pointer_nil (P := P) (w := w) t a (undPtr hu.out)
    cases a <;> simpa using this) h
theorem GO.extract [Fr] (hk : kOk k = true) {x : Operand} {ix : Nat} {l : List Value} {v : Value} (hw : wantedE ops e ⟨dst, .extract x ix, ty, pos, aft, g⟩ = some true) (hx : ev e x = some (.tuple l.toArray)) (hv : l[ix]? = some v) (hd : fits n dst = true)
    (h : GX P ops Q S n p (e.put dst v) w) : GO P ops Q S n k i ⟨dst, .extract x ix, ty, pos, aft, g⟩ p e w :=
  GO.val (kOk_or hk) hw hd (fun a ha w => by simp [execOp, ev_eq ha hx, Instr.extract, hv]) h
theorem GO.makeFunc [Fr] (hk : kOk k = true) {fn : Fn} {first captured : Array Operand} {fs cs : List Value} (hw : wantedE ops e ⟨dst, .makeFunc fn first captured, ty, pos, aft, g⟩ = some true) (hx : evs e first.toList = some fs) (hy : evs e captured.toList = some cs) (hd : fits n dst = true)
    (h : GX P ops Q S n p (e.put dst (.func fn fs.toArray cs.toArray)) w) : GO P ops Q S n k i ⟨dst, .makeFunc fn first captured, ty, pos, aft, g⟩ p e w :=
  GO.val (kOk_or hk) hw hd (fun a ha w => by simp [execOp, evs_arr ha hx, evs_arr ha hy, Instr.makeFunc]) h
theorem GO.lenSlice [Fr] (hk : kOk k = true) {x : Operand} {t el : TypeId} {ad : Option Addr} {len cap : Nat} [hu : UnF P t (.slice el)] (hw : wantedE ops e ⟨dst, .call ⟨.builtin .len, #[x], #[t]⟩, ty, pos, aft, g⟩ = some true) (hx : ev e x = some (.slice ad len cap)) (hd : fits n dst = true)
    (h : GX P ops Q S n p (e.put dst (.int .i64 len)) w) : GO P ops Q S n k i ⟨dst, .call ⟨.builtin .len, #[x], #[t]⟩, ty, pos, aft, g⟩ p e w :=
  GO.val (kOk_or hk) hw hd (fun a ha w => by simp [execOp, resolve, invoke, builtin, Builtin.len_, run_underlying hu.out, ev_eq ha hx, goInt]) h
theorem GO.lenStr [Fr] (hk : kOk k = true) {x : Operand} {t : TypeId} {s : ByteArray} [hu : UnF P t .string] (hw : wantedE ops e ⟨dst, .call ⟨.builtin .len, #[x], #[t]⟩, ty, pos, aft, g⟩ = some true) (hx : ev e x = some (.string s)) (hd : fits n dst = true)
    (h : GX P ops Q S n p (e.put dst (.int .i64 s.size)) w) : GO P ops Q S n k i ⟨dst, .call ⟨.builtin .len, #[x], #[t]⟩, ty, pos, aft, g⟩ p e w :=
  GO.val (kOk_or hk) hw hd (fun a ha w => by simp [execOp, resolve, invoke, builtin, Builtin.len_, run_underlying hu.out, ev_eq ha hx, goInt]) h
theorem GO.lenArr [Fr] (hk : kOk k = true) {x : Operand} {t el : TypeId} {len : Nat} {v : Value} [hu : UnF P t (.array len el)] (hw : wantedE ops e ⟨dst, .call ⟨.builtin .len, #[x], #[t]⟩, ty, pos, aft, g⟩ = some true) (hx : ev e x = some v) (hd : fits n dst = true)
    (h : GX P ops Q S n p (e.put dst (.int .i64 len)) w) : GO P ops Q S n k i ⟨dst, .call ⟨.builtin .len, #[x], #[t]⟩, ty, pos, aft, g⟩ p e w :=
  GO.val (kOk_or hk) hw hd (fun a ha w => by simp [execOp, resolve, invoke, builtin, Builtin.len_, run_underlying hu.out, ev_eq ha hx, goInt]) h
theorem GO.min2 [Fr] (hk : kOk k = true) {x y : Operand} {ts : Array TypeId} {ki : IntKind} {a b c : Int} (hw : wantedE ops e ⟨dst, .call ⟨.builtin .min, #[x, y], ts⟩, ty, pos, aft, g⟩ = some true) (hx : ev e x = some (.int ki a)) (hy : ev e y = some (.int ki b)) (hd : fits n dst = true)
    (hr : (if b < a then b else a) = c) (h : GX P ops Q S n p (e.put dst (.int ki c)) w) : GO P ops Q S n k i ⟨dst, .call ⟨.builtin .min, #[x, y], ts⟩, ty, pos, aft, g⟩ p e w :=
  GO.val (kOk_or hk) hw hd (fun a ha w => by subst hr; simp [execOp, resolve, invoke, builtin, ev_eq ha hx, ev_eq ha hy, run_min_int2]) h
theorem GO.max2 [Fr] (hk : kOk k = true) {x y : Operand} {ts : Array TypeId} {ki : IntKind} {a b c : Int} (hw : wantedE ops e ⟨dst, .call ⟨.builtin .max, #[x, y], ts⟩, ty, pos, aft, g⟩ = some true) (hx : ev e x = some (.int ki a)) (hy : ev e y = some (.int ki b)) (hd : fits n dst = true)
    (hr : (if b > a then b else a) = c) (h : GX P ops Q S n p (e.put dst (.int ki c)) w) : GO P ops Q S n k i ⟨dst, .call ⟨.builtin .max, #[x, y], ts⟩, ty, pos, aft, g⟩ p e w :=
  GO.val (kOk_or hk) hw hd (fun a ha w => by subst hr; simp [execOp, resolve, invoke, builtin, ev_eq ha hx, ev_eq ha hy, run_max_int2]) h
end
end Go.Proofs.YtfoabgljfikklaaGreatDoor.V
