/-
  Closed facts on the program: the shapes, sizes and fields of its types, and which functions have a text of their own; printed by a program. No condition; Small lemmas for walks: numbers in their range, bits, memory facts in the form in which a walk asks them. No condition.
-/
import Derived.Test.YtbjomeonjlialaaGreatZaf
import Derived.Test.YtbjomeonjlialaaGreatProg
set_option linter.unusedVariables false
set_option linter.unusedSimpArgs false
namespace Go.Proofs.YtbjomeonjlialaaGreat.V
theorem mixed : Tryz.prog.follows .mixedOrders = true := by kernel_rfl
end Go.Proofs.YtbjomeonjlialaaGreat.V
namespace Go.Proofs.YtbjomeonjlialaaGreat.V
def InK : IntKind → Int → Prop
  | .i8, n => -128 ≤ n ∧ n ≤ 127
  | .i16, n => -32768 ≤ n ∧ n ≤ 32767
  | .i32, n => -2147483648 ≤ n ∧ n ≤ 2147483647
  | .i64, n => -9223372036854775808 ≤ n ∧ n ≤ 9223372036854775807
  | .u8, n => 0 ≤ n ∧ n ≤ 255
  | .u16, n => 0 ≤ n ∧ n ≤ 65535
  | .u32, n => 0 ≤ n ∧ n ≤ 4294967295
  | .u64, n => 0 ≤ n ∧ n ≤ 18446744073709551615
theorem wrapIn {k : IntKind} {n : Int} (h : InK k n) : k.wrap n = n := by
  cases k
  · exact IntWalk.i8_in n h
  · exact IntWalk.i16_in n h
  · exact IntWalk.i32_in n h
  · exact IntWalk.i64_in n h
  · exact IntWalk.u8_in n h
  · exact IntWalk.u16_in n h
  · exact IntWalk.u32_in n h
  · exact IntWalk.u64_in n h
theorem run_xor {P : Program} {w : World} (k : IntKind) (hs : k.signed = false) (t : TypeId) (a b : Nat) (ha : a < 2 ^ k.bits) (hb : b < 2 ^ k.bits) :
    (binOp .xor t (.int k a) (.int k b)).run P w = .ok (.int k (a ^^^ b : Nat)) w := by
  have hlt : a ^^^ b < 2 ^ k.bits := Nat.xor_lt_two_pow ha hb
  have hw : k.wrap ((a ^^^ b : Nat) : Int) = ((a ^^^ b : Nat) : Int) := by
    have h1 : ((a ^^^ b : Nat) : Int) % (2 ^ k.bits : Int) = ((a ^^^ b : Nat) : Int) := Int.emod_eq_of_lt (by omega) (by exact_mod_cast hlt)
    simp only [IntKind.wrap, hs, Bool.false_and, h1]
    rfl
  have hx : (BitVec.ofInt k.bits (a : Int) ^^^ BitVec.ofInt k.bits (b : Int)).toNat = a ^^^ b := by
    simp [Nat.mod_eq_of_lt ha, Nat.mod_eq_of_lt hb]
  simp only [binOp, Op.intBits, ne_eq, not_true_eq_false, if_false, hx, hw]
  rfl
theorem run_or {P : Program} {w : World} (k : IntKind) (hs : k.signed = false) (t : TypeId) (a b : Nat) (ha : a < 2 ^ k.bits) (hb : b < 2 ^ k.bits) :
    (binOp .or t (.int k a) (.int k b)).run P w = .ok (.int k (a ||| b : Nat)) w := by
  have hlt : a ||| b < 2 ^ k.bits := Nat.or_lt_two_pow ha hb
  have hw : k.wrap ((a ||| b : Nat) : Int) = ((a ||| b : Nat) : Int) := by
    have h1 : ((a ||| b : Nat) : Int) % (2 ^ k.bits : Int) = ((a ||| b : Nat) : Int) := Int.emod_eq_of_lt (by omega) (by exact_mod_cast hlt)
    simp only [IntKind.wrap, hs, Bool.false_and, h1]
    rfl
  have hx : (BitVec.ofInt k.bits (a : Int) ||| BitVec.ofInt k.bits (b : Int)).toNat = a ||| b := by
    simp [Nat.mod_eq_of_lt ha, Nat.mod_eq_of_lt hb]
  simp only [binOp, Op.intBits, ne_eq, not_true_eq_false, if_false, hx, hw]
  rfl
theorem run_and {P : Program} {w : World} (k : IntKind) (hs : k.signed = false) (t : TypeId) (a b : Nat) (ha : a < 2 ^ k.bits) (hb : b < 2 ^ k.bits) :
    (binOp .and t (.int k a) (.int k b)).run P w = .ok (.int k (a &&& b : Nat)) w := by
  have hlt : a &&& b < 2 ^ k.bits := Nat.and_lt_two_pow a hb
  have hw : k.wrap ((a &&& b : Nat) : Int) = ((a &&& b : Nat) : Int) := by
    have h1 : ((a &&& b : Nat) : Int) % (2 ^ k.bits : Int) = ((a &&& b : Nat) : Int) := Int.emod_eq_of_lt (by omega) (by exact_mod_cast hlt)
    simp only [IntKind.wrap, hs, Bool.false_and, h1]
    rfl
  have hx : (BitVec.ofInt k.bits (a : Int) &&& BitVec.ofInt k.bits (b : Int)).toNat = a &&& b := by
    simp [Nat.mod_eq_of_lt ha, Nat.mod_eq_of_lt hb]
  simp only [binOp, Op.intBits, ne_eq, not_true_eq_false, if_false, hx, hw]
  rfl
theorem Blk.get {w : World} {b : Nat} {l : List Value} (h : Blk w b l) {o : Nat} {l' : List Value} (hl : l.drop o = l') : At w b o l' := by
  subst hl
  intro i v hv
  have := h.at (o + i) v (by simpa using hv)
  simpa using this
theorem At.get {w : World} {b o : Nat} {l : List Value} (h : At w b o l) {k : Nat} {l' : List Value} (hl : l.drop k = l') : At w b (o + k) l' := by
  subst hl
  exact h.sub k _ fun i v hv => by simpa using hv
theorem At.one {w : World} {b o : Nat} {l : List Value} (h : At w b o l) {k : Nat} {v : Value} (hl : l[k]? = some v) : At w b (o + k) [v] := fun i u hu => by
  cases i with
  | zero => simp at hu; subst hu; simpa using h k v hl
  | succ i => cases hu
end Go.Proofs.YtbjomeonjlialaaGreat.V
