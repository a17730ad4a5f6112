/-
  Small lemmas for walks: numbers in their range, bits, memory facts in the form in which a walk asks them. No condition.
-/
import Derived.Test.YtbjomeonjlialaaGreatFacts
import Derived.Test.YtbjomeonjlialaaGreatVg
namespace Go.Proofs.YtbjomeonjlialaaGreat.V

/-- A number that its kind holds. -/
def InK : IntKind → Int → Prop
  | .i8, n => -128 ≤ n ∧ n ≤ 127
  | .i16, n => -32768 ≤ n ∧ n ≤ 32767
  | .i32, n => -2147483648 ≤ n ∧ n ≤ 2147483647
  | .i64, n => -9223372036854775808 ≤ n ∧ n ≤ 9223372036854775807
  | .u8, n => 0 ≤ n ∧ n ≤ 255
  | .u16, n => 0 ≤ n ∧ n ≤ 65535
  | .u32, n => 0 ≤ n ∧ n ≤ 4294967295
  | .u64, n => 0 ≤ n ∧ n ≤ 18446744073709551615
theorem wrapIn {k : IntKind} {n : Int} (h : InK k n) : k.wrap n = n := by
  cases k
  · exact IntWalk.i8_in n h
  · exact IntWalk.i16_in n h
  · exact IntWalk.i32_in n h
  · exact IntWalk.i64_in n h
  · exact IntWalk.u8_in n h
  · exact IntWalk.u16_in n h
  · exact IntWalk.u32_in n h
  · exact IntWalk.u64_in n h
theorem wrapU8 (n : Int) : IntKind.u8.wrap n = n % 256 := by simp [IntKind.wrap, IntKind.bits, IntKind.signed]
theorem wrapU32 (n : Int) : IntKind.u32.wrap n = n % 4294967296 := by simp [IntKind.wrap, IntKind.bits, IntKind.signed]
theorem wrapU64 (n : Int) : IntKind.u64.wrap n = n % 18446744073709551616 := by simp [IntKind.wrap, IntKind.bits, IntKind.signed]

def two64 : Nat := 18446744073709551616
theorem shlU64 (x j m : Nat) (hm : m = j) : IntKind.u64.wrap ((x : Int) * 2 ^ m) = ((x * 2 ^ j % 18446744073709551616 : Nat) : Int) := by
  subst hm
  have h : ((x * 2 ^ m % two64 : Nat) : Int) = ((x : Int) * 2 ^ m) % (two64 : Int) := by
    rw [Int.natCast_emod, Int.natCast_mul, Int.natCast_pow]; rfl
  rw [wrapU64]
  exact h.symm
theorem bits_nat (k : IntKind) (a : Nat) (ha : a < 2 ^ k.bits) : BitVec.ofInt k.bits (a : Int) = BitVec.ofNat k.bits a := by
  simp
theorem run_xor {P : Program} {w : World} (k : IntKind) (hs : k.signed = false) (t : TypeId) (a b : Nat) (ha : a < 2 ^ k.bits) (hb : b < 2 ^ k.bits) :
    (binOp .xor t (.int k a) (.int k b)).run P w = .ok (.int k (a ^^^ b : Nat)) w := by
  have hlt : a ^^^ b < 2 ^ k.bits := Nat.xor_lt_two_pow ha hb
  have hw : k.wrap ((a ^^^ b : Nat) : Int) = ((a ^^^ b : Nat) : Int) := by
    have h1 : ((a ^^^ b : Nat) : Int) % (2 ^ k.bits : Int) = ((a ^^^ b : Nat) : Int) := Int.emod_eq_of_lt (by omega) (by exact_mod_cast hlt)
    simp only [IntKind.wrap, hs, Bool.false_and, h1]
    rfl
  have hx : (BitVec.ofInt k.bits (a : Int) ^^^ BitVec.ofInt k.bits (b : Int)).toNat = a ^^^ b := by
    simp [Nat.mod_eq_of_lt ha, Nat.mod_eq_of_lt hb]
  simp only [binOp, Op.intBits, ne_eq, not_true_eq_false, if_false, hx, hw]
  rfl
theorem run_or {P : Program} {w : World} (k : IntKind) (hs : k.signed = false) (t : TypeId) (a b : Nat) (ha : a < 2 ^ k.bits) (hb : b < 2 ^ k.bits) :
    (binOp .or t (.int k a) (.int k b)).run P w = .ok (.int k (a ||| b : Nat)) w := by
  have hlt : a ||| b < 2 ^ k.bits := Nat.or_lt_two_pow ha hb
  have hw : k.wrap ((a ||| b : Nat) : Int) = ((a ||| b : Nat) : Int) := by
    have h1 : ((a ||| b : Nat) : Int) % (2 ^ k.bits : Int) = ((a ||| b : Nat) : Int) := Int.emod_eq_of_lt (by omega) (by exact_mod_cast hlt)
    simp only [IntKind.wrap, hs, Bool.false_and, h1]
    rfl
  have hx : (BitVec.ofInt k.bits (a : Int) ||| BitVec.ofInt k.bits (b : Int)).toNat = a ||| b := by
    simp [Nat.mod_eq_of_lt ha, Nat.mod_eq_of_lt hb]
  simp only [binOp, Op.intBits, ne_eq, not_true_eq_false, if_false, hx, hw]
  rfl
theorem run_and {P : Program} {w : World} (k : IntKind) (hs : k.signed = false) (t : TypeId) (a b : Nat) (ha : a < 2 ^ k.bits) (hb : b < 2 ^ k.bits) :
    (binOp .and t (.int k a) (.int k b)).run P w = .ok (.int k (a &&& b : Nat)) w := by
  have hlt : a &&& b < 2 ^ k.bits := Nat.and_lt_two_pow a hb
  have hw : k.wrap ((a &&& b : Nat) : Int) = ((a &&& b : Nat) : Int) := by
    have h1 : ((a &&& b : Nat) : Int) % (2 ^ k.bits : Int) = ((a &&& b : Nat) : Int) := Int.emod_eq_of_lt (by omega) (by exact_mod_cast hlt)
    simp only [IntKind.wrap, hs, Bool.false_and, h1]
    rfl
  have hx : (BitVec.ofInt k.bits (a : Int) &&& BitVec.ofInt k.bits (b : Int)).toNat = a &&& b := by
    simp [Nat.mod_eq_of_lt ha, Nat.mod_eq_of_lt hb]
  simp only [binOp, Op.intBits, ne_eq, not_true_eq_false, if_false, hx, hw]
  rfl

/-- The cells from o on of a block that is known whole. -/
theorem Blk.get {w : World} {b : Nat} {l : List Value} (h : Blk w b l) {o : Nat} {l' : List Value} (hl : l.drop o = l') : At w b o l' := by
  subst hl
  intro i v hv
  have := h.at (o + i) v (by simpa using hv)
  simpa using this
theorem At.get {w : World} {b o : Nat} {l : List Value} (h : At w b o l) {k : Nat} {l' : List Value} (hl : l.drop k = l') : At w b (o + k) l' := by
  subst hl
  exact h.sub k _ fun i v hv => by simpa using hv
/-- One cell, by its index. -/
theorem At.one {w : World} {b o : Nat} {l : List Value} (h : At w b o l) {k : Nat} {v : Value} (hl : l[k]? = some v) : At w b (o + k) [v] := fun i u hu => by
  cases i with
  | zero => simp at hu; subst hu; simpa using h k v hl
  | succ i => cases hu
theorem bytes_get {l : List UInt8} {k : Nat} (h : k < l.length) : (bytesV l)[k]? = some (byteV l[k]) := by simp [bytesV, h]
end Go.Proofs.YtbjomeonjlialaaGreat.V
