/-
  More rules for single operations: a slice literal without elements, a slice against nil. No condition: these are rules over any program; and what follows from it.
-/
import Derived.Test.YtfoabgljfikklaaGreatDoorWad
import Derived.Test.YtfoabgljfikklaaGreatDoorWae
set_option linter.unusedVariables false
set_option linter.unusedSimpArgs false
namespace Go.Proofs.YtfoabgljfikklaaGreatDoor.V
section
variable {P : Program} {ops : Array Oper} {Q : Exit → Act → World → Prop} {S : World → Prop} {n : Nat}
variable {i : Nat} {p : Plan} {e : Env} {w : World} {k : Kd} {dst : Option Tmp} {ty : TypeId} {pos : String} {aft : Array Edge} {g : Option (Nat × Bool)}
theorem run_equalIn_slcNil (d : Nat) {t el : TypeId} (hu : P.underlying t = some (.slice el)) (a : Option Addr) (n c : Nat) (w : World) : (Op.equalIn (d + 1) t (.slice a n c) (.slice none 0 0)).run P w = .ok a.isNone w := by
  cases a <;> simp [Op.equalIn, run_underlying hu]
theorem run_slcEqlNil {t el : TypeId} (hu : P.underlying t = some (.slice el)) (a : Option Addr) (n c : Nat) (w : World) : (binOp .eql t (.slice a n c) (.slice none 0 0)).run P w = .ok (.bool a.isNone) w := by
  have h := run_equalIn_slcNil (P := P) 9999 hu a n c w
  simp only [binOp, Op.equal, Op.maxDepth, Sem.run_bind, h, Result.andThen_ok]
  rfl
theorem run_slcNeqNil {t el : TypeId} (hu : P.underlying t = some (.slice el)) (a : Option Addr) (n c : Nat) (w : World) : (binOp .neq t (.slice a n c) (.slice none 0 0)).run P w = .ok (.bool a.isSome) w := by
  have h := run_equalIn_slcNil (P := P) 9999 hu a n c w
  simp only [binOp, Op.equal, Op.maxDepth, Sem.run_bind, h, Result.andThen_ok]
  cases a <;> rfl
theorem GO.slcEqlNil [Fr] {k : Kd} (hk : kOk k = true) {t t2 el : TypeId} [hu : UnF P t (.slice el)] {x y : Operand} {a : Option Addr} {m c : Nat} (hw : wantedE ops e ⟨dst, .binOp .eql t x y t2, ty, pos, aft, g⟩ = some true) (hx : ev e x = some (.slice a m c)) (hy : ev e y = some (.slice none 0 0)) (hd : fits n dst = true)
    (h : GX P ops Q S n p (e.put dst (.bool a.isNone)) w) : GO P ops Q S n k i ⟨dst, .binOp .eql t x y t2, ty, pos, aft, g⟩ p e w :=
  GO.bin hk hw hx hy hd (fun w => rfl) (fun w => run_slcEqlNil hu.out a m c w) h
theorem GO.slcNeqNil [Fr] {k : Kd} (hk : kOk k = true) {t t2 el : TypeId} [hu : UnF P t (.slice el)] {x y : Operand} {a : Option Addr} {m c : Nat} (hw : wantedE ops e ⟨dst, .binOp .neq t x y t2, ty, pos, aft, g⟩ = some true) (hx : ev e x = some (.slice a m c)) (hy : ev e y = some (.slice none 0 0)) (hd : fits n dst = true)
    (h : GX P ops Q S n p (e.put dst (.bool a.isSome)) w) : GO P ops Q S n k i ⟨dst, .binOp .neq t x y t2, ty, pos, aft, g⟩ p e w :=
  GO.bin hk hw hx hy hd (fun w => rfl) (fun w => run_slcNeqNil hu.out a m c w) h
end
theorem SlA.bytes {w : World} {a : Option Addr} {l : List UInt8} (h : SlA w a (bytesV l)) (lo m k : Nat) (hm : m = lo → k = 0) : SlA w (sliced' a lo m 1) (bytesV ((l.drop lo).take k)) := by
  have := h.sliced lo m 1 k hm
  simpa [bytesV, List.map_take, List.map_drop] using this
end Go.Proofs.YtfoabgljfikklaaGreatDoor.V
namespace Go.Proofs.YtfoabgljfikklaaGreatDoor.V
def InK : IntKind → Int → Prop
  | .i8, n => -128 ≤ n ∧ n ≤ 127
  | .i16, n => -32768 ≤ n ∧ n ≤ 32767
  | .i32, n => -2147483648 ≤ n ∧ n ≤ 2147483647
  | .i64, n => -9223372036854775808 ≤ n ∧ n ≤ 9223372036854775807
  | .u8, n => 0 ≤ n ∧ n ≤ 255
  | .u16, n => 0 ≤ n ∧ n ≤ 65535
  | .u32, n => 0 ≤ n ∧ n ≤ 4294967295
  | .u64, n => 0 ≤ n ∧ n ≤ 18446744073709551615
theorem wrapIn {k : IntKind} {n : Int} (h : InK k n) : k.wrap n = n := by
  cases k
  · exact IntWalk.i8_in n h
  · exact IntWalk.i16_in n h
  · exact IntWalk.i32_in n h
  · exact IntWalk.i64_in n h
  · exact IntWalk.u8_in n h
  · exact IntWalk.u16_in n h
  · exact IntWalk.u32_in n h
  · exact IntWalk.u64_in n h
theorem wrapU8 (n : Int) : IntKind.u8.wrap n = n % 256 := by simp [IntKind.wrap, IntKind.bits, IntKind.signed]
theorem run_xor {P : Program} {w : World} (k : IntKind) (hs : k.signed = false) (t : TypeId) (a b : Nat) (ha : a < 2 ^ k.bits) (hb : b < 2 ^ k.bits) :
    (binOp .xor t (.int k a) (.int k b)).run P w = .ok (.int k (a ^^^ b : Nat)) w := by
  have hlt : a ^^^ b < 2 ^ k.bits := Nat.xor_lt_two_pow ha hb
  have hw : k.wrap ((a ^^^ b : Nat) : Int) = ((a ^^^ b : Nat) : Int) := by
    have h1 : ((a ^^^ b : Nat) : Int) % (2 ^ k.bits : Int) = ((a ^^^ b : Nat) : Int) := Int.emod_eq_of_lt (by omega) (by exact_mod_cast hlt)
    simp only [IntKind.wrap, hs, Bool.false_and, h1]
    rfl
  have hx : (BitVec.ofInt k.bits (a : Int) ^^^ BitVec.ofInt k.bits (b : Int)).toNat = a ^^^ b := by
    simp [Nat.mod_eq_of_lt ha, Nat.mod_eq_of_lt hb]
  simp only [binOp, Op.intBits, ne_eq, not_true_eq_false, if_false, hx, hw]
  rfl
theorem run_or {P : Program} {w : World} (k : IntKind) (hs : k.signed = false) (t : TypeId) (a b : Nat) (ha : a < 2 ^ k.bits) (hb : b < 2 ^ k.bits) :
    (binOp .or t (.int k a) (.int k b)).run P w = .ok (.int k (a ||| b : Nat)) w := by
  have hlt : a ||| b < 2 ^ k.bits := Nat.or_lt_two_pow ha hb
  have hw : k.wrap ((a ||| b : Nat) : Int) = ((a ||| b : Nat) : Int) := by
    have h1 : ((a ||| b : Nat) : Int) % (2 ^ k.bits : Int) = ((a ||| b : Nat) : Int) := Int.emod_eq_of_lt (by omega) (by exact_mod_cast hlt)
    simp only [IntKind.wrap, hs, Bool.false_and, h1]
    rfl
  have hx : (BitVec.ofInt k.bits (a : Int) ||| BitVec.ofInt k.bits (b : Int)).toNat = a ||| b := by
    simp [Nat.mod_eq_of_lt ha, Nat.mod_eq_of_lt hb]
  simp only [binOp, Op.intBits, ne_eq, not_true_eq_false, if_false, hx, hw]
  rfl
theorem run_and {P : Program} {w : World} (k : IntKind) (hs : k.signed = false) (t : TypeId) (a b : Nat) (ha : a < 2 ^ k.bits) (hb : b < 2 ^ k.bits) :
    (binOp .and t (.int k a) (.int k b)).run P w = .ok (.int k (a &&& b : Nat)) w := by
  have hlt : a &&& b < 2 ^ k.bits := Nat.and_lt_two_pow a hb
  have hw : k.wrap ((a &&& b : Nat) : Int) = ((a &&& b : Nat) : Int) := by
    have h1 : ((a &&& b : Nat) : Int) % (2 ^ k.bits : Int) = ((a &&& b : Nat) : Int) := Int.emod_eq_of_lt (by omega) (by exact_mod_cast hlt)
    simp only [IntKind.wrap, hs, Bool.false_and, h1]
    rfl
  have hx : (BitVec.ofInt k.bits (a : Int) &&& BitVec.ofInt k.bits (b : Int)).toNat = a &&& b := by
    simp [Nat.mod_eq_of_lt ha, Nat.mod_eq_of_lt hb]
  simp only [binOp, Op.intBits, ne_eq, not_true_eq_false, if_false, hx, hw]
  rfl
theorem Blk.get {w : World} {b : Nat} {l : List Value} (h : Blk w b l) {o : Nat} {l' : List Value} (hl : l.drop o = l') : At w b o l' := by
  subst hl
  intro i v hv
  have := h.at (o + i) v (by simpa using hv)
  simpa using this
theorem At.get {w : World} {b o : Nat} {l : List Value} (h : At w b o l) {k : Nat} {l' : List Value} (hl : l.drop k = l') : At w b (o + k) l' := by
  subst hl
  exact h.sub k _ fun i v hv => by simpa using hv
theorem At.one {w : World} {b o : Nat} {l : List Value} (h : At w b o l) {k : Nat} {v : Value} (hl : l[k]? = some v) : At w b (o + k) [v] := fun i u hu => by
  cases i with
  | zero => simp at hu; subst hu; simpa using h k v hl
  | succ i => cases hu
end Go.Proofs.YtfoabgljfikklaaGreatDoor.V
namespace Go.Proofs.YtfoabgljfikklaaGreatDoor.V.Ky
abbrev Bs := List UInt8
def smallB (c : UInt8) : Bool := (decide (97 ≤ c.toNat) && decide (c.toNat ≤ 122)) || (decide (48 ≤ c.toNat) && decide (c.toNat ≤ 57)) || decide (c.toNat = 45)
def okName (s : Bs) : Bool := decide (1 ≤ s.length) && decide (s.length ≤ 32) && s.all smallB
def okFrom : List Bs → List Bs → Bool
  | _, [] => true
  | pre, s :: r => okName s && !pre.contains s && okFrom (pre ++ [s]) r
def okNames (l : List Bs) : Bool := okFrom [] l && decide (l.length ≤ 8)
abbrev Attr := Bs × Bs
def okAttrs (l : List Attr) : Bool := okNames (l.map (·.1)) && l.all fun a => decide (a.2.length ≤ 64)
def plainB (k : Bs) : Bool := !k.contains 63 && decide (1 ≤ k.length) && decide (k.length ≤ 250)
def keptB (c : UInt8) : Bool := smallB c || (decide (65 ≤ c.toNat) && decide (c.toNat ≤ 90)) || decide (c.toNat = 46) || decide (c.toNat = 95)
def hexD (n : Nat) : UInt8 := if n < 10 then UInt8.ofNat (48 + n) else UInt8.ofNat (55 + n)
def esc1 (c : UInt8) : Bs := if keptB c then [c] else [37, hexD (c.toNat / 16), hexD (c.toNat % 16)]
def escF (s : Bs) : Bs := s.flatMap esc1
def insF (x : Bs) (out : List Bs) : List Bs := out.takeWhile (fun y => decide (y < x)) ++ x :: out.dropWhile (fun y => decide (y < x))
def sortF (l : List Bs) : List Bs := l.foldl (fun out x => insF x out) []
def valOf (l : List Attr) (n : Bs) : Bs := match l.find? (fun a => a.1 == n) with | some a => 61 :: escF a.2 | none => []
def part (l : List Attr) (n : Bs) : Bs := n ++ valOf l n
def tailF (l : List Attr) : List Bs → Bs
  | [] => []
  | n :: r => 38 :: (part l n ++ tailF l r)
def bodyF (l : List Attr) : List Bs → Bs
  | [] => []
  | n :: r => part l n ++ tailF l r
def keyF (name : Bs) (names : List Bs) (l : List Attr) : Bs × Int :=
  if plainB name && okNames names && okAttrs l then
    let out := name ++ 63 :: bodyF l (sortF names)
    if 250 < out.length then ([], 5) else (out, 0)
  else ([], 2)
theorem insF_perm (x : Bs) (out : List Bs) : (insF x out).Perm (x :: out) := by
  unfold insF
  have h := List.takeWhile_append_dropWhile (p := fun y => decide (y < x)) (l := out)
  refine (List.perm_middle).trans ?_
  rw [h]
theorem sortF_perm_aux (l : List Bs) : ∀ out : List Bs, (l.foldl (fun out x => insF x out) out).Perm (out ++ l) := by
  induction l with
  | nil => intro out; simp
  | cons x l ih =>
    intro out
    simp only [List.foldl_cons]
    refine (ih _).trans ?_
    refine ((insF_perm x out).append_right l).trans ?_
    exact (List.perm_middle (l₁ := out) (a := x) (l₂ := l)).symm
theorem sortF_perm (l : List Bs) : (sortF l).Perm l := by
  have := sortF_perm_aux l []
  simpa [sortF] using this
def SortedB (l : List Bs) : Prop := l.Pairwise (fun x y => x ≤ y)
theorem insF_sorted (x : Bs) (out : List Bs) (h : SortedB out) : SortedB (insF x out) := by
  induction out with
  | nil => simp [insF, SortedB]
  | cons y r ih =>
    unfold SortedB at h
    have h' := List.pairwise_cons.1 h
    unfold insF
    by_cases hy : y < x
    · simp only [List.takeWhile_cons, hy, decide_true, if_true, List.dropWhile_cons, List.cons_append]
      have ihr := ih h'.2
      unfold insF SortedB at ihr
      refine List.pairwise_cons.2 ⟨fun z hz => ?_, ihr⟩
      have := (insF_perm x r).mem_iff (a := z)
      unfold insF at this
      rcases List.mem_cons.1 (this.1 hz) with rfl | hz
      · exact List.le_of_lt hy
      · exact h'.1 z hz
    · simp only [List.takeWhile_cons, hy, decide_false, if_false, List.dropWhile_cons, List.nil_append, Bool.false_eq_true]
      refine List.pairwise_cons.2 ⟨fun z hz => ?_, h⟩
      have hxy : x ≤ y := List.not_lt.1 hy
      rcases List.mem_cons.1 hz with rfl | hz
      · exact hxy
      · exact List.le_trans hxy (h'.1 z hz)
theorem sortF_sorted_aux (l : List Bs) : ∀ out : List Bs, SortedB out → SortedB (l.foldl (fun out x => insF x out) out) := by
  induction l with
  | nil => intro out h; exact h
  | cons x l ih => intro out h; exact ih _ (insF_sorted x out h)
theorem sortF_sorted (l : List Bs) : SortedB (sortF l) := sortF_sorted_aux l [] (by simp [SortedB])
theorem merge_sorted (l : List Bs) : SortedB (l.mergeSort fun x y => decide (x ≤ y)) := by
  have := List.pairwise_mergeSort (le := fun x y : Bs => decide (x ≤ y)) (fun a b c h1 h2 => by
    simp only [decide_eq_true_eq] at *
    exact List.le_trans h1 h2) (fun a b => by
    simp only [Bool.or_eq_true, decide_eq_true_eq]
    exact List.le_total a b) l
  unfold SortedB
  simpa using this
theorem sorted_eq (l : List Bs) : (l.mergeSort fun x y => decide (x ≤ y)) = sortF l := by
  have hp : (l.mergeSort fun x y => decide (x ≤ y)).Perm (sortF l) := (List.mergeSort_perm l _).trans (sortF_perm l).symm
  exact hp.eq_of_pairwise (fun a b _ _ h1 h2 => List.le_antisymm h1 h2) (merge_sorted l) (sortF_sorted l)
theorem tail_append (l : List Attr) : ∀ (a b : List Bs), tailF l (a ++ b) = tailF l a ++ tailF l b
  | [], _ => rfl
  | n :: r, b => by simp [tailF, tail_append l r b]
theorem okFrom_app : ∀ (a b pre : List Bs), okFrom pre (a ++ b) = (okFrom pre a && okFrom (pre ++ a) b)
  | [], b, pre => by simp [okFrom]
  | s :: r, b, pre => by
    simp only [List.cons_append, okFrom, okFrom_app r b, List.append_assoc, List.cons_append, List.nil_append, Bool.and_assoc]
theorem ok_step {l : List Bs} {i : Nat} (h : i < l.length) (ho : okFrom [] (l.take i) = true) (hn : okName l[i] = true) (hm : l[i] ∉ l.take i) : okFrom [] (l.take (i + 1)) = true := by
  rw [List.take_succ_eq_append_getElem h, okFrom_app]
  simp [ho, okFrom, hn, hm]
theorem ok_bad {l : List Bs} {i : Nat} (h : i < l.length) (hb : okName l[i] = false ∨ l[i] ∈ l.take i) : okNames l = false := by
  have e : okFrom [] l = false := by
    rw [← List.take_append_drop i l, okFrom_app, List.drop_eq_getElem_cons h]
    rcases hb with hb | hb
    · simp [okFrom, hb]
    · simp [okFrom, hb]
  simp [okNames, e]
theorem name_bad {s : Bs} {k : Nat} (h : k < s.length) (hb : smallB s[k] = false) : okName s = false := by
  have : s.all smallB = false := by
    rw [List.all_eq_false]
    exact ⟨s[k], List.getElem_mem h, by simp [hb]⟩
  simp [okName, this]
theorem all_take {s : Bs} {k : Nat} (h : k < s.length) (ha : (s.take k).all smallB = true) (hb : smallB s[k] = true) : (s.take (k + 1)).all smallB = true := by
  rw [List.take_succ_eq_append_getElem h]
  simp only [List.all_append, ha, Bool.true_and, List.all_cons, hb, List.all_nil]
theorem str_app (l m : List UInt8) : (⟨l.toArray⟩ : ByteArray) ++ ⟨m.toArray⟩ = ⟨(l ++ m).toArray⟩ := by
  apply ByteArray.ext
  simp
theorem str_iff (l m : List UInt8) : ((⟨l.toArray⟩ : ByteArray) = ⟨m.toArray⟩) ↔ l = m := by simp
theorem bytesLess_lt : ∀ (x y : List UInt8), Op.bytesLess x y = decide (x < y)
  | _, [] => by cases ‹List UInt8› <;> simp [Op.bytesLess]
  | [], _ :: _ => by simp [Op.bytesLess]
  | a :: x, b :: y => by
    rw [Op.bytesLess, bytesLess_lt x y, Bool.eq_iff_iff]
    simp [List.cons_lt_cons_iff]
section
variable {P : Program} {ops : Array Oper} {Q : Exit → Act → World → Prop} {S : World → Prop} {n : Nat}
variable {i : Nat} {p : Plan} {e : Env} {w : World} {k : Kd} {dst : Option Tmp} {ty : TypeId} {pos : String} {aft : Array Edge} {g : Option (Nat × Bool)}
theorem strCat [Fr] (l m : List UInt8) (hk : kOk k = true) {t t2 : TypeId} {x y : Operand} (hw : wantedE ops e ⟨dst, .binOp .add t x y t2, ty, pos, aft, g⟩ = some true) (hx : ev e x = some (str l)) (hy : ev e y = some (str m)) (hd : fits n dst = true)
    (hl : l.length + m.length ≤ 9223372036854775807) (h : GX P ops Q S n p (e.put dst (str (l ++ m))) w) : GO P ops Q S n k i ⟨dst, .binOp .add t x y t2, ty, pos, aft, g⟩ p e w :=
  GO.strAdd hk hw hx hy hd (by simpa [ByteArray.size] using hl) (by rw [str_app]; exact h)
theorem strLss [Fr] (l m : List UInt8) (hk : kOk k = true) {t t2 : TypeId} {x y : Operand} (hw : wantedE ops e ⟨dst, .binOp .lss t x y t2, ty, pos, aft, g⟩ = some true) (hx : ev e x = some (str l)) (hy : ev e y = some (str m)) (hd : fits n dst = true)
    (h : GX P ops Q S n p (e.put dst (.bool (decide (l < m)))) w) : GO P ops Q S n k i ⟨dst, .binOp .lss t x y t2, ty, pos, aft, g⟩ p e w :=
  GO.bin hk hw hx hy hd (fun w => rfl) (fun w => by
    have := bytesLess_lt l m
    simp [binOp, Op.stringOp, str, this]) h
theorem strEq [Fr] (l m : List UInt8) (hk : kOk k = true) {t t2 : TypeId} {x y : Operand} (hw : wantedE ops e ⟨dst, .binOp .eql t x y t2, ty, pos, aft, g⟩ = some true) (hx : ev e x = some (str l)) (hy : ev e y = some (str m)) (hd : fits n dst = true)
    (h : GX P ops Q S n p (e.put dst (.bool (decide (l = m)))) w) : GO P ops Q S n k i ⟨dst, .binOp .eql t x y t2, ty, pos, aft, g⟩ p e w :=
  GO.strEql hk hw hx hy hd (by rw [decide_eq_decide.2 (str_iff l m)]; exact h)
theorem strNe [Fr] (l m : List UInt8) (hk : kOk k = true) {t t2 : TypeId} {x y : Operand} (hw : wantedE ops e ⟨dst, .binOp .neq t x y t2, ty, pos, aft, g⟩ = some true) (hx : ev e x = some (str l)) (hy : ev e y = some (str m)) (hd : fits n dst = true)
    (h : GX P ops Q S n p (e.put dst (.bool (decide (l ≠ m)))) w) : GO P ops Q S n k i ⟨dst, .binOp .neq t x y t2, ty, pos, aft, g⟩ p e w :=
  GO.strNeq hk hw hx hy hd (by
    have : ((⟨l.toArray⟩ : ByteArray) ≠ ⟨m.toArray⟩) ↔ l ≠ m := not_congr (str_iff l m)
    rw [decide_eq_decide.2 this]; exact h)
end
theorem size_strL (l : List UInt8) : (⟨l.toArray⟩ : ByteArray).size = l.length := by simp [ByteArray.size]
end Go.Proofs.YtfoabgljfikklaaGreatDoor.V.Ky
namespace Go.Proofs.YtfoabgljfikklaaGreatDoor.V.Ky
attribute [local irreducible] GX GO
set_option maxHeartbeats 1000000 in
theorem lsmall_ret (ch : UInt8) (w : World) : Ret Tryz.prog 62 [byteV ch].toArray w fun v w' => v = .bool (smallB ch) ∧ w' = w := by
  have hb := UInt8.toNat_lt ch
  have fin : ∀ (v : Value) (b : Bool), v = .bool b → b = smallB ch → v = .bool (smallB ch) ∧ w = w := fun v b h1 h2 => ⟨by rw [h1, h2], rfl⟩
  refine Ret.enter Tryz.func62 rfl Tryz.ntmps62 rfl ?_
  (repeat (first | refine GX.doneD ?_ | refine GX.done ?_ | refine GQ.goNormal ?_ | refine GC.seq ?_ | refine GC.skip ?_ | refine GC.block ?_ | refine GC.exit ?_ | refine GC.ret ?_ | refine GQ.goExit ?_ | refine GQ.goRet ?_ | refine GQ.inNormal ?_ | refine GQ.inExit ?_ | refine GQ.inExitNe rfl ?_ | refine GQ.inRet ?_ | refine GQ.loopExit ?_ | refine GQ.loopRet ?_ | refine GQ.cutExit ?_ | refine GQ.cutRet ?_))
  refine GC.region (.pure 0 .done) rfl ?_
  (repeat (refine GX.pure rfl ?_; refine GO.assign rfl rfl rfl rfl ?_))
  (repeat (first | refine GX.doneD ?_ | refine GX.done ?_ | refine GQ.goNormal ?_ | refine GC.seq ?_ | refine GC.skip ?_ | refine GC.block ?_ | refine GC.exit ?_ | refine GC.ret ?_ | refine GQ.goExit ?_ | refine GQ.goRet ?_ | refine GQ.inNormal ?_ | refine GQ.inExit ?_ | refine GQ.inExitNe rfl ?_ | refine GQ.inRet ?_ | refine GQ.loopExit ?_ | refine GQ.loopRet ?_ | refine GQ.cutExit ?_ | refine GQ.cutRet ?_))
  refine GC.region (.pure 0 (.pure 1 (.pure 2 (.pure 3 (.pure 4 (.pure 5 (.pure 6 (.pure 7 (.pure 8 (.pure 9 (.pure 10 (.pure 11 (.pure 12 (.pure 13 (.pure 14 (.pure 15 (.pure 16 (.pure 17 (.pure 18 .done))))))))))))))))))) rfl ?_
  (repeat (refine GX.pure rfl ?_; first | refine GO.move rfl rfl rfl rfl ?_ | refine GO.assign rfl rfl rfl rfl ?_ | refine GO.leq rfl rfl rfl rfl rfl ?_ | refine GO.geq rfl rfl rfl rfl rfl ?_ | refine GO.eql rfl rfl rfl rfl rfl ?_ | refine GO.pickT rfl rfl rfl rfl rfl ?_ | refine GO.pickF rfl rfl rfl rfl rfl ?_ | refine GO.skip (.inl rfl) rfl rfl ?_))
  refine GX.case 5 rfl (fun h1 => ?_) (fun h1 => ?_)
  · (repeat (refine GX.pure rfl ?_; first | refine GO.move rfl rfl rfl rfl ?_ | refine GO.assign rfl rfl rfl rfl ?_ | refine GO.leq rfl rfl rfl rfl rfl ?_ | refine GO.geq rfl rfl rfl rfl rfl ?_ | refine GO.eql rfl rfl rfl rfl rfl ?_ | refine GO.pickT rfl rfl rfl rfl rfl ?_ | refine GO.pickF rfl rfl rfl rfl rfl ?_ | refine GO.skip (.inl rfl) rfl rfl ?_))
    refine GX.case 9 rfl (fun h2 => ?_) (fun h2 => ?_)
    · (repeat (first | (refine GX.pure rfl ?_; first | refine GO.move rfl rfl rfl rfl ?_ | refine GO.assign rfl rfl rfl rfl ?_ | refine GO.leq rfl rfl rfl rfl rfl ?_ | refine GO.geq rfl rfl rfl rfl rfl ?_ | refine GO.eql rfl rfl rfl rfl rfl ?_ | refine GO.pickT rfl rfl rfl rfl rfl ?_ | refine GO.pickF rfl rfl rfl rfl rfl ?_ | refine GO.skip (.inl rfl) rfl rfl ?_) | (refine GX.eff rfl ?_; refine GO.skip (.inr rfl) rfl rfl ?_) | (refine GX.read rfl ?_; refine GO.skipRead (by assumption) rfl rfl ?_)))
      (repeat (first | refine GX.doneD ?_ | refine GX.done ?_ | refine GQ.goNormal ?_ | refine GC.seq ?_ | refine GC.skip ?_ | refine GC.block ?_ | refine GC.exit ?_ | refine GC.ret ?_ | refine GQ.goExit ?_ | refine GQ.goRet ?_ | refine GQ.inNormal ?_ | refine GQ.inExit ?_ | refine GQ.inExitNe rfl ?_ | refine GQ.inRet ?_ | refine GQ.loopExit ?_ | refine GQ.loopRet ?_ | refine GQ.cutExit ?_ | refine GQ.cutRet ?_))
      refine GQ.ret1 (by first | exact .inl rfl | exact .inr rfl) rfl rfl ?_
      refine fin _ _ rfl ?_
      simp only [decide_eq_true_eq, decide_eq_false_iff_not] at h1 h2
      rw [Bool.eq_iff_iff]
      simp only [smallB, Bool.or_eq_true, Bool.and_eq_true, decide_eq_true_eq, true_iff]
      omega
    · (repeat (refine GX.pure rfl ?_; first | refine GO.move rfl rfl rfl rfl ?_ | refine GO.assign rfl rfl rfl rfl ?_ | refine GO.leq rfl rfl rfl rfl rfl ?_ | refine GO.geq rfl rfl rfl rfl rfl ?_ | refine GO.eql rfl rfl rfl rfl rfl ?_ | refine GO.pickT rfl rfl rfl rfl rfl ?_ | refine GO.pickF rfl rfl rfl rfl rfl ?_ | refine GO.skip (.inl rfl) rfl rfl ?_))
      refine GX.case 12 rfl (fun h3 => ?_) (fun h3 => ?_)
      · (repeat (refine GX.pure rfl ?_; first | refine GO.move rfl rfl rfl rfl ?_ | refine GO.assign rfl rfl rfl rfl ?_ | refine GO.leq rfl rfl rfl rfl rfl ?_ | refine GO.geq rfl rfl rfl rfl rfl ?_ | refine GO.eql rfl rfl rfl rfl rfl ?_ | refine GO.pickT rfl rfl rfl rfl rfl ?_ | refine GO.pickF rfl rfl rfl rfl rfl ?_ | refine GO.skip (.inl rfl) rfl rfl ?_))
        refine GX.case 17 rfl (fun h4 => ?_) (fun h4 => ?_)
        · (repeat (first | (refine GX.pure rfl ?_; first | refine GO.move rfl rfl rfl rfl ?_ | refine GO.assign rfl rfl rfl rfl ?_ | refine GO.leq rfl rfl rfl rfl rfl ?_ | refine GO.geq rfl rfl rfl rfl rfl ?_ | refine GO.eql rfl rfl rfl rfl rfl ?_ | refine GO.pickT rfl rfl rfl rfl rfl ?_ | refine GO.pickF rfl rfl rfl rfl rfl ?_ | refine GO.skip (.inl rfl) rfl rfl ?_) | (refine GX.eff rfl ?_; refine GO.skip (.inr rfl) rfl rfl ?_) | (refine GX.read rfl ?_; refine GO.skipRead (by assumption) rfl rfl ?_)))
          (repeat (first | refine GX.doneD ?_ | refine GX.done ?_ | refine GQ.goNormal ?_ | refine GC.seq ?_ | refine GC.skip ?_ | refine GC.block ?_ | refine GC.exit ?_ | refine GC.ret ?_ | refine GQ.goExit ?_ | refine GQ.goRet ?_ | refine GQ.inNormal ?_ | refine GQ.inExit ?_ | refine GQ.inExitNe rfl ?_ | refine GQ.inRet ?_ | refine GQ.loopExit ?_ | refine GQ.loopRet ?_ | refine GQ.cutExit ?_ | refine GQ.cutRet ?_))
          refine GQ.ret1 (by first | exact .inl rfl | exact .inr rfl) rfl rfl ?_
          refine fin _ _ rfl ?_
          simp only [decide_eq_true_eq, decide_eq_false_iff_not] at h1 h2 h3 h4
          rw [Bool.eq_iff_iff]
          simp only [smallB, Bool.or_eq_true, Bool.and_eq_true, decide_eq_true_eq, true_iff]
          omega
        · (repeat (first | (refine GX.pure rfl ?_; first | refine GO.move rfl rfl rfl rfl ?_ | refine GO.assign rfl rfl rfl rfl ?_ | refine GO.leq rfl rfl rfl rfl rfl ?_ | refine GO.geq rfl rfl rfl rfl rfl ?_ | refine GO.eql rfl rfl rfl rfl rfl ?_ | refine GO.pickT rfl rfl rfl rfl rfl ?_ | refine GO.pickF rfl rfl rfl rfl rfl ?_ | refine GO.skip (.inl rfl) rfl rfl ?_) | (refine GX.eff rfl ?_; refine GO.skip (.inr rfl) rfl rfl ?_) | (refine GX.read rfl ?_; refine GO.skipRead (by assumption) rfl rfl ?_)))
          (repeat (first | refine GX.doneD ?_ | refine GX.done ?_ | refine GQ.goNormal ?_ | refine GC.seq ?_ | refine GC.skip ?_ | refine GC.block ?_ | refine GC.exit ?_ | refine GC.ret ?_ | refine GQ.goExit ?_ | refine GQ.goRet ?_ | refine GQ.inNormal ?_ | refine GQ.inExit ?_ | refine GQ.inExitNe rfl ?_ | refine GQ.inRet ?_ | refine GQ.loopExit ?_ | refine GQ.loopRet ?_ | refine GQ.cutExit ?_ | refine GQ.cutRet ?_))
          refine GQ.ret1 (by first | exact .inl rfl | exact .inr rfl) rfl rfl ?_
          refine fin _ _ rfl ?_
          simp only [decide_eq_true_eq, decide_eq_false_iff_not] at h1 h2 h3 h4
          rw [Bool.eq_iff_iff]
          simp only [smallB, Bool.or_eq_true, Bool.and_eq_true, decide_eq_true_eq]
          omega
      · (repeat (first | (refine GX.pure rfl ?_; first | refine GO.move rfl rfl rfl rfl ?_ | refine GO.assign rfl rfl rfl rfl ?_ | refine GO.leq rfl rfl rfl rfl rfl ?_ | refine GO.geq rfl rfl rfl rfl rfl ?_ | refine GO.eql rfl rfl rfl rfl rfl ?_ | refine GO.pickT rfl rfl rfl rfl rfl ?_ | refine GO.pickF rfl rfl rfl rfl rfl ?_ | refine GO.skip (.inl rfl) rfl rfl ?_) | (refine GX.eff rfl ?_; refine GO.skip (.inr rfl) rfl rfl ?_) | (refine GX.read rfl ?_; refine GO.skipRead (by assumption) rfl rfl ?_)))
        (repeat (first | refine GX.doneD ?_ | refine GX.done ?_ | refine GQ.goNormal ?_ | refine GC.seq ?_ | refine GC.skip ?_ | refine GC.block ?_ | refine GC.exit ?_ | refine GC.ret ?_ | refine GQ.goExit ?_ | refine GQ.goRet ?_ | refine GQ.inNormal ?_ | refine GQ.inExit ?_ | refine GQ.inExitNe rfl ?_ | refine GQ.inRet ?_ | refine GQ.loopExit ?_ | refine GQ.loopRet ?_ | refine GQ.cutExit ?_ | refine GQ.cutRet ?_))
        refine GQ.ret1 (by first | exact .inl rfl | exact .inr rfl) rfl rfl ?_
        refine fin _ _ rfl ?_
        simp only [decide_eq_true_eq, decide_eq_false_iff_not] at h1 h2 h3
        rw [Bool.eq_iff_iff]
        simp only [smallB, Bool.or_eq_true, Bool.and_eq_true, decide_eq_true_eq]
        omega
  · (repeat (first | (refine GX.pure rfl ?_; first | refine GO.move rfl rfl rfl rfl ?_ | refine GO.assign rfl rfl rfl rfl ?_ | refine GO.leq rfl rfl rfl rfl rfl ?_ | refine GO.geq rfl rfl rfl rfl rfl ?_ | refine GO.eql rfl rfl rfl rfl rfl ?_ | refine GO.pickT rfl rfl rfl rfl rfl ?_ | refine GO.pickF rfl rfl rfl rfl rfl ?_ | refine GO.skip (.inl rfl) rfl rfl ?_) | (refine GX.eff rfl ?_; refine GO.skip (.inr rfl) rfl rfl ?_) | (refine GX.read rfl ?_; refine GO.skipRead (by assumption) rfl rfl ?_)))
    refine GX.case 12 rfl (fun h3 => ?_) (fun h3 => ?_)
    · (repeat (refine GX.pure rfl ?_; first | refine GO.move rfl rfl rfl rfl ?_ | refine GO.assign rfl rfl rfl rfl ?_ | refine GO.leq rfl rfl rfl rfl rfl ?_ | refine GO.geq rfl rfl rfl rfl rfl ?_ | refine GO.eql rfl rfl rfl rfl rfl ?_ | refine GO.pickT rfl rfl rfl rfl rfl ?_ | refine GO.pickF rfl rfl rfl rfl rfl ?_ | refine GO.skip (.inl rfl) rfl rfl ?_))
      refine GX.case 17 rfl (fun h4 => ?_) (fun h4 => ?_)
      · (repeat (first | (refine GX.pure rfl ?_; first | refine GO.move rfl rfl rfl rfl ?_ | refine GO.assign rfl rfl rfl rfl ?_ | refine GO.leq rfl rfl rfl rfl rfl ?_ | refine GO.geq rfl rfl rfl rfl rfl ?_ | refine GO.eql rfl rfl rfl rfl rfl ?_ | refine GO.pickT rfl rfl rfl rfl rfl ?_ | refine GO.pickF rfl rfl rfl rfl rfl ?_ | refine GO.skip (.inl rfl) rfl rfl ?_) | (refine GX.eff rfl ?_; refine GO.skip (.inr rfl) rfl rfl ?_) | (refine GX.read rfl ?_; refine GO.skipRead (by assumption) rfl rfl ?_)))
        (repeat (first | refine GX.doneD ?_ | refine GX.done ?_ | refine GQ.goNormal ?_ | refine GC.seq ?_ | refine GC.skip ?_ | refine GC.block ?_ | refine GC.exit ?_ | refine GC.ret ?_ | refine GQ.goExit ?_ | refine GQ.goRet ?_ | refine GQ.inNormal ?_ | refine GQ.inExit ?_ | refine GQ.inExitNe rfl ?_ | refine GQ.inRet ?_ | refine GQ.loopExit ?_ | refine GQ.loopRet ?_ | refine GQ.cutExit ?_ | refine GQ.cutRet ?_))
        refine GQ.ret1 (by first | exact .inl rfl | exact .inr rfl) rfl rfl ?_
        refine fin _ _ rfl ?_
        simp only [decide_eq_true_eq, decide_eq_false_iff_not] at h1 h3 h4
        rw [Bool.eq_iff_iff]
        simp only [smallB, Bool.or_eq_true, Bool.and_eq_true, decide_eq_true_eq, true_iff]
        omega
      · (repeat (first | (refine GX.pure rfl ?_; first | refine GO.move rfl rfl rfl rfl ?_ | refine GO.assign rfl rfl rfl rfl ?_ | refine GO.leq rfl rfl rfl rfl rfl ?_ | refine GO.geq rfl rfl rfl rfl rfl ?_ | refine GO.eql rfl rfl rfl rfl rfl ?_ | refine GO.pickT rfl rfl rfl rfl rfl ?_ | refine GO.pickF rfl rfl rfl rfl rfl ?_ | refine GO.skip (.inl rfl) rfl rfl ?_) | (refine GX.eff rfl ?_; refine GO.skip (.inr rfl) rfl rfl ?_) | (refine GX.read rfl ?_; refine GO.skipRead (by assumption) rfl rfl ?_)))
        (repeat (first | refine GX.doneD ?_ | refine GX.done ?_ | refine GQ.goNormal ?_ | refine GC.seq ?_ | refine GC.skip ?_ | refine GC.block ?_ | refine GC.exit ?_ | refine GC.ret ?_ | refine GQ.goExit ?_ | refine GQ.goRet ?_ | refine GQ.inNormal ?_ | refine GQ.inExit ?_ | refine GQ.inExitNe rfl ?_ | refine GQ.inRet ?_ | refine GQ.loopExit ?_ | refine GQ.loopRet ?_ | refine GQ.cutExit ?_ | refine GQ.cutRet ?_))
        refine GQ.ret1 (by first | exact .inl rfl | exact .inr rfl) rfl rfl ?_
        refine fin _ _ rfl ?_
        simp only [decide_eq_true_eq, decide_eq_false_iff_not] at h1 h3 h4
        rw [Bool.eq_iff_iff]
        simp only [smallB, Bool.or_eq_true, Bool.and_eq_true, decide_eq_true_eq]
        omega
    · (repeat (first | (refine GX.pure rfl ?_; first | refine GO.move rfl rfl rfl rfl ?_ | refine GO.assign rfl rfl rfl rfl ?_ | refine GO.leq rfl rfl rfl rfl rfl ?_ | refine GO.geq rfl rfl rfl rfl rfl ?_ | refine GO.eql rfl rfl rfl rfl rfl ?_ | refine GO.pickT rfl rfl rfl rfl rfl ?_ | refine GO.pickF rfl rfl rfl rfl rfl ?_ | refine GO.skip (.inl rfl) rfl rfl ?_) | (refine GX.eff rfl ?_; refine GO.skip (.inr rfl) rfl rfl ?_) | (refine GX.read rfl ?_; refine GO.skipRead (by assumption) rfl rfl ?_)))
      (repeat (first | refine GX.doneD ?_ | refine GX.done ?_ | refine GQ.goNormal ?_ | refine GC.seq ?_ | refine GC.skip ?_ | refine GC.block ?_ | refine GC.exit ?_ | refine GC.ret ?_ | refine GQ.goExit ?_ | refine GQ.goRet ?_ | refine GQ.inNormal ?_ | refine GQ.inExit ?_ | refine GQ.inExitNe rfl ?_ | refine GQ.inRet ?_ | refine GQ.loopExit ?_ | refine GQ.loopRet ?_ | refine GQ.cutExit ?_ | refine GQ.cutRet ?_))
      refine GQ.ret1 (by first | exact .inl rfl | exact .inr rfl) rfl rfl ?_
      refine fin _ _ rfl ?_
      simp only [decide_eq_true_eq, decide_eq_false_iff_not] at h1 h3
      rw [Bool.eq_iff_iff]
      simp only [smallB, Bool.or_eq_true, Bool.and_eq_true, decide_eq_true_eq]
      omega
set_option maxHeartbeats 1000000 in
theorem psmall_ret (ch : UInt8) (w : World) : Ret Tryz.prog 55 [byteV ch].toArray w fun v w' => v = .bool (smallB ch) ∧ w' = w := by
  have hb := UInt8.toNat_lt ch
  have fin : ∀ (v : Value) (b : Bool), v = .bool b → b = smallB ch → v = .bool (smallB ch) ∧ w = w := fun v b h1 h2 => ⟨by rw [h1, h2], rfl⟩
  refine Ret.enter Tryz.func55 rfl Tryz.ntmps55 rfl ?_
  (repeat (first | refine GX.doneD ?_ | refine GX.done ?_ | refine GQ.goNormal ?_ | refine GC.seq ?_ | refine GC.skip ?_ | refine GC.block ?_ | refine GC.exit ?_ | refine GC.ret ?_ | refine GQ.goExit ?_ | refine GQ.goRet ?_ | refine GQ.inNormal ?_ | refine GQ.inExit ?_ | refine GQ.inExitNe rfl ?_ | refine GQ.inRet ?_ | refine GQ.loopExit ?_ | refine GQ.loopRet ?_ | refine GQ.cutExit ?_ | refine GQ.cutRet ?_))
  refine GC.region (.pure 0 .done) rfl ?_
  (repeat (refine GX.pure rfl ?_; refine GO.assign rfl rfl rfl rfl ?_))
  (repeat (first | refine GX.doneD ?_ | refine GX.done ?_ | refine GQ.goNormal ?_ | refine GC.seq ?_ | refine GC.skip ?_ | refine GC.block ?_ | refine GC.exit ?_ | refine GC.ret ?_ | refine GQ.goExit ?_ | refine GQ.goRet ?_ | refine GQ.inNormal ?_ | refine GQ.inExit ?_ | refine GQ.inExitNe rfl ?_ | refine GQ.inRet ?_ | refine GQ.loopExit ?_ | refine GQ.loopRet ?_ | refine GQ.cutExit ?_ | refine GQ.cutRet ?_))
  refine GC.region (.pure 0 (.pure 1 (.pure 2 (.pure 3 (.pure 4 (.pure 5 (.pure 6 (.pure 7 (.pure 8 (.pure 9 (.pure 10 (.pure 11 (.pure 12 (.pure 13 (.pure 14 (.pure 15 (.pure 16 (.pure 17 (.pure 18 .done))))))))))))))))))) rfl ?_
  (repeat (refine GX.pure rfl ?_; first | refine GO.move rfl rfl rfl rfl ?_ | refine GO.assign rfl rfl rfl rfl ?_ | refine GO.leq rfl rfl rfl rfl rfl ?_ | refine GO.geq rfl rfl rfl rfl rfl ?_ | refine GO.eql rfl rfl rfl rfl rfl ?_ | refine GO.pickT rfl rfl rfl rfl rfl ?_ | refine GO.pickF rfl rfl rfl rfl rfl ?_ | refine GO.skip (.inl rfl) rfl rfl ?_))
  refine GX.case 5 rfl (fun h1 => ?_) (fun h1 => ?_)
  · (repeat (refine GX.pure rfl ?_; first | refine GO.move rfl rfl rfl rfl ?_ | refine GO.assign rfl rfl rfl rfl ?_ | refine GO.leq rfl rfl rfl rfl rfl ?_ | refine GO.geq rfl rfl rfl rfl rfl ?_ | refine GO.eql rfl rfl rfl rfl rfl ?_ | refine GO.pickT rfl rfl rfl rfl rfl ?_ | refine GO.pickF rfl rfl rfl rfl rfl ?_ | refine GO.skip (.inl rfl) rfl rfl ?_))
    refine GX.case 9 rfl (fun h2 => ?_) (fun h2 => ?_)
    · (repeat (first | (refine GX.pure rfl ?_; first | refine GO.move rfl rfl rfl rfl ?_ | refine GO.assign rfl rfl rfl rfl ?_ | refine GO.leq rfl rfl rfl rfl rfl ?_ | refine GO.geq rfl rfl rfl rfl rfl ?_ | refine GO.eql rfl rfl rfl rfl rfl ?_ | refine GO.pickT rfl rfl rfl rfl rfl ?_ | refine GO.pickF rfl rfl rfl rfl rfl ?_ | refine GO.skip (.inl rfl) rfl rfl ?_) | (refine GX.eff rfl ?_; refine GO.skip (.inr rfl) rfl rfl ?_) | (refine GX.read rfl ?_; refine GO.skipRead (by assumption) rfl rfl ?_)))
      (repeat (first | refine GX.doneD ?_ | refine GX.done ?_ | refine GQ.goNormal ?_ | refine GC.seq ?_ | refine GC.skip ?_ | refine GC.block ?_ | refine GC.exit ?_ | refine GC.ret ?_ | refine GQ.goExit ?_ | refine GQ.goRet ?_ | refine GQ.inNormal ?_ | refine GQ.inExit ?_ | refine GQ.inExitNe rfl ?_ | refine GQ.inRet ?_ | refine GQ.loopExit ?_ | refine GQ.loopRet ?_ | refine GQ.cutExit ?_ | refine GQ.cutRet ?_))
      refine GQ.ret1 (by first | exact .inl rfl | exact .inr rfl) rfl rfl ?_
      refine fin _ _ rfl ?_
      simp only [decide_eq_true_eq, decide_eq_false_iff_not] at h1 h2
      rw [Bool.eq_iff_iff]
      simp only [smallB, Bool.or_eq_true, Bool.and_eq_true, decide_eq_true_eq, true_iff]
      omega
    · (repeat (refine GX.pure rfl ?_; first | refine GO.move rfl rfl rfl rfl ?_ | refine GO.assign rfl rfl rfl rfl ?_ | refine GO.leq rfl rfl rfl rfl rfl ?_ | refine GO.geq rfl rfl rfl rfl rfl ?_ | refine GO.eql rfl rfl rfl rfl rfl ?_ | refine GO.pickT rfl rfl rfl rfl rfl ?_ | refine GO.pickF rfl rfl rfl rfl rfl ?_ | refine GO.skip (.inl rfl) rfl rfl ?_))
      refine GX.case 12 rfl (fun h3 => ?_) (fun h3 => ?_)
      · (repeat (refine GX.pure rfl ?_; first | refine GO.move rfl rfl rfl rfl ?_ | refine GO.assign rfl rfl rfl rfl ?_ | refine GO.leq rfl rfl rfl rfl rfl ?_ | refine GO.geq rfl rfl rfl rfl rfl ?_ | refine GO.eql rfl rfl rfl rfl rfl ?_ | refine GO.pickT rfl rfl rfl rfl rfl ?_ | refine GO.pickF rfl rfl rfl rfl rfl ?_ | refine GO.skip (.inl rfl) rfl rfl ?_))
        refine GX.case 17 rfl (fun h4 => ?_) (fun h4 => ?_)
        · (repeat (first | (refine GX.pure rfl ?_; first | refine GO.move rfl rfl rfl rfl ?_ | refine GO.assign rfl rfl rfl rfl ?_ | refine GO.leq rfl rfl rfl rfl rfl ?_ | refine GO.geq rfl rfl rfl rfl rfl ?_ | refine GO.eql rfl rfl rfl rfl rfl ?_ | refine GO.pickT rfl rfl rfl rfl rfl ?_ | refine GO.pickF rfl rfl rfl rfl rfl ?_ | refine GO.skip (.inl rfl) rfl rfl ?_) | (refine GX.eff rfl ?_; refine GO.skip (.inr rfl) rfl rfl ?_) | (refine GX.read rfl ?_; refine GO.skipRead (by assumption) rfl rfl ?_)))
          (repeat (first | refine GX.doneD ?_ | refine GX.done ?_ | refine GQ.goNormal ?_ | refine GC.seq ?_ | refine GC.skip ?_ | refine GC.block ?_ | refine GC.exit ?_ | refine GC.ret ?_ | refine GQ.goExit ?_ | refine GQ.goRet ?_ | refine GQ.inNormal ?_ | refine GQ.inExit ?_ | refine GQ.inExitNe rfl ?_ | refine GQ.inRet ?_ | refine GQ.loopExit ?_ | refine GQ.loopRet ?_ | refine GQ.cutExit ?_ | refine GQ.cutRet ?_))
          refine GQ.ret1 (by first | exact .inl rfl | exact .inr rfl) rfl rfl ?_
          refine fin _ _ rfl ?_
          simp only [decide_eq_true_eq, decide_eq_false_iff_not] at h1 h2 h3 h4
          rw [Bool.eq_iff_iff]
          simp only [smallB, Bool.or_eq_true, Bool.and_eq_true, decide_eq_true_eq, true_iff]
          omega
        · (repeat (first | (refine GX.pure rfl ?_; first | refine GO.move rfl rfl rfl rfl ?_ | refine GO.assign rfl rfl rfl rfl ?_ | refine GO.leq rfl rfl rfl rfl rfl ?_ | refine GO.geq rfl rfl rfl rfl rfl ?_ | refine GO.eql rfl rfl rfl rfl rfl ?_ | refine GO.pickT rfl rfl rfl rfl rfl ?_ | refine GO.pickF rfl rfl rfl rfl rfl ?_ | refine GO.skip (.inl rfl) rfl rfl ?_) | (refine GX.eff rfl ?_; refine GO.skip (.inr rfl) rfl rfl ?_) | (refine GX.read rfl ?_; refine GO.skipRead (by assumption) rfl rfl ?_)))
          (repeat (first | refine GX.doneD ?_ | refine GX.done ?_ | refine GQ.goNormal ?_ | refine GC.seq ?_ | refine GC.skip ?_ | refine GC.block ?_ | refine GC.exit ?_ | refine GC.ret ?_ | refine GQ.goExit ?_ | refine GQ.goRet ?_ | refine GQ.inNormal ?_ | refine GQ.inExit ?_ | refine GQ.inExitNe rfl ?_ | refine GQ.inRet ?_ | refine GQ.loopExit ?_ | refine GQ.loopRet ?_ | refine GQ.cutExit ?_ | refine GQ.cutRet ?_))
          refine GQ.ret1 (by first | exact .inl rfl | exact .inr rfl) rfl rfl ?_
          refine fin _ _ rfl ?_
          simp only [decide_eq_true_eq, decide_eq_false_iff_not] at h1 h2 h3 h4
          rw [Bool.eq_iff_iff]
          simp only [smallB, Bool.or_eq_true, Bool.and_eq_true, decide_eq_true_eq]
          omega
      · (repeat (first | (refine GX.pure rfl ?_; first | refine GO.move rfl rfl rfl rfl ?_ | refine GO.assign rfl rfl rfl rfl ?_ | refine GO.leq rfl rfl rfl rfl rfl ?_ | refine GO.geq rfl rfl rfl rfl rfl ?_ | refine GO.eql rfl rfl rfl rfl rfl ?_ | refine GO.pickT rfl rfl rfl rfl rfl ?_ | refine GO.pickF rfl rfl rfl rfl rfl ?_ | refine GO.skip (.inl rfl) rfl rfl ?_) | (refine GX.eff rfl ?_; refine GO.skip (.inr rfl) rfl rfl ?_) | (refine GX.read rfl ?_; refine GO.skipRead (by assumption) rfl rfl ?_)))
        (repeat (first | refine GX.doneD ?_ | refine GX.done ?_ | refine GQ.goNormal ?_ | refine GC.seq ?_ | refine GC.skip ?_ | refine GC.block ?_ | refine GC.exit ?_ | refine GC.ret ?_ | refine GQ.goExit ?_ | refine GQ.goRet ?_ | refine GQ.inNormal ?_ | refine GQ.inExit ?_ | refine GQ.inExitNe rfl ?_ | refine GQ.inRet ?_ | refine GQ.loopExit ?_ | refine GQ.loopRet ?_ | refine GQ.cutExit ?_ | refine GQ.cutRet ?_))
        refine GQ.ret1 (by first | exact .inl rfl | exact .inr rfl) rfl rfl ?_
        refine fin _ _ rfl ?_
        simp only [decide_eq_true_eq, decide_eq_false_iff_not] at h1 h2 h3
        rw [Bool.eq_iff_iff]
        simp only [smallB, Bool.or_eq_true, Bool.and_eq_true, decide_eq_true_eq]
        omega
  · (repeat (first | (refine GX.pure rfl ?_; first | refine GO.move rfl rfl rfl rfl ?_ | refine GO.assign rfl rfl rfl rfl ?_ | refine GO.leq rfl rfl rfl rfl rfl ?_ | refine GO.geq rfl rfl rfl rfl rfl ?_ | refine GO.eql rfl rfl rfl rfl rfl ?_ | refine GO.pickT rfl rfl rfl rfl rfl ?_ | refine GO.pickF rfl rfl rfl rfl rfl ?_ | refine GO.skip (.inl rfl) rfl rfl ?_) | (refine GX.eff rfl ?_; refine GO.skip (.inr rfl) rfl rfl ?_) | (refine GX.read rfl ?_; refine GO.skipRead (by assumption) rfl rfl ?_)))
    refine GX.case 12 rfl (fun h3 => ?_) (fun h3 => ?_)
    · (repeat (refine GX.pure rfl ?_; first | refine GO.move rfl rfl rfl rfl ?_ | refine GO.assign rfl rfl rfl rfl ?_ | refine GO.leq rfl rfl rfl rfl rfl ?_ | refine GO.geq rfl rfl rfl rfl rfl ?_ | refine GO.eql rfl rfl rfl rfl rfl ?_ | refine GO.pickT rfl rfl rfl rfl rfl ?_ | refine GO.pickF rfl rfl rfl rfl rfl ?_ | refine GO.skip (.inl rfl) rfl rfl ?_))
      refine GX.case 17 rfl (fun h4 => ?_) (fun h4 => ?_)
      · (repeat (first | (refine GX.pure rfl ?_; first | refine GO.move rfl rfl rfl rfl ?_ | refine GO.assign rfl rfl rfl rfl ?_ | refine GO.leq rfl rfl rfl rfl rfl ?_ | refine GO.geq rfl rfl rfl rfl rfl ?_ | refine GO.eql rfl rfl rfl rfl rfl ?_ | refine GO.pickT rfl rfl rfl rfl rfl ?_ | refine GO.pickF rfl rfl rfl rfl rfl ?_ | refine GO.skip (.inl rfl) rfl rfl ?_) | (refine GX.eff rfl ?_; refine GO.skip (.inr rfl) rfl rfl ?_) | (refine GX.read rfl ?_; refine GO.skipRead (by assumption) rfl rfl ?_)))
        (repeat (first | refine GX.doneD ?_ | refine GX.done ?_ | refine GQ.goNormal ?_ | refine GC.seq ?_ | refine GC.skip ?_ | refine GC.block ?_ | refine GC.exit ?_ | refine GC.ret ?_ | refine GQ.goExit ?_ | refine GQ.goRet ?_ | refine GQ.inNormal ?_ | refine GQ.inExit ?_ | refine GQ.inExitNe rfl ?_ | refine GQ.inRet ?_ | refine GQ.loopExit ?_ | refine GQ.loopRet ?_ | refine GQ.cutExit ?_ | refine GQ.cutRet ?_))
        refine GQ.ret1 (by first | exact .inl rfl | exact .inr rfl) rfl rfl ?_
        refine fin _ _ rfl ?_
        simp only [decide_eq_true_eq, decide_eq_false_iff_not] at h1 h3 h4
        rw [Bool.eq_iff_iff]
        simp only [smallB, Bool.or_eq_true, Bool.and_eq_true, decide_eq_true_eq, true_iff]
        omega
      · (repeat (first | (refine GX.pure rfl ?_; first | refine GO.move rfl rfl rfl rfl ?_ | refine GO.assign rfl rfl rfl rfl ?_ | refine GO.leq rfl rfl rfl rfl rfl ?_ | refine GO.geq rfl rfl rfl rfl rfl ?_ | refine GO.eql rfl rfl rfl rfl rfl ?_ | refine GO.pickT rfl rfl rfl rfl rfl ?_ | refine GO.pickF rfl rfl rfl rfl rfl ?_ | refine GO.skip (.inl rfl) rfl rfl ?_) | (refine GX.eff rfl ?_; refine GO.skip (.inr rfl) rfl rfl ?_) | (refine GX.read rfl ?_; refine GO.skipRead (by assumption) rfl rfl ?_)))
        (repeat (first | refine GX.doneD ?_ | refine GX.done ?_ | refine GQ.goNormal ?_ | refine GC.seq ?_ | refine GC.skip ?_ | refine GC.block ?_ | refine GC.exit ?_ | refine GC.ret ?_ | refine GQ.goExit ?_ | refine GQ.goRet ?_ | refine GQ.inNormal ?_ | refine GQ.inExit ?_ | refine GQ.inExitNe rfl ?_ | refine GQ.inRet ?_ | refine GQ.loopExit ?_ | refine GQ.loopRet ?_ | refine GQ.cutExit ?_ | refine GQ.cutRet ?_))
        refine GQ.ret1 (by first | exact .inl rfl | exact .inr rfl) rfl rfl ?_
        refine fin _ _ rfl ?_
        simp only [decide_eq_true_eq, decide_eq_false_iff_not] at h1 h3 h4
        rw [Bool.eq_iff_iff]
        simp only [smallB, Bool.or_eq_true, Bool.and_eq_true, decide_eq_true_eq]
        omega
    · (repeat (first | (refine GX.pure rfl ?_; first | refine GO.move rfl rfl rfl rfl ?_ | refine GO.assign rfl rfl rfl rfl ?_ | refine GO.leq rfl rfl rfl rfl rfl ?_ | refine GO.geq rfl rfl rfl rfl rfl ?_ | refine GO.eql rfl rfl rfl rfl rfl ?_ | refine GO.pickT rfl rfl rfl rfl rfl ?_ | refine GO.pickF rfl rfl rfl rfl rfl ?_ | refine GO.skip (.inl rfl) rfl rfl ?_) | (refine GX.eff rfl ?_; refine GO.skip (.inr rfl) rfl rfl ?_) | (refine GX.read rfl ?_; refine GO.skipRead (by assumption) rfl rfl ?_)))
      (repeat (first | refine GX.doneD ?_ | refine GX.done ?_ | refine GQ.goNormal ?_ | refine GC.seq ?_ | refine GC.skip ?_ | refine GC.block ?_ | refine GC.exit ?_ | refine GC.ret ?_ | refine GQ.goExit ?_ | refine GQ.goRet ?_ | refine GQ.inNormal ?_ | refine GQ.inExit ?_ | refine GQ.inExitNe rfl ?_ | refine GQ.inRet ?_ | refine GQ.loopExit ?_ | refine GQ.loopRet ?_ | refine GQ.cutExit ?_ | refine GQ.cutRet ?_))
      refine GQ.ret1 (by first | exact .inl rfl | exact .inr rfl) rfl rfl ?_
      refine fin _ _ rfl ?_
      simp only [decide_eq_true_eq, decide_eq_false_iff_not] at h1 h3
      rw [Bool.eq_iff_iff]
      simp only [smallB, Bool.or_eq_true, Bool.and_eq_true, decide_eq_true_eq]
      omega
theorem hex_at (x : Nat) (h : x < 16) : ([48, 49, 50, 51, 52, 53, 54, 55, 56, 57, 65, 66, 67, 68, 69, 70] : List UInt8)[x]? = some (hexD x) := by
  have : ∀ x : Fin 16, ([48, 49, 50, 51, 52, 53, 54, 55, 56, 57, 65, 66, 67, 68, 69, 70] : List UInt8)[x.val]? = some (hexD x.val) := by decide
  exact this ⟨x, h⟩
theorem esc1_len (c : UInt8) : (esc1 c).length ≤ 3 := by unfold esc1; split <;> simp
theorem escF_cons (c : UInt8) (r : Bs) : escF (c :: r) = esc1 c ++ escF r := by simp [escF]
theorem escF_app : ∀ (a b : Bs), escF (a ++ b) = escF a ++ escF b := fun a b => by unfold escF; exact List.flatMap_append
theorem escF_len : ∀ s : Bs, (escF s).length ≤ 3 * s.length
  | [] => Nat.zero_le _
  | c :: r => by
    have ih := escF_len r
    have h1 := esc1_len c
    rw [escF_cons, List.length_append]
    have : (c :: r : Bs).length = r.length + 1 := rfl
    omega
theorem escF_take {s : Bs} {k : Nat} (h : k < s.length) : escF (s.take (k + 1)) = escF (s.take k) ++ esc1 s[k] := by
  rw [List.take_succ_eq_append_getElem h, escF_app, escF_cons]
  show _ ++ (_ ++ []) = _
  rw [List.append_nil]
end Go.Proofs.YtfoabgljfikklaaGreatDoor.V.Ky
