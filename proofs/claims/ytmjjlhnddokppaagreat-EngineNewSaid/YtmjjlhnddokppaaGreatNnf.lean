/-
  A key is not found in a table that has no key; the cell at which it is looked for first hangs on the seed and the key alone. No condition: the table's cells are as the theorem says.
-/
import Derived.Test.YtmjjlhnddokppaaGreatFg
import Derived.Test.YtmjjlhnddokppaaGreatWk
namespace Go.Proofs.YtmjjlhnddokppaaGreat.V
attribute [local irreducible] GX GO

/-- The hash, as numbers. -/
def stepF (h b : Nat) : Nat := ((31 * h % 18446744073709551616 + b) % 18446744073709551616 + 1) % 18446744073709551616
def foldF (n : Nat) (l : List UInt8) : Nat := l.foldl (fun h b => stepF h b.toNat) n
def mixA (n : Nat) : Nat := n ^^^ (n * 2 ^ 13 % 18446744073709551616)
def mixB (n : Nat) : Nat := n ^^^ (n / 2 ^ 7)
def mixC (n : Nat) : Nat := n ^^^ (n * 2 ^ 17 % 18446744073709551616)
def sumF (n : Nat) (l : List UInt8) : Nat := mixC (mixB (mixA (foldF n l)))
theorem stepF_lt (h b : Nat) : stepF h b < 18446744073709551616 := Nat.mod_lt _ (by decide)
theorem foldF_lt : ∀ (l : List UInt8) (n : Nat), n < 18446744073709551616 → foldF n l < 18446744073709551616
  | [], _, h => h
  | b :: l, n, _ => foldF_lt l _ (stepF_lt n b.toNat)
theorem mixA_lt {n : Nat} (h : n < 18446744073709551616) : mixA n < 18446744073709551616 := Nat.xor_lt_two_pow (n := 64) h (by omega)
theorem mixB_lt {n : Nat} (h : n < 18446744073709551616) : mixB n < 18446744073709551616 := Nat.xor_lt_two_pow (n := 64) h (by omega)
theorem mixC_lt {n : Nat} (h : n < 18446744073709551616) : mixC n < 18446744073709551616 := Nat.xor_lt_two_pow (n := 64) h (by omega)
theorem sumF_lt {n : Nat} (h : n < 18446744073709551616) (l : List UInt8) : sumF n l < 18446744073709551616 := mixC_lt (mixB_lt (mixA_lt (foldF_lt l n h)))

theorem wrap_u64 (n : Nat) : IntKind.u64.wrap (n : Int) = ((n % 18446744073709551616 : Nat) : Int) := by
  simp [IntKind.wrap, IntKind.signed, IntKind.bits]
theorem wrapU {k : IntKind} (hs : k.signed = false) {m : Nat} (h : m < 2 ^ k.bits) : k.wrap (m : Int) = (m : Int) := by
  have h1 : (m : Int) % (2 ^ k.bits : Int) = (m : Int) := Int.emod_eq_of_lt (by omega) (by exact_mod_cast h)
  simp only [IntKind.wrap, h1, hs, Bool.false_and]
  rfl
theorem run_xorU {P : Program} {w : World} (k : IntKind) (hs : k.signed = false) (t : TypeId) (a b : Nat) (ha : a < 2 ^ k.bits) (hb : b < 2 ^ k.bits) :
    (binOp .xor t (.int k a) (.int k b)).run P w = .ok (.int k (a ^^^ b : Nat)) w := by
  have x3 : (BitVec.ofInt k.bits (a : Int) ^^^ BitVec.ofInt k.bits (b : Int)).toNat = a ^^^ b := by
    simp [Nat.mod_eq_of_lt ha, Nat.mod_eq_of_lt hb]
  simp only [binOp, Op.intBits, ne_eq, not_true_eq_false, if_false, x3, wrapU hs (Nat.xor_lt_two_pow ha hb)]; rfl
theorem run_andU {P : Program} {w : World} (k : IntKind) (hs : k.signed = false) (t : TypeId) (a b : Nat) (ha : a < 2 ^ k.bits) (hb : b < 2 ^ k.bits) :
    (binOp .and t (.int k a) (.int k b)).run P w = .ok (.int k (a &&& b : Nat)) w := by
  have x3 : (BitVec.ofInt k.bits (a : Int) &&& BitVec.ofInt k.bits (b : Int)).toNat = a &&& b := by
    simp [Nat.mod_eq_of_lt ha, Nat.mod_eq_of_lt hb]
  simp only [binOp, Op.intBits, ne_eq, not_true_eq_false, if_false, x3, wrapU hs (Nat.and_lt_two_pow a hb)]; rfl
theorem run_xor64 {P : Program} {w : World} (t : TypeId) (a b : Nat) (ha : a < 18446744073709551616) (hb : b < 18446744073709551616) :
    (binOp .xor t (.int .u64 a) (.int .u64 b)).run P w = .ok (.int .u64 (a ^^^ b : Nat)) w := run_xorU .u64 rfl t a b ha hb
theorem run_and64 {P : Program} {w : World} (t : TypeId) (a b : Nat) (ha : a < 18446744073709551616) (hb : b < 18446744073709551616) :
    (binOp .and t (.int .u64 a) (.int .u64 b)).run P w = .ok (.int .u64 (a &&& b : Nat)) w := run_andU .u64 rfl t a b ha hb

theorem mix_ret (n : Nat) (hn : n < 18446744073709551616) (w : World) : Ret Tryz.prog 458 [.int .u64 n].toArray w fun v w' => v = .int .u64 (mixC (mixB (mixA n)) : Nat) ∧ Ext w w' := by
  
  refine Ret.enter Tryz.func458 rfl Tryz.ntmps458 rfl ?_
  (repeat (first | refine GX.doneD ?_ | refine GX.done ?_ | refine GQ.goNormal ?_ | refine GC.seq ?_ | refine GC.skip ?_ | refine GC.block ?_ | refine GC.exit ?_ | refine GC.ret ?_ | refine GQ.goExit ?_ | refine GQ.goRet ?_ | refine GQ.inNormal ?_ | refine GQ.inExit ?_ | refine GQ.inExitNe rfl ?_ | refine GQ.inRet ?_ | refine GQ.loopExit ?_ | refine GQ.loopRet ?_ | refine GQ.cutExit ?_ | refine GQ.cutRet ?_))
  refine GC.region (.pure 0 .done) rfl ?_
  (repeat (refine GX.pure rfl ?_; refine GO.assign rfl rfl rfl rfl ?_))
  (repeat (first | refine GX.doneD ?_ | refine GX.done ?_ | refine GQ.goNormal ?_ | refine GC.seq ?_ | refine GC.skip ?_ | refine GC.block ?_ | refine GC.exit ?_ | refine GC.ret ?_ | refine GQ.goExit ?_ | refine GQ.goRet ?_ | refine GQ.inNormal ?_ | refine GQ.inExit ?_ | refine GQ.inExitNe rfl ?_ | refine GQ.inRet ?_ | refine GQ.loopExit ?_ | refine GQ.loopRet ?_ | refine GQ.cutExit ?_ | refine GQ.cutRet ?_))
  refine GC.region (.pure 0 (.pure 1 (.pure 2 (.pure 3 (.pure 4 .done))))) rfl ?_
  (repeat (refine GX.pure rfl ?_; first | refine GO.move rfl rfl rfl rfl ?_ | refine GO.assign rfl rfl rfl rfl ?_))
  refine GX.pure rfl (GO.shl rfl rfl rfl rfl rfl (by decide) (wrap_u64 (n * 2 ^ 13)) ?_)
  refine GX.pure rfl (GO.bits rfl rfl rfl rfl rfl (fun w => run_xor64 _ n (n * 2 ^ 13 % 18446744073709551616) hn (by omega)) ?_)
  obtain ⟨n1, hn1⟩ : ∃ n1, n1 = mixA n := ⟨_, rfl⟩
  rw [← hn1]
  rw [show n ^^^ (n * 2 ^ 13 % 18446744073709551616) = n1 from hn1.symm]
  have hb1 : n1 < 18446744073709551616 := by rw [hn1]; exact mixA_lt hn
  (repeat (refine GX.pure rfl ?_; first | refine GO.move rfl rfl rfl rfl ?_ | refine GO.assign rfl rfl rfl rfl ?_))
  (repeat (first | refine GX.doneD ?_ | refine GX.done ?_ | refine GQ.goNormal ?_ | refine GC.seq ?_ | refine GC.skip ?_ | refine GC.block ?_ | refine GC.exit ?_ | refine GC.ret ?_ | refine GQ.goExit ?_ | refine GQ.goRet ?_ | refine GQ.inNormal ?_ | refine GQ.inExit ?_ | refine GQ.inExitNe rfl ?_ | refine GQ.inRet ?_ | refine GQ.loopExit ?_ | refine GQ.loopRet ?_ | refine GQ.cutExit ?_ | refine GQ.cutRet ?_))
  refine GC.region (.pure 0 (.pure 1 (.pure 2 (.pure 3 (.pure 4 .done))))) rfl ?_
  (repeat (refine GX.pure rfl ?_; first | refine GO.move rfl rfl rfl rfl ?_ | refine GO.assign rfl rfl rfl rfl ?_))
  refine GX.pure rfl (GO.shr rfl rfl rfl rfl rfl (by decide) (show (n1 : Int) / 2 ^ min (7 : Int).toNat IntKind.u64.bits = ((n1 / 2 ^ 7 : Nat) : Int) by simp [IntKind.bits]) ?_)
  refine GX.pure rfl (GO.bits rfl rfl rfl rfl rfl (fun w => run_xor64 _ n1 (n1 / 2 ^ 7) hb1 (by omega)) ?_)
  obtain ⟨n2, hn2⟩ : ∃ n2, n2 = mixB n1 := ⟨_, rfl⟩
  rw [← hn2]
  rw [show n1 ^^^ (n1 / 2 ^ 7) = n2 from hn2.symm]
  have hb2 : n2 < 18446744073709551616 := by rw [hn2]; exact mixB_lt hb1
  (repeat (refine GX.pure rfl ?_; first | refine GO.move rfl rfl rfl rfl ?_ | refine GO.assign rfl rfl rfl rfl ?_))
  (repeat (first | refine GX.doneD ?_ | refine GX.done ?_ | refine GQ.goNormal ?_ | refine GC.seq ?_ | refine GC.skip ?_ | refine GC.block ?_ | refine GC.exit ?_ | refine GC.ret ?_ | refine GQ.goExit ?_ | refine GQ.goRet ?_ | refine GQ.inNormal ?_ | refine GQ.inExit ?_ | refine GQ.inExitNe rfl ?_ | refine GQ.inRet ?_ | refine GQ.loopExit ?_ | refine GQ.loopRet ?_ | refine GQ.cutExit ?_ | refine GQ.cutRet ?_))
  refine GC.region (.pure 0 (.pure 1 (.pure 2 (.pure 3 (.pure 4 .done))))) rfl ?_
  (repeat (refine GX.pure rfl ?_; first | refine GO.move rfl rfl rfl rfl ?_ | refine GO.assign rfl rfl rfl rfl ?_))
  refine GX.pure rfl (GO.shl rfl rfl rfl rfl rfl (by decide) (wrap_u64 (n2 * 2 ^ 17)) ?_)
  refine GX.pure rfl (GO.bits rfl rfl rfl rfl rfl (fun w => run_xor64 _ n2 (n2 * 2 ^ 17 % 18446744073709551616) hb2 (by omega)) ?_)
  (repeat (refine GX.pure rfl ?_; first | refine GO.move rfl rfl rfl rfl ?_ | refine GO.assign rfl rfl rfl rfl ?_))
  (repeat (first | refine GX.doneD ?_ | refine GX.done ?_ | refine GQ.goNormal ?_ | refine GC.seq ?_ | refine GC.skip ?_ | refine GC.block ?_ | refine GC.exit ?_ | refine GC.ret ?_ | refine GQ.goExit ?_ | refine GQ.goRet ?_ | refine GQ.inNormal ?_ | refine GQ.inExit ?_ | refine GQ.inExitNe rfl ?_ | refine GQ.inRet ?_ | refine GQ.loopExit ?_ | refine GQ.loopRet ?_ | refine GQ.cutExit ?_ | refine GQ.cutRet ?_))
  refine GC.region (.pure 0 (.pure 1 .done)) rfl ?_
  (repeat (refine GX.pure rfl ?_; first | refine GO.move rfl rfl rfl rfl ?_ | refine GO.assign rfl rfl rfl rfl ?_))
  (repeat (first | refine GX.doneD ?_ | refine GX.done ?_ | refine GQ.goNormal ?_ | refine GC.seq ?_ | refine GC.skip ?_ | refine GC.block ?_ | refine GC.exit ?_ | refine GC.ret ?_ | refine GQ.goExit ?_ | refine GQ.goRet ?_ | refine GQ.inNormal ?_ | refine GQ.inExit ?_ | refine GQ.inExitNe rfl ?_ | refine GQ.inRet ?_ | refine GQ.loopExit ?_ | refine GQ.loopRet ?_ | refine GQ.cutExit ?_ | refine GQ.cutRet ?_))
  refine GQ.ret1 (by first | exact .inl rfl | exact .inr rfl) rfl rfl ?_
  exact ⟨rfl, Mod.refl _⟩

theorem fold_ret (n : Nat) (hn : n < 18446744073709551616) (l : List UInt8) (hl : l.length ≤ 1000000) (w : World) : Ret Tryz.prog 459 [.int .u64 n, str l].toArray w fun v w' => v = .int .u64 (foldF n l : Nat) ∧ Ext w w' := by
  
  refine Ret.enter Tryz.func459 rfl Tryz.ntmps459 rfl ?_
  (repeat (first | refine GX.doneD ?_ | refine GX.done ?_ | refine GQ.goNormal ?_ | refine GC.seq ?_ | refine GC.skip ?_ | refine GC.block ?_ | refine GC.exit ?_ | refine GC.ret ?_ | refine GQ.goExit ?_ | refine GQ.goRet ?_ | refine GQ.inNormal ?_ | refine GQ.inExit ?_ | refine GQ.inExitNe rfl ?_ | refine GQ.inRet ?_ | refine GQ.loopExit ?_ | refine GQ.loopRet ?_ | refine GQ.cutExit ?_ | refine GQ.cutRet ?_))
  refine GC.region (.pure 0 .done) rfl ?_
  (repeat (refine GX.pure rfl ?_; refine GO.assign rfl rfl rfl rfl ?_))
  (repeat (first | refine GX.doneD ?_ | refine GX.done ?_ | refine GQ.goNormal ?_ | refine GC.seq ?_ | refine GC.skip ?_ | refine GC.block ?_ | refine GC.exit ?_ | refine GC.ret ?_ | refine GQ.goExit ?_ | refine GQ.goRet ?_ | refine GQ.inNormal ?_ | refine GQ.inExit ?_ | refine GQ.inExitNe rfl ?_ | refine GQ.inRet ?_ | refine GQ.loopExit ?_ | refine GQ.loopRet ?_ | refine GQ.cutExit ?_ | refine GQ.cutRet ?_))
  refine GC.region (.pure 0 (.pure 1 (.pure 2 .done))) rfl ?_
  (repeat (refine GX.pure rfl ?_; first | refine GO.move rfl rfl rfl rfl ?_ | refine GO.lenStr rfl rfl rfl rfl ?_))
  (repeat (first | refine GX.doneD ?_ | refine GX.done ?_ | refine GQ.goNormal ?_ | refine GC.seq ?_ | refine GC.skip ?_ | refine GC.block ?_ | refine GC.exit ?_ | refine GC.ret ?_ | refine GQ.goExit ?_ | refine GQ.goRet ?_ | refine GQ.inNormal ?_ | refine GQ.inExit ?_ | refine GQ.inExitNe rfl ?_ | refine GQ.inRet ?_ | refine GQ.loopExit ?_ | refine GQ.loopRet ?_ | refine GQ.cutExit ?_ | refine GQ.cutRet ?_))
  refine GC.loop (X := Nat × Nat) (fun x => [(0, .int .u64 x.2), (1, str l), (7, .int .i64 l.length), (8, .int .i64 x.1)]) (fun x w' => w = w' ∧ x.1 ≤ l.length ∧ x.2 < 18446744073709551616 ∧ x.2 = foldF n (l.take x.1)) (fun x => l.length - x.1) (0, n) (sub_pick (l := [0, 1, 7, 8]) rfl) ⟨rfl, Nat.zero_le _, hn, rfl⟩ ?_
  rintro ⟨i, h⟩ _ ⟨rfl, hi, hh, hf⟩
  dsimp only at hi hh hf ⊢
  (repeat (first | refine GX.doneD ?_ | refine GX.done ?_ | refine GQ.goNormal ?_ | refine GC.seq ?_ | refine GC.skip ?_ | refine GC.block ?_ | refine GC.exit ?_ | refine GC.ret ?_ | refine GQ.goExit ?_ | refine GQ.goRet ?_ | refine GQ.inNormal ?_ | refine GQ.inExit ?_ | refine GQ.inExitNe rfl ?_ | refine GQ.inRet ?_ | refine GQ.loopExit ?_ | refine GQ.loopRet ?_ | refine GQ.cutExit ?_ | refine GQ.cutRet ?_))
  refine GC.region (.pure 0 .done) rfl ?_
  (repeat (refine GX.pure rfl ?_; refine GO.lss rfl rfl rfl rfl rfl ?_))
  (repeat (first | refine GX.doneD ?_ | refine GX.done ?_ | refine GQ.goNormal ?_ | refine GC.seq ?_ | refine GC.skip ?_ | refine GC.block ?_ | refine GC.exit ?_ | refine GC.ret ?_ | refine GQ.goExit ?_ | refine GQ.goRet ?_ | refine GQ.inNormal ?_ | refine GQ.inExit ?_ | refine GQ.inExitNe rfl ?_ | refine GQ.inRet ?_ | refine GQ.loopExit ?_ | refine GQ.loopRet ?_ | refine GQ.cutExit ?_ | refine GQ.cutRet ?_))
  refine GC.cond rfl (fun hc => ?_) (fun hc => ?_)
  · have hlt : i < l.length := by have := of_decide_eq_true hc; omega
    (repeat (first | refine GX.doneD ?_ | refine GX.done ?_ | refine GQ.goNormal ?_ | refine GC.seq ?_ | refine GC.skip ?_ | refine GC.block ?_ | refine GC.exit ?_ | refine GC.ret ?_ | refine GQ.goExit ?_ | refine GQ.goRet ?_ | refine GQ.inNormal ?_ | refine GQ.inExit ?_ | refine GQ.inExitNe rfl ?_ | refine GQ.inRet ?_ | refine GQ.loopExit ?_ | refine GQ.loopRet ?_ | refine GQ.cutExit ?_ | refine GQ.cutRet ?_))
    refine GC.region (.pure 0 (.pure 1 .done)) rfl ?_
    (repeat (refine GX.pure rfl ?_; first | refine GO.move rfl rfl rfl rfl ?_ | refine GO.assign rfl rfl rfl rfl ?_))
    (repeat (first | refine GX.doneD ?_ | refine GX.done ?_ | refine GQ.goNormal ?_ | refine GC.seq ?_ | refine GC.skip ?_ | refine GC.block ?_ | refine GC.exit ?_ | refine GC.ret ?_ | refine GQ.goExit ?_ | refine GQ.goRet ?_ | refine GQ.inNormal ?_ | refine GQ.inExit ?_ | refine GQ.inExitNe rfl ?_ | refine GQ.inRet ?_ | refine GQ.loopExit ?_ | refine GQ.loopRet ?_ | refine GQ.cutExit ?_ | refine GQ.cutRet ?_))
    refine GC.region (.pure 0 (.pure 1 (.pure 2 (.pure 3 (.pure 4 (.pure 5 (.pure 6 (.pure 7 (.pure 8 .done))))))))) rfl ?_
    (repeat (refine GX.pure rfl ?_; first | refine GO.move rfl rfl rfl rfl ?_ | refine GO.assign rfl rfl rfl rfl ?_ | refine GO.add rfl rfl rfl rfl rfl (wrapIn (by dsimp only [InK]; omega)) ?_ | refine GO.conv rfl rfl rfl rfl (wrapIn (by dsimp only [InK]; omega)) ?_ | refine GO.convStr rfl rfl rfl rfl ?_))
    refine GX.pure rfl (GO.mul rfl rfl rfl rfl rfl (show IntKind.u64.wrap ((31 : Int) * (h : Int)) = ((31 * h % 18446744073709551616 : Nat) : Int) by rw [← wrap_u64]; rfl) ?_)
    (repeat (refine GX.pure rfl ?_; first | refine GO.move rfl rfl rfl rfl ?_ | refine GO.assign rfl rfl rfl rfl ?_ | refine GO.add rfl rfl rfl rfl rfl (wrapIn (by dsimp only [InK]; omega)) ?_ | refine GO.conv rfl rfl rfl rfl (wrapIn (by dsimp only [InK]; omega)) ?_ | refine GO.convStr rfl rfl rfl rfl ?_))
    refine GX.pure rfl (GO.indexStr rfl rfl rfl rfl (by omega) (u := l[i]) (by simp [hlt]) rfl ?_)
    refine GX.pure rfl (GO.conv rfl rfl rfl rfl (show IntKind.u64.wrap ((l[i].toNat : Nat) : Int) = ((l[i].toNat : Nat) : Int) by rw [wrap_u64, Nat.mod_eq_of_lt]; have := l[i].toNat_lt; omega) ?_)
    refine GX.pure rfl (GO.add rfl rfl rfl rfl rfl (show IntKind.u64.wrap (((31 * h % 18446744073709551616 : Nat) : Int) + ((l[i].toNat : Nat) : Int)) = (((31 * h % 18446744073709551616 + l[i].toNat) % 18446744073709551616 : Nat) : Int) by rw [← wrap_u64]; rfl) ?_)
    refine GX.pure rfl (GO.add rfl rfl rfl rfl rfl (show IntKind.u64.wrap ((((31 * h % 18446744073709551616 + l[i].toNat) % 18446744073709551616 : Nat) : Int) + (1 : Int)) = (((((31 * h % 18446744073709551616 + l[i].toNat) % 18446744073709551616) + 1) % 18446744073709551616 : Nat) : Int) by rw [← wrap_u64]; rfl) ?_)
    obtain ⟨h2, hh2⟩ : ∃ h2 : Nat, h2 = stepF h l[i].toNat := ⟨_, rfl⟩
    rw [show ((31 * h % 18446744073709551616 + l[i].toNat) % 18446744073709551616 + 1) % 18446744073709551616 = h2 from hh2.symm]
    (repeat (refine GX.pure rfl ?_; first | refine GO.move rfl rfl rfl rfl ?_ | refine GO.assign rfl rfl rfl rfl ?_ | refine GO.add rfl rfl rfl rfl rfl (wrapIn (by dsimp only [InK]; omega)) ?_ | refine GO.conv rfl rfl rfl rfl (wrapIn (by dsimp only [InK]; omega)) ?_ | refine GO.convStr rfl rfl rfl rfl ?_))
    (repeat (first | refine GX.doneD ?_ | refine GX.done ?_ | refine GQ.goNormal ?_ | refine GC.seq ?_ | refine GC.skip ?_ | refine GC.block ?_ | refine GC.exit ?_ | refine GC.ret ?_ | refine GQ.goExit ?_ | refine GQ.goRet ?_ | refine GQ.inNormal ?_ | refine GQ.inExit ?_ | refine GQ.inExitNe rfl ?_ | refine GQ.inRet ?_ | refine GQ.loopExit ?_ | refine GQ.loopRet ?_ | refine GQ.cutExit ?_ | refine GQ.cutRet ?_))
    refine GC.region (.pure 0 (.pure 1 .done)) rfl ?_
    (repeat (refine GX.pure rfl ?_; first | refine GO.move rfl rfl rfl rfl ?_ | refine GO.add rfl rfl rfl rfl rfl (wrapIn (by dsimp only [InK]; omega)) ?_))
    (repeat (first | refine GX.doneD ?_ | refine GX.done ?_ | refine GQ.goNormal ?_ | refine GC.seq ?_ | refine GC.skip ?_ | refine GC.block ?_ | refine GC.exit ?_ | refine GC.ret ?_ | refine GQ.goExit ?_ | refine GQ.goRet ?_ | refine GQ.inNormal ?_ | refine GQ.inExit ?_ | refine GQ.inExitNe rfl ?_ | refine GQ.inRet ?_ | refine GQ.loopExit ?_ | refine GQ.loopRet ?_ | refine GQ.cutExit ?_ | refine GQ.cutRet ?_))
    refine GQ.again (i + 1, h2) (sub_pick (l := [0, 1, 7, 8]) rfl) ⟨rfl, hlt, by rw [hh2]; exact stepF_lt _ _, ?_⟩ (by dsimp only; omega)
    rw [hh2, hf, List.take_succ_eq_append_getElem hlt]
    simp only [foldF, List.foldl_append, List.foldl_cons, List.foldl_nil]
  have hge : i = l.length := by have := of_decide_eq_false hc; omega
  subst hge
  rw [List.take_length] at hf
  subst hf
  (repeat (first | refine GX.doneD ?_ | refine GX.done ?_ | refine GQ.goNormal ?_ | refine GC.seq ?_ | refine GC.skip ?_ | refine GC.block ?_ | refine GC.exit ?_ | refine GC.ret ?_ | refine GQ.goExit ?_ | refine GQ.goRet ?_ | refine GQ.inNormal ?_ | refine GQ.inExit ?_ | refine GQ.inExitNe rfl ?_ | refine GQ.inRet ?_ | refine GQ.loopExit ?_ | refine GQ.loopRet ?_ | refine GQ.cutExit ?_ | refine GQ.cutRet ?_))
  refine GC.region (.pure 0 (.pure 1 .done)) rfl ?_
  (repeat (refine GX.pure rfl ?_; first | refine GO.move rfl rfl rfl rfl ?_ | refine GO.assign rfl rfl rfl rfl ?_))
  (repeat (first | refine GX.doneD ?_ | refine GX.done ?_ | refine GQ.goNormal ?_ | refine GC.seq ?_ | refine GC.skip ?_ | refine GC.block ?_ | refine GC.exit ?_ | refine GC.ret ?_ | refine GQ.goExit ?_ | refine GQ.goRet ?_ | refine GQ.inNormal ?_ | refine GQ.inExit ?_ | refine GQ.inExitNe rfl ?_ | refine GQ.inRet ?_ | refine GQ.loopExit ?_ | refine GQ.loopRet ?_ | refine GQ.cutExit ?_ | refine GQ.cutRet ?_))
  refine GQ.ret1 (by first | exact .inl rfl | exact .inr rfl) rfl rfl ?_
  exact ⟨rfl, Mod.refl _⟩

theorem sum_ret (n : Nat) (hn : n < 18446744073709551616) (l : List UInt8) (hl : l.length ≤ 1000000) (w : World) : Ret Tryz.prog 401 [.int .u64 n, str l].toArray w fun v w' => v = .int .u64 (sumF n l : Nat) ∧ Ext w w' := by
  
  refine Ret.enter Tryz.func401 rfl Tryz.ntmps401 rfl ?_
  (repeat (first | refine GX.doneD ?_ | refine GX.done ?_ | refine GQ.goNormal ?_ | refine GC.seq ?_ | refine GC.skip ?_ | refine GC.block ?_ | refine GC.exit ?_ | refine GC.ret ?_ | refine GQ.goExit ?_ | refine GQ.goRet ?_ | refine GQ.inNormal ?_ | refine GQ.inExit ?_ | refine GQ.inExitNe rfl ?_ | refine GQ.inRet ?_ | refine GQ.loopExit ?_ | refine GQ.loopRet ?_ | refine GQ.cutExit ?_ | refine GQ.cutRet ?_))
  refine GC.region (.pure 0 .done) rfl ?_
  (repeat (refine GX.pure rfl ?_; refine GO.assign rfl rfl rfl rfl ?_))
  (repeat (first | refine GX.doneD ?_ | refine GX.done ?_ | refine GQ.goNormal ?_ | refine GC.seq ?_ | refine GC.skip ?_ | refine GC.block ?_ | refine GC.exit ?_ | refine GC.ret ?_ | refine GQ.goExit ?_ | refine GQ.goRet ?_ | refine GQ.inNormal ?_ | refine GQ.inExit ?_ | refine GQ.inExitNe rfl ?_ | refine GQ.inRet ?_ | refine GQ.loopExit ?_ | refine GQ.loopRet ?_ | refine GQ.cutExit ?_ | refine GQ.cutRet ?_))
  refine GC.region (.pure 0 (.pure 1 (.eff 2 (.eff 3 (.pure 4 .done))))) rfl ?_
  (repeat (refine GX.pure rfl ?_; first | refine GO.move rfl rfl rfl rfl ?_ | refine GO.assign rfl rfl rfl rfl ?_))
  (refine GX.eff rfl ?_; refine GO.callL rfl rfl rfl rfl rfl (fold_ret n hn l hl w) ?_)
  rintro _ w1 ⟨rfl, hE1⟩
  refine ⟨fun _ h => by first | trivial | exact Mod.trans h (Ext.mod (by assumption)), ?_⟩
  (repeat (refine GX.pure rfl ?_; first | refine GO.move rfl rfl rfl rfl ?_ | refine GO.assign rfl rfl rfl rfl ?_))
  (refine GX.eff rfl ?_; refine GO.callL rfl rfl rfl rfl rfl (mix_ret (foldF n l) (foldF_lt l n hn) w1) ?_)
  rintro _ w2 ⟨rfl, hE2⟩
  refine ⟨fun _ h => by first | trivial | exact Mod.trans h (Ext.mod (by assumption)), ?_⟩
  (repeat (refine GX.pure rfl ?_; first | refine GO.move rfl rfl rfl rfl ?_ | refine GO.assign rfl rfl rfl rfl ?_))
  (repeat (first | refine GX.doneD ?_ | refine GX.done ?_ | refine GQ.goNormal ?_ | refine GC.seq ?_ | refine GC.skip ?_ | refine GC.block ?_ | refine GC.exit ?_ | refine GC.ret ?_ | refine GQ.goExit ?_ | refine GQ.goRet ?_ | refine GQ.inNormal ?_ | refine GQ.inExit ?_ | refine GQ.inExitNe rfl ?_ | refine GQ.inRet ?_ | refine GQ.loopExit ?_ | refine GQ.loopRet ?_ | refine GQ.cutExit ?_ | refine GQ.cutRet ?_))
  refine GQ.ret1 (by first | exact .inl rfl | exact .inr rfl) rfl rfl ?_
  exact ⟨rfl, hE1.trans hE2⟩

theorem index_ret (m : Nat) (hm : m < 18446744073709551616) (w : World) : Ret Tryz.prog 407 [.int .u64 m, .int .i64 8].toArray w fun v w' => v = .tuple #[.int .i64 (m &&& 7 : Nat), .int .i64 0] ∧ Ext w w' := by
  
  refine Ret.enter Tryz.func407 rfl Tryz.ntmps407 rfl ?_
  (repeat (first | refine GX.doneD ?_ | refine GX.done ?_ | refine GQ.goNormal ?_ | refine GC.seq ?_ | refine GC.skip ?_ | refine GC.block ?_ | refine GC.exit ?_ | refine GC.ret ?_ | refine GQ.goExit ?_ | refine GQ.goRet ?_ | refine GQ.inNormal ?_ | refine GQ.inExit ?_ | refine GQ.inExitNe rfl ?_ | refine GQ.inRet ?_ | refine GQ.loopExit ?_ | refine GQ.loopRet ?_ | refine GQ.cutExit ?_ | refine GQ.cutRet ?_))
  refine GC.region (.pure 0 (.pure 1 .done)) rfl ?_
  (repeat (refine GX.pure rfl ?_; refine GO.assign rfl rfl rfl rfl ?_))
  (repeat (first | refine GX.doneD ?_ | refine GX.done ?_ | refine GQ.goNormal ?_ | refine GC.seq ?_ | refine GC.skip ?_ | refine GC.block ?_ | refine GC.exit ?_ | refine GC.ret ?_ | refine GQ.goExit ?_ | refine GQ.goRet ?_ | refine GQ.inNormal ?_ | refine GQ.inExit ?_ | refine GQ.inExitNe rfl ?_ | refine GQ.inRet ?_ | refine GQ.loopExit ?_ | refine GQ.loopRet ?_ | refine GQ.cutExit ?_ | refine GQ.cutRet ?_))
  refine GC.region (.pure 0 (.pure 1 (.pure 2 (.pure 3 (.pure 4 (.pure 5 (.pure 6 (.pure 7 (.pure 8 (.pure 9 (.pure 10 (.pure 11 (.pure 12 .done))))))))))))) rfl ?_
  (repeat (first | (refine GX.pure rfl ?_; first | refine GO.move rfl rfl rfl rfl ?_ | refine GO.lss rfl rfl rfl rfl rfl ?_ | refine GO.gtr rfl rfl rfl rfl rfl ?_ | refine GO.neq rfl rfl rfl rfl rfl ?_ | refine GO.pickT rfl rfl rfl rfl rfl ?_ | refine GO.pickF rfl rfl rfl rfl rfl ?_ | refine GO.sub rfl rfl rfl rfl rfl (wrapIn (by dsimp only [InK]; omega)) ?_ | refine GO.skip (.inl rfl) rfl rfl ?_) | (refine GX.eff rfl ?_; refine GO.skip (.inr rfl) rfl rfl ?_) | (refine GX.read rfl ?_; refine GO.skipRead (by assumption) rfl rfl ?_)))
  refine GX.pure rfl (GO.bits rfl rfl rfl rfl rfl (fun w => (run_bitsS .i64 _ 8 7 (by decide) (by decide)).1) ?_)
  (repeat (first | (refine GX.pure rfl ?_; first | refine GO.move rfl rfl rfl rfl ?_ | refine GO.lss rfl rfl rfl rfl rfl ?_ | refine GO.gtr rfl rfl rfl rfl rfl ?_ | refine GO.neq rfl rfl rfl rfl rfl ?_ | refine GO.pickT rfl rfl rfl rfl rfl ?_ | refine GO.pickF rfl rfl rfl rfl rfl ?_ | refine GO.sub rfl rfl rfl rfl rfl (wrapIn (by dsimp only [InK]; omega)) ?_ | refine GO.skip (.inl rfl) rfl rfl ?_) | (refine GX.eff rfl ?_; refine GO.skip (.inr rfl) rfl rfl ?_) | (refine GX.read rfl ?_; refine GO.skipRead (by assumption) rfl rfl ?_)))
  (repeat (first | refine GX.doneD ?_ | refine GX.done ?_ | refine GQ.goNormal ?_ | refine GC.seq ?_ | refine GC.skip ?_ | refine GC.block ?_ | refine GC.exit ?_ | refine GC.ret ?_ | refine GQ.goExit ?_ | refine GQ.goRet ?_ | refine GQ.inNormal ?_ | refine GQ.inExit ?_ | refine GQ.inExitNe rfl ?_ | refine GQ.inRet ?_ | refine GQ.loopExit ?_ | refine GQ.loopRet ?_ | refine GQ.cutExit ?_ | refine GQ.cutRet ?_))
  refine GC.cond rfl (fun hc => ?_) (fun hc => ?_)
  · cases hc
  (repeat (first | refine GX.doneD ?_ | refine GX.done ?_ | refine GQ.goNormal ?_ | refine GC.seq ?_ | refine GC.skip ?_ | refine GC.block ?_ | refine GC.exit ?_ | refine GC.ret ?_ | refine GQ.goExit ?_ | refine GQ.goRet ?_ | refine GQ.inNormal ?_ | refine GQ.inExit ?_ | refine GQ.inExitNe rfl ?_ | refine GQ.inRet ?_ | refine GQ.loopExit ?_ | refine GQ.loopRet ?_ | refine GQ.cutExit ?_ | refine GQ.cutRet ?_))
  refine GC.region (.pure 0 (.pure 1 (.pure 2 (.pure 3 (.pure 4 (.pure 5 (.pure 6 (.pure 7 .done)))))))) rfl ?_
  (repeat (refine GX.pure rfl ?_; first | refine GO.move rfl rfl rfl rfl ?_ | refine GO.assign rfl rfl rfl rfl ?_ | refine GO.sub rfl rfl rfl rfl rfl (wrapIn (by dsimp only [InK]; omega)) ?_ | refine GO.conv rfl rfl rfl rfl (wrapIn (by dsimp only [InK]; omega)) ?_ | refine GO.convStr rfl rfl rfl rfl ?_))
  refine GX.pure rfl (GO.bits rfl rfl rfl rfl rfl (fun w => run_and64 _ m 7 hm (by decide)) ?_)
  have h7 : m &&& 7 ≤ 7 := Nat.and_le_right
  obtain ⟨j, hj⟩ : ∃ j, j = m &&& 7 := ⟨_, rfl⟩
  rw [← hj] at h7 ⊢
  (repeat (refine GX.pure rfl ?_; first | refine GO.move rfl rfl rfl rfl ?_ | refine GO.assign rfl rfl rfl rfl ?_ | refine GO.sub rfl rfl rfl rfl rfl (wrapIn (by dsimp only [InK]; omega)) ?_ | refine GO.conv rfl rfl rfl rfl (wrapIn (by dsimp only [InK]; omega)) ?_ | refine GO.convStr rfl rfl rfl rfl ?_))
  (repeat (first | refine GX.doneD ?_ | refine GX.done ?_ | refine GQ.goNormal ?_ | refine GC.seq ?_ | refine GC.skip ?_ | refine GC.block ?_ | refine GC.exit ?_ | refine GC.ret ?_ | refine GQ.goExit ?_ | refine GQ.goRet ?_ | refine GQ.inNormal ?_ | refine GQ.inExit ?_ | refine GQ.inExitNe rfl ?_ | refine GQ.inRet ?_ | refine GQ.loopExit ?_ | refine GQ.loopRet ?_ | refine GQ.cutExit ?_ | refine GQ.cutRet ?_))
  refine GQ.ret2 (by first | exact .inl rfl | exact .inr rfl) rfl rfl rfl ?_
  exact ⟨rfl, Mod.refl _⟩

/-- The cells of a table. -/
def tableCells (n : Nat) (bc oc cap : Nat) (v2 : Value) : List Value := [.int .u64 n, .slice (some ⟨bc, oc, none⟩) 8 cap, v2]
def freeCell : List Value := [str [], .int .i64 0]
theorem home_ret (bg og bc oc cap n : Nat) (v2 : Value) (hn : n < 18446744073709551616) (l : List UInt8) (hl : l.length ≤ 1000000) (w : World) (hG : At w bg og (tableCells n bc oc cap v2)) :
    Ret Tryz.prog 330 [.pointer (some ⟨bg, og, none⟩), str l].toArray w fun v w' => v = .int .i64 (sumF n l &&& 7 : Nat) ∧ Ext w w' := by
  
  refine Ret.enter Tryz.func330 rfl Tryz.ntmps330 rfl ?_
  (repeat (first | refine GX.doneD ?_ | refine GX.done ?_ | refine GQ.goNormal ?_ | refine GC.seq ?_ | refine GC.skip ?_ | refine GC.block ?_ | refine GC.exit ?_ | refine GC.ret ?_ | refine GQ.goExit ?_ | refine GQ.goRet ?_ | refine GQ.inNormal ?_ | refine GQ.inExit ?_ | refine GQ.inExitNe rfl ?_ | refine GQ.inRet ?_ | refine GQ.loopExit ?_ | refine GQ.loopRet ?_ | refine GQ.cutExit ?_ | refine GQ.cutRet ?_))
  refine GC.region (.pure 0 .done) rfl ?_
  (repeat (refine GX.pure rfl ?_; refine GO.assign rfl rfl rfl rfl ?_))
  (repeat (first | refine GX.doneD ?_ | refine GX.done ?_ | refine GQ.goNormal ?_ | refine GC.seq ?_ | refine GC.skip ?_ | refine GC.block ?_ | refine GC.exit ?_ | refine GC.ret ?_ | refine GQ.goExit ?_ | refine GQ.goRet ?_ | refine GQ.inNormal ?_ | refine GQ.inExit ?_ | refine GQ.inExitNe rfl ?_ | refine GQ.inRet ?_ | refine GQ.loopExit ?_ | refine GQ.loopRet ?_ | refine GQ.cutExit ?_ | refine GQ.cutRet ?_))
  have hG0 : At w bg (og + 0) [.int .u64 n] := At.one hG (show (tableCells n bc oc cap v2)[0]? = some (.int .u64 n) from rfl)
  have hG1 : At w bg (og + 1) [.slice (some ⟨bc, oc, none⟩) 8 cap] := At.one hG (show (tableCells n bc oc cap v2)[1]? = some (.slice (some ⟨bc, oc, none⟩) 8 cap) from rfl)
  refine GC.regionD (.pure 0 (.pure 1 (.pure 2 (.pure 4 (.pure 6 (.pure 7 (.pure 8 (.read 3 (.read 9 (.pure 10 (.eff 5 (.eff 11 (.pure 12 (.pure 13 (.pure 14 (.pure 15 (.pure 16 .done))))))))))))))))) (fun _ => False) mixed (by kernel_rfl) (by kernel_rfl) ?_
  intro w1 hh1 hE1
  have hS1 : Mod (fun _ => False) w w1 := hE1
  (repeat (refine GX.pure rfl ?_; first | refine GO.move rfl rfl rfl rfl ?_ | refine GO.assign rfl rfl rfl rfl ?_ | refine GO.nilCheck rfl rfl rfl rfl ?_ | refine GO.fieldAddr rfl rfl rfl rfl rfl ?_ | refine GO.extract rfl rfl rfl rfl rfl ?_ | refine GO.lenSlice rfl rfl rfl rfl ?_ | refine GO.nilCheckF rfl rfl rfl rfl ?_))
  (first | (refine GX.eff rfl ?_; first | refine GO.load1 (hG0) rfl rfl rfl ?_ | refine GO.loadN (hG0) rfl rfl rfl rfl ?_) | (refine GX.read rfl ?_; first | refine GO.load1R (by assumption) (fun _ hS_ => At.mod (hG0) hS_ (by simp)) rfl rfl rfl ?_ | refine GO.loadNR (by assumption) (fun _ hS_ => At.mod (hG0) hS_ (by simp)) rfl rfl rfl rfl ?_))
  (first | (refine GX.eff rfl ?_; first | refine GO.load1 (hG1) rfl rfl rfl ?_ | refine GO.loadN (hG1) rfl rfl rfl rfl ?_) | (refine GX.read rfl ?_; first | refine GO.load1R (by assumption) (fun _ hS_ => At.mod (hG1) hS_ (by simp)) rfl rfl rfl ?_ | refine GO.loadNR (by assumption) (fun _ hS_ => At.mod (hG1) hS_ (by simp)) rfl rfl rfl rfl ?_))
  (repeat (refine GX.pure rfl ?_; first | refine GO.move rfl rfl rfl rfl ?_ | refine GO.assign rfl rfl rfl rfl ?_ | refine GO.nilCheck rfl rfl rfl rfl ?_ | refine GO.fieldAddr rfl rfl rfl rfl rfl ?_ | refine GO.extract rfl rfl rfl rfl rfl ?_ | refine GO.lenSlice rfl rfl rfl rfl ?_ | refine GO.nilCheckF rfl rfl rfl rfl ?_))
  (refine GX.eff rfl ?_; refine GO.callL rfl rfl rfl rfl rfl (sum_ret n hn l hl w1) ?_)
  rintro _ w2 ⟨rfl, hE2⟩
  refine ⟨fun _ h => by first | trivial | exact Mod.trans h (Ext.mod (by assumption)), ?_⟩
  (repeat (refine GX.pure rfl ?_; first | refine GO.move rfl rfl rfl rfl ?_ | refine GO.assign rfl rfl rfl rfl ?_ | refine GO.nilCheck rfl rfl rfl rfl ?_ | refine GO.fieldAddr rfl rfl rfl rfl rfl ?_ | refine GO.extract rfl rfl rfl rfl rfl ?_ | refine GO.lenSlice rfl rfl rfl rfl ?_ | refine GO.nilCheckF rfl rfl rfl rfl ?_))
  (refine GX.eff rfl ?_; refine GO.callL rfl rfl rfl rfl rfl (index_ret (sumF n l) (sumF_lt hn l) w2) ?_)
  rintro _ w3 ⟨rfl, hE3⟩
  refine ⟨fun _ h => by first | trivial | exact Mod.trans h (Ext.mod (by assumption)), ?_⟩
  (repeat (refine GX.pure rfl ?_; first | refine GO.move rfl rfl rfl rfl ?_ | refine GO.assign rfl rfl rfl rfl ?_ | refine GO.nilCheck rfl rfl rfl rfl ?_ | refine GO.fieldAddr rfl rfl rfl rfl rfl ?_ | refine GO.extract rfl rfl rfl rfl rfl ?_ | refine GO.lenSlice rfl rfl rfl rfl ?_ | refine GO.nilCheckF rfl rfl rfl rfl ?_))
  (repeat (first | refine GX.doneD ?_ | refine GX.done ?_ | refine GQ.goNormal ?_ | refine GC.seq ?_ | refine GC.skip ?_ | refine GC.block ?_ | refine GC.exit ?_ | refine GC.ret ?_ | refine GQ.goExit ?_ | refine GQ.goRet ?_ | refine GQ.inNormal ?_ | refine GQ.inExit ?_ | refine GQ.inExitNe rfl ?_ | refine GQ.inRet ?_ | refine GQ.loopExit ?_ | refine GQ.loopRet ?_ | refine GQ.cutExit ?_ | refine GQ.cutRet ?_))
  refine GC.region (.pure 0 (.pure 1 .done)) rfl ?_
  (repeat (refine GX.pure rfl ?_; first | refine GO.move rfl rfl rfl rfl ?_ | refine GO.assign rfl rfl rfl rfl ?_))
  (repeat (first | refine GX.doneD ?_ | refine GX.done ?_ | refine GQ.goNormal ?_ | refine GC.seq ?_ | refine GC.skip ?_ | refine GC.block ?_ | refine GC.exit ?_ | refine GC.ret ?_ | refine GQ.goExit ?_ | refine GQ.goRet ?_ | refine GQ.inNormal ?_ | refine GQ.inExit ?_ | refine GQ.inExitNe rfl ?_ | refine GQ.inRet ?_ | refine GQ.loopExit ?_ | refine GQ.loopRet ?_ | refine GQ.cutExit ?_ | refine GQ.cutRet ?_))
  refine GQ.ret1 (by first | exact .inl rfl | exact .inr rfl) rfl rfl ?_
  exact ⟨rfl, hE1.trans (hE2.trans hE3)⟩

def freeA : AV := .g [.s [], .i .i64 0]
theorem free_rel [Sig] {r : Rho} : Rel r freeA (.agg freeCell.toArray) := by
  unfold freeA
  exact rel_agg (RelL.cons (by unfold Rel; exact ⟨rfl, by simp⟩) (RelL.cons (by unfold Rel; rfl) (RelL.nil _)))
theorem free_plain : plainEq Tryz.prog 424 freeA = true := by decide +kernel
theorem free_eq : evEq Tryz.prog 8 424 freeA freeA = some true := by decide +kernel
theorem free_neq (w : World) : (binOp .neq 424 (.agg freeCell.toArray) (.agg freeCell.toArray)).run Tryz.prog w = .ok (.bool false) w :=
  letI : Sig := sigOf (fun _ _ => none) [] (by simp) w
  (binOp_plain (r := fun _ => none) free_plain free_rel (evEq_sound 8 free_eq (free_rel (r := fun _ => none)) free_rel 10000 (by decide) w)).2
theorem free_guard (u v : Operand) (w : World) : (eqGuard .neq 424 u v (.agg freeCell.toArray) (.agg freeCell.toArray)).run Tryz.prog w = .ok () w :=
  letI : Sig := sigOf (fun _ _ => none) [] (by simp) w
  plainEq_guard (r := fun _ => none) free_plain free_rel _ _ _ w

theorem tfind_ret (bg og bc oc cap n : Nat) (v2 : Value) (hn : n < 18446744073709551616) (l : List UInt8) (hl : l.length ≤ 1000000) (w : World) (hG : At w bg og (tableCells n bc oc cap v2)) (hC : At w bc oc (List.replicate 8 freeCell).flatten) :
    Ret Tryz.prog 395 [.pointer (some ⟨bg, og, none⟩), str l].toArray w fun v w' => v = .tuple #[.int .i64 (sumF n l &&& 7 : Nat), .bool false] ∧ Ext w w' := by
  
  refine Ret.enter Tryz.func395 rfl Tryz.ntmps395 rfl ?_
  (repeat (first | refine GX.doneD ?_ | refine GX.done ?_ | refine GQ.goNormal ?_ | refine GC.seq ?_ | refine GC.skip ?_ | refine GC.block ?_ | refine GC.exit ?_ | refine GC.ret ?_ | refine GQ.goExit ?_ | refine GQ.goRet ?_ | refine GQ.inNormal ?_ | refine GQ.inExit ?_ | refine GQ.inExitNe rfl ?_ | refine GQ.inRet ?_ | refine GQ.loopExit ?_ | refine GQ.loopRet ?_ | refine GQ.cutExit ?_ | refine GQ.cutRet ?_))
  refine GC.region (.pure 0 (.pure 1 .done)) rfl ?_
  (repeat (refine GX.pure rfl ?_; refine GO.assign rfl rfl rfl rfl ?_))
  (repeat (first | refine GX.doneD ?_ | refine GX.done ?_ | refine GQ.goNormal ?_ | refine GC.seq ?_ | refine GC.skip ?_ | refine GC.block ?_ | refine GC.exit ?_ | refine GC.ret ?_ | refine GQ.goExit ?_ | refine GQ.goRet ?_ | refine GQ.inNormal ?_ | refine GQ.inExit ?_ | refine GQ.inExitNe rfl ?_ | refine GQ.inRet ?_ | refine GQ.loopExit ?_ | refine GQ.loopRet ?_ | refine GQ.cutExit ?_ | refine GQ.cutRet ?_))
  refine GC.region (.pure 0 (.pure 1 (.eff 2 (.pure 3 .done)))) rfl ?_
  (repeat (refine GX.pure rfl ?_; first | refine GO.move rfl rfl rfl rfl ?_ | refine GO.assign rfl rfl rfl rfl ?_))
  (refine GX.eff rfl ?_; refine GO.callL rfl rfl rfl rfl rfl (home_ret bg og bc oc cap n v2 hn l hl w hG) ?_)
  rintro _ w1 ⟨rfl, hE1⟩
  refine ⟨fun _ h => by first | trivial | exact Mod.trans h (Ext.mod (by assumption)), ?_⟩
  (repeat (refine GX.pure rfl ?_; first | refine GO.move rfl rfl rfl rfl ?_ | refine GO.assign rfl rfl rfl rfl ?_))
  (repeat (first | refine GX.doneD ?_ | refine GX.done ?_ | refine GQ.goNormal ?_ | refine GC.seq ?_ | refine GC.skip ?_ | refine GC.block ?_ | refine GC.exit ?_ | refine GC.ret ?_ | refine GQ.goExit ?_ | refine GQ.goRet ?_ | refine GQ.inNormal ?_ | refine GQ.inExit ?_ | refine GQ.inExitNe rfl ?_ | refine GQ.inRet ?_ | refine GQ.loopExit ?_ | refine GQ.loopRet ?_ | refine GQ.cutExit ?_ | refine GQ.cutRet ?_))
  have h7 : sumF n l &&& 7 ≤ 7 := Nat.and_le_right
  obtain ⟨j, hj⟩ : ∃ j, j = sumF n l &&& 7 := ⟨_, rfl⟩
  rw [← hj] at h7 ⊢
  refine GC.loop (X := Unit) (fun _ => [(0, .pointer (some ⟨bg, og, none⟩)), (1, str l), (5, .bool false), (6, .int .i64 j)]) (fun _ w' => w1 = w') (fun _ => 0) () (sub_pick (l := [0, 1, 5, 6]) rfl) rfl ?_
  rintro _ _ rfl
  have hG1 : At w1 bg (og + 1) [.slice (some ⟨bc, oc, none⟩) 8 cap] := (At.one hG (show (tableCells n bc oc cap v2)[1]? = some (.slice (some ⟨bc, oc, none⟩) 8 cap) from rfl)).ext hE1
  have hcj : At w1 bc (oc + (j : Int).toNat * 2) freeCell := by
    have hC1 := hC.ext hE1
    have key : ∀ m : Nat, m < 8 → At w1 bc (oc + m * 2) freeCell := fun m hm => by
      refine hC1.sub (m * 2) _ fun i v hv => ?_
      have h8 : m = 0 ∨ m = 1 ∨ m = 2 ∨ m = 3 ∨ m = 4 ∨ m = 5 ∨ m = 6 ∨ m = 7 := by omega
      have hi : i = 0 ∨ i = 1 := by
        have := (List.getElem?_eq_some_iff.1 hv).1
        simp [freeCell] at this
        omega
      rcases h8 with rfl | rfl | rfl | rfl | rfl | rfl | rfl | rfl <;> rcases hi with rfl | rfl <;> exact hv
    have := key j (by omega)
    simpa using this
  (repeat (first | refine GX.doneD ?_ | refine GX.done ?_ | refine GQ.goNormal ?_ | refine GC.seq ?_ | refine GC.skip ?_ | refine GC.block ?_ | refine GC.exit ?_ | refine GC.ret ?_ | refine GQ.goExit ?_ | refine GQ.goRet ?_ | refine GQ.inNormal ?_ | refine GQ.inExit ?_ | refine GQ.inExitNe rfl ?_ | refine GQ.inRet ?_ | refine GQ.loopExit ?_ | refine GQ.loopRet ?_ | refine GQ.cutExit ?_ | refine GQ.cutRet ?_))
  refine GC.region (.pure 0 (.pure 1 (.pure 2 (.eff 3 (.pure 4 (.pure 5 (.eff 6 (.pure 7 (.pure 8 .done))))))))) rfl ?_
  (repeat (refine GX.pure rfl ?_; first | refine GO.move rfl rfl rfl rfl ?_ | refine GO.nilCheck rfl rfl rfl rfl ?_ | refine GO.fieldAddr rfl rfl rfl rfl rfl ?_ | refine GO.nilCheckF rfl rfl rfl rfl ?_))
  (first | (refine GX.eff rfl ?_; first | refine GO.load1 (hG1) rfl rfl rfl ?_ | refine GO.loadN (hG1) rfl rfl rfl rfl ?_) | (refine GX.read rfl ?_; first | refine GO.load1R (by assumption) (fun _ hS_ => At.mod (hG1) hS_ (by simp)) rfl rfl rfl ?_ | refine GO.loadNR (by assumption) (fun _ hS_ => At.mod (hG1) hS_ (by simp)) rfl rfl rfl rfl ?_))
  (repeat (refine GX.pure rfl ?_; first | refine GO.move rfl rfl rfl rfl ?_ | refine GO.nilCheck rfl rfl rfl rfl ?_ | refine GO.fieldAddr rfl rfl rfl rfl rfl ?_ | refine GO.nilCheckF rfl rfl rfl rfl ?_))
  refine GX.pure rfl (GO.indexAddr rfl rfl rfl rfl (by omega) (by omega) rfl ?_)
  (first | (refine GX.eff rfl ?_; first | refine GO.load1 (hcj) rfl rfl rfl ?_ | refine GO.loadN (hcj) rfl rfl rfl rfl ?_) | (refine GX.read rfl ?_; first | refine GO.load1R (by assumption) (fun _ hS_ => At.mod (hcj) hS_ (by simp)) rfl rfl rfl ?_ | refine GO.loadNR (by assumption) (fun _ hS_ => At.mod (hcj) hS_ (by simp)) rfl rfl rfl rfl ?_))
  refine GX.pure rfl (GO.build (out := freeCell) rfl (by kernel_rfl) (by kernel_rfl) rfl rfl rfl rfl ?_)
  refine GX.pure rfl (GO.bin rfl rfl rfl rfl rfl (fun w => free_guard _ _ w) free_neq ?_)
  (repeat (refine GX.pure rfl ?_; first | refine GO.move rfl rfl rfl rfl ?_ | refine GO.nilCheck rfl rfl rfl rfl ?_ | refine GO.fieldAddr rfl rfl rfl rfl rfl ?_ | refine GO.nilCheckF rfl rfl rfl rfl ?_))
  (repeat (first | refine GX.doneD ?_ | refine GX.done ?_ | refine GQ.goNormal ?_ | refine GC.seq ?_ | refine GC.skip ?_ | refine GC.block ?_ | refine GC.exit ?_ | refine GC.ret ?_ | refine GQ.goExit ?_ | refine GQ.goRet ?_ | refine GQ.inNormal ?_ | refine GQ.inExit ?_ | refine GQ.inExitNe rfl ?_ | refine GQ.inRet ?_ | refine GQ.loopExit ?_ | refine GQ.loopRet ?_ | refine GQ.cutExit ?_ | refine GQ.cutRet ?_))
  refine GC.cond rfl (fun hc => ?_) (fun hc => ?_)
  · cases hc
  (repeat (first | refine GX.doneD ?_ | refine GX.done ?_ | refine GQ.goNormal ?_ | refine GC.seq ?_ | refine GC.skip ?_ | refine GC.block ?_ | refine GC.exit ?_ | refine GC.ret ?_ | refine GQ.goExit ?_ | refine GQ.goRet ?_ | refine GQ.inNormal ?_ | refine GQ.inExit ?_ | refine GQ.inExitNe rfl ?_ | refine GQ.inRet ?_ | refine GQ.loopExit ?_ | refine GQ.loopRet ?_ | refine GQ.cutExit ?_ | refine GQ.cutRet ?_))
  refine GC.region (.pure 0 (.pure 1 (.pure 2 .done))) rfl ?_
  (repeat (refine GX.pure rfl ?_; first | refine GO.move rfl rfl rfl rfl ?_ | refine GO.assign rfl rfl rfl rfl ?_))
  (repeat (first | refine GX.doneD ?_ | refine GX.done ?_ | refine GQ.goNormal ?_ | refine GC.seq ?_ | refine GC.skip ?_ | refine GC.block ?_ | refine GC.exit ?_ | refine GC.ret ?_ | refine GQ.goExit ?_ | refine GQ.goRet ?_ | refine GQ.inNormal ?_ | refine GQ.inExit ?_ | refine GQ.inExitNe rfl ?_ | refine GQ.inRet ?_ | refine GQ.loopExit ?_ | refine GQ.loopRet ?_ | refine GQ.cutExit ?_ | refine GQ.cutRet ?_))
  refine GQ.ret2 (by first | exact .inl rfl | exact .inr rfl) rfl rfl rfl ?_
  exact ⟨rfl, hE1⟩

def allFree : List AV → Bool
  | [] => true
  | .s [] :: .i .i64 (.ofNat 0) :: r => allFree r
  | _ => false
/-- A key is not found in a table without keys; the seed and the cell are strangers. -/
def extTFind (ff js j : Nat) (key : List Nat) : CallA := fun g args st => match Nat.beq g ff, args with
  | true, [.p b o, .s k] => match natsEq k key, atH st.H b o 3 with
    | true, some [.oi i .u64 _, .sl cb co _ 8 _, _] => match Nat.beq i js, atH st.H cb co 16 with
      | true, some l => match allFree l with
        | true => some (.t [.o j, .b false], st)
        | false => none
      | _, _ => none
    | _, _ => none
  | _, _ => none
theorem allFree_rel [Sig] {r : Rho} : ∀ {m : Nat} {l : List AV} {L : List Value}, RelL r l L → allFree l = true → L.length = m * 2 → L = (List.replicate m freeCell).flatten
  | 0, l, L, h, hz, hl => by
    have : L = [] := List.length_eq_zero_iff.1 (by omega)
    subst this; rfl
  | m + 1, l, L, h, hz, hl => by
    match l, L, h, hz, hl with
    | [], L, h, _, hl => have := h.of_nil; subst this; simp at hl
    | a :: l, L, h, hz, hl =>
      obtain ⟨A, M, rfl, hA, hM⟩ := h.of_cons
      match l, hM with
      | [], hM => have := hM.of_nil; subst this; simp at hl; omega
      | c :: l, hM =>
        obtain ⟨C, M2, rfl, hC, hM2⟩ := hM.of_cons
        unfold allFree at hz
        split at hz
        · rename_i h1; cases h1
        · rename_i h1
          cases h1
          obtain ⟨rfl, _⟩ := rel_s hA
          have := rel_i hC
          subst this
          have ih := allFree_rel (m := m) hM2 hz (by simp at hl; omega)
          rw [ih]
          rfl
        · cases hz
theorem extTFind_ok [Sig] {js j s : Nat} {key : List Nat} (hs0 : s < 18446744073709551616) (h6 : Sig.val js = .int .u64 s) (h7 : Sig.val j = .int .i64 (sumF s (key.map UInt8.ofNat) &&& 7 : Nat)) (hk : key.length ≤ 1000000) (lo : Nat) : CallOK Tryz.prog lo (extTFind 395 js j key) := by
  intro g args st v st' h r w Args hArgs hs
  unfold extTFind at h
  split at h
  · rename_i b o kl hg
    have hg := Nat.eq_of_beq_eq_true hg
    subst hg
    split at h
    · rename_i i fs cb co e c x2 hkl hat
      split at h
      · rename_i l hi hat2
        split at h
        · rename_i hz
          cases h
          have hi := Nat.eq_of_beq_eq_true hi
          subst hi
          rw [natsEq_eq] at hkl
          have hkl := of_decide_eq_true hkl
          subst hkl
          obtain ⟨A, M, rfl, hA, hM⟩ := hArgs.of_cons
          obtain ⟨A2, M2, rfl, hA2, hM2⟩ := hM.of_cons
          have := hM2.of_nil
          subst this
          obtain ⟨B, K, hr, rfl⟩ := rel_p hA
          obtain ⟨rfl, _⟩ := rel_s hA2
          obtain ⟨_, L, hL, hAt, _⟩ := atH_sound hs hat hr
          obtain ⟨y0, L, rfl, h0, hL⟩ := hL.of_cons
          obtain ⟨y1, L, rfl, h1, hL⟩ := hL.of_cons
          obtain ⟨y2, L, rfl, _, hL⟩ := hL.of_cons
          have := hL.of_nil
          subst this
          have h0 := rel_oi' h0
          rw [h6] at h0
          subst h0
          obtain ⟨BC, KC, hrc, rfl, _⟩ := rel_sl h1
          obtain ⟨hlen, L2, hL2, hAt2, hlen2⟩ := atH_sound hs hat2 hrc
          rw [allFree_rel (m := 8) hL2 hz (by omega)] at hAt2
          refine (tfind_ret B o BC co _ s _ hs0 _ (by simpa using hk) w hAt hAt2).mono ?_
          rintro v w' ⟨rfl, hE⟩
          refine ⟨r, Rho.le.refl r, ?_, hs.ext hE, modLo hE⟩
          unfold Rel
          refine ⟨_, rfl, RelL.cons ?_ (RelL.cons (by unfold Rel; rfl) (RelL.nil _))⟩
          unfold Rel
          exact h7.symm
        · cases h
      · cases h
    · cases h
  · cases h
end Go.Proofs.YtmjjlhnddokppaaGreat.V
