/-
  A key is not found in a graph that has no node, whatever the seed of its hashes. No condition: the graph's cells are as the theorem says.
-/
import Derived.Test.YtlgkghmkkohadaaGreatFg
import Derived.Test.YtlgkghmkkohadaaGreatWk
namespace Go.Proofs.YtlgkghmkkohadaaGreat.V
attribute [local irreducible] GX GO

theorem wrap_u64 (n : Nat) : IntKind.u64.wrap (n : Int) = ((n % 18446744073709551616 : Nat) : Int) := by
  simp [IntKind.wrap, IntKind.signed, IntKind.bits]
theorem wrapU {k : IntKind} (hs : k.signed = false) {m : Nat} (h : m < 2 ^ k.bits) : k.wrap (m : Int) = (m : Int) := by
  have h1 : (m : Int) % (2 ^ k.bits : Int) = (m : Int) := Int.emod_eq_of_lt (by omega) (by exact_mod_cast h)
  simp only [IntKind.wrap, h1, hs, Bool.false_and]
  rfl
theorem run_xorU {P : Program} {w : World} (k : IntKind) (hs : k.signed = false) (t : TypeId) (a b : Nat) (ha : a < 2 ^ k.bits) (hb : b < 2 ^ k.bits) :
    (binOp .xor t (.int k a) (.int k b)).run P w = .ok (.int k (a ^^^ b : Nat)) w := by
  have x3 : (BitVec.ofInt k.bits (a : Int) ^^^ BitVec.ofInt k.bits (b : Int)).toNat = a ^^^ b := by
    simp [Nat.mod_eq_of_lt ha, Nat.mod_eq_of_lt hb]
  simp only [binOp, Op.intBits, ne_eq, not_true_eq_false, if_false, x3, wrapU hs (Nat.xor_lt_two_pow ha hb)]; rfl
theorem run_xor64 {P : Program} {w : World} (t : TypeId) (a b : Nat) (ha : a < 18446744073709551616) (hb : b < 18446744073709551616) :
    (binOp .xor t (.int .u64 a) (.int .u64 b)).run P w = .ok (.int .u64 (a ^^^ b : Nat)) w := run_xorU .u64 rfl t a b ha hb

theorem mix_ret (n : Nat) (hn : n < 18446744073709551616) (w : World) : Ret Tryz.prog 143 [.int .u64 n].toArray w fun v w' => (∃ m : Nat, m < 18446744073709551616 ∧ v = .int .u64 m) ∧ Ext w w' := by
  
  refine Ret.enter Tryz.func143 rfl Tryz.ntmps143 rfl ?_
  (repeat (first | refine GX.doneD ?_ | refine GX.done ?_ | refine GQ.goNormal ?_ | refine GC.seq ?_ | refine GC.skip ?_ | refine GC.block ?_ | refine GC.exit ?_ | refine GC.ret ?_ | refine GQ.goExit ?_ | refine GQ.goRet ?_ | refine GQ.inNormal ?_ | refine GQ.inExit ?_ | refine GQ.inExitNe rfl ?_ | refine GQ.inRet ?_ | refine GQ.loopExit ?_ | refine GQ.loopRet ?_ | refine GQ.cutExit ?_ | refine GQ.cutRet ?_))
  refine GC.region (.pure 0 .done) rfl ?_
  (repeat (refine GX.pure rfl ?_; refine GO.assign rfl rfl rfl rfl ?_))
  (repeat (first | refine GX.doneD ?_ | refine GX.done ?_ | refine GQ.goNormal ?_ | refine GC.seq ?_ | refine GC.skip ?_ | refine GC.block ?_ | refine GC.exit ?_ | refine GC.ret ?_ | refine GQ.goExit ?_ | refine GQ.goRet ?_ | refine GQ.inNormal ?_ | refine GQ.inExit ?_ | refine GQ.inExitNe rfl ?_ | refine GQ.inRet ?_ | refine GQ.loopExit ?_ | refine GQ.loopRet ?_ | refine GQ.cutExit ?_ | refine GQ.cutRet ?_))
  refine GC.region (.pure 0 (.pure 1 (.pure 2 (.pure 3 (.pure 4 .done))))) rfl ?_
  (repeat (refine GX.pure rfl ?_; first | refine GO.move rfl rfl rfl rfl ?_ | refine GO.assign rfl rfl rfl rfl ?_))
  refine GX.pure rfl (GO.shl rfl rfl rfl rfl rfl (by decide) (wrap_u64 (n * 2 ^ 13)) ?_)
  refine GX.pure rfl (GO.bits rfl rfl rfl rfl rfl (fun w => run_xor64 _ n (n * 2 ^ 13 % 18446744073709551616) hn (by omega)) ?_)
  obtain ⟨n1, hn1⟩ : ∃ n1, n1 = n ^^^ (n * 2 ^ 13 % 18446744073709551616) := ⟨_, rfl⟩
  rw [← hn1]
  have hb1 : n1 < 18446744073709551616 := by rw [hn1]; exact Nat.xor_lt_two_pow (n := 64) hn (by omega)
  (repeat (refine GX.pure rfl ?_; first | refine GO.move rfl rfl rfl rfl ?_ | refine GO.assign rfl rfl rfl rfl ?_))
  (repeat (first | refine GX.doneD ?_ | refine GX.done ?_ | refine GQ.goNormal ?_ | refine GC.seq ?_ | refine GC.skip ?_ | refine GC.block ?_ | refine GC.exit ?_ | refine GC.ret ?_ | refine GQ.goExit ?_ | refine GQ.goRet ?_ | refine GQ.inNormal ?_ | refine GQ.inExit ?_ | refine GQ.inExitNe rfl ?_ | refine GQ.inRet ?_ | refine GQ.loopExit ?_ | refine GQ.loopRet ?_ | refine GQ.cutExit ?_ | refine GQ.cutRet ?_))
  refine GC.region (.pure 0 (.pure 1 (.pure 2 (.pure 3 (.pure 4 .done))))) rfl ?_
  (repeat (refine GX.pure rfl ?_; first | refine GO.move rfl rfl rfl rfl ?_ | refine GO.assign rfl rfl rfl rfl ?_))
  refine GX.pure rfl (GO.shr rfl rfl rfl rfl rfl (by decide) (show (n1 : Int) / 2 ^ min (7 : Int).toNat IntKind.u64.bits = ((n1 / 2 ^ 7 : Nat) : Int) by simp [IntKind.bits]) ?_)
  refine GX.pure rfl (GO.bits rfl rfl rfl rfl rfl (fun w => run_xor64 _ n1 (n1 / 2 ^ 7) hb1 (by omega)) ?_)
  obtain ⟨n2, hn2⟩ : ∃ n2, n2 = n1 ^^^ (n1 / 2 ^ 7) := ⟨_, rfl⟩
  rw [← hn2]
  have hb2 : n2 < 18446744073709551616 := by rw [hn2]; exact Nat.xor_lt_two_pow (n := 64) hb1 (by omega)
  (repeat (refine GX.pure rfl ?_; first | refine GO.move rfl rfl rfl rfl ?_ | refine GO.assign rfl rfl rfl rfl ?_))
  (repeat (first | refine GX.doneD ?_ | refine GX.done ?_ | refine GQ.goNormal ?_ | refine GC.seq ?_ | refine GC.skip ?_ | refine GC.block ?_ | refine GC.exit ?_ | refine GC.ret ?_ | refine GQ.goExit ?_ | refine GQ.goRet ?_ | refine GQ.inNormal ?_ | refine GQ.inExit ?_ | refine GQ.inExitNe rfl ?_ | refine GQ.inRet ?_ | refine GQ.loopExit ?_ | refine GQ.loopRet ?_ | refine GQ.cutExit ?_ | refine GQ.cutRet ?_))
  refine GC.region (.pure 0 (.pure 1 (.pure 2 (.pure 3 (.pure 4 .done))))) rfl ?_
  (repeat (refine GX.pure rfl ?_; first | refine GO.move rfl rfl rfl rfl ?_ | refine GO.assign rfl rfl rfl rfl ?_))
  refine GX.pure rfl (GO.shl rfl rfl rfl rfl rfl (by decide) (wrap_u64 (n2 * 2 ^ 17)) ?_)
  refine GX.pure rfl (GO.bits rfl rfl rfl rfl rfl (fun w => run_xor64 _ n2 (n2 * 2 ^ 17 % 18446744073709551616) hb2 (by omega)) ?_)
  obtain ⟨n3, hn3⟩ : ∃ n3, n3 = n2 ^^^ (n2 * 2 ^ 17 % 18446744073709551616) := ⟨_, rfl⟩
  rw [← hn3]
  have hb3 : n3 < 18446744073709551616 := by rw [hn3]; exact Nat.xor_lt_two_pow (n := 64) hb2 (by omega)
  (repeat (refine GX.pure rfl ?_; first | refine GO.move rfl rfl rfl rfl ?_ | refine GO.assign rfl rfl rfl rfl ?_))
  (repeat (first | refine GX.doneD ?_ | refine GX.done ?_ | refine GQ.goNormal ?_ | refine GC.seq ?_ | refine GC.skip ?_ | refine GC.block ?_ | refine GC.exit ?_ | refine GC.ret ?_ | refine GQ.goExit ?_ | refine GQ.goRet ?_ | refine GQ.inNormal ?_ | refine GQ.inExit ?_ | refine GQ.inExitNe rfl ?_ | refine GQ.inRet ?_ | refine GQ.loopExit ?_ | refine GQ.loopRet ?_ | refine GQ.cutExit ?_ | refine GQ.cutRet ?_))
  refine GC.region (.pure 0 (.pure 1 .done)) rfl ?_
  (repeat (refine GX.pure rfl ?_; first | refine GO.move rfl rfl rfl rfl ?_ | refine GO.assign rfl rfl rfl rfl ?_))
  (repeat (first | refine GX.doneD ?_ | refine GX.done ?_ | refine GQ.goNormal ?_ | refine GC.seq ?_ | refine GC.skip ?_ | refine GC.block ?_ | refine GC.exit ?_ | refine GC.ret ?_ | refine GQ.goExit ?_ | refine GQ.goRet ?_ | refine GQ.inNormal ?_ | refine GQ.inExit ?_ | refine GQ.inExitNe rfl ?_ | refine GQ.inRet ?_ | refine GQ.loopExit ?_ | refine GQ.loopRet ?_ | refine GQ.cutExit ?_ | refine GQ.cutRet ?_))
  refine GQ.ret1 (by first | exact .inl rfl | exact .inr rfl) rfl rfl ?_
  exact ⟨⟨n3, hb3, rfl⟩, Mod.refl _⟩

theorem fold_ret (n : Nat) (hn : n < 18446744073709551616) (l : List UInt8) (hl : l.length ≤ 1000000) (w : World) : Ret Tryz.prog 144 [.int .u64 n, str l].toArray w fun v w' => (∃ m : Nat, m < 18446744073709551616 ∧ v = .int .u64 m) ∧ Ext w w' := by
  
  refine Ret.enter Tryz.func144 rfl Tryz.ntmps144 rfl ?_
  (repeat (first | refine GX.doneD ?_ | refine GX.done ?_ | refine GQ.goNormal ?_ | refine GC.seq ?_ | refine GC.skip ?_ | refine GC.block ?_ | refine GC.exit ?_ | refine GC.ret ?_ | refine GQ.goExit ?_ | refine GQ.goRet ?_ | refine GQ.inNormal ?_ | refine GQ.inExit ?_ | refine GQ.inExitNe rfl ?_ | refine GQ.inRet ?_ | refine GQ.loopExit ?_ | refine GQ.loopRet ?_ | refine GQ.cutExit ?_ | refine GQ.cutRet ?_))
  refine GC.region (.pure 0 .done) rfl ?_
  (repeat (refine GX.pure rfl ?_; refine GO.assign rfl rfl rfl rfl ?_))
  (repeat (first | refine GX.doneD ?_ | refine GX.done ?_ | refine GQ.goNormal ?_ | refine GC.seq ?_ | refine GC.skip ?_ | refine GC.block ?_ | refine GC.exit ?_ | refine GC.ret ?_ | refine GQ.goExit ?_ | refine GQ.goRet ?_ | refine GQ.inNormal ?_ | refine GQ.inExit ?_ | refine GQ.inExitNe rfl ?_ | refine GQ.inRet ?_ | refine GQ.loopExit ?_ | refine GQ.loopRet ?_ | refine GQ.cutExit ?_ | refine GQ.cutRet ?_))
  refine GC.region (.pure 0 (.pure 1 (.pure 2 .done))) rfl ?_
  (repeat (refine GX.pure rfl ?_; first | refine GO.move rfl rfl rfl rfl ?_ | refine GO.lenStr rfl rfl rfl rfl ?_))
  (repeat (first | refine GX.doneD ?_ | refine GX.done ?_ | refine GQ.goNormal ?_ | refine GC.seq ?_ | refine GC.skip ?_ | refine GC.block ?_ | refine GC.exit ?_ | refine GC.ret ?_ | refine GQ.goExit ?_ | refine GQ.goRet ?_ | refine GQ.inNormal ?_ | refine GQ.inExit ?_ | refine GQ.inExitNe rfl ?_ | refine GQ.inRet ?_ | refine GQ.loopExit ?_ | refine GQ.loopRet ?_ | refine GQ.cutExit ?_ | refine GQ.cutRet ?_))
  refine GC.loop (X := Nat × Nat) (fun x => [(0, .int .u64 x.2), (1, str l), (7, .int .i64 l.length), (8, .int .i64 x.1)]) (fun x w' => w = w' ∧ x.1 ≤ l.length ∧ x.2 < 18446744073709551616) (fun x => l.length - x.1) (0, n) (sub_pick (l := [0, 1, 7, 8]) rfl) ⟨rfl, Nat.zero_le _, hn⟩ ?_
  rintro ⟨i, h⟩ _ ⟨rfl, hi, hh⟩
  dsimp only at hi hh ⊢
  (repeat (first | refine GX.doneD ?_ | refine GX.done ?_ | refine GQ.goNormal ?_ | refine GC.seq ?_ | refine GC.skip ?_ | refine GC.block ?_ | refine GC.exit ?_ | refine GC.ret ?_ | refine GQ.goExit ?_ | refine GQ.goRet ?_ | refine GQ.inNormal ?_ | refine GQ.inExit ?_ | refine GQ.inExitNe rfl ?_ | refine GQ.inRet ?_ | refine GQ.loopExit ?_ | refine GQ.loopRet ?_ | refine GQ.cutExit ?_ | refine GQ.cutRet ?_))
  refine GC.region (.pure 0 .done) rfl ?_
  (repeat (refine GX.pure rfl ?_; refine GO.lss rfl rfl rfl rfl rfl ?_))
  (repeat (first | refine GX.doneD ?_ | refine GX.done ?_ | refine GQ.goNormal ?_ | refine GC.seq ?_ | refine GC.skip ?_ | refine GC.block ?_ | refine GC.exit ?_ | refine GC.ret ?_ | refine GQ.goExit ?_ | refine GQ.goRet ?_ | refine GQ.inNormal ?_ | refine GQ.inExit ?_ | refine GQ.inExitNe rfl ?_ | refine GQ.inRet ?_ | refine GQ.loopExit ?_ | refine GQ.loopRet ?_ | refine GQ.cutExit ?_ | refine GQ.cutRet ?_))
  refine GC.cond rfl (fun hc => ?_) (fun hc => ?_)
  · have hlt : i < l.length := by have := of_decide_eq_true hc; omega
    (repeat (first | refine GX.doneD ?_ | refine GX.done ?_ | refine GQ.goNormal ?_ | refine GC.seq ?_ | refine GC.skip ?_ | refine GC.block ?_ | refine GC.exit ?_ | refine GC.ret ?_ | refine GQ.goExit ?_ | refine GQ.goRet ?_ | refine GQ.inNormal ?_ | refine GQ.inExit ?_ | refine GQ.inExitNe rfl ?_ | refine GQ.inRet ?_ | refine GQ.loopExit ?_ | refine GQ.loopRet ?_ | refine GQ.cutExit ?_ | refine GQ.cutRet ?_))
    refine GC.region (.pure 0 (.pure 1 .done)) rfl ?_
    (repeat (refine GX.pure rfl ?_; first | refine GO.move rfl rfl rfl rfl ?_ | refine GO.assign rfl rfl rfl rfl ?_))
    (repeat (first | refine GX.doneD ?_ | refine GX.done ?_ | refine GQ.goNormal ?_ | refine GC.seq ?_ | refine GC.skip ?_ | refine GC.block ?_ | refine GC.exit ?_ | refine GC.ret ?_ | refine GQ.goExit ?_ | refine GQ.goRet ?_ | refine GQ.inNormal ?_ | refine GQ.inExit ?_ | refine GQ.inExitNe rfl ?_ | refine GQ.inRet ?_ | refine GQ.loopExit ?_ | refine GQ.loopRet ?_ | refine GQ.cutExit ?_ | refine GQ.cutRet ?_))
    refine GC.region (.pure 0 (.pure 1 (.pure 2 (.pure 3 (.pure 4 (.pure 5 (.pure 6 (.pure 7 (.pure 8 .done))))))))) rfl ?_
    (repeat (refine GX.pure rfl ?_; first | refine GO.move rfl rfl rfl rfl ?_ | refine GO.assign rfl rfl rfl rfl ?_ | refine GO.add rfl rfl rfl rfl rfl (wrapIn (by dsimp only [InK]; omega)) ?_ | refine GO.conv rfl rfl rfl rfl (wrapIn (by dsimp only [InK]; omega)) ?_ | refine GO.convStr rfl rfl rfl rfl ?_))
    refine GX.pure rfl (GO.mul rfl rfl rfl rfl rfl (show IntKind.u64.wrap ((31 : Int) * (h : Int)) = ((31 * h % 18446744073709551616 : Nat) : Int) by rw [← wrap_u64]; rfl) ?_)
    (repeat (refine GX.pure rfl ?_; first | refine GO.move rfl rfl rfl rfl ?_ | refine GO.assign rfl rfl rfl rfl ?_ | refine GO.add rfl rfl rfl rfl rfl (wrapIn (by dsimp only [InK]; omega)) ?_ | refine GO.conv rfl rfl rfl rfl (wrapIn (by dsimp only [InK]; omega)) ?_ | refine GO.convStr rfl rfl rfl rfl ?_))
    refine GX.pure rfl (GO.indexStr rfl rfl rfl rfl (by omega) (u := l[i]) (by simp [hlt]) rfl ?_)
    refine GX.pure rfl (GO.conv rfl rfl rfl rfl (show IntKind.u64.wrap ((l[i].toNat : Nat) : Int) = ((l[i].toNat : Nat) : Int) by rw [wrap_u64, Nat.mod_eq_of_lt]; have := l[i].toNat_lt; omega) ?_)
    refine GX.pure rfl (GO.add rfl rfl rfl rfl rfl (show IntKind.u64.wrap (((31 * h % 18446744073709551616 : Nat) : Int) + ((l[i].toNat : Nat) : Int)) = (((31 * h % 18446744073709551616 + l[i].toNat) % 18446744073709551616 : Nat) : Int) by rw [← wrap_u64]; rfl) ?_)
    refine GX.pure rfl (GO.add rfl rfl rfl rfl rfl (show IntKind.u64.wrap ((((31 * h % 18446744073709551616 + l[i].toNat) % 18446744073709551616 : Nat) : Int) + (1 : Int)) = (((((31 * h % 18446744073709551616 + l[i].toNat) % 18446744073709551616) + 1) % 18446744073709551616 : Nat) : Int) by rw [← wrap_u64]; rfl) ?_)
    obtain ⟨h2, hh2, hlt2⟩ : ∃ h2 : Nat, h2 = (((31 * h % 18446744073709551616 + l[i].toNat) % 18446744073709551616) + 1) % 18446744073709551616 ∧ h2 < 18446744073709551616 := ⟨_, rfl, Nat.mod_lt _ (by decide)⟩
    rw [← hh2]
    (repeat (refine GX.pure rfl ?_; first | refine GO.move rfl rfl rfl rfl ?_ | refine GO.assign rfl rfl rfl rfl ?_ | refine GO.add rfl rfl rfl rfl rfl (wrapIn (by dsimp only [InK]; omega)) ?_ | refine GO.conv rfl rfl rfl rfl (wrapIn (by dsimp only [InK]; omega)) ?_ | refine GO.convStr rfl rfl rfl rfl ?_))
    (repeat (first | refine GX.doneD ?_ | refine GX.done ?_ | refine GQ.goNormal ?_ | refine GC.seq ?_ | refine GC.skip ?_ | refine GC.block ?_ | refine GC.exit ?_ | refine GC.ret ?_ | refine GQ.goExit ?_ | refine GQ.goRet ?_ | refine GQ.inNormal ?_ | refine GQ.inExit ?_ | refine GQ.inExitNe rfl ?_ | refine GQ.inRet ?_ | refine GQ.loopExit ?_ | refine GQ.loopRet ?_ | refine GQ.cutExit ?_ | refine GQ.cutRet ?_))
    refine GC.region (.pure 0 (.pure 1 .done)) rfl ?_
    (repeat (refine GX.pure rfl ?_; first | refine GO.move rfl rfl rfl rfl ?_ | refine GO.add rfl rfl rfl rfl rfl (wrapIn (by dsimp only [InK]; omega)) ?_))
    (repeat (first | refine GX.doneD ?_ | refine GX.done ?_ | refine GQ.goNormal ?_ | refine GC.seq ?_ | refine GC.skip ?_ | refine GC.block ?_ | refine GC.exit ?_ | refine GC.ret ?_ | refine GQ.goExit ?_ | refine GQ.goRet ?_ | refine GQ.inNormal ?_ | refine GQ.inExit ?_ | refine GQ.inExitNe rfl ?_ | refine GQ.inRet ?_ | refine GQ.loopExit ?_ | refine GQ.loopRet ?_ | refine GQ.cutExit ?_ | refine GQ.cutRet ?_))
    exact GQ.again (i + 1, h2) (sub_pick (l := [0, 1, 7, 8]) rfl) ⟨rfl, hlt, hlt2⟩ (by dsimp only; omega)
  (repeat (first | refine GX.doneD ?_ | refine GX.done ?_ | refine GQ.goNormal ?_ | refine GC.seq ?_ | refine GC.skip ?_ | refine GC.block ?_ | refine GC.exit ?_ | refine GC.ret ?_ | refine GQ.goExit ?_ | refine GQ.goRet ?_ | refine GQ.inNormal ?_ | refine GQ.inExit ?_ | refine GQ.inExitNe rfl ?_ | refine GQ.inRet ?_ | refine GQ.loopExit ?_ | refine GQ.loopRet ?_ | refine GQ.cutExit ?_ | refine GQ.cutRet ?_))
  refine GC.region (.pure 0 (.pure 1 .done)) rfl ?_
  (repeat (refine GX.pure rfl ?_; first | refine GO.move rfl rfl rfl rfl ?_ | refine GO.assign rfl rfl rfl rfl ?_))
  (repeat (first | refine GX.doneD ?_ | refine GX.done ?_ | refine GQ.goNormal ?_ | refine GC.seq ?_ | refine GC.skip ?_ | refine GC.block ?_ | refine GC.exit ?_ | refine GC.ret ?_ | refine GQ.goExit ?_ | refine GQ.goRet ?_ | refine GQ.inNormal ?_ | refine GQ.inExit ?_ | refine GQ.inExitNe rfl ?_ | refine GQ.inRet ?_ | refine GQ.loopExit ?_ | refine GQ.loopRet ?_ | refine GQ.cutExit ?_ | refine GQ.cutRet ?_))
  refine GQ.ret1 (by first | exact .inl rfl | exact .inr rfl) rfl rfl ?_
  exact ⟨⟨h, hh, rfl⟩, Mod.refl _⟩

theorem sum_ret (n : Nat) (hn : n < 18446744073709551616) (l : List UInt8) (hl : l.length ≤ 1000000) (w : World) : Ret Tryz.prog 135 [.int .u64 n, str l].toArray w fun v w' => (∃ m : Nat, m < 18446744073709551616 ∧ v = .int .u64 m) ∧ Ext w w' := by
  
  refine Ret.enter Tryz.func135 rfl Tryz.ntmps135 rfl ?_
  (repeat (first | refine GX.doneD ?_ | refine GX.done ?_ | refine GQ.goNormal ?_ | refine GC.seq ?_ | refine GC.skip ?_ | refine GC.block ?_ | refine GC.exit ?_ | refine GC.ret ?_ | refine GQ.goExit ?_ | refine GQ.goRet ?_ | refine GQ.inNormal ?_ | refine GQ.inExit ?_ | refine GQ.inExitNe rfl ?_ | refine GQ.inRet ?_ | refine GQ.loopExit ?_ | refine GQ.loopRet ?_ | refine GQ.cutExit ?_ | refine GQ.cutRet ?_))
  refine GC.region (.pure 0 .done) rfl ?_
  (repeat (refine GX.pure rfl ?_; refine GO.assign rfl rfl rfl rfl ?_))
  (repeat (first | refine GX.doneD ?_ | refine GX.done ?_ | refine GQ.goNormal ?_ | refine GC.seq ?_ | refine GC.skip ?_ | refine GC.block ?_ | refine GC.exit ?_ | refine GC.ret ?_ | refine GQ.goExit ?_ | refine GQ.goRet ?_ | refine GQ.inNormal ?_ | refine GQ.inExit ?_ | refine GQ.inExitNe rfl ?_ | refine GQ.inRet ?_ | refine GQ.loopExit ?_ | refine GQ.loopRet ?_ | refine GQ.cutExit ?_ | refine GQ.cutRet ?_))
  refine GC.region (.pure 0 (.pure 1 (.eff 2 (.eff 3 (.pure 4 .done))))) rfl ?_
  (repeat (refine GX.pure rfl ?_; first | refine GO.move rfl rfl rfl rfl ?_ | refine GO.assign rfl rfl rfl rfl ?_))
  (refine GX.eff rfl ?_; refine GO.callL rfl rfl rfl rfl rfl (fold_ret n hn l hl w) ?_)
  rintro _ w1 ⟨⟨n1, hn1, rfl⟩, hE1⟩
  refine ⟨fun _ h => by first | trivial | exact Mod.trans h (Ext.mod (by assumption)), ?_⟩
  (repeat (refine GX.pure rfl ?_; first | refine GO.move rfl rfl rfl rfl ?_ | refine GO.assign rfl rfl rfl rfl ?_))
  (refine GX.eff rfl ?_; refine GO.callL rfl rfl rfl rfl rfl (mix_ret n1 hn1 w1) ?_)
  rintro _ w2 ⟨⟨m, hm, rfl⟩, hE2⟩
  refine ⟨fun _ h => by first | trivial | exact Mod.trans h (Ext.mod (by assumption)), ?_⟩
  (repeat (refine GX.pure rfl ?_; first | refine GO.move rfl rfl rfl rfl ?_ | refine GO.assign rfl rfl rfl rfl ?_))
  (repeat (first | refine GX.doneD ?_ | refine GX.done ?_ | refine GQ.goNormal ?_ | refine GC.seq ?_ | refine GC.skip ?_ | refine GC.block ?_ | refine GC.exit ?_ | refine GC.ret ?_ | refine GQ.goExit ?_ | refine GQ.goRet ?_ | refine GQ.inNormal ?_ | refine GQ.inExit ?_ | refine GQ.inExitNe rfl ?_ | refine GQ.inRet ?_ | refine GQ.loopExit ?_ | refine GQ.loopRet ?_ | refine GQ.cutExit ?_ | refine GQ.cutRet ?_))
  refine GQ.ret1 (by first | exact .inl rfl | exact .inr rfl) rfl rfl ?_
  exact ⟨⟨m, hm, rfl⟩, hE1.trans hE2⟩

/-- The cells of a graph without nodes. -/
def graphCells (v0 v1 : Value) (n : Nat) (v3 : Value) (bc oc cap : Nat) (v5 v6 : Value) : List Value := [v0, v1, .int .u64 n, v3, .slice (some ⟨bc, oc, none⟩) 8 cap, v5, v6]

theorem cell_ret (bg og bc oc cap n : Nat) (v0 v1 v3 v5 v6 : Value) (hn : n < 18446744073709551616) (l : List UInt8) (hl : l.length ≤ 1000000) (w : World) (hG : At w bg og (graphCells v0 v1 n v3 bc oc cap v5 v6)) (hC : At w bc oc (List.replicate 8 (.int .i64 0))) :
    Ret Tryz.prog 116 [.pointer (some ⟨bg, og, none⟩), str l].toArray w fun v w' => (∃ j : Nat, j < 8 ∧ v = .pointer (some ⟨bc, oc + j, none⟩)) ∧ Ext w w' := by
  
  refine Ret.enter Tryz.func116 rfl Tryz.ntmps116 rfl ?_
  (repeat (first | refine GX.doneD ?_ | refine GX.done ?_ | refine GQ.goNormal ?_ | refine GC.seq ?_ | refine GC.skip ?_ | refine GC.block ?_ | refine GC.exit ?_ | refine GC.ret ?_ | refine GQ.goExit ?_ | refine GQ.goRet ?_ | refine GQ.inNormal ?_ | refine GQ.inExit ?_ | refine GQ.inExitNe rfl ?_ | refine GQ.inRet ?_ | refine GQ.loopExit ?_ | refine GQ.loopRet ?_ | refine GQ.cutExit ?_ | refine GQ.cutRet ?_))
  refine GC.region (.pure 0 .done) rfl ?_
  (repeat (refine GX.pure rfl ?_; refine GO.assign rfl rfl rfl rfl ?_))
  (repeat (first | refine GX.doneD ?_ | refine GX.done ?_ | refine GQ.goNormal ?_ | refine GC.seq ?_ | refine GC.skip ?_ | refine GC.block ?_ | refine GC.exit ?_ | refine GC.ret ?_ | refine GQ.goExit ?_ | refine GQ.goRet ?_ | refine GQ.inNormal ?_ | refine GQ.inExit ?_ | refine GQ.inExitNe rfl ?_ | refine GQ.inRet ?_ | refine GQ.loopExit ?_ | refine GQ.loopRet ?_ | refine GQ.cutExit ?_ | refine GQ.cutRet ?_))
  have hG2 : At w bg (og + 2) [.int .u64 n] := At.one hG (show (graphCells v0 v1 n v3 bc oc cap v5 v6)[2]? = some (.int .u64 n) from rfl)
  have hG4 : At w bg (og + 4) [.slice (some ⟨bc, oc, none⟩) 8 cap] := At.one hG (show (graphCells v0 v1 n v3 bc oc cap v5 v6)[4]? = some (.slice (some ⟨bc, oc, none⟩) 8 cap) from rfl)
  refine GC.regionD (.pure 0 (.pure 1 (.pure 2 (.pure 4 (.pure 6 (.pure 7 (.pure 8 (.read 3 (.read 9 (.pure 10 (.pure 11 (.eff 5 (.pure 12 (.pure 13 .done)))))))))))))) (fun _ => False) mixed (by kernel_rfl) (by kernel_rfl) ?_
  intro w1 hh1 hE1
  have hS1 : Mod (fun _ => False) w w1 := hE1
  (repeat (refine GX.pure rfl ?_; first | refine GO.move rfl rfl rfl rfl ?_ | refine GO.assign rfl rfl rfl rfl ?_ | refine GO.nilCheck rfl rfl rfl rfl ?_ | refine GO.fieldAddr rfl rfl rfl rfl rfl ?_ | refine GO.lenSlice rfl rfl rfl rfl ?_ | refine GO.conv rfl rfl rfl rfl (wrapIn (by dsimp only [InK]; omega)) ?_ | refine GO.convStr rfl rfl rfl rfl ?_ | refine GO.nilCheckF rfl rfl rfl rfl ?_))
  (first | (refine GX.eff rfl ?_; first | refine GO.load1 (hG2) rfl rfl rfl ?_ | refine GO.loadN (hG2) rfl rfl rfl rfl ?_) | (refine GX.read rfl ?_; first | refine GO.load1R (by assumption) (fun _ hS_ => At.mod (hG2) hS_ (by simp)) rfl rfl rfl ?_ | refine GO.loadNR (by assumption) (fun _ hS_ => At.mod (hG2) hS_ (by simp)) rfl rfl rfl rfl ?_))
  (first | (refine GX.eff rfl ?_; first | refine GO.load1 (hG4) rfl rfl rfl ?_ | refine GO.loadN (hG4) rfl rfl rfl rfl ?_) | (refine GX.read rfl ?_; first | refine GO.load1R (by assumption) (fun _ hS_ => At.mod (hG4) hS_ (by simp)) rfl rfl rfl ?_ | refine GO.loadNR (by assumption) (fun _ hS_ => At.mod (hG4) hS_ (by simp)) rfl rfl rfl rfl ?_))
  (repeat (refine GX.pure rfl ?_; first | refine GO.move rfl rfl rfl rfl ?_ | refine GO.assign rfl rfl rfl rfl ?_ | refine GO.nilCheck rfl rfl rfl rfl ?_ | refine GO.fieldAddr rfl rfl rfl rfl rfl ?_ | refine GO.lenSlice rfl rfl rfl rfl ?_ | refine GO.conv rfl rfl rfl rfl (wrapIn (by dsimp only [InK]; omega)) ?_ | refine GO.convStr rfl rfl rfl rfl ?_ | refine GO.nilCheckF rfl rfl rfl rfl ?_))
  (refine GX.eff rfl ?_; refine GO.callL rfl rfl rfl rfl rfl (sum_ret n hn l hl w1) ?_)
  rintro _ w2 ⟨⟨m, hm, rfl⟩, hE2⟩
  refine ⟨fun _ h => by first | trivial | exact Mod.trans h (Ext.mod (by assumption)), ?_⟩
  refine GX.pure rfl (GO.rem rfl rfl rfl rfl rfl (by decide) (show (m : Int).tmod 8 = ((m % 8 : Nat) : Int) by rw [Int.tmod_eq_emod_of_nonneg (by omega)]; rfl) ?_)
  (repeat (refine GX.pure rfl ?_; first | refine GO.move rfl rfl rfl rfl ?_ | refine GO.assign rfl rfl rfl rfl ?_ | refine GO.nilCheck rfl rfl rfl rfl ?_ | refine GO.fieldAddr rfl rfl rfl rfl rfl ?_ | refine GO.lenSlice rfl rfl rfl rfl ?_ | refine GO.conv rfl rfl rfl rfl (wrapIn (by dsimp only [InK]; omega)) ?_ | refine GO.convStr rfl rfl rfl rfl ?_ | refine GO.nilCheckF rfl rfl rfl rfl ?_))
  (repeat (first | refine GX.doneD ?_ | refine GX.done ?_ | refine GQ.goNormal ?_ | refine GC.seq ?_ | refine GC.skip ?_ | refine GC.block ?_ | refine GC.exit ?_ | refine GC.ret ?_ | refine GQ.goExit ?_ | refine GQ.goRet ?_ | refine GQ.inNormal ?_ | refine GQ.inExit ?_ | refine GQ.inExitNe rfl ?_ | refine GQ.inRet ?_ | refine GQ.loopExit ?_ | refine GQ.loopRet ?_ | refine GQ.cutExit ?_ | refine GQ.cutRet ?_))
  obtain ⟨j, hj, hj8⟩ : ∃ j : Nat, j = m % 8 ∧ j < 8 := ⟨_, rfl, by omega⟩
  rw [← hj]
  have hEE : Ext w w2 := hE1.trans hE2
  refine GC.loop (X := Unit) (fun _ => [(0, .pointer (some ⟨bg, og, none⟩)), (1, str l), (5, .int .u64 j)]) (fun _ w' => w2 = w') (fun _ => 0) () (sub_pick (l := [0, 1, 5]) rfl) rfl ?_
  rintro _ _ rfl
  have hG4' := hG4.ext hEE
  have hcj : At w2 bc (oc + (j : Int).toNat * 1) [.int .i64 0] := by
    have := At.one (hC.ext hEE) (show (List.replicate 8 (Value.int .i64 0))[j]? = some (.int .i64 0) by rw [List.getElem?_replicate, if_pos hj8])
    simpa using this
  (repeat (first | refine GX.doneD ?_ | refine GX.done ?_ | refine GQ.goNormal ?_ | refine GC.seq ?_ | refine GC.skip ?_ | refine GC.block ?_ | refine GC.exit ?_ | refine GC.ret ?_ | refine GQ.goExit ?_ | refine GQ.goRet ?_ | refine GQ.inNormal ?_ | refine GQ.inExit ?_ | refine GQ.inExitNe rfl ?_ | refine GQ.inRet ?_ | refine GQ.loopExit ?_ | refine GQ.loopRet ?_ | refine GQ.cutExit ?_ | refine GQ.cutRet ?_))
  refine GC.regionD (.pure 0 (.pure 1 (.pure 2 (.pure 4 (.read 3 (.pure 5 (.read 6 (.pure 7 (.pure 8 (.pure 9 (.pure 10 (.pure 11 (.pure 13 (.pure 14 (.pure 15 (.pure 17 (.pure 26 (.read 12 (.read 16 (.pure 18 (.read 19 (.pure 20 (.pure 21 (.read 22 (.pure 23 (.pure 24 (.read 25 (.pure 27 (.pure 28 .done))))))))))))))))))))))))))))) (fun _ => False) mixed (by kernel_rfl) (by kernel_rfl) ?_
  intro w3 hh3 hE3
  have hS3 : Mod (fun _ => False) w2 w3 := hE3
  (repeat (refine GX.pure rfl ?_; first | refine GO.move rfl rfl rfl rfl ?_ | refine GO.nilCheck rfl rfl rfl rfl ?_ | refine GO.fieldAddr rfl rfl rfl rfl rfl ?_ | refine GO.neq rfl rfl rfl rfl rfl ?_ | refine GO.pickT rfl rfl rfl rfl rfl ?_ | refine GO.pickF rfl rfl rfl rfl rfl ?_ | refine GO.strNeq rfl rfl rfl rfl rfl ?_ | refine GO.sub rfl rfl rfl rfl rfl (wrapIn (by dsimp only [InK]; omega)) ?_ | refine GO.nilCheckF rfl rfl rfl rfl ?_ | refine GO.skip (.inl rfl) rfl rfl ?_))
  (first | (refine GX.eff rfl ?_; first | refine GO.load1 (hG4') rfl rfl rfl ?_ | refine GO.loadN (hG4') rfl rfl rfl rfl ?_) | (refine GX.read rfl ?_; first | refine GO.load1R (by assumption) (fun _ hS_ => At.mod (hG4') hS_ (by simp)) rfl rfl rfl ?_ | refine GO.loadNR (by assumption) (fun _ hS_ => At.mod (hG4') hS_ (by simp)) rfl rfl rfl rfl ?_))
  (repeat (refine GX.pure rfl ?_; first | refine GO.move rfl rfl rfl rfl ?_ | refine GO.nilCheck rfl rfl rfl rfl ?_ | refine GO.fieldAddr rfl rfl rfl rfl rfl ?_ | refine GO.neq rfl rfl rfl rfl rfl ?_ | refine GO.pickT rfl rfl rfl rfl rfl ?_ | refine GO.pickF rfl rfl rfl rfl rfl ?_ | refine GO.strNeq rfl rfl rfl rfl rfl ?_ | refine GO.sub rfl rfl rfl rfl rfl (wrapIn (by dsimp only [InK]; omega)) ?_ | refine GO.nilCheckF rfl rfl rfl rfl ?_ | refine GO.skip (.inl rfl) rfl rfl ?_))
  refine GX.pure rfl (GO.indexAddr rfl rfl rfl rfl (by omega) (by omega) rfl ?_)
  (first | (refine GX.eff rfl ?_; first | refine GO.load1 (hcj) rfl rfl rfl ?_ | refine GO.loadN (hcj) rfl rfl rfl rfl ?_) | (refine GX.read rfl ?_; first | refine GO.load1R (by assumption) (fun _ hS_ => At.mod (hcj) hS_ (by simp)) rfl rfl rfl ?_ | refine GO.loadNR (by assumption) (fun _ hS_ => At.mod (hcj) hS_ (by simp)) rfl rfl rfl rfl ?_))
  (repeat (refine GX.pure rfl ?_; first | refine GO.move rfl rfl rfl rfl ?_ | refine GO.nilCheck rfl rfl rfl rfl ?_ | refine GO.fieldAddr rfl rfl rfl rfl rfl ?_ | refine GO.neq rfl rfl rfl rfl rfl ?_ | refine GO.pickT rfl rfl rfl rfl rfl ?_ | refine GO.pickF rfl rfl rfl rfl rfl ?_ | refine GO.strNeq rfl rfl rfl rfl rfl ?_ | refine GO.sub rfl rfl rfl rfl rfl (wrapIn (by dsimp only [InK]; omega)) ?_ | refine GO.nilCheckF rfl rfl rfl rfl ?_ | refine GO.skip (.inl rfl) rfl rfl ?_))
  (repeat (first | (refine GX.pure rfl ?_; first | refine GO.move rfl rfl rfl rfl ?_ | refine GO.nilCheck rfl rfl rfl rfl ?_ | refine GO.fieldAddr rfl rfl rfl rfl rfl ?_ | refine GO.neq rfl rfl rfl rfl rfl ?_ | refine GO.pickT rfl rfl rfl rfl rfl ?_ | refine GO.pickF rfl rfl rfl rfl rfl ?_ | refine GO.strNeq rfl rfl rfl rfl rfl ?_ | refine GO.sub rfl rfl rfl rfl rfl (wrapIn (by dsimp only [InK]; omega)) ?_ | refine GO.nilCheckF rfl rfl rfl rfl ?_ | refine GO.skip (.inl rfl) rfl rfl ?_) | (refine GX.eff rfl ?_; refine GO.skip (.inr rfl) rfl rfl ?_) | (refine GX.read rfl ?_; refine GO.skipRead (by assumption) rfl rfl ?_)))
  (repeat (first | refine GX.doneD ?_ | refine GX.done ?_ | refine GQ.goNormal ?_ | refine GC.seq ?_ | refine GC.skip ?_ | refine GC.block ?_ | refine GC.exit ?_ | refine GC.ret ?_ | refine GQ.goExit ?_ | refine GQ.goRet ?_ | refine GQ.inNormal ?_ | refine GQ.inExit ?_ | refine GQ.inExitNe rfl ?_ | refine GQ.inRet ?_ | refine GQ.loopExit ?_ | refine GQ.loopRet ?_ | refine GQ.cutExit ?_ | refine GQ.cutRet ?_))
  refine GC.cond rfl (fun hc => ?_) (fun hc => ?_)
  · cases hc
  (repeat (first | refine GX.doneD ?_ | refine GX.done ?_ | refine GQ.goNormal ?_ | refine GC.seq ?_ | refine GC.skip ?_ | refine GC.block ?_ | refine GC.exit ?_ | refine GC.ret ?_ | refine GQ.goExit ?_ | refine GQ.goRet ?_ | refine GQ.inNormal ?_ | refine GQ.inExit ?_ | refine GQ.inExitNe rfl ?_ | refine GQ.inRet ?_ | refine GQ.loopExit ?_ | refine GQ.loopRet ?_ | refine GQ.cutExit ?_ | refine GQ.cutRet ?_))
  refine GC.region (.pure 0 (.pure 1 (.pure 2 (.eff 3 (.pure 4 (.pure 5 (.pure 6 .done))))))) rfl ?_
  (repeat (refine GX.pure rfl ?_; first | refine GO.move rfl rfl rfl rfl ?_ | refine GO.assign rfl rfl rfl rfl ?_ | refine GO.nilCheck rfl rfl rfl rfl ?_ | refine GO.fieldAddr rfl rfl rfl rfl rfl ?_ | refine GO.nilCheckF rfl rfl rfl rfl ?_))
  (first | (refine GX.eff rfl ?_; first | refine GO.load1 (hG4'.ext hE3) rfl rfl rfl ?_ | refine GO.loadN (hG4'.ext hE3) rfl rfl rfl rfl ?_) | (refine GX.read rfl ?_; first | refine GO.load1R (by assumption) (fun _ hS_ => At.mod (hG4'.ext hE3) hS_ (by simp)) rfl rfl rfl ?_ | refine GO.loadNR (by assumption) (fun _ hS_ => At.mod (hG4'.ext hE3) hS_ (by simp)) rfl rfl rfl rfl ?_))
  (repeat (refine GX.pure rfl ?_; first | refine GO.move rfl rfl rfl rfl ?_ | refine GO.assign rfl rfl rfl rfl ?_ | refine GO.nilCheck rfl rfl rfl rfl ?_ | refine GO.fieldAddr rfl rfl rfl rfl rfl ?_ | refine GO.nilCheckF rfl rfl rfl rfl ?_))
  refine GX.pure rfl (GO.indexAddr rfl rfl rfl rfl (by omega) (by omega) rfl ?_)
  (repeat (refine GX.pure rfl ?_; first | refine GO.move rfl rfl rfl rfl ?_ | refine GO.assign rfl rfl rfl rfl ?_ | refine GO.nilCheck rfl rfl rfl rfl ?_ | refine GO.fieldAddr rfl rfl rfl rfl rfl ?_ | refine GO.nilCheckF rfl rfl rfl rfl ?_))
  (repeat (first | refine GX.doneD ?_ | refine GX.done ?_ | refine GQ.goNormal ?_ | refine GC.seq ?_ | refine GC.skip ?_ | refine GC.block ?_ | refine GC.exit ?_ | refine GC.ret ?_ | refine GQ.goExit ?_ | refine GQ.goRet ?_ | refine GQ.inNormal ?_ | refine GQ.inExit ?_ | refine GQ.inExitNe rfl ?_ | refine GQ.inRet ?_ | refine GQ.loopExit ?_ | refine GQ.loopRet ?_ | refine GQ.cutExit ?_ | refine GQ.cutRet ?_))
  refine GQ.ret1 (by first | exact .inl rfl | exact .inr rfl) rfl rfl ?_
  exact ⟨⟨j, hj8, by simp⟩, hEE.trans hE3⟩

theorem find_ret (bg og bc oc cap n : Nat) (v0 v1 v3 v5 v6 : Value) (hn : n < 18446744073709551616) (l : List UInt8) (hl : l.length ≤ 1000000) (w : World) (hG : At w bg og (graphCells v0 v1 n v3 bc oc cap v5 v6)) (hC : At w bc oc (List.replicate 8 (.int .i64 0))) :
    Ret Tryz.prog 99 [.pointer (some ⟨bg, og, none⟩), str l].toArray w fun v w' => v = .int .i64 (-1) ∧ Ext w w' := by
  
  refine Ret.enter Tryz.func99 rfl Tryz.ntmps99 rfl ?_
  (repeat (first | refine GX.doneD ?_ | refine GX.done ?_ | refine GQ.goNormal ?_ | refine GC.seq ?_ | refine GC.skip ?_ | refine GC.block ?_ | refine GC.exit ?_ | refine GC.ret ?_ | refine GQ.goExit ?_ | refine GQ.goRet ?_ | refine GQ.inNormal ?_ | refine GQ.inExit ?_ | refine GQ.inExitNe rfl ?_ | refine GQ.inRet ?_ | refine GQ.loopExit ?_ | refine GQ.loopRet ?_ | refine GQ.cutExit ?_ | refine GQ.cutRet ?_))
  refine GC.region (.pure 0 .done) rfl ?_
  (repeat (refine GX.pure rfl ?_; refine GO.assign rfl rfl rfl rfl ?_))
  (repeat (first | refine GX.doneD ?_ | refine GX.done ?_ | refine GQ.goNormal ?_ | refine GC.seq ?_ | refine GC.skip ?_ | refine GC.block ?_ | refine GC.exit ?_ | refine GC.ret ?_ | refine GQ.goExit ?_ | refine GQ.goRet ?_ | refine GQ.inNormal ?_ | refine GQ.inExit ?_ | refine GQ.inExitNe rfl ?_ | refine GQ.inRet ?_ | refine GQ.loopExit ?_ | refine GQ.loopRet ?_ | refine GQ.cutExit ?_ | refine GQ.cutRet ?_))
  refine GC.region (.pure 0 (.pure 1 (.eff 2 (.pure 3 (.eff 4 (.pure 5 (.pure 6 .done))))))) rfl ?_
  (repeat (refine GX.pure rfl ?_; first | refine GO.move rfl rfl rfl rfl ?_ | refine GO.assign rfl rfl rfl rfl ?_ | refine GO.nilCheck rfl rfl rfl rfl ?_ | refine GO.sub rfl rfl rfl rfl rfl (wrapIn (by dsimp only [InK]; omega)) ?_ | refine GO.nilCheckF rfl rfl rfl rfl ?_))
  (refine GX.eff rfl ?_; refine GO.callL rfl rfl rfl rfl rfl (cell_ret bg og bc oc cap n v0 v1 v3 v5 v6 hn l hl w hG hC) ?_)
  rintro _ w1 ⟨⟨j, hj, rfl⟩, hE1⟩
  refine ⟨fun _ h => by first | trivial | exact Mod.trans h (Ext.mod (by assumption)), ?_⟩
  (repeat (refine GX.pure rfl ?_; first | refine GO.move rfl rfl rfl rfl ?_ | refine GO.assign rfl rfl rfl rfl ?_ | refine GO.nilCheck rfl rfl rfl rfl ?_ | refine GO.sub rfl rfl rfl rfl rfl (wrapIn (by dsimp only [InK]; omega)) ?_ | refine GO.nilCheckF rfl rfl rfl rfl ?_))
  have hc1 : At w1 bc (oc + j) [.int .i64 0] := by
    have := At.one (hC.ext hE1) (show (List.replicate 8 (Value.int .i64 0))[j]? = some (.int .i64 0) by rw [List.getElem?_replicate, if_pos hj])
    simpa using this
  (first | (refine GX.eff rfl ?_; first | refine GO.load1 (hc1) rfl rfl rfl ?_ | refine GO.loadN (hc1) rfl rfl rfl rfl ?_) | (refine GX.read rfl ?_; first | refine GO.load1R (by assumption) (fun _ hS_ => At.mod (hc1) hS_ (by simp)) rfl rfl rfl ?_ | refine GO.loadNR (by assumption) (fun _ hS_ => At.mod (hc1) hS_ (by simp)) rfl rfl rfl rfl ?_))
  (repeat (refine GX.pure rfl ?_; first | refine GO.move rfl rfl rfl rfl ?_ | refine GO.assign rfl rfl rfl rfl ?_ | refine GO.nilCheck rfl rfl rfl rfl ?_ | refine GO.sub rfl rfl rfl rfl rfl (wrapIn (by dsimp only [InK]; omega)) ?_ | refine GO.nilCheckF rfl rfl rfl rfl ?_))
  (repeat (first | refine GX.doneD ?_ | refine GX.done ?_ | refine GQ.goNormal ?_ | refine GC.seq ?_ | refine GC.skip ?_ | refine GC.block ?_ | refine GC.exit ?_ | refine GC.ret ?_ | refine GQ.goExit ?_ | refine GQ.goRet ?_ | refine GQ.inNormal ?_ | refine GQ.inExit ?_ | refine GQ.inExitNe rfl ?_ | refine GQ.inRet ?_ | refine GQ.loopExit ?_ | refine GQ.loopRet ?_ | refine GQ.cutExit ?_ | refine GQ.cutRet ?_))
  refine GQ.ret1 (by first | exact .inl rfl | exact .inr rfl) rfl rfl ?_
  exact ⟨rfl, hE1⟩

def allZero : List AV → Bool
  | [] => true
  | .i .i64 (.ofNat 0) :: r => allZero r
  | _ => false
/-- A key is not found in a graph without nodes. -/
def extFind (ff : Nat) : CallA := fun g args st => match Nat.beq g ff, args with
  | true, [.p b o, .s k] => match atH st.H b o 7, Nat.ble k.length 1000000 with
    | some [_, _, .oi _ .u64 fs, _, .sl cb co _ 8 _, _, _], true => match atH st.H cb co 8, cmpFind .geq 0 fs, cmpFind .lss 18446744073709551616 fs with
      | some l, some true, some true => match allZero l with
        | true => some (.i .i64 (-1), st)
        | false => none
      | _, _, _ => none
    | _, _ => none
  | _, _ => none
theorem allZero_rel [Sig] {r : Rho} : ∀ {l : List AV} {L : List Value}, RelL r l L → allZero l = true → L = List.replicate L.length (.int .i64 0)
  | [], L, h, _ => by have := h.of_nil; subst this; rfl
  | a :: l, L, h, hz => by
    obtain ⟨A, M, rfl, hA, hM⟩ := h.of_cons
    unfold allZero at hz
    split at hz
    · rename_i h1
      cases h1
    · rename_i h1
      cases h1
      unfold Rel at hA
      subst hA
      rw [List.length_cons, List.replicate_succ, ← allZero_rel hM hz]
      rfl
    · cases hz
theorem extFind_ok [Sig] (lo : Nat) : CallOK Tryz.prog lo (extFind 99) := by
  intro g args st v st' h r w Args hArgs hs
  unfold extFind at h
  split at h
  · rename_i b o kl hg
    have hg := Nat.eq_of_beq_eq_true hg
    subst hg
    split at h
    · rename_i x0 x1 q fs x3 cb co e c x5 x6 hat hkl
      split at h
      · rename_i l hat2 hf1 hf2
        split at h
        · rename_i hz
          cases h
          obtain ⟨A, M, rfl, hA, hM⟩ := hArgs.of_cons
          obtain ⟨A2, M2, rfl, hA2, hM2⟩ := hM.of_cons
          have := hM2.of_nil
          subst this
          obtain ⟨B, K, hr, rfl⟩ := rel_p hA
          obtain ⟨rfl, _⟩ := rel_s hA2
          obtain ⟨_, L, hL, hAt, _⟩ := atH_sound hs hat hr
          obtain ⟨y0, L, rfl, _, hL⟩ := hL.of_cons
          obtain ⟨y1, L, rfl, _, hL⟩ := hL.of_cons
          obtain ⟨y2, L, rfl, h2, hL⟩ := hL.of_cons
          obtain ⟨y3, L, rfl, _, hL⟩ := hL.of_cons
          obtain ⟨y4, L, rfl, h4, hL⟩ := hL.of_cons
          obtain ⟨y5, L, rfl, _, hL⟩ := hL.of_cons
          obtain ⟨y6, L, rfl, _, hL⟩ := hL.of_cons
          have := hL.of_nil
          subst this
          obtain ⟨n, rfl, _, hfs⟩ := rel_oi h2
          obtain ⟨BC, KC, hrc, rfl, _⟩ := rel_sl h4
          obtain ⟨hlen, L2, hL2, hAt2, hlen2⟩ := atH_sound hs hat2 hrc
          have hz2 := allZero_rel hL2 hz
          rw [hlen2] at hz2
          rw [hz2] at hAt2
          have g1 := hfs _ (cmpFind_spec hf1)
          have g2 := hfs _ (cmpFind_spec hf2)
          simp [cmpI] at g1 g2
          obtain ⟨m, rfl⟩ := Int.eq_ofNat_of_zero_le g1
          refine (find_ret B o BC co _ m _ _ _ _ _ (by omega) _ (by simpa using Nat.le_of_ble_eq_true hkl) w hAt hAt2).mono ?_
          rintro v w' ⟨rfl, hE⟩
          exact ⟨r, Rho.le.refl r, by unfold Rel; rfl, hs.ext hE, modLo hE⟩
        · cases h
      · cases h
    · cases h
  · cases h
end Go.Proofs.YtlgkghmkkohadaaGreat.V
