/-
  What the law on the full journal computes. No condition.
-/
import Derived.Test.YtahkglanddhncaaYp
namespace Go.Proofs.Ytahkglanddhncaa.V
attribute [local irreducible] GX GO jf

/-- The state on the way: the journal with at most 4096 records, and all records. -/
def FlS (w : World) (y : Nat × Nat × Option Addr × Nat) (w' : World) : Prop :=
  y.1 ≤ 4098 ∧ ∃ F ob, JAt w' F y.2.1 (jf (min y.1 4096)) ∧ (∀ q, F q → w.heap.size ≤ q ∧ q < w'.heap.size ∧ some q ≠ ob) ∧ OwnS w' 5 1 ob y.2.2.1 (jf y.1).data.length y.2.2.2 (bytesV (jf y.1).data) ∧
    (∀ x, y.2.2.1 = some x → ob = some x.block) ∧ (∀ x, ob = some x → w.heap.size ≤ x) ∧ Ext w w'

theorem flush_f (w : World) (F : Nat → Prop) : CmdF w F (noS flushC) flushC := noS_f _ _ _ rfl rfl rfl
theorem okC_flush : OkC flushC := okC_bare 14 (by decide)

set_option maxHeartbeats 4000000 in
theorem fullsLaw_ret (many : Int) (w : World) :
    Ret Try.prog 5 [.int .i64 many].toArray w fun v w' => v = .bool true ∧ Ext w w' := by
  
  refine Ret.enter Try.func5 rfl Try.ntmps5 rfl ?_
  (repeat (first | refine GX.doneD ?_ | refine GX.done ?_ | refine GQ.goNormal ?_ | refine GC.seq ?_ | refine GC.skip ?_ | refine GC.block ?_ | refine GC.exit ?_ | refine GC.ret ?_ | refine GQ.goExit ?_ | refine GQ.goRet ?_ | refine GQ.inNormal ?_ | refine GQ.inExit ?_ | refine GQ.inExitNe rfl ?_ | refine GQ.inRet ?_ | refine GQ.loopExit ?_ | refine GQ.loopRet ?_ | refine GQ.cutExit ?_ | refine GQ.cutRet ?_))
  refine GC.region (.pure 0 .done) rfl ?_
  (repeat (refine GX.pure rfl ?_; refine GO.assign rfl rfl rfl rfl ?_))
  (repeat (first | refine GX.doneD ?_ | refine GX.done ?_ | refine GQ.goNormal ?_ | refine GC.seq ?_ | refine GC.skip ?_ | refine GC.block ?_ | refine GC.exit ?_ | refine GC.ret ?_ | refine GQ.goExit ?_ | refine GQ.goRet ?_ | refine GQ.inNormal ?_ | refine GQ.inExit ?_ | refine GQ.inExitNe rfl ?_ | refine GQ.inRet ?_ | refine GQ.loopExit ?_ | refine GQ.loopRet ?_ | refine GQ.cutExit ?_ | refine GQ.cutRet ?_))
  by_cases hr : many < 4094 ∨ 4098 < many
  · refine GC.cut (X := Unit) (fun _ => [(16, .bool true)]) (fun _ w' => w = w') ?_ ?_
    · refine GC.region (.pure 0 (.pure 1 (.pure 2 (.pure 3 (.pure 4 (.pure 5 .done)))))) rfl ?_
      (refine GX.pure rfl ?_; first | refine GO.move rfl rfl rfl rfl ?_ | refine GO.lss rfl rfl rfl rfl rfl ?_ | refine GO.gtr rfl rfl rfl rfl rfl ?_ | refine GO.pickT rfl rfl rfl rfl rfl ?_ | refine GO.pickF rfl rfl rfl rfl rfl ?_ | refine GO.skip (.inl rfl) rfl rfl ?_)
      (refine GX.pure rfl ?_; first | refine GO.move rfl rfl rfl rfl ?_ | refine GO.lss rfl rfl rfl rfl rfl ?_ | refine GO.gtr rfl rfl rfl rfl rfl ?_ | refine GO.pickT rfl rfl rfl rfl rfl ?_ | refine GO.pickF rfl rfl rfl rfl rfl ?_ | refine GO.skip (.inl rfl) rfl rfl ?_)
      (refine GX.pure rfl ?_; first | refine GO.move rfl rfl rfl rfl ?_ | refine GO.lss rfl rfl rfl rfl rfl ?_ | refine GO.gtr rfl rfl rfl rfl rfl ?_ | refine GO.pickT rfl rfl rfl rfl rfl ?_ | refine GO.pickF rfl rfl rfl rfl rfl ?_ | refine GO.skip (.inl rfl) rfl rfl ?_)
      refine GX.case 13 rfl (fun h1 => ?_) (fun h1 => ?_)
      · (repeat (first | (refine GX.pure rfl ?_; first | refine GO.move rfl rfl rfl rfl ?_ | refine GO.lss rfl rfl rfl rfl rfl ?_ | refine GO.gtr rfl rfl rfl rfl rfl ?_ | refine GO.pickT rfl rfl rfl rfl rfl ?_ | refine GO.pickF rfl rfl rfl rfl rfl ?_ | refine GO.skip (.inl rfl) rfl rfl ?_) | (refine GX.eff rfl ?_; refine GO.skip (.inr rfl) rfl rfl ?_) | (refine GX.read rfl ?_; refine GO.skipRead (by assumption) rfl rfl ?_)))
        (repeat (first | refine GX.doneD ?_ | refine GX.done ?_ | refine GQ.goNormal ?_ | refine GC.seq ?_ | refine GC.skip ?_ | refine GC.block ?_ | refine GC.exit ?_ | refine GC.ret ?_ | refine GQ.goExit ?_ | refine GQ.goRet ?_ | refine GQ.inNormal ?_ | refine GQ.inExit ?_ | refine GQ.inExitNe rfl ?_ | refine GQ.inRet ?_ | refine GQ.loopExit ?_ | refine GQ.loopRet ?_ | refine GQ.cutExit ?_ | refine GQ.cutRet ?_))
        exact GQ.cutNormal () (sub_pick (l := [16]) rfl) rfl
      have h1' := of_decide_eq_false h1
      (repeat (refine GX.pure rfl ?_; first | refine GO.move rfl rfl rfl rfl ?_ | refine GO.lss rfl rfl rfl rfl rfl ?_ | refine GO.gtr rfl rfl rfl rfl rfl ?_ | refine GO.pickT rfl rfl rfl rfl rfl ?_ | refine GO.pickF rfl rfl rfl rfl rfl ?_ | refine GO.skip (.inl rfl) rfl rfl ?_))
      have h2 : decide ((4098 : Int) < many) = true := decide_eq_true (by omega)
      rw [h2]
      (repeat (first | refine GX.doneD ?_ | refine GX.done ?_ | refine GQ.goNormal ?_ | refine GC.seq ?_ | refine GC.skip ?_ | refine GC.block ?_ | refine GC.exit ?_ | refine GC.ret ?_ | refine GQ.goExit ?_ | refine GQ.goRet ?_ | refine GQ.inNormal ?_ | refine GQ.inExit ?_ | refine GQ.inExitNe rfl ?_ | refine GQ.inRet ?_ | refine GQ.loopExit ?_ | refine GQ.loopRet ?_ | refine GQ.cutExit ?_ | refine GQ.cutRet ?_))
      exact GQ.cutNormal () (sub_pick (l := [16]) rfl) rfl
    rintro _ _ rfl
    (repeat (first | refine GX.doneD ?_ | refine GX.done ?_ | refine GQ.goNormal ?_ | refine GC.seq ?_ | refine GC.skip ?_ | refine GC.block ?_ | refine GC.exit ?_ | refine GC.ret ?_ | refine GQ.goExit ?_ | refine GQ.goRet ?_ | refine GQ.inNormal ?_ | refine GQ.inExit ?_ | refine GQ.inExitNe rfl ?_ | refine GQ.inRet ?_ | refine GQ.loopExit ?_ | refine GQ.loopRet ?_ | refine GQ.cutExit ?_ | refine GQ.cutRet ?_))
    refine GC.cond rfl (fun hc => ?_) (fun hc => ?_)
    rotate_left
    · cases hc
    (repeat (first | refine GX.doneD ?_ | refine GX.done ?_ | refine GQ.goNormal ?_ | refine GC.seq ?_ | refine GC.skip ?_ | refine GC.block ?_ | refine GC.exit ?_ | refine GC.ret ?_ | refine GQ.goExit ?_ | refine GQ.goRet ?_ | refine GQ.inNormal ?_ | refine GQ.inExit ?_ | refine GQ.inExitNe rfl ?_ | refine GQ.inRet ?_ | refine GQ.loopExit ?_ | refine GQ.loopRet ?_ | refine GQ.cutExit ?_ | refine GQ.cutRet ?_))
    refine GC.region (.eff 0 (.pure 1 .done)) rfl ?_
    (refine GX.eff rfl ?_; refine GO.callL rfl rfl rfl rfl rfl (known_ret w) ?_)
    rintro v w1 ⟨rfl, hE1⟩
    refine ⟨fun _ h => by first | trivial | exact Mod.trans h (Ext.mod (by assumption)), ?_⟩
    (repeat (refine GX.pure rfl ?_; refine GO.assign rfl rfl rfl rfl ?_))
    (repeat (first | refine GX.doneD ?_ | refine GX.done ?_ | refine GQ.goNormal ?_ | refine GC.seq ?_ | refine GC.skip ?_ | refine GC.block ?_ | refine GC.exit ?_ | refine GC.ret ?_ | refine GQ.goExit ?_ | refine GQ.goRet ?_ | refine GQ.inNormal ?_ | refine GQ.inExit ?_ | refine GQ.inExitNe rfl ?_ | refine GQ.inRet ?_ | refine GQ.loopExit ?_ | refine GQ.loopRet ?_ | refine GQ.cutExit ?_ | refine GQ.cutRet ?_))
    refine GQ.ret1 (by first | exact .inl rfl | exact .inr rfl) rfl rfl ?_
    exact ⟨rfl, hE1⟩
  refine GC.region (.pure 0 (.pure 1 (.pure 2 (.pure 3 (.pure 4 (.pure 5 .done)))))) rfl ?_
  (refine GX.pure rfl ?_; first | refine GO.move rfl rfl rfl rfl ?_ | refine GO.lss rfl rfl rfl rfl rfl ?_ | refine GO.gtr rfl rfl rfl rfl rfl ?_ | refine GO.pickT rfl rfl rfl rfl rfl ?_ | refine GO.pickF rfl rfl rfl rfl rfl ?_ | refine GO.skip (.inl rfl) rfl rfl ?_)
  (refine GX.pure rfl ?_; first | refine GO.move rfl rfl rfl rfl ?_ | refine GO.lss rfl rfl rfl rfl rfl ?_ | refine GO.gtr rfl rfl rfl rfl rfl ?_ | refine GO.pickT rfl rfl rfl rfl rfl ?_ | refine GO.pickF rfl rfl rfl rfl rfl ?_ | refine GO.skip (.inl rfl) rfl rfl ?_)
  (refine GX.pure rfl ?_; first | refine GO.move rfl rfl rfl rfl ?_ | refine GO.lss rfl rfl rfl rfl rfl ?_ | refine GO.gtr rfl rfl rfl rfl rfl ?_ | refine GO.pickT rfl rfl rfl rfl rfl ?_ | refine GO.pickF rfl rfl rfl rfl rfl ?_ | refine GO.skip (.inl rfl) rfl rfl ?_)
  refine GX.case 13 rfl (fun h1 => ?_) (fun h1 => ?_)
  · have := of_decide_eq_true h1; omega
  (repeat (refine GX.pure rfl ?_; first | refine GO.move rfl rfl rfl rfl ?_ | refine GO.lss rfl rfl rfl rfl rfl ?_ | refine GO.gtr rfl rfl rfl rfl rfl ?_ | refine GO.pickT rfl rfl rfl rfl rfl ?_ | refine GO.pickF rfl rfl rfl rfl rfl ?_ | refine GO.skip (.inl rfl) rfl rfl ?_))
  (repeat (first | refine GX.doneD ?_ | refine GX.done ?_ | refine GQ.goNormal ?_ | refine GC.seq ?_ | refine GC.skip ?_ | refine GC.block ?_ | refine GC.exit ?_ | refine GC.ret ?_ | refine GQ.goExit ?_ | refine GQ.goRet ?_ | refine GQ.inNormal ?_ | refine GQ.inExit ?_ | refine GQ.inExitNe rfl ?_ | refine GQ.inRet ?_ | refine GQ.loopExit ?_ | refine GQ.loopRet ?_ | refine GQ.cutExit ?_ | refine GQ.cutRet ?_))
  refine GC.cond rfl (fun h2 => ?_) (fun h2 => ?_)
  · have := of_decide_eq_true h2; omega
  obtain ⟨n, rfl⟩ : ∃ n : Nat, many = n := ⟨many.toNat, by omega⟩
  have hn : 4094 ≤ n ∧ n ≤ 4098 := by omega
  refine GC.pick [0] rfl ?_
  (repeat (first | refine GX.doneD ?_ | refine GX.done ?_ | refine GQ.goNormal ?_ | refine GC.seq ?_ | refine GC.skip ?_ | refine GC.block ?_ | refine GC.exit ?_ | refine GC.ret ?_ | refine GQ.goExit ?_ | refine GQ.goRet ?_ | refine GQ.inNormal ?_ | refine GQ.inExit ?_ | refine GQ.inExitNe rfl ?_ | refine GQ.inRet ?_ | refine GQ.loopExit ?_ | refine GQ.loopRet ?_ | refine GQ.cutExit ?_ | refine GQ.cutRet ?_))
  refine GC.region (.pure 0 (.eff 1 (.pure 2 .done))) rfl ?_
  refine GX.pure rfl ?_
  refine GO.build (out := [.slice none 0 0, .slice none 0 0, .slice none 0 0]) rfl (by kernel_rfl) (by kernel_rfl) rfl rfl rfl rfl ?_
  refine GX.eff rfl ?_
  refine GO.box (l := [.slice none 0 0, .slice none 0 0, .slice none 0 0]) rfl rfl rfl rfl fun bj w1 hbj hBj hE1 => ?_
  refine ⟨fun _ h => by first | trivial | exact Mod.trans h (Ext.mod (by assumption)), ?_⟩
  (repeat (refine GX.pure rfl ?_; refine GO.assign rfl rfl rfl rfl ?_))
  (repeat (first | refine GX.doneD ?_ | refine GX.done ?_ | refine GQ.goNormal ?_ | refine GC.seq ?_ | refine GC.skip ?_ | refine GC.block ?_ | refine GC.exit ?_ | refine GC.ret ?_ | refine GQ.goExit ?_ | refine GQ.goRet ?_ | refine GQ.inNormal ?_ | refine GQ.inExit ?_ | refine GQ.inExitNe rfl ?_ | refine GQ.inRet ?_ | refine GQ.loopExit ?_ | refine GQ.loopRet ?_ | refine GQ.cutExit ?_ | refine GQ.cutRet ?_))
  have hbl := hBj.lt
  have hJ1 : JAt w1 (fun k => k = bj) bj zeroJ := ⟨none, none, 0, none, none, 0, none, none, 0, [], hBj, Own.nil _ _ _, Own.nil _ _ _, Own.nil _ _ _, rfl, rfl, by simp, by simp, by simp⟩
  have hz : jf 0 = zeroJ := by with_unfolding_all rfl
  refine GC.region (.pure 0 .done) rfl ?_
  (repeat (refine GX.pure rfl ?_; refine GO.assign rfl rfl rfl rfl ?_))
  (repeat (first | refine GX.doneD ?_ | refine GX.done ?_ | refine GQ.goNormal ?_ | refine GC.seq ?_ | refine GC.skip ?_ | refine GC.block ?_ | refine GC.exit ?_ | refine GC.ret ?_ | refine GQ.goExit ?_ | refine GQ.goRet ?_ | refine GQ.inNormal ?_ | refine GQ.inExit ?_ | refine GQ.inExitNe rfl ?_ | refine GQ.inRet ?_ | refine GQ.loopExit ?_ | refine GQ.loopRet ?_ | refine GQ.cutExit ?_ | refine GQ.cutRet ?_))
  refine GC.region (.pure 0 .done) rfl ?_
  (repeat (refine GX.pure rfl ?_; refine GO.assign rfl rfl rfl rfl ?_))
  (repeat (first | refine GX.doneD ?_ | refine GX.done ?_ | refine GQ.goNormal ?_ | refine GC.seq ?_ | refine GC.skip ?_ | refine GC.block ?_ | refine GC.exit ?_ | refine GC.ret ?_ | refine GQ.goExit ?_ | refine GQ.goRet ?_ | refine GQ.inNormal ?_ | refine GQ.inExit ?_ | refine GQ.inExitNe rfl ?_ | refine GQ.inRet ?_ | refine GQ.loopExit ?_ | refine GQ.loopRet ?_ | refine GQ.cutExit ?_ | refine GQ.cutRet ?_))
  refine GC.region (.pure 0 .done) rfl ?_
  (repeat (refine GX.pure rfl ?_; refine GO.assign rfl rfl rfl rfl ?_))
  refine GX.done ?_
  refine GQ.goNormal ?_
  try refine GC.seq ?_
  refine GC.cut (X := Nat × Nat × Option Addr × Nat) (fun y => [(0, .int .i64 n), (3, .pointer (some ⟨y.2.1, 0, none⟩)), (4, .slice y.2.2.1 (jf y.1).data.length y.2.2.2)]) (fun y w' => FlS w y w' ∧ y.1 = n) ?_ ?_
  · (repeat (first | refine GX.doneD ?_ | refine GX.done ?_ | refine GQ.goNormal ?_ | refine GC.seq ?_ | refine GC.skip ?_ | refine GC.block ?_ | refine GC.exit ?_ | refine GC.ret ?_ | refine GQ.goExit ?_ | refine GQ.goRet ?_ | refine GQ.inNormal ?_ | refine GQ.inExit ?_ | refine GQ.inExitNe rfl ?_ | refine GQ.inRet ?_ | refine GQ.loopExit ?_ | refine GQ.loopRet ?_ | refine GQ.cutExit ?_ | refine GQ.cutRet ?_))
    refine GC.loop (X := Nat × Nat × Option Addr × Nat) (fun y => [(0, .int .i64 n), (3, .pointer (some ⟨y.2.1, 0, none⟩)), (4, .slice y.2.2.1 (jf y.1).data.length y.2.2.2), (5, .int .u32 (sumOf (jf y.1).data)), (6, .int .i64 y.1)]) (fun y w' => FlS w y w' ∧ y.1 ≤ n) (fun y => n - y.1) (0, bj, none, 0) (sub_pick (l := [0, 3, 4, 5, 6]) (by rw [hz]; rfl))
      ⟨⟨Nat.zero_le _, fun k => k = bj, none, by rw [Nat.zero_min, hz]; exact hJ1, fun q hq => ⟨by omega, by omega, by simp⟩, by rw [hz]; exact OwnS.nil _ _ _, by simp, by simp, hE1⟩, Nat.zero_le _⟩ ?_
    rintro ⟨k, bj, a4, c4⟩ w2 ⟨⟨hk, F, ob, hJ, hF, hO, hG, hf, hE⟩, hkn⟩
    dsimp only at hk hJ hF hO hG hf hE hkn
    dsimp only
    have hjl := jf_len k
    (repeat (first | refine GX.doneD ?_ | refine GX.done ?_ | refine GQ.goNormal ?_ | refine GC.seq ?_ | refine GC.skip ?_ | refine GC.block ?_ | refine GC.exit ?_ | refine GC.ret ?_ | refine GQ.goExit ?_ | refine GQ.goRet ?_ | refine GQ.inNormal ?_ | refine GQ.inExit ?_ | refine GQ.inExitNe rfl ?_ | refine GQ.inRet ?_ | refine GQ.loopExit ?_ | refine GQ.loopRet ?_ | refine GQ.cutExit ?_ | refine GQ.cutRet ?_))
    refine GC.region (.pure 0 (.pure 1 (.pure 2 .done))) rfl ?_
    (repeat (refine GX.pure rfl ?_; first | refine GO.move rfl rfl rfl rfl ?_ | refine GO.lss rfl rfl rfl rfl rfl ?_))
    (repeat (first | refine GX.doneD ?_ | refine GX.done ?_ | refine GQ.goNormal ?_ | refine GC.seq ?_ | refine GC.skip ?_ | refine GC.block ?_ | refine GC.exit ?_ | refine GC.ret ?_ | refine GQ.goExit ?_ | refine GQ.goRet ?_ | refine GQ.inNormal ?_ | refine GQ.inExit ?_ | refine GQ.inExitNe rfl ?_ | refine GQ.inRet ?_ | refine GQ.loopExit ?_ | refine GQ.loopRet ?_ | refine GQ.cutExit ?_ | refine GQ.cutRet ?_))
    refine GC.cond rfl (fun hc => ?_) (fun hc => ?_)
    rotate_left
    · have hkn' : k = n := by have := of_decide_eq_false hc; omega
      (repeat (first | refine GX.doneD ?_ | refine GX.done ?_ | refine GQ.goNormal ?_ | refine GC.seq ?_ | refine GC.skip ?_ | refine GC.block ?_ | refine GC.exit ?_ | refine GC.ret ?_ | refine GQ.goExit ?_ | refine GQ.goRet ?_ | refine GQ.inNormal ?_ | refine GQ.inExit ?_ | refine GQ.inExitNe rfl ?_ | refine GQ.inRet ?_ | refine GQ.loopExit ?_ | refine GQ.loopRet ?_ | refine GQ.cutExit ?_ | refine GQ.cutRet ?_))
      exact GQ.cutNormal (k, bj, a4, c4) (sub_pick (l := [0, 3, 4]) rfl) ⟨⟨hk, F, ob, hJ, hF, hO, hG, hf, hE⟩, hkn'⟩
    have hlt : k < n := by have := of_decide_eq_true hc; omega
    (repeat (first | refine GX.doneD ?_ | refine GX.done ?_ | refine GQ.goNormal ?_ | refine GC.seq ?_ | refine GC.skip ?_ | refine GC.block ?_ | refine GC.exit ?_ | refine GC.ret ?_ | refine GQ.goExit ?_ | refine GQ.goRet ?_ | refine GQ.inNormal ?_ | refine GQ.inExit ?_ | refine GQ.inExitNe rfl ?_ | refine GQ.inRet ?_ | refine GQ.loopExit ?_ | refine GQ.loopRet ?_ | refine GQ.cutExit ?_ | refine GQ.cutRet ?_))
    refine GC.region (.pure 0 (.eff 1 (.pure 2 (.eff 3 (.pure 4 (.pure 5 (.pure 6 (.pure 7 (.pure 8 .done))))))))) rfl ?_
    (repeat (refine GX.pure rfl ?_; first | refine GO.move rfl rfl rfl rfl ?_ | refine GO.assign rfl rfl rfl rfl ?_ | refine GO.extract rfl rfl rfl rfl rfl ?_))
    (refine GX.eff rfl ?_; refine GO.callL rfl rfl rfl rfl rfl (flushL_ret w2) ?_)
    rintro v w3 ⟨rfl, hE3⟩
    refine ⟨fun _ h => by first | trivial | exact Mod.trans h (Ext.mod (by assumption)), ?_⟩
    refine GX.pure rfl ?_
    refine GO.build (out := .int .u64 0 :: noS flushC) rfl (by kernel_rfl) (by kernel_rfl) rfl rfl rfl rfl ?_
    (refine GX.eff rfl ?_; refine GO.callL rfl rfl rfl rfl rfl (recordL_ret (sumOf (jf k).data) (sumOf_lt _) flX (by decide) okC_flush (.int .u64 0 :: noS flushC) w3 ⟨_, rfl, (flush_f w3 (fun _ => True)).v⟩) ?_)
    rintro v w4 ⟨u, rfl, ⟨ob4, a5, c5, rfl, hO4, hF4, hG4⟩, hE4⟩
    refine ⟨fun _ h => by first | trivial | exact Mod.trans h (Ext.mod (by assumption)), ?_⟩
    rw [fl_can]
    have hB4 := hO4.bytes hG4
    (repeat (refine GX.pure rfl ?_; first | refine GO.move rfl rfl rfl rfl ?_ | refine GO.assign rfl rfl rfl rfl ?_ | refine GO.extract rfl rfl rfl rfl rfl ?_))
    (repeat (first | refine GX.doneD ?_ | refine GX.done ?_ | refine GQ.goNormal ?_ | refine GC.seq ?_ | refine GC.skip ?_ | refine GC.block ?_ | refine GC.exit ?_ | refine GC.ret ?_ | refine GQ.goExit ?_ | refine GQ.goRet ?_ | refine GQ.inNormal ?_ | refine GQ.inExit ?_ | refine GQ.inExitNe rfl ?_ | refine GQ.inRet ?_ | refine GQ.loopExit ?_ | refine GQ.loopRet ?_ | refine GQ.cutExit ?_ | refine GQ.cutRet ?_))
    refine GC.region (.pure 0 (.pure 1 (.pure 2 (.pure 3 (.eff 4 (.eff 5 (.pure 6 (.pure 7 (.pure 8 (.pure 9 (.pure 10 .done))))))))))) rfl ?_
    (refine GX.pure rfl ?_; first | refine GO.move rfl rfl rfl rfl ?_ | refine GO.lss rfl rfl rfl rfl rfl ?_ | refine GO.eql rfl rfl rfl rfl rfl ?_ | refine GO.pickT rfl rfl rfl rfl rfl ?_ | refine GO.pickF rfl rfl rfl rfl rfl ?_ | refine GO.not rfl rfl rfl rfl ?_ | refine GO.boolNeq rfl rfl rfl rfl rfl ?_ | refine GO.skip (.inl rfl) rfl rfl ?_)
    (refine GX.pure rfl ?_; first | refine GO.move rfl rfl rfl rfl ?_ | refine GO.lss rfl rfl rfl rfl rfl ?_ | refine GO.eql rfl rfl rfl rfl rfl ?_ | refine GO.pickT rfl rfl rfl rfl rfl ?_ | refine GO.pickF rfl rfl rfl rfl rfl ?_ | refine GO.not rfl rfl rfl rfl ?_ | refine GO.boolNeq rfl rfl rfl rfl rfl ?_ | refine GO.skip (.inl rfl) rfl rfl ?_)
    (refine GX.pure rfl ?_; first | refine GO.move rfl rfl rfl rfl ?_ | refine GO.lss rfl rfl rfl rfl rfl ?_ | refine GO.eql rfl rfl rfl rfl rfl ?_ | refine GO.pickT rfl rfl rfl rfl rfl ?_ | refine GO.pickF rfl rfl rfl rfl rfl ?_ | refine GO.not rfl rfl rfl rfl ?_ | refine GO.boolNeq rfl rfl rfl rfl rfl ?_ | refine GO.skip (.inl rfl) rfl rfl ?_)
    refine GX.case 34 rfl (fun h3 => ?_) (fun h3 => ?_)
    · cases h3
    (repeat (refine GX.pure rfl ?_; first | refine GO.move rfl rfl rfl rfl ?_ | refine GO.lss rfl rfl rfl rfl rfl ?_ | refine GO.eql rfl rfl rfl rfl rfl ?_ | refine GO.pickT rfl rfl rfl rfl rfl ?_ | refine GO.pickF rfl rfl rfl rfl rfl ?_ | refine GO.not rfl rfl rfl rfl ?_ | refine GO.boolNeq rfl rfl rfl rfl rfl ?_ | refine GO.skip (.inl rfl) rfl rfl ?_))
    (refine GX.eff rfl ?_; refine GO.callL rfl rfl rfl rfl rfl (flushL_ret w4) ?_)
    rintro v w5 ⟨rfl, hE5⟩
    refine ⟨fun _ h => by first | trivial | exact Mod.trans h (Ext.mod (by assumption)), ?_⟩
    have hE25 := (hE3.trans hE4).trans hE5
    have hjl2 := jf_len (min k 4096)
    (refine GX.eff rfl ?_; refine GO.callL rfl rfl rfl rfl rfl (append_ret F bj (jf (min k 4096)) 0 flushC (by decide) okC_flush (noS flushC) w5 (hJ.ext hE25) (flush_f _ _) (by omega) (jf_four _) (by rw [jf_ends]; omega) (by rw [jf_xlen]; omega)) ?_)
    rintro v w6 ⟨rfl, hJ6, hM6⟩
    refine ⟨fun _ h => by first | trivial | exact Mod.trans h (Ext.mod (by assumption)), ?_⟩
    have hadd := jf_add k (by omega)
    have herr := jf_err (min k 4096) (by omega)
    change addJ (jf (min k 4096)) (0, flushC) = _ at hadd
    change errJ (jf (min k 4096)) (0, flushC) = _ at herr
    rw [hadd] at hJ6
    rw [herr]
    have hb1 : decide ((if min k 4096 < 4096 then (0 : Int) else 7) = 0) = decide ((k : Int) < 4096) := by
      by_cases hk4 : k < 4096
      · rw [if_pos (by omega), decide_eq_true (by omega), decide_eq_true (by omega)]
      · rw [if_neg (by omega), decide_eq_false (by omega), decide_eq_false (by omega)]
    (repeat (refine GX.pure rfl ?_; first | refine GO.move rfl rfl rfl rfl ?_ | refine GO.lss rfl rfl rfl rfl rfl ?_ | refine GO.eql rfl rfl rfl rfl rfl ?_ | refine GO.pickT rfl rfl rfl rfl rfl ?_ | refine GO.pickF rfl rfl rfl rfl rfl ?_ | refine GO.not rfl rfl rfl rfl ?_ | refine GO.boolNeq rfl rfl rfl rfl rfl ?_ | refine GO.skip (.inl rfl) rfl rfl ?_))
    rw [hb1, beq_self_eq_true]
    (repeat (first | refine GX.doneD ?_ | refine GX.done ?_ | refine GQ.goNormal ?_ | refine GC.seq ?_ | refine GC.skip ?_ | refine GC.block ?_ | refine GC.exit ?_ | refine GC.ret ?_ | refine GQ.goExit ?_ | refine GQ.goRet ?_ | refine GQ.inNormal ?_ | refine GQ.inExit ?_ | refine GQ.inExitNe rfl ?_ | refine GQ.inRet ?_ | refine GQ.loopExit ?_ | refine GQ.loopRet ?_ | refine GQ.cutExit ?_ | refine GQ.cutRet ?_))
    refine GC.cond rfl (fun h4 => ?_) (fun h4 => ?_)
    · cases h4
    have s2 := hE3.size
    have s3 := hE4.size
    have s5 := hE5.size
    have s6 := hM6.size
    have hob : ∀ q, ob = some q → q < w2.heap.size := fun q hq => by subst hq; exact hO.block.2
    have hO6 := (hO.ext hE25).mod hM6 (fun x hx h => (hF _ h).2.2 (hG x hx).symm)
    have hB5 := hB4.ext hE5
    have hB6 : BytesAt w6 a5 c5 (recJ (sumOf (jf k).data) flX) := hB5.mod hM6 (fun x hx h => by have h1 := hF4 _ (hG4 x hx); have h2 := hF _ h; omega)
    have hcap6 := hB6.cap
    have hrl := fl_len (sumOf (jf k).data)
    have hhl : (recHead flX).length = 3 := by rw [fl_head]; rfl
    have htake : (recJ (sumOf (jf k).data) flX).take (recHead flX).length = recHead flX := by rw [recJ_can fl_can, List.take_left]
    have hdat := jf_data k
    have hsum := jf_sum k
    refine GC.pick [0, 3, 4, 5, 6, 7] rfl ?_
    generalize recJ (sumOf (jf k).data) flX = r at *
    (repeat (first | refine GX.doneD ?_ | refine GX.done ?_ | refine GQ.goNormal ?_ | refine GC.seq ?_ | refine GC.skip ?_ | refine GC.block ?_ | refine GC.exit ?_ | refine GC.ret ?_ | refine GQ.goExit ?_ | refine GQ.goRet ?_ | refine GQ.inNormal ?_ | refine GQ.inExit ?_ | refine GQ.inExitNe rfl ?_ | refine GQ.inRet ?_ | refine GQ.loopExit ?_ | refine GQ.loopRet ?_ | refine GQ.cutExit ?_ | refine GQ.cutRet ?_))
    refine GC.region (.pure 0 (.pure 1 (.pure 2 (.pure 3 (.pure 4 (.pure 5 (.eff 6 (.pure 7 .done)))))))) rfl ?_
    (repeat (refine GX.pure rfl ?_; first | refine GO.move rfl rfl rfl rfl ?_ | refine GO.assign rfl rfl rfl rfl ?_ | refine GO.lenSlice rfl rfl rfl rfl ?_ | refine GO.sub rfl rfl rfl rfl rfl (wrapIn (by dsimp only [InK]; omega)) ?_))
    refine GX.pure rfl ?_
    refine GO.sliceS rfl rfl rfl rfl (bounds_h (by omega) (by omega)) ⟨by simp, by simp; rfl, by simp⟩ ?_
    have e4 : ((r.length : Int) - 4).toNat - 0 = (recHead flX).length := by omega
    rw [e4]
    have hpart := hB6.cells.bytes 0 c5 (recHead flX).length (by omega)
    rw [List.drop_zero, htake] at hpart
    (refine GX.eff rfl ?_; refine GO.callL rfl rfl rfl rfl rfl (sumL_ret (sumOf (jf k).data) (sumOf_lt _) (recHead flX) (by omega) _ _ w6 hpart) ?_)
    rintro v w7 ⟨rfl, rfl⟩
    refine ⟨fun _ h => by first | trivial | exact Mod.trans h (Ext.mod (by assumption)), ?_⟩
    (repeat (refine GX.pure rfl ?_; first | refine GO.move rfl rfl rfl rfl ?_ | refine GO.assign rfl rfl rfl rfl ?_ | refine GO.lenSlice rfl rfl rfl rfl ?_ | refine GO.sub rfl rfl rfl rfl rfl (wrapIn (by dsimp only [InK]; omega)) ?_))
    (repeat (first | refine GX.doneD ?_ | refine GX.done ?_ | refine GQ.goNormal ?_ | refine GC.seq ?_ | refine GC.skip ?_ | refine GC.block ?_ | refine GC.exit ?_ | refine GC.ret ?_ | refine GQ.goExit ?_ | refine GQ.goRet ?_ | refine GQ.inNormal ?_ | refine GQ.inExit ?_ | refine GQ.inExitNe rfl ?_ | refine GQ.inRet ?_ | refine GQ.loopExit ?_ | refine GQ.loopRet ?_ | refine GQ.cutExit ?_ | refine GQ.cutRet ?_))
    refine GC.region (.pure 0 (.pure 1 (.eff 2 (.pure 3 .done)))) rfl ?_
    (repeat (refine GX.pure rfl ?_; first | refine GO.move rfl rfl rfl rfl ?_ | refine GO.assign rfl rfl rfl rfl ?_))
    refine GX.eff rfl ?_
    refine GO.append hO6 hB6.cells (by simp) (bytesV_one r) (by omega) (by omega) rfl rfl rfl rfl rfl fun ob' a8 c8 w8 hO8 hM8 hF8 hG8 => ?_
    refine ⟨fun _ h => by first | trivial | exact Mod.trans h (Ext.mod (by assumption)), ?_⟩
    rw [← bytesV_append, ← hdat] at hO8
    (repeat (refine GX.pure rfl ?_; first | refine GO.move rfl rfl rfl rfl ?_ | refine GO.assign rfl rfl rfl rfl ?_))
    (repeat (first | refine GX.doneD ?_ | refine GX.done ?_ | refine GQ.goNormal ?_ | refine GC.seq ?_ | refine GC.skip ?_ | refine GC.block ?_ | refine GC.exit ?_ | refine GC.ret ?_ | refine GQ.goExit ?_ | refine GQ.goRet ?_ | refine GQ.inNormal ?_ | refine GQ.inExit ?_ | refine GQ.inExitNe rfl ?_ | refine GQ.inRet ?_ | refine GQ.loopExit ?_ | refine GQ.loopRet ?_ | refine GQ.cutExit ?_ | refine GQ.cutRet ?_))
    refine GC.region (.pure 0 (.pure 1 (.pure 2 .done))) rfl ?_
    (repeat (refine GX.pure rfl ?_; first | refine GO.move rfl rfl rfl rfl ?_ | refine GO.assign rfl rfl rfl rfl ?_ | refine GO.add rfl rfl rfl rfl rfl (wrapIn (by dsimp only [InK]; omega)) ?_))
    (repeat (first | refine GX.doneD ?_ | refine GX.done ?_ | refine GQ.goNormal ?_ | refine GC.seq ?_ | refine GC.skip ?_ | refine GC.block ?_ | refine GC.exit ?_ | refine GC.ret ?_ | refine GQ.goExit ?_ | refine GQ.goRet ?_ | refine GQ.inNormal ?_ | refine GQ.inExit ?_ | refine GQ.inExitNe rfl ?_ | refine GQ.inRet ?_ | refine GQ.loopExit ?_ | refine GQ.loopRet ?_ | refine GQ.cutExit ?_ | refine GQ.cutRet ?_))
    have s8 := hM8.size
    have hlen : (jf k).data.length + r.length = (jf (k + 1)).data.length := by rw [hdat, List.length_append]
    rw [hlen] at hO8
    have hfr : ∀ x, ob' = some x → ob = some x ∨ w7.heap.size ≤ x := hF8
    refine GQ.again (k + 1, bj, a8, c8) (sub_pick (l := [0, 3, 4, 5, 6]) (by rw [hsum, ← hlen]; rfl)) ⟨⟨by dsimp only; omega, fun q => (F q ∨ w5.heap.size ≤ q) ∧ q < w7.heap.size, ob', ?_, ?_, hO8, ?_, ?_, ?_⟩, by dsimp only; omega⟩ (by dsimp only; omega)
    · refine (hJ6.mono (G := fun q => (F q ∨ w5.heap.size ≤ q) ∧ q < w7.heap.size) (fun q hq hh => ⟨hh, hq⟩)).mod hM8 (fun q hq hh h => ?_)
      rcases hh.1 with h1 | h1
      · exact (hF q h1).2.2 h
      · have := hob q h.symm; omega
    · rintro q ⟨hq, hq2⟩
      refine ⟨?_, by omega, fun h => ?_⟩
      · rcases hq with h1 | h1
        · exact (hF q h1).1
        · have := hE.size; omega
      · rcases hfr q h.symm with h2 | h2
        · rcases hq with h1 | h1
          · exact (hF q h1).2.2 h2.symm
          · have := hob q h2; omega
        · omega
    · intro x hx
      rcases hG8 x hx with h1 | ⟨h1, h2⟩
      · exact h1
      · rw [h2]; exact hG x h1
    · intro x hx
      rcases hfr x hx with h1 | h1
      · exact hf x h1
      · have := hE.size; omega
    · have hE6 : Ext w w7 := (hE.trans hE25).then hM6 (fun i hi h => by have := hF i h; omega)
      exact hE6.then hM8 (fun i hi h => by have := hf i h.symm; omega)
  rintro ⟨k, bj, a4, c4⟩ w2 ⟨⟨hk, F, ob, hJ, hF, hO, hG, hf, hE⟩, hkn⟩
  dsimp only at hk hJ hF hO hG hf hE hkn
  subst hkn
  dsimp only
  have hjl := jf_len k
  have hml := jf_len (min k 4096)
  (repeat (first | refine GX.doneD ?_ | refine GX.done ?_ | refine GQ.goNormal ?_ | refine GC.seq ?_ | refine GC.skip ?_ | refine GC.block ?_ | refine GC.exit ?_ | refine GC.ret ?_ | refine GQ.goExit ?_ | refine GQ.goRet ?_ | refine GQ.inNormal ?_ | refine GQ.inExit ?_ | refine GQ.inExitNe rfl ?_ | refine GQ.inRet ?_ | refine GQ.loopExit ?_ | refine GQ.loopRet ?_ | refine GQ.cutExit ?_ | refine GQ.cutRet ?_))
  refine GC.region (.pure 0 (.eff 1 (.pure 2 (.pure 3 (.pure 4 (.pure 5 (.pure 6 .done))))))) rfl ?_
  (repeat (refine GX.pure rfl ?_; first | refine GO.move rfl rfl rfl rfl ?_ | refine GO.assign rfl rfl rfl rfl ?_ | refine GO.extract rfl rfl rfl rfl rfl ?_))
  (refine GX.eff rfl ?_; refine GO.callL rfl rfl rfl rfl rfl (read_ret (jf k).data _ rfl (by omega) a4 c4 w2 (hO.bytes hG)) ?_)
  rintro v w3 hR
  obtain ⟨u3, rfl, a3, c3, cells3, rfl, hA3, hX3, hF3, hE3⟩ := hR.is (jf_steps k (min k 4096) (by omega) (by omega)) (by rw [jf_stop]; rfl)
  refine ⟨fun _ h => by first | trivial | exact Mod.trans h (Ext.mod (by assumption)), ?_⟩
  (repeat (refine GX.pure rfl ?_; first | refine GO.move rfl rfl rfl rfl ?_ | refine GO.assign rfl rfl rfl rfl ?_ | refine GO.extract rfl rfl rfl rfl rfl ?_))
  rw [jf_xlen]
  (repeat (first | refine GX.doneD ?_ | refine GX.done ?_ | refine GQ.goNormal ?_ | refine GC.seq ?_ | refine GC.skip ?_ | refine GC.block ?_ | refine GC.exit ?_ | refine GC.ret ?_ | refine GQ.goExit ?_ | refine GQ.goRet ?_ | refine GQ.inNormal ?_ | refine GQ.inExit ?_ | refine GQ.inExitNe rfl ?_ | refine GQ.inRet ?_ | refine GQ.loopExit ?_ | refine GQ.loopRet ?_ | refine GQ.cutExit ?_ | refine GQ.cutRet ?_))
  refine GC.region (.pure 0 (.pure 1 (.pure 2 (.pure 3 (.pure 4 (.pure 5 (.pure 6 (.pure 7 (.eff 8 (.pure 9 (.pure 10 (.pure 11 (.pure 12 (.pure 13 (.eff 14 (.eff 15 (.pure 16 (.pure 17 (.pure 18 (.pure 19 (.pure 20 (.pure 21 (.eff 22 (.pure 23 (.pure 24 .done))))))))))))))))))))))))) rfl ?_
  (repeat (refine GX.pure rfl ?_; first | refine GO.move rfl rfl rfl rfl ?_ | refine GO.assign rfl rfl rfl rfl ?_ | refine GO.lenSlice rfl rfl rfl rfl ?_ | refine GO.geq rfl rfl rfl rfl rfl ?_ | refine GO.eql rfl rfl rfl rfl rfl ?_ | refine GO.neq rfl rfl rfl rfl rfl ?_ | refine GO.pickT rfl rfl rfl rfl rfl ?_ | refine GO.pickF rfl rfl rfl rfl rfl ?_ | refine GO.boolEql rfl rfl rfl rfl rfl ?_ | refine GO.skip (.inl rfl) rfl rfl ?_))
  have hmin : (if (4096 : Int) < (k : Int) then (4096 : Int) else (k : Int)) = ((min k 4096 : Nat) : Int) := by split <;> omega
  refine GX.pure rfl (GO.min2 rfl rfl rfl rfl rfl hmin ?_)
  (refine GX.pure rfl ?_; first | refine GO.move rfl rfl rfl rfl ?_ | refine GO.assign rfl rfl rfl rfl ?_ | refine GO.lenSlice rfl rfl rfl rfl ?_ | refine GO.geq rfl rfl rfl rfl rfl ?_ | refine GO.eql rfl rfl rfl rfl rfl ?_ | refine GO.neq rfl rfl rfl rfl rfl ?_ | refine GO.pickT rfl rfl rfl rfl rfl ?_ | refine GO.pickF rfl rfl rfl rfl rfl ?_ | refine GO.boolEql rfl rfl rfl rfl rfl ?_ | refine GO.skip (.inl rfl) rfl rfl ?_)
  (refine GX.pure rfl ?_; first | refine GO.move rfl rfl rfl rfl ?_ | refine GO.assign rfl rfl rfl rfl ?_ | refine GO.lenSlice rfl rfl rfl rfl ?_ | refine GO.geq rfl rfl rfl rfl rfl ?_ | refine GO.eql rfl rfl rfl rfl rfl ?_ | refine GO.neq rfl rfl rfl rfl rfl ?_ | refine GO.pickT rfl rfl rfl rfl rfl ?_ | refine GO.pickF rfl rfl rfl rfl rfl ?_ | refine GO.boolEql rfl rfl rfl rfl rfl ?_ | refine GO.skip (.inl rfl) rfl rfl ?_)
  refine GX.case 63 rfl (fun g1 => ?_) (fun g1 => ?_)
  rotate_left
  · exact absurd (of_decide_eq_false g1) (by simp)
  (repeat (refine GX.pure rfl ?_; first | refine GO.move rfl rfl rfl rfl ?_ | refine GO.assign rfl rfl rfl rfl ?_ | refine GO.lenSlice rfl rfl rfl rfl ?_ | refine GO.geq rfl rfl rfl rfl rfl ?_ | refine GO.eql rfl rfl rfl rfl rfl ?_ | refine GO.neq rfl rfl rfl rfl rfl ?_ | refine GO.pickT rfl rfl rfl rfl rfl ?_ | refine GO.pickF rfl rfl rfl rfl rfl ?_ | refine GO.boolEql rfl rfl rfl rfl rfl ?_ | refine GO.skip (.inl rfl) rfl rfl ?_))
  have hJ3 := hJ.ext hE3
  (refine GX.eff rfl ?_; refine GO.callL rfl rfl rfl rfl rfl (bytesJ_ret F bj (jf (min k 4096)) w3 hJ3 (by omega)) ?_)
  rintro v w4 ⟨⟨ob4, a5, c5, rfl, hO4, hF4, hG4⟩, hE4⟩
  refine ⟨fun _ h => by first | trivial | exact Mod.trans h (Ext.mod (by assumption)), ?_⟩
  (repeat (refine GX.pure rfl ?_; first | refine GO.move rfl rfl rfl rfl ?_ | refine GO.assign rfl rfl rfl rfl ?_ | refine GO.lenSlice rfl rfl rfl rfl ?_ | refine GO.geq rfl rfl rfl rfl rfl ?_ | refine GO.eql rfl rfl rfl rfl rfl ?_ | refine GO.neq rfl rfl rfl rfl rfl ?_ | refine GO.pickT rfl rfl rfl rfl rfl ?_ | refine GO.pickF rfl rfl rfl rfl rfl ?_ | refine GO.boolEql rfl rfl rfl rfl rfl ?_ | refine GO.skip (.inl rfl) rfl rfl ?_))
  refine GX.case 70 rfl (fun g2 => ?_) (fun g2 => ?_)
  rotate_left
  · exact absurd (of_decide_eq_false g2) (by simp)
  (repeat (refine GX.pure rfl ?_; first | refine GO.move rfl rfl rfl rfl ?_ | refine GO.assign rfl rfl rfl rfl ?_ | refine GO.lenSlice rfl rfl rfl rfl ?_ | refine GO.geq rfl rfl rfl rfl rfl ?_ | refine GO.eql rfl rfl rfl rfl rfl ?_ | refine GO.neq rfl rfl rfl rfl rfl ?_ | refine GO.pickT rfl rfl rfl rfl rfl ?_ | refine GO.pickF rfl rfl rfl rfl rfl ?_ | refine GO.boolEql rfl rfl rfl rfl rfl ?_ | refine GO.skip (.inl rfl) rfl rfl ?_))
  (refine GX.eff rfl ?_; refine GO.callL rfl rfl rfl rfl rfl (getL_ret w4) ?_)
  rintro v w5 ⟨rfl, hE5⟩
  refine ⟨fun _ h => by first | trivial | exact Mod.trans h (Ext.mod (by assumption)), ?_⟩
  (refine GX.eff rfl ?_; refine GO.callL rfl rfl rfl rfl rfl (append_ret F bj (jf (min k 4096)) 0 getC (by decide) okC_get (noS getC) w5 ((hJ3.ext hE4).ext hE5) (noS_f _ _ _ rfl rfl rfl) (by omega) (jf_four _) (by rw [jf_ends]; omega) (by rw [jf_xlen]; omega)) ?_)
  rintro v w6 ⟨rfl, hJ6, hM6⟩
  refine ⟨fun _ h => by first | trivial | exact Mod.trans h (Ext.mod (by assumption)), ?_⟩
  rw [jf_errG (min k 4096) (by omega)]
  have hb1 : decide ((if min k 4096 < 4096 then (0 : Int) else 7) ≠ 0) = decide ((4096 : Int) ≤ (k : Int)) := by
    by_cases hk4 : k < 4096
    · rw [if_pos (by omega), decide_eq_false (by omega), decide_eq_false (by omega)]
    · rw [if_neg (by omega), decide_eq_true (by omega), decide_eq_true (by omega)]
  (refine GX.pure rfl ?_; first | refine GO.move rfl rfl rfl rfl ?_ | refine GO.assign rfl rfl rfl rfl ?_ | refine GO.lenSlice rfl rfl rfl rfl ?_ | refine GO.geq rfl rfl rfl rfl rfl ?_ | refine GO.eql rfl rfl rfl rfl rfl ?_ | refine GO.neq rfl rfl rfl rfl rfl ?_ | refine GO.pickT rfl rfl rfl rfl rfl ?_ | refine GO.pickF rfl rfl rfl rfl rfl ?_ | refine GO.boolEql rfl rfl rfl rfl rfl ?_ | refine GO.skip (.inl rfl) rfl rfl ?_)
  rw [hb1]
  (refine GX.pure rfl ?_; first | refine GO.move rfl rfl rfl rfl ?_ | refine GO.assign rfl rfl rfl rfl ?_ | refine GO.lenSlice rfl rfl rfl rfl ?_ | refine GO.geq rfl rfl rfl rfl rfl ?_ | refine GO.eql rfl rfl rfl rfl rfl ?_ | refine GO.neq rfl rfl rfl rfl rfl ?_ | refine GO.pickT rfl rfl rfl rfl rfl ?_ | refine GO.pickF rfl rfl rfl rfl rfl ?_ | refine GO.boolEql rfl rfl rfl rfl rfl ?_ | refine GO.skip (.inl rfl) rfl rfl ?_)
  (refine GX.pure rfl ?_; first | refine GO.move rfl rfl rfl rfl ?_ | refine GO.assign rfl rfl rfl rfl ?_ | refine GO.lenSlice rfl rfl rfl rfl ?_ | refine GO.geq rfl rfl rfl rfl rfl ?_ | refine GO.eql rfl rfl rfl rfl rfl ?_ | refine GO.neq rfl rfl rfl rfl rfl ?_ | refine GO.pickT rfl rfl rfl rfl rfl ?_ | refine GO.pickF rfl rfl rfl rfl rfl ?_ | refine GO.boolEql rfl rfl rfl rfl rfl ?_ | refine GO.skip (.inl rfl) rfl rfl ?_)
  (refine GX.pure rfl ?_; first | refine GO.move rfl rfl rfl rfl ?_ | refine GO.assign rfl rfl rfl rfl ?_ | refine GO.lenSlice rfl rfl rfl rfl ?_ | refine GO.geq rfl rfl rfl rfl rfl ?_ | refine GO.eql rfl rfl rfl rfl rfl ?_ | refine GO.neq rfl rfl rfl rfl rfl ?_ | refine GO.pickT rfl rfl rfl rfl rfl ?_ | refine GO.pickF rfl rfl rfl rfl rfl ?_ | refine GO.boolEql rfl rfl rfl rfl rfl ?_ | refine GO.skip (.inl rfl) rfl rfl ?_)
  rw [beq_self_eq_true]
  (refine GX.pure rfl ?_; first | refine GO.move rfl rfl rfl rfl ?_ | refine GO.assign rfl rfl rfl rfl ?_ | refine GO.lenSlice rfl rfl rfl rfl ?_ | refine GO.geq rfl rfl rfl rfl rfl ?_ | refine GO.eql rfl rfl rfl rfl rfl ?_ | refine GO.neq rfl rfl rfl rfl rfl ?_ | refine GO.pickT rfl rfl rfl rfl rfl ?_ | refine GO.pickF rfl rfl rfl rfl rfl ?_ | refine GO.boolEql rfl rfl rfl rfl rfl ?_ | refine GO.skip (.inl rfl) rfl rfl ?_)
  (refine GX.pure rfl ?_; first | refine GO.move rfl rfl rfl rfl ?_ | refine GO.assign rfl rfl rfl rfl ?_ | refine GO.lenSlice rfl rfl rfl rfl ?_ | refine GO.geq rfl rfl rfl rfl rfl ?_ | refine GO.eql rfl rfl rfl rfl rfl ?_ | refine GO.neq rfl rfl rfl rfl rfl ?_ | refine GO.pickT rfl rfl rfl rfl rfl ?_ | refine GO.pickF rfl rfl rfl rfl rfl ?_ | refine GO.boolEql rfl rfl rfl rfl rfl ?_ | refine GO.skip (.inl rfl) rfl rfl ?_)
  refine GX.case 79 rfl (fun g3 => ?_) (fun g3 => ?_)
  rotate_left
  · exact absurd g3 (by simp)
  (repeat (refine GX.pure rfl ?_; first | refine GO.move rfl rfl rfl rfl ?_ | refine GO.assign rfl rfl rfl rfl ?_ | refine GO.lenSlice rfl rfl rfl rfl ?_ | refine GO.geq rfl rfl rfl rfl rfl ?_ | refine GO.eql rfl rfl rfl rfl rfl ?_ | refine GO.neq rfl rfl rfl rfl rfl ?_ | refine GO.pickT rfl rfl rfl rfl rfl ?_ | refine GO.pickF rfl rfl rfl rfl rfl ?_ | refine GO.boolEql rfl rfl rfl rfl rfl ?_ | refine GO.skip (.inl rfl) rfl rfl ?_))
  (refine GX.eff rfl ?_; refine GO.callL rfl rfl rfl rfl rfl (known_ret w6) ?_)
  rintro v w7 ⟨rfl, hE7⟩
  refine ⟨fun _ h => by first | trivial | exact Mod.trans h (Ext.mod (by assumption)), ?_⟩
  (repeat (refine GX.pure rfl ?_; first | refine GO.move rfl rfl rfl rfl ?_ | refine GO.assign rfl rfl rfl rfl ?_ | refine GO.lenSlice rfl rfl rfl rfl ?_ | refine GO.geq rfl rfl rfl rfl rfl ?_ | refine GO.eql rfl rfl rfl rfl rfl ?_ | refine GO.neq rfl rfl rfl rfl rfl ?_ | refine GO.pickT rfl rfl rfl rfl rfl ?_ | refine GO.pickF rfl rfl rfl rfl rfl ?_ | refine GO.boolEql rfl rfl rfl rfl rfl ?_ | refine GO.skip (.inl rfl) rfl rfl ?_))
  (repeat (first | refine GX.doneD ?_ | refine GX.done ?_ | refine GQ.goNormal ?_ | refine GC.seq ?_ | refine GC.skip ?_ | refine GC.block ?_ | refine GC.exit ?_ | refine GC.ret ?_ | refine GQ.goExit ?_ | refine GQ.goRet ?_ | refine GQ.inNormal ?_ | refine GQ.inExit ?_ | refine GQ.inExitNe rfl ?_ | refine GQ.inRet ?_ | refine GQ.loopExit ?_ | refine GQ.loopRet ?_ | refine GQ.cutExit ?_ | refine GQ.cutRet ?_))
  refine GQ.ret1 (by first | exact .inl rfl | exact .inr rfl) rfl rfl ?_
  refine ⟨rfl, ((hE.trans ((hE3.trans hE4).trans hE5)).then hM6 (fun i hi h => by have := hF i h; omega)).trans hE7⟩
end Go.Proofs.Ytahkglanddhncaa.V
