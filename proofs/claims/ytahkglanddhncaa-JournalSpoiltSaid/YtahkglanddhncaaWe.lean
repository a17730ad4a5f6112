/-
  What the functions for bytes with their length, and a reader's, compute (package varint). Conditions: the lengths of what is read and made stay below 2^40; a reader's bytes do not lie in the reader itself.
-/
import Derived.Test.YtahkglanddhncaaWd
namespace Go.Proofs.Ytahkglanddhncaa.V
attribute [local irreducible] GX GO

set_option maxHeartbeats 400000 in
theorem putBytes_ret (l m : List UInt8) (k j : Nat) (hk : l.length = k) (hj : m.length = j) (hl : l.length < 2 ^ 39) (hm : m.length < 2 ^ 39) (a a2 : Option Addr) (c c2 : Nat) (w : World) (hA : BytesAt w a c l) (hB : SlA w a2 (bytesV m)) :
    Ret Try.prog 62 [.slice a k c, .slice a2 j c2].toArray w (NewBytes w (l ++ putN m.length ++ m)) := by
  subst hk
  subst hj
  
  refine Ret.enter Try.func62 rfl Try.ntmps62 rfl ?_
  (repeat (first | refine GX.doneD ?_ | refine GX.done ?_ | refine GQ.goNormal ?_ | refine GC.seq ?_ | refine GC.skip ?_ | refine GC.block ?_ | refine GC.exit ?_ | refine GC.ret ?_ | refine GQ.goExit ?_ | refine GQ.goRet ?_ | refine GQ.inNormal ?_ | refine GQ.inExit ?_ | refine GQ.inExitNe rfl ?_ | refine GQ.inRet ?_ | refine GQ.loopExit ?_ | refine GQ.loopRet ?_ | refine GQ.cutExit ?_ | refine GQ.cutRet ?_))
  refine GC.region (.pure 0 .done) rfl ?_
  (repeat (refine GX.pure rfl ?_; refine GO.assign rfl rfl rfl rfl ?_))
  (repeat (first | refine GX.doneD ?_ | refine GX.done ?_ | refine GQ.goNormal ?_ | refine GC.seq ?_ | refine GC.skip ?_ | refine GC.block ?_ | refine GC.exit ?_ | refine GC.ret ?_ | refine GQ.goExit ?_ | refine GQ.goRet ?_ | refine GQ.inNormal ?_ | refine GQ.inExit ?_ | refine GQ.inExitNe rfl ?_ | refine GQ.inRet ?_ | refine GQ.loopExit ?_ | refine GQ.loopRet ?_ | refine GQ.cutExit ?_ | refine GQ.cutRet ?_))
  refine GC.region (.pure 0 (.pure 1 (.pure 2 (.pure 3 (.eff 4 (.pure 5 (.eff 6 (.pure 7 .done)))))))) rfl ?_
  (repeat (refine GX.pure rfl ?_; first | refine GO.move rfl rfl rfl rfl ?_ | refine GO.assign rfl rfl rfl rfl ?_ | refine GO.lenSlice rfl rfl rfl rfl ?_ | refine GO.conv rfl rfl rfl rfl (wrapIn (by dsimp only [InK]; omega)) ?_ | refine GO.convStr rfl rfl rfl rfl ?_))
  (refine GX.eff rfl ?_; refine GO.callL rfl rfl rfl rfl rfl (put_ret l m.length (by omega) _ rfl (by omega) a c w hA) ?_)
  rintro v w1 ⟨⟨ob, a1, c1, rfl, hO, hF1, hF2⟩, hE⟩
  refine ⟨fun _ h => by first | trivial | exact Mod.trans h (Ext.mod (by assumption)), ?_⟩
  (repeat (refine GX.pure rfl ?_; first | refine GO.move rfl rfl rfl rfl ?_ | refine GO.assign rfl rfl rfl rfl ?_ | refine GO.lenSlice rfl rfl rfl rfl ?_ | refine GO.conv rfl rfl rfl rfl (wrapIn (by dsimp only [InK]; omega)) ?_ | refine GO.convStr rfl rfl rfl rfl ?_))
  have hpl := putN_length m.length
  refine GX.eff rfl ?_
  refine GO.append hO (hB.ext hE) (by simp) (bytesV_one m) (by simp; omega) (by simp; omega) rfl rfl rfl rfl rfl fun ob' a' c' w3 hO3 hM hB3 hA3 => ?_
  refine ⟨fun _ h => by first | trivial | exact Mod.trans h (Ext.mod (by assumption)), ?_⟩
  (repeat (refine GX.pure rfl ?_; first | refine GO.move rfl rfl rfl rfl ?_ | refine GO.assign rfl rfl rfl rfl ?_ | refine GO.lenSlice rfl rfl rfl rfl ?_ | refine GO.conv rfl rfl rfl rfl (wrapIn (by dsimp only [InK]; omega)) ?_ | refine GO.convStr rfl rfl rfl rfl ?_))
  (repeat (first | refine GX.doneD ?_ | refine GX.done ?_ | refine GQ.goNormal ?_ | refine GC.seq ?_ | refine GC.skip ?_ | refine GC.block ?_ | refine GC.exit ?_ | refine GC.ret ?_ | refine GQ.goExit ?_ | refine GQ.goRet ?_ | refine GQ.inNormal ?_ | refine GQ.inExit ?_ | refine GQ.inExitNe rfl ?_ | refine GQ.inRet ?_ | refine GQ.loopExit ?_ | refine GQ.loopRet ?_ | refine GQ.cutExit ?_ | refine GQ.cutRet ?_))
  refine GQ.ret1 (by first | exact .inl rfl | exact .inr rfl) rfl rfl ?_
  rw [← bytesV_append] at hO3
  have hlen : (l ++ putN m.length).length + m.length = (l ++ putN m.length ++ m).length := by simp [Nat.add_assoc]
  rw [hlen] at hO3 ⊢
  have hfr : ∀ y, ob' = some y → w.heap.size ≤ y := fun y hy => by
    rcases hB3 y hy with h | h
    · exact hF1 y h
    · exact Nat.le_trans hE.size h
  refine ⟨⟨ob', a', c', rfl, hO3, hfr, fun y hy => ?_⟩, hE.then hM ?_⟩
  · rcases hA3 y hy with h | ⟨h, h'⟩
    · exact h
    · rw [h']; exact hF2 y h
  · intro i hi h
    have := hF1 i h.symm
    omega

/-- The bytes that follow their length, at most some; how many bytes both have; the error. -/
def getB (l : List UInt8) (most : Nat) : List UInt8 × Nat × Int :=
  if (getN l).2.2 ≠ 0 then ([], 0, (getN l).2.2)
  else if most < (getN l).1 then ([], 0, 5)
  else if l.length - (getN l).2.1 < (getN l).1 then ([], 0, 4)
  else ((l.drop (getN l).2.1).take (getN l).1, (getN l).2.1 + (getN l).1, 0)
theorem getB_size (l : List UInt8) (most : Nat) (h : (getB l most).2.2 = 0) : 0 < (getB l most).2.1 ∧ (getB l most).2.1 ≤ l.length ∧ (getB l most).1.length ≤ most ∧ (getB l most).1.length < (getB l most).2.1 := by
  unfold getB at h ⊢
  split at h <;> rename_i h1
  · exact absurd h h1
  · have h0 : (getN l).2.2 = 0 := by simpa using h1
    have hs := getN_size l h0
    rw [if_neg h1]
    split at h <;> rename_i h2
    · simp at h
    · rw [if_neg h2]
      split at h <;> rename_i h3
      · simp at h
      · rw [if_neg h3]
        simp only [List.length_take, List.length_drop]
        omega
theorem getB_err (l : List UInt8) (most : Nat) (h : (getB l most).2.2 ≠ 0) : (getB l most).1 = [] ∧ (getB l most).2.1 = 0 := by
  unfold getB at h ⊢
  split at h <;> rename_i h1
  · rw [if_pos h1]; exact ⟨rfl, rfl⟩
  · rw [if_neg h1]
    split at h <;> rename_i h2
    · rw [if_pos h2]; exact ⟨rfl, rfl⟩
    · rw [if_neg h2]
      split at h <;> rename_i h3
      · rw [if_pos h3]; exact ⟨rfl, rfl⟩
      · simp at h
theorem getB_e (l : List UInt8) (most : Nat) : 0 ≤ (getB l most).2.2 ∧ (getB l most).2.2 ≤ 16 := by
  have := getN_e l
  unfold getB
  split
  · dsimp only; omega
  · split
    · simp
    · split <;> simp

/-- Bytes in new memory, a size and an error. -/
def NewTriple (w : World) (x : List UInt8 × Nat × Int) (v : Value) (w' : World) : Prop :=
  ∃ a c, v = .tuple #[.slice a x.1.length c, .int .i64 x.2.1, .int .i64 x.2.2] ∧ BytesAt w' a c x.1 ∧ (∀ y, a = some y → w.heap.size ≤ y.block) ∧ Ext w w'
theorem newTriple_err {w w' : World} {e : Int} (hE : Ext w w') : NewTriple w ([], 0, e) (.tuple #[.slice none 0 0, .int .i64 0, .int .i64 e]) w' :=
  ⟨none, 0, rfl, BytesAt.none _, by simp, hE⟩

set_option maxHeartbeats 800000 in
theorem getBytes_ret (l : List UInt8) (n : Nat) (hn : l.length = n) (hl : l.length < 2 ^ 39) (most : Nat) (hmost : most < 2 ^ 39) (a : Option Addr) (c : Nat) (w : World) (hA : BytesAt w a c l) :
    Ret Try.prog 68 [.slice a n c, .int .i64 most].toArray w (NewTriple w (getB l most)) := by
  subst hn
  have hcap := hA.cap
  
  refine Ret.enter Try.func68 rfl Try.ntmps68 rfl ?_
  (repeat (first | refine GX.doneD ?_ | refine GX.done ?_ | refine GQ.goNormal ?_ | refine GC.seq ?_ | refine GC.skip ?_ | refine GC.block ?_ | refine GC.exit ?_ | refine GC.ret ?_ | refine GQ.goExit ?_ | refine GQ.goRet ?_ | refine GQ.inNormal ?_ | refine GQ.inExit ?_ | refine GQ.inExitNe rfl ?_ | refine GQ.inRet ?_ | refine GQ.loopExit ?_ | refine GQ.loopRet ?_ | refine GQ.cutExit ?_ | refine GQ.cutRet ?_))
  refine GC.region (.pure 0 (.pure 1 (.pure 2 .done))) rfl ?_
  (repeat (refine GX.pure rfl ?_; refine GO.assign rfl rfl rfl rfl ?_))
  (repeat (first | refine GX.doneD ?_ | refine GX.done ?_ | refine GQ.goNormal ?_ | refine GC.seq ?_ | refine GC.skip ?_ | refine GC.block ?_ | refine GC.exit ?_ | refine GC.ret ?_ | refine GQ.goExit ?_ | refine GQ.goRet ?_ | refine GQ.inNormal ?_ | refine GQ.inExit ?_ | refine GQ.inExitNe rfl ?_ | refine GQ.inRet ?_ | refine GQ.loopExit ?_ | refine GQ.loopRet ?_ | refine GQ.cutExit ?_ | refine GQ.cutRet ?_))
  refine GC.region (.pure 0 (.pure 1 .done)) rfl ?_
  (repeat (refine GX.pure rfl ?_; first | refine GO.move rfl rfl rfl rfl ?_ | refine GO.lss rfl rfl rfl rfl rfl ?_))
  (repeat (first | refine GX.doneD ?_ | refine GX.done ?_ | refine GQ.goNormal ?_ | refine GC.seq ?_ | refine GC.skip ?_ | refine GC.block ?_ | refine GC.exit ?_ | refine GC.ret ?_ | refine GQ.goExit ?_ | refine GQ.goRet ?_ | refine GQ.inNormal ?_ | refine GQ.inExit ?_ | refine GQ.inExitNe rfl ?_ | refine GQ.inRet ?_ | refine GQ.loopExit ?_ | refine GQ.loopRet ?_ | refine GQ.cutExit ?_ | refine GQ.cutRet ?_))
  refine GC.cond rfl (fun h0 => ?_) (fun h0 => ?_)
  · exfalso; have := of_decide_eq_true h0; omega
  · (repeat (first | refine GX.doneD ?_ | refine GX.done ?_ | refine GQ.goNormal ?_ | refine GC.seq ?_ | refine GC.skip ?_ | refine GC.block ?_ | refine GC.exit ?_ | refine GC.ret ?_ | refine GQ.goExit ?_ | refine GQ.goRet ?_ | refine GQ.inNormal ?_ | refine GQ.inExit ?_ | refine GQ.inExitNe rfl ?_ | refine GQ.inRet ?_ | refine GQ.loopExit ?_ | refine GQ.loopRet ?_ | refine GQ.cutExit ?_ | refine GQ.cutRet ?_))
    refine GC.region (.pure 0 (.eff 1 (.pure 2 (.pure 3 (.pure 4 (.pure 5 (.pure 6 (.pure 7 (.pure 8 .done))))))))) rfl ?_
    (repeat (refine GX.pure rfl ?_; first | refine GO.move rfl rfl rfl rfl ?_ | refine GO.assign rfl rfl rfl rfl ?_ | refine GO.extract rfl rfl rfl rfl rfl ?_))
    (refine GX.eff rfl ?_; refine GO.callL rfl rfl rfl rfl rfl (get_ret l _ rfl (by omega) a c w hA.cells) ?_)
    rintro v w1 ⟨rfl, rfl⟩
    refine ⟨fun _ h => by first | trivial | exact Mod.trans h (Ext.mod (by assumption)), ?_⟩
    have hlt := getN_lt l
    (repeat (refine GX.pure rfl ?_; first | refine GO.move rfl rfl rfl rfl ?_ | refine GO.assign rfl rfl rfl rfl ?_ | refine GO.extract rfl rfl rfl rfl rfl ?_))
    (repeat (first | refine GX.doneD ?_ | refine GX.done ?_ | refine GQ.goNormal ?_ | refine GC.seq ?_ | refine GC.skip ?_ | refine GC.block ?_ | refine GC.exit ?_ | refine GC.ret ?_ | refine GQ.goExit ?_ | refine GQ.goRet ?_ | refine GQ.inNormal ?_ | refine GQ.inExit ?_ | refine GQ.inExitNe rfl ?_ | refine GQ.inRet ?_ | refine GQ.loopExit ?_ | refine GQ.loopRet ?_ | refine GQ.cutExit ?_ | refine GQ.cutRet ?_))
    refine GC.region (.pure 0 (.pure 1 (.pure 2 .done))) rfl ?_
    (repeat (refine GX.pure rfl ?_; first | refine GO.move rfl rfl rfl rfl ?_ | refine GO.assign rfl rfl rfl rfl ?_ | refine GO.neq rfl rfl rfl rfl rfl ?_))
    (repeat (first | refine GX.doneD ?_ | refine GX.done ?_ | refine GQ.goNormal ?_ | refine GC.seq ?_ | refine GC.skip ?_ | refine GC.block ?_ | refine GC.exit ?_ | refine GC.ret ?_ | refine GQ.goExit ?_ | refine GQ.goRet ?_ | refine GQ.inNormal ?_ | refine GQ.inExit ?_ | refine GQ.inExitNe rfl ?_ | refine GQ.inRet ?_ | refine GQ.loopExit ?_ | refine GQ.loopRet ?_ | refine GQ.cutExit ?_ | refine GQ.cutRet ?_))
    refine GC.cond rfl (fun h1 => ?_) (fun h1 => ?_)
    · have h1' : (getN l).2.2 ≠ 0 := of_decide_eq_true h1
      have hB : getB l most = ([], 0, (getN l).2.2) := by unfold getB; rw [if_pos h1']
      (repeat (first | refine GX.doneD ?_ | refine GX.done ?_ | refine GQ.goNormal ?_ | refine GC.seq ?_ | refine GC.skip ?_ | refine GC.block ?_ | refine GC.exit ?_ | refine GC.ret ?_ | refine GQ.goExit ?_ | refine GQ.goRet ?_ | refine GQ.inNormal ?_ | refine GQ.inExit ?_ | refine GQ.inExitNe rfl ?_ | refine GQ.inRet ?_ | refine GQ.loopExit ?_ | refine GQ.loopRet ?_ | refine GQ.cutExit ?_ | refine GQ.cutRet ?_))
      refine GC.region (.pure 0 (.pure 1 (.pure 2 (.pure 3 .done)))) rfl ?_
      (repeat (refine GX.pure rfl ?_; first | refine GO.move rfl rfl rfl rfl ?_ | refine GO.assign rfl rfl rfl rfl ?_))
      (repeat (first | refine GX.doneD ?_ | refine GX.done ?_ | refine GQ.goNormal ?_ | refine GC.seq ?_ | refine GC.skip ?_ | refine GC.block ?_ | refine GC.exit ?_ | refine GC.ret ?_ | refine GQ.goExit ?_ | refine GQ.goRet ?_ | refine GQ.inNormal ?_ | refine GQ.inExit ?_ | refine GQ.inExitNe rfl ?_ | refine GQ.inRet ?_ | refine GQ.loopExit ?_ | refine GQ.loopRet ?_ | refine GQ.cutExit ?_ | refine GQ.cutRet ?_))
      refine GQ.ret3 (by first | exact .inl rfl | exact .inr rfl) rfl rfl rfl rfl ?_
      rw [hB]
      exact newTriple_err (Mod.refl _)
    · have h1' : (getN l).2.2 = 0 := by have := of_decide_eq_false h1; simpa using this
      have hs := getN_size l h1'
      (repeat (first | refine GX.doneD ?_ | refine GX.done ?_ | refine GQ.goNormal ?_ | refine GC.seq ?_ | refine GC.skip ?_ | refine GC.block ?_ | refine GC.exit ?_ | refine GC.ret ?_ | refine GQ.goExit ?_ | refine GQ.goRet ?_ | refine GQ.inNormal ?_ | refine GQ.inExit ?_ | refine GQ.inExitNe rfl ?_ | refine GQ.inRet ?_ | refine GQ.loopExit ?_ | refine GQ.loopRet ?_ | refine GQ.cutExit ?_ | refine GQ.cutRet ?_))
      refine GC.region (.pure 0 (.pure 1 (.pure 2 (.pure 3 (.pure 4 .done))))) rfl ?_
      (repeat (refine GX.pure rfl ?_; first | refine GO.move rfl rfl rfl rfl ?_ | refine GO.assign rfl rfl rfl rfl ?_ | refine GO.gtr rfl rfl rfl rfl rfl ?_ | refine GO.conv rfl rfl rfl rfl (wrapIn (by dsimp only [InK]; omega)) ?_ | refine GO.convStr rfl rfl rfl rfl ?_))
      (repeat (first | refine GX.doneD ?_ | refine GX.done ?_ | refine GQ.goNormal ?_ | refine GC.seq ?_ | refine GC.skip ?_ | refine GC.block ?_ | refine GC.exit ?_ | refine GC.ret ?_ | refine GQ.goExit ?_ | refine GQ.goRet ?_ | refine GQ.inNormal ?_ | refine GQ.inExit ?_ | refine GQ.inExitNe rfl ?_ | refine GQ.inRet ?_ | refine GQ.loopExit ?_ | refine GQ.loopRet ?_ | refine GQ.cutExit ?_ | refine GQ.cutRet ?_))
      refine GC.cond rfl (fun h2 => ?_) (fun h2 => ?_)
      · have h2' : most < (getN l).1 := by have := of_decide_eq_true h2; omega
        have hB : getB l most = ([], 0, 5) := by unfold getB; rw [if_neg (by simpa using h1'), if_pos h2']
        (repeat (first | refine GX.doneD ?_ | refine GX.done ?_ | refine GQ.goNormal ?_ | refine GC.seq ?_ | refine GC.skip ?_ | refine GC.block ?_ | refine GC.exit ?_ | refine GC.ret ?_ | refine GQ.goExit ?_ | refine GQ.goRet ?_ | refine GQ.inNormal ?_ | refine GQ.inExit ?_ | refine GQ.inExitNe rfl ?_ | refine GQ.inRet ?_ | refine GQ.loopExit ?_ | refine GQ.loopRet ?_ | refine GQ.cutExit ?_ | refine GQ.cutRet ?_))
        refine GC.region (.pure 0 (.pure 1 (.pure 2 .done))) rfl ?_
        (repeat (refine GX.pure rfl ?_; refine GO.assign rfl rfl rfl rfl ?_))
        (repeat (first | refine GX.doneD ?_ | refine GX.done ?_ | refine GQ.goNormal ?_ | refine GC.seq ?_ | refine GC.skip ?_ | refine GC.block ?_ | refine GC.exit ?_ | refine GC.ret ?_ | refine GQ.goExit ?_ | refine GQ.goRet ?_ | refine GQ.inNormal ?_ | refine GQ.inExit ?_ | refine GQ.inExitNe rfl ?_ | refine GQ.inRet ?_ | refine GQ.loopExit ?_ | refine GQ.loopRet ?_ | refine GQ.cutExit ?_ | refine GQ.cutRet ?_))
        refine GQ.ret3 (by first | exact .inl rfl | exact .inr rfl) rfl rfl rfl rfl ?_
        rw [hB]
        exact newTriple_err (Mod.refl _)
      · have h2' : ¬ most < (getN l).1 := by have := of_decide_eq_false h2; omega
        (repeat (first | refine GX.doneD ?_ | refine GX.done ?_ | refine GQ.goNormal ?_ | refine GC.seq ?_ | refine GC.skip ?_ | refine GC.block ?_ | refine GC.exit ?_ | refine GC.ret ?_ | refine GQ.goExit ?_ | refine GQ.goRet ?_ | refine GQ.inNormal ?_ | refine GQ.inExit ?_ | refine GQ.inExitNe rfl ?_ | refine GQ.inRet ?_ | refine GQ.loopExit ?_ | refine GQ.loopRet ?_ | refine GQ.cutExit ?_ | refine GQ.cutRet ?_))
        refine GC.region (.pure 0 (.pure 1 (.pure 2 (.pure 3 (.pure 4 (.pure 5 (.pure 6 (.pure 7 .done)))))))) rfl ?_
        (repeat (refine GX.pure rfl ?_; first | refine GO.move rfl rfl rfl rfl ?_ | refine GO.assign rfl rfl rfl rfl ?_ | refine GO.lenSlice rfl rfl rfl rfl ?_ | refine GO.gtr rfl rfl rfl rfl rfl ?_ | refine GO.sub rfl rfl rfl rfl rfl (wrapIn (by dsimp only [InK]; omega)) ?_ | refine GO.conv rfl rfl rfl rfl (wrapIn (by dsimp only [InK]; omega)) ?_ | refine GO.convStr rfl rfl rfl rfl ?_))
        (repeat (first | refine GX.doneD ?_ | refine GX.done ?_ | refine GQ.goNormal ?_ | refine GC.seq ?_ | refine GC.skip ?_ | refine GC.block ?_ | refine GC.exit ?_ | refine GC.ret ?_ | refine GQ.goExit ?_ | refine GQ.goRet ?_ | refine GQ.inNormal ?_ | refine GQ.inExit ?_ | refine GQ.inExitNe rfl ?_ | refine GQ.inRet ?_ | refine GQ.loopExit ?_ | refine GQ.loopRet ?_ | refine GQ.cutExit ?_ | refine GQ.cutRet ?_))
        refine GC.cond rfl (fun h3 => ?_) (fun h3 => ?_)
        · have h3' : l.length - (getN l).2.1 < (getN l).1 := by have := of_decide_eq_true h3; omega
          have hB : getB l most = ([], 0, 4) := by unfold getB; rw [if_neg (by simpa using h1'), if_neg h2', if_pos h3']
          (repeat (first | refine GX.doneD ?_ | refine GX.done ?_ | refine GQ.goNormal ?_ | refine GC.seq ?_ | refine GC.skip ?_ | refine GC.block ?_ | refine GC.exit ?_ | refine GC.ret ?_ | refine GQ.goExit ?_ | refine GQ.goRet ?_ | refine GQ.inNormal ?_ | refine GQ.inExit ?_ | refine GQ.inExitNe rfl ?_ | refine GQ.inRet ?_ | refine GQ.loopExit ?_ | refine GQ.loopRet ?_ | refine GQ.cutExit ?_ | refine GQ.cutRet ?_))
          refine GC.region (.pure 0 (.pure 1 (.pure 2 .done))) rfl ?_
          (repeat (refine GX.pure rfl ?_; refine GO.assign rfl rfl rfl rfl ?_))
          (repeat (first | refine GX.doneD ?_ | refine GX.done ?_ | refine GQ.goNormal ?_ | refine GC.seq ?_ | refine GC.skip ?_ | refine GC.block ?_ | refine GC.exit ?_ | refine GC.ret ?_ | refine GQ.goExit ?_ | refine GQ.goRet ?_ | refine GQ.inNormal ?_ | refine GQ.inExit ?_ | refine GQ.inExitNe rfl ?_ | refine GQ.inRet ?_ | refine GQ.loopExit ?_ | refine GQ.loopRet ?_ | refine GQ.cutExit ?_ | refine GQ.cutRet ?_))
          refine GQ.ret3 (by first | exact .inl rfl | exact .inr rfl) rfl rfl rfl rfl ?_
          rw [hB]
          exact newTriple_err (Mod.refl _)
        · have h3' : ¬ l.length - (getN l).2.1 < (getN l).1 := by have := of_decide_eq_false h3; omega
          have hB : getB l most = ((l.drop (getN l).2.1).take (getN l).1, (getN l).2.1 + (getN l).1, 0) := by unfold getB; rw [if_neg (by simpa using h1'), if_neg h2', if_neg h3']
          (repeat (first | refine GX.doneD ?_ | refine GX.done ?_ | refine GQ.goNormal ?_ | refine GC.seq ?_ | refine GC.skip ?_ | refine GC.block ?_ | refine GC.exit ?_ | refine GC.ret ?_ | refine GQ.goExit ?_ | refine GQ.goRet ?_ | refine GQ.inNormal ?_ | refine GQ.inExit ?_ | refine GQ.inExitNe rfl ?_ | refine GQ.inRet ?_ | refine GQ.loopExit ?_ | refine GQ.loopRet ?_ | refine GQ.cutExit ?_ | refine GQ.cutRet ?_))
          refine GC.region (.pure 0 (.pure 1 (.pure 2 (.pure 3 (.pure 4 .done))))) rfl ?_
          (repeat (refine GX.pure rfl ?_; first | refine GO.move rfl rfl rfl rfl ?_ | refine GO.assign rfl rfl rfl rfl ?_ | refine GO.add rfl rfl rfl rfl rfl (wrapIn (by dsimp only [InK]; omega)) ?_ | refine GO.conv rfl rfl rfl rfl (wrapIn (by dsimp only [InK]; omega)) ?_ | refine GO.convStr rfl rfl rfl rfl ?_))
          (repeat (first | refine GX.doneD ?_ | refine GX.done ?_ | refine GQ.goNormal ?_ | refine GC.seq ?_ | refine GC.skip ?_ | refine GC.block ?_ | refine GC.exit ?_ | refine GC.ret ?_ | refine GQ.goExit ?_ | refine GQ.goRet ?_ | refine GQ.inNormal ?_ | refine GQ.inExit ?_ | refine GQ.inExitNe rfl ?_ | refine GQ.inRet ?_ | refine GQ.loopExit ?_ | refine GQ.loopRet ?_ | refine GQ.cutExit ?_ | refine GQ.cutRet ?_))
          refine GC.region (.pure 0 (.pure 1 (.pure 2 (.pure 3 (.pure 4 (.eff 5 (.pure 6 (.pure 7 (.pure 8 (.pure 9 .done)))))))))) rfl ?_
          (repeat (refine GX.pure rfl ?_; first | refine GO.move rfl rfl rfl rfl ?_ | refine GO.assign rfl rfl rfl rfl ?_))
          refine GX.pure rfl ?_
          refine GO.sliceS rfl rfl rfl rfl (bounds_lhm (by omega) (by omega) (by omega) (by omega)) ⟨by simp; rfl, by simp; rfl, by simp; rfl⟩ ?_
          have hsl := hA.cells.bytes (getN l).2.1 ((getN l).2.1 + (getN l).1) (getN l).1 (by omega)
          have e1 : (((getN l).2.1 : Int)).toNat = (getN l).2.1 := by omega
          have e2 : (((getN l).2.1 : Int) + ((getN l).1 : Int)).toNat = (getN l).2.1 + (getN l).1 := by omega
          have e3 : (getN l).2.1 + (getN l).1 - (getN l).2.1 = (getN l).1 := by omega
          rw [e1, e2, e3]
          (refine GX.eff rfl ?_; refine GO.callL rfl rfl rfl rfl rfl (cloneB_ret (el := 5) (sz := 1) (by_ := 1) rfl (getN l).1 (bytesV ((l.drop (getN l).2.1).take (getN l).1)) (by simp; omega) (bytesV_one _) (by omega) (by omega) _ _ w1 hsl (fun h => by
            unfold sliced' at h
            split at h
            · omega
            · have : a = none := by cases a <;> simp_all
              have := hA.nil this
              omega)) ?_)
          rintro v w2 ⟨ob, a1, c1, rfl, hO, hE, hF1, hF2⟩
          refine ⟨fun _ h => by first | trivial | exact Mod.trans h (Ext.mod (by assumption)), ?_⟩
          (repeat (refine GX.pure rfl ?_; first | refine GO.move rfl rfl rfl rfl ?_ | refine GO.assign rfl rfl rfl rfl ?_))
          (repeat (first | refine GX.doneD ?_ | refine GX.done ?_ | refine GQ.goNormal ?_ | refine GC.seq ?_ | refine GC.skip ?_ | refine GC.block ?_ | refine GC.exit ?_ | refine GC.ret ?_ | refine GQ.goExit ?_ | refine GQ.goRet ?_ | refine GQ.inNormal ?_ | refine GQ.inExit ?_ | refine GQ.inExitNe rfl ?_ | refine GQ.inRet ?_ | refine GQ.loopExit ?_ | refine GQ.loopRet ?_ | refine GQ.cutExit ?_ | refine GQ.cutRet ?_))
          refine GQ.ret3 (by first | exact .inl rfl | exact .inr rfl) rfl rfl rfl rfl ?_
          rw [hB]
          have hlen : ((l.drop (getN l).2.1).take (getN l).1).length = (getN l).1 := by simp; omega
          have hO2 : OwnS w2 5 1 ob a1 ((l.drop (getN l).2.1).take (getN l).1).length c1 (bytesV ((l.drop (getN l).2.1).take (getN l).1)) := by rw [hlen]; exact hO
          exact ⟨a1, c1, by dsimp only; rw [hlen]; rfl, hO2.bytes hF2, fun y hy => hF1 _ (hF2 y hy), hE⟩
end Go.Proofs.Ytahkglanddhncaa.V
