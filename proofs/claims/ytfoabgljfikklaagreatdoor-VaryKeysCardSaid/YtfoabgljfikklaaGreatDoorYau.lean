/-
  What vary's escape writes into a builder. Conditions: lengths stay below 2^38; What slices.Values hands out and slices.AppendSeq gathers, on strings. Conditions: the slice lies below what is new, and is short; The program has functions of the library on sorted keys, numbered as the library wants it. No condition.
-/
import Derived.Test.YtfoabgljfikklaaGreatDoorYat
import Derived.RangeFuncBox
import Derived.RangeFuncLeaves
import Derived.RangeFuncWrites
import Derived.RangeFuncFrom
import Derived.Shelf.Abstract
import Derived.WalkKit
import Derived.OwnWalkIn
import Derived.TacticsInMore
import Derived.LoopNIn
import Derived.LoopIn
import Derived.Test.YtfoabgljfikklaaGreatDoorYad
import Derived.Shelf.SortM.Plain
import Derived.Shelf.SortM.SortNone
set_option linter.unusedVariables false
set_option linter.unusedSimpArgs false
namespace Go.Proofs.YtfoabgljfikklaaGreatDoor.V.Ky
attribute [local irreducible] GX GO
theorem hexAt {x : Nat} (h : x < 16) {i : Int} (hi : i = ((x : Nat) : Int)) : ([48, 49, 50, 51, 52, 53, 54, 55, 56, 57, 65, 66, 67, 68, 69, 70] : List UInt8)[i.toNat]? = some (hexD x) := by
  subst hi
  exact hex_at x h
set_option maxHeartbeats 4000000 in
theorem escape_ret (B b : Nat) (l s : Bs) (hl : l.length + 3 * s.length < 2 ^ 40) (w : World) (hB : BuA w B b l) : Ret Tryz.prog 31 [.pointer (some ⟨b, 0, none⟩), str s].toArray w fun _ w' => BuA w' B b (l ++ escF s) ∧ BuK B b w w' := by
  have hs := size_strL s
  refine Ret.enter Tryz.func31 rfl Tryz.ntmps31 rfl ?_
  (repeat (first | refine GX.doneD ?_ | refine GX.done ?_ | refine GQ.goNormal ?_ | refine GC.seq ?_ | refine GC.skip ?_ | refine GC.block ?_ | refine GC.exit ?_ | refine GC.ret ?_ | refine GQ.goExit ?_ | refine GQ.goRet ?_ | refine GQ.inNormal ?_ | refine GQ.inExit ?_ | refine GQ.inExitNe rfl ?_ | refine GQ.inRet ?_ | refine GQ.loopExit ?_ | refine GQ.loopRet ?_ | refine GQ.cutExit ?_ | refine GQ.cutRet ?_))
  refine GC.region (.pure 0 (.pure 1 (.pure 2 .done))) rfl ?_
  (repeat (refine GX.pure rfl ?_; first | refine GO.move rfl rfl rfl rfl ?_ | refine GO.lenStr rfl rfl rfl rfl ?_))
  (repeat (first | refine GX.doneD ?_ | refine GX.done ?_ | refine GQ.goNormal ?_ | refine GC.seq ?_ | refine GC.skip ?_ | refine GC.block ?_ | refine GC.exit ?_ | refine GC.ret ?_ | refine GQ.goExit ?_ | refine GQ.goRet ?_ | refine GQ.inNormal ?_ | refine GQ.inExit ?_ | refine GQ.inExitNe rfl ?_ | refine GQ.inRet ?_ | refine GQ.loopExit ?_ | refine GQ.loopRet ?_ | refine GQ.cutExit ?_ | refine GQ.cutRet ?_))
  refine GC.loop (X := Nat) (fun k => [(0, .pointer (some ⟨b, 0, none⟩)), (1, str s), (7, .int .i64 s.length), (8, .int .i64 k)]) (fun k w' => k ≤ s.length ∧ BuA w' B b (l ++ escF (s.take k)) ∧ BuK B b w w') (fun k => s.length - k) 0 (sub_pick (l := [0, 1, 7, 8]) rfl) ⟨Nat.zero_le _, by simpa [escF] using hB, BuK.refl _ _ _⟩ ?_
  rintro k w1 ⟨hk, hB1, hK1⟩
  (repeat (first | refine GX.doneD ?_ | refine GX.done ?_ | refine GQ.goNormal ?_ | refine GC.seq ?_ | refine GC.skip ?_ | refine GC.block ?_ | refine GC.exit ?_ | refine GC.ret ?_ | refine GQ.goExit ?_ | refine GQ.goRet ?_ | refine GQ.inNormal ?_ | refine GQ.inExit ?_ | refine GQ.inExitNe rfl ?_ | refine GQ.inRet ?_ | refine GQ.loopExit ?_ | refine GQ.loopRet ?_ | refine GQ.cutExit ?_ | refine GQ.cutRet ?_))
  refine GC.region (.pure 0 .done) rfl ?_
  (repeat (refine GX.pure rfl ?_; refine GO.lss rfl rfl rfl rfl rfl ?_))
  (repeat (first | refine GX.doneD ?_ | refine GX.done ?_ | refine GQ.goNormal ?_ | refine GC.seq ?_ | refine GC.skip ?_ | refine GC.block ?_ | refine GC.exit ?_ | refine GC.ret ?_ | refine GQ.goExit ?_ | refine GQ.goRet ?_ | refine GQ.inNormal ?_ | refine GQ.inExit ?_ | refine GQ.inExitNe rfl ?_ | refine GQ.inRet ?_ | refine GQ.loopExit ?_ | refine GQ.loopRet ?_ | refine GQ.cutExit ?_ | refine GQ.cutRet ?_))
  refine GC.cond rfl (fun hc => ?_) (fun hc => ?_)
  · have hlt : k < s.length := by have := of_decide_eq_true hc; omega
    have hel : (l ++ escF (s.take k)).length ≤ l.length + 3 * k := by
      have := escF_len (s.take k)
      rw [List.length_take] at this
      rw [List.length_append]
      omega
    have hb := UInt8.toNat_lt s[k]
    (repeat (first | refine GX.doneD ?_ | refine GX.done ?_ | refine GQ.goNormal ?_ | refine GC.seq ?_ | refine GC.skip ?_ | refine GC.block ?_ | refine GC.exit ?_ | refine GC.ret ?_ | refine GQ.goExit ?_ | refine GQ.goRet ?_ | refine GQ.inNormal ?_ | refine GQ.inExit ?_ | refine GQ.inExitNe rfl ?_ | refine GQ.inRet ?_ | refine GQ.loopExit ?_ | refine GQ.loopRet ?_ | refine GQ.cutExit ?_ | refine GQ.cutRet ?_))
    refine GC.region (.pure 0 (.pure 1 .done)) rfl ?_
    (repeat (refine GX.pure rfl ?_; first | refine GO.move rfl rfl rfl rfl ?_ | refine GO.assign rfl rfl rfl rfl ?_))
    (repeat (first | refine GX.doneD ?_ | refine GX.done ?_ | refine GQ.goNormal ?_ | refine GC.seq ?_ | refine GC.skip ?_ | refine GC.block ?_ | refine GC.exit ?_ | refine GC.ret ?_ | refine GQ.goExit ?_ | refine GQ.goRet ?_ | refine GQ.inNormal ?_ | refine GQ.inExit ?_ | refine GQ.inExitNe rfl ?_ | refine GQ.inRet ?_ | refine GQ.loopExit ?_ | refine GQ.loopRet ?_ | refine GQ.cutExit ?_ | refine GQ.cutRet ?_))
    refine GC.region (.pure 0 (.pure 1 (.pure 2 (.pure 3 .done)))) rfl ?_
    (repeat (refine GX.pure rfl ?_; first | refine GO.move rfl rfl rfl rfl ?_ | refine GO.assign rfl rfl rfl rfl ?_))
    refine GX.pure rfl (GO.indexStr rfl rfl rfl rfl (by omega) (u := s[k]) (by simp [hlt]) rfl ?_)
    (repeat (refine GX.pure rfl ?_; first | refine GO.move rfl rfl rfl rfl ?_ | refine GO.assign rfl rfl rfl rfl ?_))
    (repeat (first | refine GX.doneD ?_ | refine GX.done ?_ | refine GQ.goNormal ?_ | refine GC.seq ?_ | refine GC.skip ?_ | refine GC.block ?_ | refine GC.exit ?_ | refine GC.ret ?_ | refine GQ.goExit ?_ | refine GQ.goRet ?_ | refine GQ.inNormal ?_ | refine GQ.inExit ?_ | refine GQ.inExitNe rfl ?_ | refine GQ.inRet ?_ | refine GQ.loopExit ?_ | refine GQ.loopRet ?_ | refine GQ.cutExit ?_ | refine GQ.cutRet ?_))
    refine GC.pick [0, 1, 4, 5, 7, 8] rfl ?_
    refine GC.cut (X := Bool) (fun x => [(0, .pointer (some ⟨b, 0, none⟩)), (1, str s), (4, .int .i64 k), (5, byteV s[k]), (7, .int .i64 s.length), (8, .int .i64 k), (31, .bool x)]) (fun x w' => x = keptB s[k] ∧ w1 = w') ?_ ?_
    · refine GC.region (.pure 0 (.eff 1 (.pure 2 (.pure 3 (.pure 4 (.pure 5 (.pure 6 (.pure 7 (.pure 8 (.pure 9 (.pure 10 (.pure 11 (.pure 12 (.pure 13 (.pure 14 (.pure 15 (.pure 16 (.pure 17 .done)))))))))))))))))) rfl ?_
      (repeat (refine GX.pure rfl ?_; first | refine GO.move rfl rfl rfl rfl ?_ | refine GO.leq rfl rfl rfl rfl rfl ?_ | refine GO.geq rfl rfl rfl rfl rfl ?_ | refine GO.eql rfl rfl rfl rfl rfl ?_ | refine GO.pickT rfl rfl rfl rfl rfl ?_ | refine GO.pickF rfl rfl rfl rfl rfl ?_ | refine GO.skip (.inl rfl) rfl rfl ?_))
      (refine GX.eff rfl ?_; refine GO.callL rfl rfl rfl rfl rfl (psmall_ret s[k] _) ?_)
      rintro v w' ⟨rfl, rfl⟩
      refine ⟨fun _ h => by first | trivial | exact Mod.trans h (Ext.mod (by assumption)), ?_⟩
      (repeat (refine GX.pure rfl ?_; first | refine GO.move rfl rfl rfl rfl ?_ | refine GO.leq rfl rfl rfl rfl rfl ?_ | refine GO.geq rfl rfl rfl rfl rfl ?_ | refine GO.eql rfl rfl rfl rfl rfl ?_ | refine GO.pickT rfl rfl rfl rfl rfl ?_ | refine GO.pickF rfl rfl rfl rfl rfl ?_ | refine GO.skip (.inl rfl) rfl rfl ?_))
      refine GX.case 16 rfl (fun h1 => ?_) (fun h1 => ?_)
      · (repeat (first | (refine GX.pure rfl ?_; first | refine GO.move rfl rfl rfl rfl ?_ | refine GO.leq rfl rfl rfl rfl rfl ?_ | refine GO.geq rfl rfl rfl rfl rfl ?_ | refine GO.eql rfl rfl rfl rfl rfl ?_ | refine GO.pickT rfl rfl rfl rfl rfl ?_ | refine GO.pickF rfl rfl rfl rfl rfl ?_ | refine GO.skip (.inl rfl) rfl rfl ?_) | (refine GX.eff rfl ?_; refine GO.skip (.inr rfl) rfl rfl ?_) | (refine GX.read rfl ?_; refine GO.skipRead (by assumption) rfl rfl ?_)))
        (repeat (first | refine GX.doneD ?_ | refine GX.done ?_ | refine GQ.goNormal ?_ | refine GC.seq ?_ | refine GC.skip ?_ | refine GC.block ?_ | refine GC.exit ?_ | refine GC.ret ?_ | refine GQ.goExit ?_ | refine GQ.goRet ?_ | refine GQ.inNormal ?_ | refine GQ.inExit ?_ | refine GQ.inExitNe rfl ?_ | refine GQ.inRet ?_ | refine GQ.loopExit ?_ | refine GQ.loopRet ?_ | refine GQ.cutExit ?_ | refine GQ.cutRet ?_))
        exact GQ.cutNormal _ (sub_pick (l := [0, 1, 4, 5, 7, 8, 31]) rfl) ⟨by simp [keptB, h1], rfl⟩
      · (repeat (first | (refine GX.pure rfl ?_; first | refine GO.move rfl rfl rfl rfl ?_ | refine GO.leq rfl rfl rfl rfl rfl ?_ | refine GO.geq rfl rfl rfl rfl rfl ?_ | refine GO.eql rfl rfl rfl rfl rfl ?_ | refine GO.pickT rfl rfl rfl rfl rfl ?_ | refine GO.pickF rfl rfl rfl rfl rfl ?_ | refine GO.skip (.inl rfl) rfl rfl ?_) | (refine GX.eff rfl ?_; refine GO.skip (.inr rfl) rfl rfl ?_) | (refine GX.read rfl ?_; refine GO.skipRead (by assumption) rfl rfl ?_)))
        refine GX.case 19 rfl (fun h2 => ?_) (fun h2 => ?_)
        · (repeat (refine GX.pure rfl ?_; first | refine GO.move rfl rfl rfl rfl ?_ | refine GO.leq rfl rfl rfl rfl rfl ?_ | refine GO.geq rfl rfl rfl rfl rfl ?_ | refine GO.eql rfl rfl rfl rfl rfl ?_ | refine GO.pickT rfl rfl rfl rfl rfl ?_ | refine GO.pickF rfl rfl rfl rfl rfl ?_ | refine GO.skip (.inl rfl) rfl rfl ?_))
          refine GX.case 24 rfl (fun h3 => ?_) (fun h3 => ?_)
          · (repeat (first | (refine GX.pure rfl ?_; first | refine GO.move rfl rfl rfl rfl ?_ | refine GO.leq rfl rfl rfl rfl rfl ?_ | refine GO.geq rfl rfl rfl rfl rfl ?_ | refine GO.eql rfl rfl rfl rfl rfl ?_ | refine GO.pickT rfl rfl rfl rfl rfl ?_ | refine GO.pickF rfl rfl rfl rfl rfl ?_ | refine GO.skip (.inl rfl) rfl rfl ?_) | (refine GX.eff rfl ?_; refine GO.skip (.inr rfl) rfl rfl ?_) | (refine GX.read rfl ?_; refine GO.skipRead (by assumption) rfl rfl ?_)))
            (repeat (first | refine GX.doneD ?_ | refine GX.done ?_ | refine GQ.goNormal ?_ | refine GC.seq ?_ | refine GC.skip ?_ | refine GC.block ?_ | refine GC.exit ?_ | refine GC.ret ?_ | refine GQ.goExit ?_ | refine GQ.goRet ?_ | refine GQ.inNormal ?_ | refine GQ.inExit ?_ | refine GQ.inExitNe rfl ?_ | refine GQ.inRet ?_ | refine GQ.loopExit ?_ | refine GQ.loopRet ?_ | refine GQ.cutExit ?_ | refine GQ.cutRet ?_))
            refine GQ.cutNormal _ (sub_pick (l := [0, 1, 4, 5, 7, 8, 31]) rfl) ⟨?_, rfl⟩
            simp only [decide_eq_true_eq, decide_eq_false_iff_not] at h2 h3
            rw [Bool.eq_iff_iff]
            simp only [keptB, h1, Bool.false_or, Bool.or_eq_true, Bool.and_eq_true, decide_eq_true_eq, true_iff]
            omega
          · (repeat (first | (refine GX.pure rfl ?_; first | refine GO.move rfl rfl rfl rfl ?_ | refine GO.leq rfl rfl rfl rfl rfl ?_ | refine GO.geq rfl rfl rfl rfl rfl ?_ | refine GO.eql rfl rfl rfl rfl rfl ?_ | refine GO.pickT rfl rfl rfl rfl rfl ?_ | refine GO.pickF rfl rfl rfl rfl rfl ?_ | refine GO.skip (.inl rfl) rfl rfl ?_) | (refine GX.eff rfl ?_; refine GO.skip (.inr rfl) rfl rfl ?_) | (refine GX.read rfl ?_; refine GO.skipRead (by assumption) rfl rfl ?_)))
            refine GX.case 28 rfl (fun h4 => ?_) (fun h4 => ?_)
            · (repeat (first | (refine GX.pure rfl ?_; first | refine GO.move rfl rfl rfl rfl ?_ | refine GO.leq rfl rfl rfl rfl rfl ?_ | refine GO.geq rfl rfl rfl rfl rfl ?_ | refine GO.eql rfl rfl rfl rfl rfl ?_ | refine GO.pickT rfl rfl rfl rfl rfl ?_ | refine GO.pickF rfl rfl rfl rfl rfl ?_ | refine GO.skip (.inl rfl) rfl rfl ?_) | (refine GX.eff rfl ?_; refine GO.skip (.inr rfl) rfl rfl ?_) | (refine GX.read rfl ?_; refine GO.skipRead (by assumption) rfl rfl ?_)))
              (repeat (first | refine GX.doneD ?_ | refine GX.done ?_ | refine GQ.goNormal ?_ | refine GC.seq ?_ | refine GC.skip ?_ | refine GC.block ?_ | refine GC.exit ?_ | refine GC.ret ?_ | refine GQ.goExit ?_ | refine GQ.goRet ?_ | refine GQ.inNormal ?_ | refine GQ.inExit ?_ | refine GQ.inExitNe rfl ?_ | refine GQ.inRet ?_ | refine GQ.loopExit ?_ | refine GQ.loopRet ?_ | refine GQ.cutExit ?_ | refine GQ.cutRet ?_))
              refine GQ.cutNormal _ (sub_pick (l := [0, 1, 4, 5, 7, 8, 31]) rfl) ⟨?_, rfl⟩
              simp only [decide_eq_true_eq, decide_eq_false_iff_not] at h2 h3 h4
              rw [Bool.eq_iff_iff]
              simp only [keptB, h1, Bool.false_or, Bool.or_eq_true, Bool.and_eq_true, decide_eq_true_eq, true_iff]
              omega
            · (repeat (first | (refine GX.pure rfl ?_; first | refine GO.move rfl rfl rfl rfl ?_ | refine GO.leq rfl rfl rfl rfl rfl ?_ | refine GO.geq rfl rfl rfl rfl rfl ?_ | refine GO.eql rfl rfl rfl rfl rfl ?_ | refine GO.pickT rfl rfl rfl rfl rfl ?_ | refine GO.pickF rfl rfl rfl rfl rfl ?_ | refine GO.skip (.inl rfl) rfl rfl ?_) | (refine GX.eff rfl ?_; refine GO.skip (.inr rfl) rfl rfl ?_) | (refine GX.read rfl ?_; refine GO.skipRead (by assumption) rfl rfl ?_)))
              (repeat (first | refine GX.doneD ?_ | refine GX.done ?_ | refine GQ.goNormal ?_ | refine GC.seq ?_ | refine GC.skip ?_ | refine GC.block ?_ | refine GC.exit ?_ | refine GC.ret ?_ | refine GQ.goExit ?_ | refine GQ.goRet ?_ | refine GQ.inNormal ?_ | refine GQ.inExit ?_ | refine GQ.inExitNe rfl ?_ | refine GQ.inRet ?_ | refine GQ.loopExit ?_ | refine GQ.loopRet ?_ | refine GQ.cutExit ?_ | refine GQ.cutRet ?_))
              refine GQ.cutNormal _ (sub_pick (l := [0, 1, 4, 5, 7, 8, 31]) rfl) ⟨?_, rfl⟩
              simp only [decide_eq_true_eq, decide_eq_false_iff_not] at h2 h3 h4
              rw [Bool.eq_iff_iff]
              simp only [keptB, h1, Bool.false_or, Bool.or_eq_true, Bool.and_eq_true, decide_eq_true_eq]
              omega
        · (repeat (first | (refine GX.pure rfl ?_; first | refine GO.move rfl rfl rfl rfl ?_ | refine GO.leq rfl rfl rfl rfl rfl ?_ | refine GO.geq rfl rfl rfl rfl rfl ?_ | refine GO.eql rfl rfl rfl rfl rfl ?_ | refine GO.pickT rfl rfl rfl rfl rfl ?_ | refine GO.pickF rfl rfl rfl rfl rfl ?_ | refine GO.skip (.inl rfl) rfl rfl ?_) | (refine GX.eff rfl ?_; refine GO.skip (.inr rfl) rfl rfl ?_) | (refine GX.read rfl ?_; refine GO.skipRead (by assumption) rfl rfl ?_)))
          refine GX.case 28 rfl (fun h4 => ?_) (fun h4 => ?_)
          · (repeat (first | (refine GX.pure rfl ?_; first | refine GO.move rfl rfl rfl rfl ?_ | refine GO.leq rfl rfl rfl rfl rfl ?_ | refine GO.geq rfl rfl rfl rfl rfl ?_ | refine GO.eql rfl rfl rfl rfl rfl ?_ | refine GO.pickT rfl rfl rfl rfl rfl ?_ | refine GO.pickF rfl rfl rfl rfl rfl ?_ | refine GO.skip (.inl rfl) rfl rfl ?_) | (refine GX.eff rfl ?_; refine GO.skip (.inr rfl) rfl rfl ?_) | (refine GX.read rfl ?_; refine GO.skipRead (by assumption) rfl rfl ?_)))
            (repeat (first | refine GX.doneD ?_ | refine GX.done ?_ | refine GQ.goNormal ?_ | refine GC.seq ?_ | refine GC.skip ?_ | refine GC.block ?_ | refine GC.exit ?_ | refine GC.ret ?_ | refine GQ.goExit ?_ | refine GQ.goRet ?_ | refine GQ.inNormal ?_ | refine GQ.inExit ?_ | refine GQ.inExitNe rfl ?_ | refine GQ.inRet ?_ | refine GQ.loopExit ?_ | refine GQ.loopRet ?_ | refine GQ.cutExit ?_ | refine GQ.cutRet ?_))
            refine GQ.cutNormal _ (sub_pick (l := [0, 1, 4, 5, 7, 8, 31]) rfl) ⟨?_, rfl⟩
            simp only [decide_eq_true_eq, decide_eq_false_iff_not] at h2 h4
            rw [Bool.eq_iff_iff]
            simp only [keptB, h1, Bool.false_or, Bool.or_eq_true, Bool.and_eq_true, decide_eq_true_eq, true_iff]
            omega
          · (repeat (first | (refine GX.pure rfl ?_; first | refine GO.move rfl rfl rfl rfl ?_ | refine GO.leq rfl rfl rfl rfl rfl ?_ | refine GO.geq rfl rfl rfl rfl rfl ?_ | refine GO.eql rfl rfl rfl rfl rfl ?_ | refine GO.pickT rfl rfl rfl rfl rfl ?_ | refine GO.pickF rfl rfl rfl rfl rfl ?_ | refine GO.skip (.inl rfl) rfl rfl ?_) | (refine GX.eff rfl ?_; refine GO.skip (.inr rfl) rfl rfl ?_) | (refine GX.read rfl ?_; refine GO.skipRead (by assumption) rfl rfl ?_)))
            (repeat (first | refine GX.doneD ?_ | refine GX.done ?_ | refine GQ.goNormal ?_ | refine GC.seq ?_ | refine GC.skip ?_ | refine GC.block ?_ | refine GC.exit ?_ | refine GC.ret ?_ | refine GQ.goExit ?_ | refine GQ.goRet ?_ | refine GQ.inNormal ?_ | refine GQ.inExit ?_ | refine GQ.inExitNe rfl ?_ | refine GQ.inRet ?_ | refine GQ.loopExit ?_ | refine GQ.loopRet ?_ | refine GQ.cutExit ?_ | refine GQ.cutRet ?_))
            refine GQ.cutNormal _ (sub_pick (l := [0, 1, 4, 5, 7, 8, 31]) rfl) ⟨?_, rfl⟩
            simp only [decide_eq_true_eq, decide_eq_false_iff_not] at h2 h4
            rw [Bool.eq_iff_iff]
            simp only [keptB, h1, Bool.false_or, Bool.or_eq_true, Bool.and_eq_true, decide_eq_true_eq]
            omega
    rintro x w' ⟨hx, rfl⟩
    (repeat (first | refine GX.doneD ?_ | refine GX.done ?_ | refine GQ.goNormal ?_ | refine GC.seq ?_ | refine GC.skip ?_ | refine GC.block ?_ | refine GC.exit ?_ | refine GC.ret ?_ | refine GQ.goExit ?_ | refine GQ.goRet ?_ | refine GQ.inNormal ?_ | refine GQ.inExit ?_ | refine GQ.inExitNe rfl ?_ | refine GQ.inRet ?_ | refine GQ.loopExit ?_ | refine GQ.loopRet ?_ | refine GQ.cutExit ?_ | refine GQ.cutRet ?_))
    refine GC.cond rfl (fun hq => ?_) (fun hq => ?_)
    · have hq' : keptB s[k] = true := by rw [← hx]; exact hq
      (repeat (first | refine GX.doneD ?_ | refine GX.done ?_ | refine GQ.goNormal ?_ | refine GC.seq ?_ | refine GC.skip ?_ | refine GC.block ?_ | refine GC.exit ?_ | refine GC.ret ?_ | refine GQ.goExit ?_ | refine GQ.goRet ?_ | refine GQ.inNormal ?_ | refine GQ.inExit ?_ | refine GQ.inExitNe rfl ?_ | refine GQ.inRet ?_ | refine GQ.loopExit ?_ | refine GQ.loopRet ?_ | refine GQ.cutExit ?_ | refine GQ.cutRet ?_))
      refine GC.region (.pure 0 (.pure 1 (.eff 2 .done))) rfl ?_
      (repeat (refine GX.pure rfl ?_; refine GO.move rfl rfl rfl rfl ?_))
      (refine GX.eff rfl ?_; refine GO.callL rfl rfl rfl rfl rfl (writeByte_ret B b _ s[k] _ hB1 (by omega)) ?_)
      rintro v w2 ⟨hB2, hK2⟩
      refine ⟨fun _ h => by first | trivial | exact Mod.trans h (Ext.mod (by assumption)), ?_⟩
      (repeat (refine GX.pure rfl ?_; refine GO.move rfl rfl rfl rfl ?_))
      (repeat (first | refine GX.doneD ?_ | refine GX.done ?_ | refine GQ.goNormal ?_ | refine GC.seq ?_ | refine GC.skip ?_ | refine GC.block ?_ | refine GC.exit ?_ | refine GC.ret ?_ | refine GQ.goExit ?_ | refine GQ.goRet ?_ | refine GQ.inNormal ?_ | refine GQ.inExit ?_ | refine GQ.inExitNe rfl ?_ | refine GQ.inRet ?_ | refine GQ.loopExit ?_ | refine GQ.loopRet ?_ | refine GQ.cutExit ?_ | refine GQ.cutRet ?_))
      refine GC.region (.pure 0 (.pure 1 .done)) rfl ?_
      (repeat (refine GX.pure rfl ?_; first | refine GO.move rfl rfl rfl rfl ?_ | refine GO.add rfl rfl rfl rfl rfl (wrapIn (by dsimp only [InK]; omega)) ?_))
      (repeat (first | refine GX.doneD ?_ | refine GX.done ?_ | refine GQ.goNormal ?_ | refine GC.seq ?_ | refine GC.skip ?_ | refine GC.block ?_ | refine GC.exit ?_ | refine GC.ret ?_ | refine GQ.goExit ?_ | refine GQ.goRet ?_ | refine GQ.inNormal ?_ | refine GQ.inExit ?_ | refine GQ.inExitNe rfl ?_ | refine GQ.inRet ?_ | refine GQ.loopExit ?_ | refine GQ.loopRet ?_ | refine GQ.cutExit ?_ | refine GQ.cutRet ?_))
      exact GQ.again (k + 1) (sub_pick (l := [0, 1, 7, 8]) rfl) ⟨hlt, by rw [escF_take hlt, esc1, if_pos hq', ← List.append_assoc]; exact hB2, hK1.trans hK2⟩ (by omega)
    · have hq' : keptB s[k] = false := by rw [← hx]; exact hq
      (repeat (first | refine GX.doneD ?_ | refine GX.done ?_ | refine GQ.goNormal ?_ | refine GC.seq ?_ | refine GC.skip ?_ | refine GC.block ?_ | refine GC.exit ?_ | refine GC.ret ?_ | refine GQ.goExit ?_ | refine GQ.goRet ?_ | refine GQ.inNormal ?_ | refine GQ.inExit ?_ | refine GQ.inExitNe rfl ?_ | refine GQ.inRet ?_ | refine GQ.loopExit ?_ | refine GQ.loopRet ?_ | refine GQ.cutExit ?_ | refine GQ.cutRet ?_))
      refine GC.region (.pure 0 (.eff 1 .done)) rfl ?_
      (repeat (refine GX.pure rfl ?_; refine GO.move rfl rfl rfl rfl ?_))
      (refine GX.eff rfl ?_; refine GO.callL rfl rfl rfl rfl rfl (writeByte_ret B b _ 37 _ hB1 (by omega)) ?_)
      rintro v w2 ⟨hB2, hK2⟩
      refine ⟨fun _ h => by first | trivial | exact Mod.trans h (Ext.mod (by assumption)), ?_⟩
      (repeat (refine GX.pure rfl ?_; refine GO.move rfl rfl rfl rfl ?_))
      (repeat (first | refine GX.doneD ?_ | refine GX.done ?_ | refine GQ.goNormal ?_ | refine GC.seq ?_ | refine GC.skip ?_ | refine GC.block ?_ | refine GC.exit ?_ | refine GC.ret ?_ | refine GQ.goExit ?_ | refine GQ.goRet ?_ | refine GQ.inNormal ?_ | refine GQ.inExit ?_ | refine GQ.inExitNe rfl ?_ | refine GQ.inRet ?_ | refine GQ.loopExit ?_ | refine GQ.loopRet ?_ | refine GQ.cutExit ?_ | refine GQ.cutRet ?_))
      refine GC.region (.pure 0 (.pure 1 (.pure 2 (.pure 3 (.eff 4 .done))))) rfl ?_
      (repeat (refine GX.pure rfl ?_; refine GO.move rfl rfl rfl rfl ?_))
      refine GX.pure rfl (GO.quo rfl rfl rfl rfl rfl (by decide) (tdiv16 _ hb) ?_)
      (repeat (refine GX.pure rfl ?_; refine GO.move rfl rfl rfl rfl ?_))
      refine GX.pure rfl (GO.indexStr rfl rfl rfl rfl (by omega) (u := hexD (s[k].toNat / 16)) (hexAt (by omega) rfl) rfl ?_)
      (repeat (refine GX.pure rfl ?_; refine GO.move rfl rfl rfl rfl ?_))
      (refine GX.eff rfl ?_; refine GO.callL rfl rfl rfl rfl rfl (writeByte_ret B b _ (hexD (s[k].toNat / 16)) _ hB2 (by simp only [List.length_append, List.length_cons, List.length_nil] at hel ⊢; omega)) ?_)
      rintro v w3 ⟨hB3, hK3⟩
      refine ⟨fun _ h => by first | trivial | exact Mod.trans h (Ext.mod (by assumption)), ?_⟩
      (repeat (refine GX.pure rfl ?_; refine GO.move rfl rfl rfl rfl ?_))
      (repeat (first | refine GX.doneD ?_ | refine GX.done ?_ | refine GQ.goNormal ?_ | refine GC.seq ?_ | refine GC.skip ?_ | refine GC.block ?_ | refine GC.exit ?_ | refine GC.ret ?_ | refine GQ.goExit ?_ | refine GQ.goRet ?_ | refine GQ.inNormal ?_ | refine GQ.inExit ?_ | refine GQ.inExitNe rfl ?_ | refine GQ.inRet ?_ | refine GQ.loopExit ?_ | refine GQ.loopRet ?_ | refine GQ.cutExit ?_ | refine GQ.cutRet ?_))
      refine GC.region (.pure 0 (.pure 1 (.pure 2 (.pure 3 (.eff 4 .done))))) rfl ?_
      (repeat (refine GX.pure rfl ?_; refine GO.move rfl rfl rfl rfl ?_))
      refine GX.pure rfl (GO.rem rfl rfl rfl rfl rfl (by decide) (tmod16 _) ?_)
      (repeat (refine GX.pure rfl ?_; refine GO.move rfl rfl rfl rfl ?_))
      refine GX.pure rfl (GO.indexStr rfl rfl rfl rfl (by omega) (u := hexD (s[k].toNat % 16)) (hexAt (by omega) rfl) rfl ?_)
      (repeat (refine GX.pure rfl ?_; refine GO.move rfl rfl rfl rfl ?_))
      (refine GX.eff rfl ?_; refine GO.callL rfl rfl rfl rfl rfl (writeByte_ret B b _ (hexD (s[k].toNat % 16)) _ hB3 (by simp only [List.length_append, List.length_cons, List.length_nil] at hel ⊢; omega)) ?_)
      rintro v w4 ⟨hB4, hK4⟩
      refine ⟨fun _ h => by first | trivial | exact Mod.trans h (Ext.mod (by assumption)), ?_⟩
      (repeat (refine GX.pure rfl ?_; refine GO.move rfl rfl rfl rfl ?_))
      (repeat (first | refine GX.doneD ?_ | refine GX.done ?_ | refine GQ.goNormal ?_ | refine GC.seq ?_ | refine GC.skip ?_ | refine GC.block ?_ | refine GC.exit ?_ | refine GC.ret ?_ | refine GQ.goExit ?_ | refine GQ.goRet ?_ | refine GQ.inNormal ?_ | refine GQ.inExit ?_ | refine GQ.inExitNe rfl ?_ | refine GQ.inRet ?_ | refine GQ.loopExit ?_ | refine GQ.loopRet ?_ | refine GQ.cutExit ?_ | refine GQ.cutRet ?_))
      refine GC.region (.pure 0 (.pure 1 .done)) rfl ?_
      (repeat (refine GX.pure rfl ?_; first | refine GO.move rfl rfl rfl rfl ?_ | refine GO.add rfl rfl rfl rfl rfl (wrapIn (by dsimp only [InK]; omega)) ?_))
      (repeat (first | refine GX.doneD ?_ | refine GX.done ?_ | refine GQ.goNormal ?_ | refine GC.seq ?_ | refine GC.skip ?_ | refine GC.block ?_ | refine GC.exit ?_ | refine GC.ret ?_ | refine GQ.goExit ?_ | refine GQ.goRet ?_ | refine GQ.inNormal ?_ | refine GQ.inExit ?_ | refine GQ.inExitNe rfl ?_ | refine GQ.inRet ?_ | refine GQ.loopExit ?_ | refine GQ.loopRet ?_ | refine GQ.cutExit ?_ | refine GQ.cutRet ?_))
      exact GQ.again (k + 1) (sub_pick (l := [0, 1, 7, 8]) rfl) ⟨hlt, by rw [escF_take hlt, esc1, if_neg (by simp [hq'])]; simpa only [List.append_assoc, List.cons_append, List.nil_append] using hB4, ((hK1.trans hK2).trans hK3).trans hK4⟩ (by omega)
  have hge : k = s.length := by have := of_decide_eq_false hc; omega
  subst hge
  rw [List.take_length] at hB1
  (repeat (first | refine GX.doneD ?_ | refine GX.done ?_ | refine GQ.goNormal ?_ | refine GC.seq ?_ | refine GC.skip ?_ | refine GC.block ?_ | refine GC.exit ?_ | refine GC.ret ?_ | refine GQ.goExit ?_ | refine GQ.goRet ?_ | refine GQ.inNormal ?_ | refine GQ.inExit ?_ | refine GQ.inExitNe rfl ?_ | refine GQ.inRet ?_ | refine GQ.loopExit ?_ | refine GQ.loopRet ?_ | refine GQ.cutExit ?_ | refine GQ.cutRet ?_))
  refine GQ.ret0 (by first | exact .inl rfl | exact .inr rfl) rfl ?_
  exact ⟨hB1, hK1⟩
end Go.Proofs.YtfoabgljfikklaaGreatDoor.V.Ky
namespace Go.Proofs.YtfoabgljfikklaaGreatDoor.V.Ky
open Go.RowKit Go.Shelf
attribute [local irreducible] GX GO
attribute [local go_sem] Oper.semAt_some
def numV : Value → Int
  | .int _ x => x
  | _ => 0
def upto {α : Type} (f : Nat → α) (k : Nat) : List α := (List.range k).map f
theorem upto_succ {α : Type} (f : Nat → α) (k : Nat) : upto f (k + 1) = upto f k ++ [f k] := by simp [upto, List.range_succ]
theorem upto_length {α : Type} (f : Nat → α) (k : Nat) : (upto f k).length = k := by simp [upto]
theorem upto_all (zs : List Bs) : upto (fun j => zs[j]?.getD []) zs.length = zs := by
  apply List.ext_getElem
  · simp [upto]
  · intro i h1 h2
    simp [upto, h2]
theorem upto_take (zs : List Bs) {k : Nat} (hk : k ≤ zs.length) : upto (fun j => zs[j]?.getD []) k = zs.take k := by
  apply List.ext_getElem
  · simp [upto, hk]
  · intro i h1 h2
    have : i < zs.length := by simp [upto] at h1; omega
    simp [upto, this]
set_option maxRecDepth 100000 in
set_option maxHeartbeats 2000000 in
theorem values1_in (F : Fence) (n : Nat) (h7 : F.fn 61) (hro : F.round = none) (hn : 1 ≤ n) (l Bs' n₀ b off len cap : Nat) (zs : List Bs) (hreach : len * 16 ≤ 140737488351232) (hb : b < n₀) (J Jx : List Bs → World → Prop)
    (hY : ∀ pre x W, J pre W → pre.length < len → YieldAt F (n - 1) Tryz.prog l #[str x] W fun e W' =>
      (e = .returned (.bool true) ∧ J (pre ++ [x]) W' ∧ Below n₀ W W') ∨ (e = .returned (.bool false) ∧ Jx (pre ++ [x]) W'))
    (W : World) (hBs : W.cell? ⟨Bs', 0, none⟩ = some (.slice (some ⟨b, off, none⟩) len cap)) (hc : ∀ j, j < len → W.cell? ⟨b, off + j, none⟩ = some (str (zs[j]?.getD []))) (h0 : J [] W) :
    CallsIn F n Tryz.prog 61 #[.func (.yield l) #[] #[], .pointer (some ⟨Bs', 0, none⟩)] W fun e W' => (∃ v, e = .returned v) ∧
      ((∃ ys, ys = upto (fun j => zs[j]?.getD []) len ∧ J ys W') ∨ (∃ pre, (∃ k, k ≤ len ∧ pre = upto (fun j => zs[j]?.getD []) k) ∧ Jx pre W')) := by
  refine callsIn_of_wp Tryz.func61 rfl h7 ?_ hro
  simp only [Tryz.ntmps61, List.size_toArray, List.length_cons, List.length_nil, Nat.reduceAdd, Nat.reduceSub, Array.replicate_succ, Array.replicate_zero, List.push_toArray, List.append_toArray, List.nil_append, List.cons_append]
  gi_wp2
  gi_loopw [7] (fun i wr => ∃ k : Nat, k ≤ len ∧ i = .int .i64 k ∧ J (upto (fun j => zs[j]?.getD []) k) wr ∧ Below n₀ W wr)
    (fun i _ => len - (numV i).toNat)
  case atStart => exact ⟨0, Nat.zero_le _, rfl, h0, Below.refl _ _⟩
  case round =>
    obtain ⟨k, hk, rfl, hJs, hnx⟩ := hrel
    have hcx : k < len → wr.cell? ⟨b, off + k, none⟩ = some (str (zs[k]?.getD [])) := fun h => (hnx.cell (p := ⟨b, off + k, none⟩) hb).trans (hc k h)
    by_cases hlt : k < len
    · obtain ⟨fn, tmps, assign, body, hy, hR⟩ := hY _ (zs[k]?.getD []) wr hJs (by rw [upto_length]; exact hlt)
      have hcx' := hcx hlt
      gi_wp2
      refine hR.mono ?_
      rintro e W3 (⟨rfl, hJ3, hk3⟩ | ⟨rfl, hJx3⟩)
      · gi_wp2
        go_roundw
        case rel => exact ⟨k + 1, by omega, by simp, by rw [upto_succ]; exact hJ3, hnx.trans hk3⟩
        case measure => simp [numV]; omega
      · gi_wp2
        refine bodyPost_ret (results_none rfl _ _ _) rfl ?_
        exact ⟨⟨_, rfl⟩, .inr ⟨_, ⟨k + 1, by omega, (upto_succ _ _).symm⟩, hJx3⟩⟩
    · obtain rfl : k = len := by omega
      gi_wp2
      go_end0
      exact ⟨⟨_, rfl⟩, .inl ⟨_, rfl, hJs⟩⟩
set_option maxRecDepth 100000 in
set_option maxHeartbeats 1000000 in
theorem values1_nil_in (F : Fence) (n : Nat) (h7 : F.fn 61) (hro : F.round = none) (l Bs' cap : Nat) (a : Option Addr) (J : List Bs → World → Prop) (W : World) (hBs : W.cell? ⟨Bs', 0, none⟩ = some (.slice a 0 cap)) (h0 : J [] W) :
    CallsIn F n Tryz.prog 61 #[.func (.yield l) #[] #[], .pointer (some ⟨Bs', 0, none⟩)] W fun e W' => (∃ v, e = .returned v) ∧ J [] W' := by
  refine callsIn_of_wp Tryz.func61 rfl h7 ?_ hro
  simp only [Tryz.ntmps61, List.size_toArray, List.length_cons, List.length_nil, Nat.reduceAdd, Nat.reduceSub, Array.replicate_succ, Array.replicate_zero, List.push_toArray, List.append_toArray, List.nil_append, List.cons_append]
  gi_wp2
  gi_loopw [7] (fun i wr => i = .int .i64 0 ∧ J [] wr) (fun _ _ => 0)
  case atStart => exact ⟨rfl, h0⟩
  case round =>
    obtain ⟨rfl, hJs⟩ := hrel
    gi_wp2
    go_end0
    exact ⟨⟨_, rfl⟩, hJs⟩
def StrIn (n₀ : Nat) (W : World) (a : Option Addr) (zs : List Bs) : Prop :=
  zs = [] ∨ ∃ b off, a = some ⟨b, off, none⟩ ∧ b < n₀ ∧ ∀ j, j < zs.length → W.cell? ⟨b, off + j, none⟩ = some (str (zs[j]?.getD []))
theorem StrIn.below {n₀ : Nat} {A B : World} (h : Below n₀ A B) {a : Option Addr} {zs : List Bs} : StrIn n₀ A a zs → StrIn n₀ B a zs
  | .inl e => .inl e
  | .inr ⟨b, off, e, hb, hc⟩ => .inr ⟨b, off, e, hb, fun j hj => (h.cell (p := ⟨b, off + j, none⟩) hb).trans (hc j hj)⟩
theorem values_stops (F : Fence) (n : Nat) (h7 : F.fn 61) (hro : F.round = none) (hn : 1 ≤ n) (Bs' n₀ cap : Nat) (a : Option Addr) (zs : List Bs) (hreach : zs.length * 16 ≤ 140737488351232) (w : World) (hBs : Bs' < w.heap.size) (hn₀ : n₀ ≤ w.heap.size)
    (hc : w.cell? ⟨Bs', 0, none⟩ = some (.slice a zs.length cap)) (hI : StrIn n₀ w a zs) :
    SeqStopsK F n Tryz.prog 61 #[.pointer (some ⟨Bs', 0, none⟩)] (fun x : Bs => #[str x]) (Below n₀) (fun ys => ys = zs) (fun pre => pre <+: zs) zs.length w := fun l J Jx W hW _ _ hY h0 => by
  have hc' := (hW.cell (p := ⟨Bs', 0, none⟩) hBs).trans hc
  rcases hI.below (hW.mono hn₀) with rfl | ⟨b, off, rfl, hb, hcs⟩
  · exact (values1_nil_in F n h7 hro l Bs' cap a J W hc' h0).mono fun e W' ⟨he, hj⟩ => ⟨he, .inl ⟨_, rfl, hj⟩⟩
  · refine (values1_in F n h7 hro hn l Bs' n₀ b off zs.length cap zs hreach hb J Jx hY W hc' hcs h0).mono ?_
    rintro e W' ⟨he, ⟨ys, rfl, hj⟩ | ⟨pre, ⟨k, hk, rfl⟩, hj⟩⟩
    · exact ⟨he, .inl ⟨_, upto_all zs, hj⟩⟩
    · exact ⟨he, .inr ⟨_, by rw [upto_take zs hk]; exact List.take_prefix _ _, hj⟩⟩
end Go.Proofs.YtfoabgljfikklaaGreatDoor.V.Ky
namespace Go.Proofs.YtfoabgljfikklaaGreatDoor.V
open Go.Shelf
theorem zero_atx {P : Program} {t : TypeId} {z : Value} (h : (P.info? t).bind (·.zero) = some z) (w : World) : (zeroValue t).run P w = .ok z w := by
  cases hi : P.info? t with
  | none => rw [hi] at h; cases h
  | some i =>
    rw [hi] at h
    have hz : i.zero = some z := h
    simp [zeroValue, typeInfo, hi, hz]
def sortRenx : Ren := ⟨fun | 6 => 60 | 8 => 93 | 9 => 92 | 19 => 159 | 20 => 160 | 21 => 150 | 22 => 151 | 23 => 152 | 24 => 153 | 25 => 154 | 26 => 155 | 27 => 156 | 28 => 157 | 29 => 158 | 31 => 237 | 32 => 238 | 36 => 236 | 37 => 239 | 38 => 240 | 39 => 203 | 41 => 315 | _ => 0, fun | 0 => 0 | 3 => 3 | 4 => 4 | 5 => 5 | 9 => 9 | 26 => 22 | 27 => 22 | 29 => 9 | 32 => 162 | 35 => 254 | 36 => 255 | 41 => 259 | 44 => 262 | 46 => 30 | 53 => 358 | 57 => 361 | 63 => 415 | 64 => 288 | _ => 0, fun _ => 0⟩
theorem sortRenx_f6 : Bears Tryz.prog 60 (SlBodyM.n6 sortRenx) := ⟨"slices.Sort[[]string,string]", by decide, by kernel_rfl⟩
theorem sortRenx_f8 : (Tryz.prog).funcs[93]? = some (SlBodyM.n8 sortRenx) := by kernel_rfl
theorem sortRenx_f9 : Bears Tryz.prog 92 (SlBodyM.n9 sortRenx) := ⟨"slices.pdqsortOrdered[string]", by decide, by kernel_rfl⟩
theorem sortRenx_f19 : (Tryz.prog).funcs[159]? = some (SlBodyM.n19 sortRenx) := by kernel_rfl
theorem sortRenx_f20 : (Tryz.prog).funcs[160]? = some (SlBodyM.n20 sortRenx) := by kernel_rfl
theorem sortRenx_f21 : Bears Tryz.prog 150 (SlBodyM.n21 sortRenx) := ⟨"slices.insertionSortOrdered[string]", by decide, by kernel_rfl⟩
theorem sortRenx_f22 : Bears Tryz.prog 151 (SlBodyM.n22 sortRenx) := ⟨"slices.heapSortOrdered[string]", by decide, by kernel_rfl⟩
theorem sortRenx_f23 : Bears Tryz.prog 152 (SlBodyM.n23 sortRenx) := ⟨"slices.breakPatternsOrdered[string]", by decide, by kernel_rfl⟩
theorem sortRenx_f24 : Bears Tryz.prog 153 (SlBodyM.n24 sortRenx) := ⟨"slices.choosePivotOrdered[string]", by decide, by kernel_rfl⟩
theorem sortRenx_f25 : Bears Tryz.prog 154 (SlBodyM.n25 sortRenx) := ⟨"slices.reverseRangeOrdered[string]", by decide, by kernel_rfl⟩
theorem sortRenx_f26 : Bears Tryz.prog 155 (SlBodyM.n26 sortRenx) := ⟨"slices.partialInsertionSortOrdered[string]", by decide, by kernel_rfl⟩
theorem sortRenx_f27 : Bears Tryz.prog 156 (SlBodyM.n27 sortRenx) := ⟨"cmp.Less[string]", by decide, by kernel_rfl⟩
theorem sortRenx_f28 : Bears Tryz.prog 157 (SlBodyM.n28 sortRenx) := ⟨"slices.partitionEqualOrdered[string]", by decide, by kernel_rfl⟩
theorem sortRenx_f29 : Bears Tryz.prog 158 (SlBodyM.n29 sortRenx) := ⟨"slices.partitionOrdered[string]", by decide, by kernel_rfl⟩
theorem sortRenx_f31 : (Tryz.prog).funcs[237]? = some (SlBodyM.n31 sortRenx) := by kernel_rfl
theorem sortRenx_f32 : (Tryz.prog).funcs[238]? = some (SlBodyM.n32 sortRenx) := by kernel_rfl
theorem sortRenx_f36 : Bears Tryz.prog 236 (SlBodyM.n36 sortRenx) := ⟨"slices.siftDownOrdered[string]", by decide, by kernel_rfl⟩
theorem sortRenx_f37 : Bears Tryz.prog 239 (SlBodyM.n37 sortRenx) := ⟨"slices.medianAdjacentOrdered[string]", by decide, by kernel_rfl⟩
theorem sortRenx_f38 : Bears Tryz.prog 240 (SlBodyM.n38 sortRenx) := ⟨"slices.medianOrdered[string]", by decide, by kernel_rfl⟩
theorem sortRenx_f39 : Bears Tryz.prog 203 (SlBodyM.n39 sortRenx) := ⟨"cmp.isNaN[string]", by decide, by kernel_rfl⟩
theorem sortRenx_f41 : Bears Tryz.prog 315 (SlBodyM.n41 sortRenx) := ⟨"slices.order2Ordered[string]", by decide, by kernel_rfl⟩
theorem lay_xa0 : tyB Tryz.prog 0 = some (false, 1) := by kernel_rfl
theorem lay_xv0 : ((Tryz.prog).info? 0).bind (·.zero) = some ((Value.tuple #[])) := by kernel_rfl
theorem lay_xa1 : tyB Tryz.prog 3 = some (false, 1) := by kernel_rfl
theorem lay_xv1 : ((Tryz.prog).info? 3).bind (·.zero) = some ((Value.int IntKind.i64 0)) := by kernel_rfl
theorem lay_xa2 : tyB Tryz.prog 4 = some (false, 1) := by kernel_rfl
theorem lay_xv2 : ((Tryz.prog).info? 4).bind (·.zero) = some ((Value.bool false)) := by kernel_rfl
theorem lay_xa3 : tyB Tryz.prog 5 = some (false, 1) := by kernel_rfl
theorem lay_xv3 : ((Tryz.prog).info? 5).bind (·.zero) = some ((Value.int IntKind.u8 0)) := by kernel_rfl
theorem lay_xa4 : tyB Tryz.prog 9 = some (false, 1) := by kernel_rfl
theorem lay_xv4 : ((Tryz.prog).info? 9).bind (·.zero) = some ((Value.string { data := #[] })) := by kernel_rfl
theorem lay_xa5 : tyB Tryz.prog 22 = some (false, 1) := by kernel_rfl
theorem lay_xv5 : ((Tryz.prog).info? 22).bind (·.zero) = some ((Value.slice none 0 0)) := by kernel_rfl
theorem lay_xa6 : tyB Tryz.prog 162 = some (false, 1) := by kernel_rfl
theorem lay_xv6 : ((Tryz.prog).info? 162).bind (·.zero) = some ((Value.int IntKind.u64 0)) := by kernel_rfl
theorem lay_xa7 : tyB Tryz.prog 254 = some (false, 1) := by kernel_rfl
theorem lay_xv7 : ((Tryz.prog).info? 254).bind (·.zero) = some ((Value.int IntKind.i64 0)) := by kernel_rfl
theorem lay_xa8 : tyB Tryz.prog 255 = some (false, 1) := by kernel_rfl
theorem lay_xv8 : ((Tryz.prog).info? 255).bind (·.zero) = some ((Value.tuple #[Value.int IntKind.i64 0, Value.int IntKind.i64 0])) := by kernel_rfl
theorem lay_xa9 : tyB Tryz.prog 259 = some (false, 1) := by kernel_rfl
theorem lay_xv9 : ((Tryz.prog).info? 259).bind (·.zero) = some ((Value.tuple #[Value.int IntKind.i64 0, Value.bool false])) := by kernel_rfl
theorem lay_xa10 : tyB Tryz.prog 262 = some (false, 1) := by kernel_rfl
theorem lay_xv10 : ((Tryz.prog).info? 262).bind (·.zero) = some ((Value.int IntKind.u32 0)) := by kernel_rfl
theorem lay_xa11 : tyB Tryz.prog 30 = some (false, 1) := by kernel_rfl
theorem lay_xv11 : ((Tryz.prog).info? 30).bind (·.zero) = some ((Value.int IntKind.u64 0)) := by kernel_rfl
theorem lay_xa12 : tyB Tryz.prog 358 = some (false, 1) := by kernel_rfl
theorem lay_xv12 : ((Tryz.prog).info? 358).bind (·.zero) = some ((Value.int IntKind.u64 0)) := by kernel_rfl
theorem lay_xa13 : tyB Tryz.prog 361 = some (false, 1) := by kernel_rfl
theorem lay_xv13 : ((Tryz.prog).info? 361).bind (·.zero) = some ((Value.pointer none)) := by kernel_rfl
theorem lay_xa14 : tyB Tryz.prog 415 = some (false, 1) := by kernel_rfl
theorem lay_xv14 : ((Tryz.prog).info? 415).bind (·.zero) = some ((Value.pointer none)) := by kernel_rfl
theorem lay_xa15 : tyB Tryz.prog 288 = some (false, 1) := by kernel_rfl
theorem lay_xv15 : ((Tryz.prog).info? 288).bind (·.zero) = some ((Value.tuple #[Value.int IntKind.i64 0, Value.int IntKind.i64 0])) := by kernel_rfl
theorem sortRenx_lays : SlLaysM.n6 Tryz.prog sortRenx := { mixed := by kernel_rfl, f6 := sortRenx_f6, f8 := sortRenx_f8, f9 := sortRenx_f9, f19 := sortRenx_f19, f20 := sortRenx_f20, f21 := sortRenx_f21, f22 := sortRenx_f22, f23 := sortRenx_f23, f24 := sortRenx_f24, f25 := sortRenx_f25, f26 := sortRenx_f26, f27 := sortRenx_f27, f28 := sortRenx_f28, f29 := sortRenx_f29, f31 := sortRenx_f31, f32 := sortRenx_f32, f36 := sortRenx_f36, f37 := sortRenx_f37, f38 := sortRenx_f38, f39 := sortRenx_f39, f41 := sortRenx_f41, t0 := by kernel_rfl, a0 := fun w => (TyF.mk lay_xa0).isAgg w, z0 := fun w => (TyF.mk lay_xa0).sizeOf w, v0 := zero_atx lay_xv0, t3 := by kernel_rfl, a3 := fun w => (TyF.mk lay_xa1).isAgg w, z3 := fun w => (TyF.mk lay_xa1).sizeOf w, v3 := zero_atx lay_xv1, t4 := by kernel_rfl, a4 := fun w => (TyF.mk lay_xa2).isAgg w, z4 := fun w => (TyF.mk lay_xa2).sizeOf w, v4 := zero_atx lay_xv2, t5 := by kernel_rfl, a5 := fun w => (TyF.mk lay_xa3).isAgg w, z5 := fun w => (TyF.mk lay_xa3).sizeOf w, v5 := zero_atx lay_xv3, t9 := by kernel_rfl, a9 := fun w => (TyF.mk lay_xa4).isAgg w, z9 := fun w => (TyF.mk lay_xa4).sizeOf w, v9 := zero_atx lay_xv4, t26 := by kernel_rfl, a26 := fun w => (TyF.mk lay_xa5).isAgg w, z26 := fun w => (TyF.mk lay_xa5).sizeOf w, v26 := zero_atx lay_xv5, t27 := by kernel_rfl, a27 := fun w => (TyF.mk lay_xa5).isAgg w, z27 := fun w => (TyF.mk lay_xa5).sizeOf w, v27 := zero_atx lay_xv5, t29 := by kernel_rfl, a29 := fun w => (TyF.mk lay_xa4).isAgg w, z29 := fun w => (TyF.mk lay_xa4).sizeOf w, v29 := zero_atx lay_xv4, t32 := by kernel_rfl, a32 := fun w => (TyF.mk lay_xa6).isAgg w, z32 := fun w => (TyF.mk lay_xa6).sizeOf w, v32 := zero_atx lay_xv6, t35 := by kernel_rfl, a35 := fun w => (TyF.mk lay_xa7).isAgg w, z35 := fun w => (TyF.mk lay_xa7).sizeOf w, v35 := zero_atx lay_xv7, t36 := by kernel_rfl, a36 := fun w => (TyF.mk lay_xa8).isAgg w, z36 := fun w => (TyF.mk lay_xa8).sizeOf w, v36 := zero_atx lay_xv8, t41 := by kernel_rfl, a41 := fun w => (TyF.mk lay_xa9).isAgg w, z41 := fun w => (TyF.mk lay_xa9).sizeOf w, v41 := zero_atx lay_xv9, t44 := by kernel_rfl, a44 := fun w => (TyF.mk lay_xa10).isAgg w, z44 := fun w => (TyF.mk lay_xa10).sizeOf w, v44 := zero_atx lay_xv10, t46 := by kernel_rfl, a46 := fun w => (TyF.mk lay_xa11).isAgg w, z46 := fun w => (TyF.mk lay_xa11).sizeOf w, v46 := zero_atx lay_xv11, t53 := by kernel_rfl, a53 := fun w => (TyF.mk lay_xa12).isAgg w, z53 := fun w => (TyF.mk lay_xa12).sizeOf w, v53 := zero_atx lay_xv12, t57 := by kernel_rfl, a57 := fun w => (TyF.mk lay_xa13).isAgg w, z57 := fun w => (TyF.mk lay_xa13).sizeOf w, v57 := zero_atx lay_xv13, t63 := by kernel_rfl, a63 := fun w => (TyF.mk lay_xa14).isAgg w, z63 := fun w => (TyF.mk lay_xa14).sizeOf w, v63 := zero_atx lay_xv14, t64 := by kernel_rfl, a64 := fun w => (TyF.mk lay_xa15).isAgg w, z64 := fun w => (TyF.mk lay_xa15).sizeOf w, v64 := zero_atx lay_xv15 }
end Go.Proofs.YtfoabgljfikklaaGreatDoor.V
