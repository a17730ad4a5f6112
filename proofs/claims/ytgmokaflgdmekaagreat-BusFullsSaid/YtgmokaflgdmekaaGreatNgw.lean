/-
  What the law on full hubs computes. No condition.
-/
import Derived.Test.YtgmokaflgdmekaaGreatNhg
import Derived.Test.YtgmokaflgdmekaaGreatKh
import Derived.Test.YtgmokaflgdmekaaGreatNgr
namespace Go.Proofs.YtgmokaflgdmekaaGreat.busFulls
open Go.Proofs.YtgmokaflgdmekaaGreat.V
attribute [local irreducible] GX GO

theorem tag_rel [Sig] {r : Rho} : Rel r tagA (.agg (purV (1, [116])).toArray) := by
  unfold tagA
  exact rel_agg (RelL.cons (by unfold Rel; rfl) (RelL.cons (by unfold Rel; exact ⟨rfl, by decide⟩) (RelL.nil _)))
/-- A call, as it was reckoned. -/
theorem evR_ret [Sig] (hb : RunBase Tryz.prog (plansIn plTbl)) {lo f : Nat} {args : List AV} {s s' : ST} {v : AV} (h : evText Tryz.prog (plansIn plTbl) noE 20000 f args s = some (v, s')) {r : Rho} {w : World} {Args : List Value} (hA : RelL r args Args) (hs : Sat lo r s.H w) :
    Ret Tryz.prog f Args.toArray w fun U w' => ∃ r', r.le r' ∧ Rel r' v U ∧ Sat lo r' s'.H w' ∧ Mod (fun k => lo ≤ k) w w' :=
  hb.call noE_ok 20000 f args s v s' h r w Args hA hs

/-- So many messages. -/
def full (k : Nat) : List Pur := List.replicate (min k 10000) (1, [116])
theorem pub_full (i : Nat) : pubF (full i) (1, [116]) = (full (i + 1), if i < 10000 then i + 1 else 0, if i < 10000 then 0 else 7) := by
  have hok : okP 1 ([116] : List UInt8).length = true := by decide
  have hl : (full i).length = min i 10000 := by simp [full]
  by_cases h : i < 10000
  · have h1 : (full i).length < 10000 := by omega
    have h2 : min i 10000 = i := by omega
    have h3 : min (i + 1) 10000 = i + 1 := by omega
    simp only [pubF, hok, h1, if_true, h]
    refine Prod.ext ?_ (Prod.ext ?_ rfl)
    · simp only [full, h2, h3]
      rw [List.replicate_succ']
    · simp [full, h2]
  · have h1 : ¬ (full i).length < 10000 := by omega
    have h2 : min i 10000 = 10000 := by omega
    have h3 : min (i + 1) 10000 = 10000 := by omega
    have h4 : full (i + 1) = full i := by simp only [full, h2, h3]
    rw [h4]
    simp only [pubF, hok, h1, if_true, if_false, h]

set_option maxHeartbeats 4000000 in
theorem fulls_ret (many ahead : Int) (w : World) :
    Ret Tryz.prog 3 [.int .i64 many, .int .i64 ahead].toArray w fun v w' => v = .bool true ∧ Ext w w' := by
  letI : Sig := sigOf (plansIn plTbl) [] (by simp) w
  have hb : RunBase Tryz.prog (plansIn plTbl) := base_ok _ _ _
  
  refine Ret.enter Tryz.func3 rfl Tryz.ntmps3 rfl ?_
  (repeat (first | refine GX.doneD ?_ | refine GX.done ?_ | refine GQ.goNormal ?_ | refine GC.seq ?_ | refine GC.skip ?_ | refine GC.block ?_ | refine GC.exit ?_ | refine GC.ret ?_ | refine GQ.goExit ?_ | refine GQ.goRet ?_ | refine GQ.inNormal ?_ | refine GQ.inExit ?_ | refine GQ.inExitNe rfl ?_ | refine GQ.inRet ?_ | refine GQ.loopExit ?_ | refine GQ.loopRet ?_ | refine GQ.cutExit ?_ | refine GQ.cutRet ?_))
  refine GC.region (.pure 0 .done) rfl ?_
  (repeat (refine GX.pure rfl ?_; refine GO.assign rfl rfl rfl rfl ?_))
  (repeat (first | refine GX.doneD ?_ | refine GX.done ?_ | refine GQ.goNormal ?_ | refine GC.seq ?_ | refine GC.skip ?_ | refine GC.block ?_ | refine GC.exit ?_ | refine GC.ret ?_ | refine GQ.goExit ?_ | refine GQ.goRet ?_ | refine GQ.inNormal ?_ | refine GQ.inExit ?_ | refine GQ.inExitNe rfl ?_ | refine GQ.inRet ?_ | refine GQ.loopExit ?_ | refine GQ.loopRet ?_ | refine GQ.cutExit ?_ | refine GQ.cutRet ?_))
  refine GC.cut (X := Unit) (fun _ => [(0, .int .i64 many), (1, .int .i64 ahead), (4, .bool false), (25, .bool (decide (many < 9998 ∨ 10002 < many ∨ ahead < 998 ∨ 1003 < ahead)))]) (fun _ w' => w = w') ?_ ?_
  · refine GC.region (.pure 0 (.pure 1 (.pure 2 (.pure 3 (.pure 4 (.pure 5 (.pure 6 (.pure 7 (.pure 8 (.pure 9 (.pure 10 (.pure 11 (.pure 12 (.pure 13 .done)))))))))))))) rfl ?_
    (repeat (refine GX.pure rfl ?_; first | refine GO.move rfl rfl rfl rfl ?_ | refine GO.lss rfl rfl rfl rfl rfl ?_ | refine GO.gtr rfl rfl rfl rfl rfl ?_ | refine GO.pickT rfl rfl rfl rfl rfl ?_ | refine GO.pickF rfl rfl rfl rfl rfl ?_ | refine GO.skip (.inl rfl) rfl rfl ?_))
    refine GX.case 14 rfl (fun g0 => ?_) (fun g0 => ?_)
    · have g0' : many < 9998 := of_decide_eq_true g0
      (repeat (first | (refine GX.pure rfl ?_; first | refine GO.move rfl rfl rfl rfl ?_ | refine GO.lss rfl rfl rfl rfl rfl ?_ | refine GO.gtr rfl rfl rfl rfl rfl ?_ | refine GO.pickT rfl rfl rfl rfl rfl ?_ | refine GO.pickF rfl rfl rfl rfl rfl ?_ | refine GO.skip (.inl rfl) rfl rfl ?_) | (refine GX.eff rfl ?_; refine GO.skip (.inr rfl) rfl rfl ?_) | (refine GX.read rfl ?_; refine GO.skipRead (by assumption) rfl rfl ?_)))
      (repeat (first | refine GX.doneD ?_ | refine GX.done ?_ | refine GQ.goNormal ?_ | refine GC.seq ?_ | refine GC.skip ?_ | refine GC.block ?_ | refine GC.exit ?_ | refine GC.ret ?_ | refine GQ.goExit ?_ | refine GQ.goRet ?_ | refine GQ.inNormal ?_ | refine GQ.inExit ?_ | refine GQ.inExitNe rfl ?_ | refine GQ.inRet ?_ | refine GQ.loopExit ?_ | refine GQ.loopRet ?_ | refine GQ.cutExit ?_ | refine GQ.cutRet ?_))
      refine GQ.cutNormal () ?_ rfl
      rw [show decide (many < 9998 ∨ 10002 < many ∨ ahead < 998 ∨ 1003 < ahead) = true from decide_eq_true (Or.inl g0')]
      exact sub_pick (l := [0, 1, 4, 25]) rfl
    have g0' : ¬ many < 9998 := of_decide_eq_false g0
    (repeat (refine GX.pure rfl ?_; first | refine GO.move rfl rfl rfl rfl ?_ | refine GO.lss rfl rfl rfl rfl rfl ?_ | refine GO.gtr rfl rfl rfl rfl rfl ?_ | refine GO.pickT rfl rfl rfl rfl rfl ?_ | refine GO.pickF rfl rfl rfl rfl rfl ?_ | refine GO.skip (.inl rfl) rfl rfl ?_))
    refine GX.case 18 rfl (fun g1 => ?_) (fun g1 => ?_)
    · have g1' : 10002 < many := of_decide_eq_true g1
      (repeat (first | (refine GX.pure rfl ?_; first | refine GO.move rfl rfl rfl rfl ?_ | refine GO.lss rfl rfl rfl rfl rfl ?_ | refine GO.gtr rfl rfl rfl rfl rfl ?_ | refine GO.pickT rfl rfl rfl rfl rfl ?_ | refine GO.pickF rfl rfl rfl rfl rfl ?_ | refine GO.skip (.inl rfl) rfl rfl ?_) | (refine GX.eff rfl ?_; refine GO.skip (.inr rfl) rfl rfl ?_) | (refine GX.read rfl ?_; refine GO.skipRead (by assumption) rfl rfl ?_)))
      (repeat (first | refine GX.doneD ?_ | refine GX.done ?_ | refine GQ.goNormal ?_ | refine GC.seq ?_ | refine GC.skip ?_ | refine GC.block ?_ | refine GC.exit ?_ | refine GC.ret ?_ | refine GQ.goExit ?_ | refine GQ.goRet ?_ | refine GQ.inNormal ?_ | refine GQ.inExit ?_ | refine GQ.inExitNe rfl ?_ | refine GQ.inRet ?_ | refine GQ.loopExit ?_ | refine GQ.loopRet ?_ | refine GQ.cutExit ?_ | refine GQ.cutRet ?_))
      refine GQ.cutNormal () ?_ rfl
      rw [show decide (many < 9998 ∨ 10002 < many ∨ ahead < 998 ∨ 1003 < ahead) = true from decide_eq_true (Or.inr (Or.inl g1'))]
      exact sub_pick (l := [0, 1, 4, 25]) rfl
    have g1' : ¬ 10002 < many := of_decide_eq_false g1
    (repeat (refine GX.pure rfl ?_; first | refine GO.move rfl rfl rfl rfl ?_ | refine GO.lss rfl rfl rfl rfl rfl ?_ | refine GO.gtr rfl rfl rfl rfl rfl ?_ | refine GO.pickT rfl rfl rfl rfl rfl ?_ | refine GO.pickF rfl rfl rfl rfl rfl ?_ | refine GO.skip (.inl rfl) rfl rfl ?_))
    refine GX.case 22 rfl (fun g2 => ?_) (fun g2 => ?_)
    · have g2' : ahead < 998 := of_decide_eq_true g2
      (repeat (first | (refine GX.pure rfl ?_; first | refine GO.move rfl rfl rfl rfl ?_ | refine GO.lss rfl rfl rfl rfl rfl ?_ | refine GO.gtr rfl rfl rfl rfl rfl ?_ | refine GO.pickT rfl rfl rfl rfl rfl ?_ | refine GO.pickF rfl rfl rfl rfl rfl ?_ | refine GO.skip (.inl rfl) rfl rfl ?_) | (refine GX.eff rfl ?_; refine GO.skip (.inr rfl) rfl rfl ?_) | (refine GX.read rfl ?_; refine GO.skipRead (by assumption) rfl rfl ?_)))
      (repeat (first | refine GX.doneD ?_ | refine GX.done ?_ | refine GQ.goNormal ?_ | refine GC.seq ?_ | refine GC.skip ?_ | refine GC.block ?_ | refine GC.exit ?_ | refine GC.ret ?_ | refine GQ.goExit ?_ | refine GQ.goRet ?_ | refine GQ.inNormal ?_ | refine GQ.inExit ?_ | refine GQ.inExitNe rfl ?_ | refine GQ.inRet ?_ | refine GQ.loopExit ?_ | refine GQ.loopRet ?_ | refine GQ.cutExit ?_ | refine GQ.cutRet ?_))
      refine GQ.cutNormal () ?_ rfl
      rw [show decide (many < 9998 ∨ 10002 < many ∨ ahead < 998 ∨ 1003 < ahead) = true from decide_eq_true (Or.inr (Or.inr (Or.inl g2')))]
      exact sub_pick (l := [0, 1, 4, 25]) rfl
    have g2' : ¬ ahead < 998 := of_decide_eq_false g2
    (repeat (refine GX.pure rfl ?_; first | refine GO.move rfl rfl rfl rfl ?_ | refine GO.lss rfl rfl rfl rfl rfl ?_ | refine GO.gtr rfl rfl rfl rfl rfl ?_ | refine GO.pickT rfl rfl rfl rfl rfl ?_ | refine GO.pickF rfl rfl rfl rfl rfl ?_ | refine GO.skip (.inl rfl) rfl rfl ?_))
    (repeat (first | refine GX.doneD ?_ | refine GX.done ?_ | refine GQ.goNormal ?_ | refine GC.seq ?_ | refine GC.skip ?_ | refine GC.block ?_ | refine GC.exit ?_ | refine GC.ret ?_ | refine GQ.goExit ?_ | refine GQ.goRet ?_ | refine GQ.inNormal ?_ | refine GQ.inExit ?_ | refine GQ.inExitNe rfl ?_ | refine GQ.inRet ?_ | refine GQ.loopExit ?_ | refine GQ.loopRet ?_ | refine GQ.cutExit ?_ | refine GQ.cutRet ?_))
    refine GQ.cutNormal () ?_ rfl
    rw [show decide (many < 9998 ∨ 10002 < many ∨ ahead < 998 ∨ 1003 < ahead) = decide (1003 < ahead) from decide_eq_decide.2 ⟨fun h => by omega, fun h => by omega⟩]
    exact sub_pick (l := [0, 1, 4, 25]) rfl
  rintro _ _ rfl
  (repeat (first | refine GX.doneD ?_ | refine GX.done ?_ | refine GQ.goNormal ?_ | refine GC.seq ?_ | refine GC.skip ?_ | refine GC.block ?_ | refine GC.exit ?_ | refine GC.ret ?_ | refine GQ.goExit ?_ | refine GQ.goRet ?_ | refine GQ.inNormal ?_ | refine GQ.inExit ?_ | refine GQ.inExitNe rfl ?_ | refine GQ.inRet ?_ | refine GQ.loopExit ?_ | refine GQ.loopRet ?_ | refine GQ.cutExit ?_ | refine GQ.cutRet ?_))
  refine GC.cond rfl (fun hq => ?_) (fun hq => ?_)
  · (repeat (first | refine GX.doneD ?_ | refine GX.done ?_ | refine GQ.goNormal ?_ | refine GC.seq ?_ | refine GC.skip ?_ | refine GC.block ?_ | refine GC.exit ?_ | refine GC.ret ?_ | refine GQ.goExit ?_ | refine GQ.goRet ?_ | refine GQ.inNormal ?_ | refine GQ.inExit ?_ | refine GQ.inExitNe rfl ?_ | refine GQ.inRet ?_ | refine GQ.loopExit ?_ | refine GQ.loopRet ?_ | refine GQ.cutExit ?_ | refine GQ.cutRet ?_))
    refine GC.region (.eff 0 (.pure 1 .done)) rfl ?_
    (refine GX.eff rfl ?_; refine GO.callL rfl rfl rfl rfl rfl (busHubs.known_ret w) ?_)
    rintro _ w1 ⟨rfl, hE⟩
    refine ⟨fun _ h => by first | trivial | exact Mod.trans h (Ext.mod (by assumption)), ?_⟩
    (repeat (refine GX.pure rfl ?_; refine GO.assign rfl rfl rfl rfl ?_))
    (repeat (first | refine GX.doneD ?_ | refine GX.done ?_ | refine GQ.goNormal ?_ | refine GC.seq ?_ | refine GC.skip ?_ | refine GC.block ?_ | refine GC.exit ?_ | refine GC.ret ?_ | refine GQ.goExit ?_ | refine GQ.goRet ?_ | refine GQ.inNormal ?_ | refine GQ.inExit ?_ | refine GQ.inExitNe rfl ?_ | refine GQ.inRet ?_ | refine GQ.loopExit ?_ | refine GQ.loopRet ?_ | refine GQ.cutExit ?_ | refine GQ.cutRet ?_))
    refine GQ.ret1 (by first | exact .inl rfl | exact .inr rfl) rfl rfl ?_
    exact ⟨rfl, hE⟩
  have hq' := of_decide_eq_false hq
  obtain ⟨m, rfl⟩ : ∃ m : Nat, many = (m : Int) := ⟨many.toNat, by omega⟩
  have hm1 : 9998 ≤ m := by omega
  have hm2 : m ≤ 10002 := by omega
  have ha1 : 998 ≤ ahead := by omega
  have ha2 : ahead ≤ 1003 := by omega
  (repeat (first | refine GX.doneD ?_ | refine GX.done ?_ | refine GQ.goNormal ?_ | refine GC.seq ?_ | refine GC.skip ?_ | refine GC.block ?_ | refine GC.exit ?_ | refine GC.ret ?_ | refine GQ.goExit ?_ | refine GQ.goRet ?_ | refine GQ.inNormal ?_ | refine GQ.inExit ?_ | refine GQ.inExitNe rfl ?_ | refine GQ.inRet ?_ | refine GQ.loopExit ?_ | refine GQ.loopRet ?_ | refine GQ.cutExit ?_ | refine GQ.cutRet ?_))
  refine GC.region (.pure 0 (.eff 1 (.pure 2 .done))) rfl ?_
  refine GX.pure rfl (GO.build (out := [.slice none 0 0]) rfl (by kernel_rfl) (by kernel_rfl) rfl rfl rfl rfl ?_)
  refine GX.eff rfl ?_
  refine GO.box (l := [.slice none 0 0]) rfl rfl rfl rfl fun bh w1 hbh hB1 hE1 => ?_
  refine ⟨fun _ h => by first | trivial | exact Mod.trans h (Ext.mod (by assumption)), ?_⟩
  (repeat (refine GX.pure rfl ?_; refine GO.assign rfl rfl rfl rfl ?_))
  (repeat (first | refine GX.doneD ?_ | refine GX.done ?_ | refine GQ.goNormal ?_ | refine GC.seq ?_ | refine GC.skip ?_ | refine GC.block ?_ | refine GC.exit ?_ | refine GC.ret ?_ | refine GQ.goExit ?_ | refine GQ.goRet ?_ | refine GQ.inNormal ?_ | refine GQ.inExit ?_ | refine GQ.inExitNe rfl ?_ | refine GQ.inRet ?_ | refine GQ.loopExit ?_ | refine GQ.loopRet ?_ | refine GQ.cutExit ?_ | refine GQ.cutRet ?_))
  refine GC.region (.pure 0 .done) rfl ?_
  (repeat (refine GX.pure rfl ?_; refine GO.assign rfl rfl rfl rfl ?_))
  (repeat (first | refine GX.doneD ?_ | refine GX.done ?_ | refine GQ.goNormal ?_ | refine GC.seq ?_ | refine GC.skip ?_ | refine GC.block ?_ | refine GC.exit ?_ | refine GC.ret ?_ | refine GQ.goExit ?_ | refine GQ.goRet ?_ | refine GQ.inNormal ?_ | refine GQ.inExit ?_ | refine GQ.inExitNe rfl ?_ | refine GQ.inRet ?_ | refine GQ.loopExit ?_ | refine GQ.loopRet ?_ | refine GQ.cutExit ?_ | refine GQ.cutRet ?_))
  refine GC.loop (X := Nat × Option Nat) (fun x => [(0, .int .i64 m), (1, .int .i64 ahead), (4, .bool false), (5, .pointer (some ⟨bh, 0, none⟩)), (6, .int .i64 ((x.1 : Int) + 1))])
    (fun x w' => x.1 ≤ m ∧ Ext w w' ∧ HubAt w' bh x.2 (full x.1) ∧ (∀ y, x.2 = some y → w.heap.size ≤ y))
    (fun x => m - x.1) (0, none) (sub_pick (l := [0, 1, 4, 5, 6]) rfl) ⟨Nat.zero_le _, hE1, ⟨none, 0, hB1, PurS.nil _, by simp⟩, by simp⟩ ?_
  rintro ⟨i, ob⟩ w2 ⟨hi, hE2, hH2, hob⟩
  dsimp only at hi hE2 hH2 hob ⊢
  (repeat (first | refine GX.doneD ?_ | refine GX.done ?_ | refine GQ.goNormal ?_ | refine GC.seq ?_ | refine GC.skip ?_ | refine GC.block ?_ | refine GC.exit ?_ | refine GC.ret ?_ | refine GQ.goExit ?_ | refine GQ.goRet ?_ | refine GQ.inNormal ?_ | refine GQ.inExit ?_ | refine GQ.inExitNe rfl ?_ | refine GQ.inRet ?_ | refine GQ.loopExit ?_ | refine GQ.loopRet ?_ | refine GQ.cutExit ?_ | refine GQ.cutRet ?_))
  refine GC.region (.pure 0 (.pure 1 (.pure 2 .done))) rfl ?_
  (repeat (refine GX.pure rfl ?_; first | refine GO.move rfl rfl rfl rfl ?_ | refine GO.leq rfl rfl rfl rfl rfl ?_))
  (repeat (first | refine GX.doneD ?_ | refine GX.done ?_ | refine GQ.goNormal ?_ | refine GC.seq ?_ | refine GC.skip ?_ | refine GC.block ?_ | refine GC.exit ?_ | refine GC.ret ?_ | refine GQ.goExit ?_ | refine GQ.goRet ?_ | refine GQ.inNormal ?_ | refine GQ.inExit ?_ | refine GQ.inExitNe rfl ?_ | refine GQ.inRet ?_ | refine GQ.loopExit ?_ | refine GQ.loopRet ?_ | refine GQ.cutExit ?_ | refine GQ.cutRet ?_))
  refine GC.cond rfl (fun hc => ?_) (fun hc => ?_)
  · have hlt : i < m := by have := of_decide_eq_true hc; omega
    (repeat (first | refine GX.doneD ?_ | refine GX.done ?_ | refine GQ.goNormal ?_ | refine GC.seq ?_ | refine GC.skip ?_ | refine GC.block ?_ | refine GC.exit ?_ | refine GC.ret ?_ | refine GQ.goExit ?_ | refine GQ.goRet ?_ | refine GQ.inNormal ?_ | refine GQ.inExit ?_ | refine GQ.inExitNe rfl ?_ | refine GQ.inRet ?_ | refine GQ.loopExit ?_ | refine GQ.loopRet ?_ | refine GQ.cutExit ?_ | refine GQ.cutRet ?_))
    refine GC.region (.pure 0 (.pure 1 (.pure 2 .done))) rfl ?_
    (repeat (refine GX.pure rfl ?_; first | refine GO.move rfl rfl rfl rfl ?_ | refine GO.assign rfl rfl rfl rfl ?_))
    (repeat (first | refine GX.doneD ?_ | refine GX.done ?_ | refine GQ.goNormal ?_ | refine GC.seq ?_ | refine GC.skip ?_ | refine GC.block ?_ | refine GC.exit ?_ | refine GC.ret ?_ | refine GQ.goExit ?_ | refine GQ.goRet ?_ | refine GQ.inNormal ?_ | refine GQ.inExit ?_ | refine GQ.inExitNe rfl ?_ | refine GQ.inRet ?_ | refine GQ.loopExit ?_ | refine GQ.loopRet ?_ | refine GQ.cutExit ?_ | refine GQ.cutRet ?_))
    refine GC.region (.pure 0 (.pure 1 .done)) rfl ?_
    (repeat (refine GX.pure rfl ?_; first | refine GO.move rfl rfl rfl rfl ?_ | refine GO.gtr rfl rfl rfl rfl rfl ?_))
    (repeat (first | refine GX.doneD ?_ | refine GX.done ?_ | refine GQ.goNormal ?_ | refine GC.seq ?_ | refine GC.skip ?_ | refine GC.block ?_ | refine GC.exit ?_ | refine GC.ret ?_ | refine GQ.goExit ?_ | refine GQ.goRet ?_ | refine GQ.inNormal ?_ | refine GQ.inExit ?_ | refine GQ.inExitNe rfl ?_ | refine GQ.inRet ?_ | refine GQ.loopExit ?_ | refine GQ.loopRet ?_ | refine GQ.cutExit ?_ | refine GQ.cutRet ?_))
    refine GC.cut (X := Unit) (fun _ => [(0, .int .i64 m), (1, .int .i64 ahead), (4, .bool false), (5, .pointer (some ⟨bh, 0, none⟩)), (6, .int .i64 ((i : Int) + 1)), (7, .int .i64 (if i < 10000 then i + 1 else 0 : Nat)), (8, .int .i64 (if i < 10000 then 0 else 7))]) (fun _ w' => w2 = w') ?_ ?_
    · refine GC.cond rfl (fun hf => ?_) (fun hf => ?_)
      · have hf' : (10000 : Int) < (i : Int) + 1 := of_decide_eq_true hf
        have h : ¬ i < 10000 := by omega
        (repeat (first | refine GX.doneD ?_ | refine GX.done ?_ | refine GQ.goNormal ?_ | refine GC.seq ?_ | refine GC.skip ?_ | refine GC.block ?_ | refine GC.exit ?_ | refine GC.ret ?_ | refine GQ.goExit ?_ | refine GQ.goRet ?_ | refine GQ.inNormal ?_ | refine GQ.inExit ?_ | refine GQ.inExitNe rfl ?_ | refine GQ.inRet ?_ | refine GQ.loopExit ?_ | refine GQ.loopRet ?_ | refine GQ.cutExit ?_ | refine GQ.cutRet ?_))
        refine GC.region (.pure 0 (.pure 1 .done)) rfl ?_
        (repeat (refine GX.pure rfl ?_; refine GO.assign rfl rfl rfl rfl ?_))
        (repeat (first | refine GX.doneD ?_ | refine GX.done ?_ | refine GQ.goNormal ?_ | refine GC.seq ?_ | refine GC.skip ?_ | refine GC.block ?_ | refine GC.exit ?_ | refine GC.ret ?_ | refine GQ.goExit ?_ | refine GQ.goRet ?_ | refine GQ.inNormal ?_ | refine GQ.inExit ?_ | refine GQ.inExitNe rfl ?_ | refine GQ.inRet ?_ | refine GQ.loopExit ?_ | refine GQ.loopRet ?_ | refine GQ.cutExit ?_ | refine GQ.cutRet ?_))
        refine GQ.cutNormal () ?_ rfl
        rw [if_neg h, if_neg h]
        exact sub_pick (l := [0, 1, 4, 5, 6, 7, 8]) rfl
      · have hf' : ¬ (10000 : Int) < (i : Int) + 1 := of_decide_eq_false hf
        have h : i < 10000 := by omega
        (repeat (first | refine GX.doneD ?_ | refine GX.done ?_ | refine GQ.goNormal ?_ | refine GC.seq ?_ | refine GC.skip ?_ | refine GC.block ?_ | refine GC.exit ?_ | refine GC.ret ?_ | refine GQ.goExit ?_ | refine GQ.goRet ?_ | refine GQ.inNormal ?_ | refine GQ.inExit ?_ | refine GQ.inExitNe rfl ?_ | refine GQ.inRet ?_ | refine GQ.loopExit ?_ | refine GQ.loopRet ?_ | refine GQ.cutExit ?_ | refine GQ.cutRet ?_))
        refine GQ.cutNormal () ?_ rfl
        rw [if_pos h, if_pos h]
        exact sub_pick (l := [0, 1, 4, 5, 6, 7, 8]) rfl
    rintro _ _ rfl
    (repeat (first | refine GX.doneD ?_ | refine GX.done ?_ | refine GQ.goNormal ?_ | refine GC.seq ?_ | refine GC.skip ?_ | refine GC.block ?_ | refine GC.exit ?_ | refine GC.ret ?_ | refine GQ.goExit ?_ | refine GQ.goRet ?_ | refine GQ.inNormal ?_ | refine GQ.inExit ?_ | refine GQ.inExitNe rfl ?_ | refine GQ.inRet ?_ | refine GQ.loopExit ?_ | refine GQ.loopRet ?_ | refine GQ.cutExit ?_ | refine GQ.cutRet ?_))
    refine GC.region (.pure 0 (.eff 1 (.pure 2 (.pure 3 (.eff 4 (.pure 5 .done)))))) rfl ?_
    (repeat (refine GX.pure rfl ?_; first | refine GO.move rfl rfl rfl rfl ?_ | refine GO.not rfl rfl rfl rfl ?_))
    (refine GX.eff rfl ?_; refine GO.callL rfl rfl rfl rfl rfl (tag_ret [116] w2) ?_)
    rintro _ w3 ⟨rfl, hE23⟩
    refine ⟨fun _ h => by first | trivial | exact Mod.trans h (Ext.mod (by assumption)), ?_⟩
    (repeat (refine GX.pure rfl ?_; first | refine GO.move rfl rfl rfl rfl ?_ | refine GO.not rfl rfl rfl rfl ?_))
    have hfl : (full i).length ≤ 10000 := by simp [full]; omega
    (refine GX.eff rfl ?_; refine GO.callL rfl rfl rfl rfl rfl (publishes_ret bh ob (full i) (by omega) (1, [116]) ((if i < 10000 then i + 1 else 0 : Nat) : Int) (if i < 10000 then 0 else 7) w3 (hH2.ext hE23)) ?_)
    rintro _ w4 ⟨rfl, ob4, hH4, hf4, hM4⟩
    refine ⟨fun _ h => by first | trivial | exact Mod.trans h (Ext.mod (by assumption)), ?_⟩
    rw [pub_full] at hH4 ⊢
    dsimp only at hH4 ⊢
    rw [show (decide (((if i < 10000 then i + 1 else 0 : Nat) : Int) = ((if i < 10000 then i + 1 else 0 : Nat) : Int)) && decide ((if i < 10000 then (0 : Int) else 7) = (if i < 10000 then (0 : Int) else 7))) = true by simp]
    (repeat (refine GX.pure rfl ?_; first | refine GO.move rfl rfl rfl rfl ?_ | refine GO.not rfl rfl rfl rfl ?_))
    (repeat (first | refine GX.doneD ?_ | refine GX.done ?_ | refine GQ.goNormal ?_ | refine GC.seq ?_ | refine GC.skip ?_ | refine GC.block ?_ | refine GC.exit ?_ | refine GC.ret ?_ | refine GQ.goExit ?_ | refine GQ.goRet ?_ | refine GQ.inNormal ?_ | refine GQ.inExit ?_ | refine GQ.inExitNe rfl ?_ | refine GQ.inRet ?_ | refine GQ.loopExit ?_ | refine GQ.loopRet ?_ | refine GQ.cutExit ?_ | refine GQ.cutRet ?_))
    refine GC.cond rfl (fun hq2 => ?_) (fun hq2 => ?_)
    · cases hq2
    (repeat (first | refine GX.doneD ?_ | refine GX.done ?_ | refine GQ.goNormal ?_ | refine GC.seq ?_ | refine GC.skip ?_ | refine GC.block ?_ | refine GC.exit ?_ | refine GC.ret ?_ | refine GQ.goExit ?_ | refine GQ.goRet ?_ | refine GQ.inNormal ?_ | refine GQ.inExit ?_ | refine GQ.inExitNe rfl ?_ | refine GQ.inRet ?_ | refine GQ.loopExit ?_ | refine GQ.loopRet ?_ | refine GQ.cutExit ?_ | refine GQ.cutRet ?_))
    refine GC.region (.pure 0 (.pure 1 (.pure 2 .done))) rfl ?_
    (repeat (refine GX.pure rfl ?_; first | refine GO.move rfl rfl rfl rfl ?_ | refine GO.assign rfl rfl rfl rfl ?_ | refine GO.add rfl rfl rfl rfl rfl (wrapIn (by dsimp only [InK]; omega)) ?_))
    (repeat (first | refine GX.doneD ?_ | refine GX.done ?_ | refine GQ.goNormal ?_ | refine GC.seq ?_ | refine GC.skip ?_ | refine GC.block ?_ | refine GC.exit ?_ | refine GC.ret ?_ | refine GQ.goExit ?_ | refine GQ.goRet ?_ | refine GQ.inNormal ?_ | refine GQ.inExit ?_ | refine GQ.inExitNe rfl ?_ | refine GQ.inRet ?_ | refine GQ.loopExit ?_ | refine GQ.loopRet ?_ | refine GQ.cutExit ?_ | refine GQ.cutRet ?_))
    have hE3 := hE2.trans hE23
    have hbh2 := hH2.lt
    refine GQ.again (i + 1, ob4) ?_ ⟨hlt, hE3.then hM4 fun k hk h => ?_, hH4, fun y hy => ?_⟩ (by dsimp only; omega)
    · exact sub_pick (l := [0, 1, 4, 5, 6]) rfl
    · rcases h with rfl | h
      · omega
      · have := hob k h; omega
    · rcases hf4 y hy with h | h
      · exact hob y h
      · have := hE3.size; omega
  clear hH2 hob
  have hs2 : Sat w.heap.size (fun _ => none) Tr.e w2 := ⟨fun b ab hb => by simp [Tr.get] at hb, fun b c ab ac B K K' hb => by simp [Tr.get] at hb, fun b _ => rfl, hE2.size, modLo hE2⟩
  (repeat (first | refine GX.doneD ?_ | refine GX.done ?_ | refine GQ.goNormal ?_ | refine GC.seq ?_ | refine GC.skip ?_ | refine GC.block ?_ | refine GC.exit ?_ | refine GC.ret ?_ | refine GQ.goExit ?_ | refine GQ.goRet ?_ | refine GQ.inNormal ?_ | refine GQ.inExit ?_ | refine GQ.inExitNe rfl ?_ | refine GQ.inRet ?_ | refine GQ.loopExit ?_ | refine GQ.loopRet ?_ | refine GQ.cutExit ?_ | refine GQ.cutRet ?_))
  refine GC.region (.eff 0 (.eff 1 (.pure 2 (.pure 3 (.pure 4 (.pure 5 (.pure 6 .done))))))) rfl ?_
  obtain ⟨v1, s1, pb, po, s2, s4, s6, s7, e1, e2, e4, e6, e7⟩ := chain_spec (run6 ahead ha1 ha2)
  (refine GX.eff rfl ?_; refine GO.callL rfl rfl rfl rfl rfl (evR_ret hb e1 (RelL.nil _) hs2) ?_)
  rintro V3 w3 ⟨r3, _, hV3, hs3, hM3⟩
  refine ⟨fun _ h => by first | trivial | exact Mod.trans h (Ext.mod (by assumption)), ?_⟩
  (refine GX.eff rfl ?_; refine GO.callL rfl rfl rfl rfl rfl (evR_ret hb e2 (RelL.cons hV3 (RelL.nil _)) hs3) ?_)
  rintro V4 w4 ⟨r4, _, hV4, hs4, hM4⟩
  refine ⟨fun _ h => by first | trivial | exact Mod.trans h (Ext.mod (by assumption)), ?_⟩
  unfold Rel at hV4
  obtain ⟨L, rfl, hL⟩ := hV4
  obtain ⟨A, M, rfl, hA, hM1⟩ := hL.of_cons
  obtain ⟨B, M, rfl, hB, hM2⟩ := hM1.of_cons
  have := hM2.of_nil
  subst this
  have hA0 := hA
  obtain ⟨PB, PK, hr4, rfl⟩ := rel_p hA0
  have := rel_i hB
  subst this
  (repeat (refine GX.pure rfl ?_; first | refine GO.move rfl rfl rfl rfl ?_ | refine GO.assign rfl rfl rfl rfl ?_ | refine GO.extract rfl rfl rfl rfl rfl ?_))
  (repeat (first | refine GX.doneD ?_ | refine GX.done ?_ | refine GQ.goNormal ?_ | refine GC.seq ?_ | refine GC.skip ?_ | refine GC.block ?_ | refine GC.exit ?_ | refine GC.ret ?_ | refine GQ.goExit ?_ | refine GQ.goRet ?_ | refine GQ.inNormal ?_ | refine GQ.inExit ?_ | refine GQ.inExitNe rfl ?_ | refine GQ.inRet ?_ | refine GQ.loopExit ?_ | refine GQ.loopRet ?_ | refine GQ.cutExit ?_ | refine GQ.cutRet ?_))
  refine GC.region (.pure 0 (.pure 1 (.pure 2 (.pure 3 (.pure 4 (.pure 5 (.pure 6 (.pure 7 (.eff 8 (.eff 9 (.pure 10 (.pure 11 .done)))))))))))) rfl ?_
  (repeat (first | (refine GX.pure rfl ?_; first | refine GO.move rfl rfl rfl rfl ?_ | refine GO.neq rfl rfl rfl rfl rfl ?_ | refine GO.pickT rfl rfl rfl rfl rfl ?_ | refine GO.pickF rfl rfl rfl rfl rfl ?_ | refine GO.not rfl rfl rfl rfl ?_ | refine GO.ptrEqlNil rfl rfl rfl rfl rfl ?_ | refine GO.skip (.inl rfl) rfl rfl ?_) | (refine GX.eff rfl ?_; refine GO.skip (.inr rfl) rfl rfl ?_) | (refine GX.read rfl ?_; refine GO.skipRead (by assumption) rfl rfl ?_)))
  (refine GX.eff rfl ?_; refine GO.callL rfl rfl rfl rfl rfl (tag_ret [116] w4) ?_)
  rintro _ w5 ⟨rfl, hE45⟩
  refine ⟨fun _ h => by first | trivial | exact Mod.trans h (Ext.mod (by assumption)), ?_⟩
  (repeat (refine GX.pure rfl ?_; first | refine GO.move rfl rfl rfl rfl ?_ | refine GO.neq rfl rfl rfl rfl rfl ?_ | refine GO.pickT rfl rfl rfl rfl rfl ?_ | refine GO.pickF rfl rfl rfl rfl rfl ?_ | refine GO.not rfl rfl rfl rfl ?_ | refine GO.ptrEqlNil rfl rfl rfl rfl rfl ?_ | refine GO.skip (.inl rfl) rfl rfl ?_))
  have hs5 := hs4.ext hE45
  (refine GX.eff rfl ?_; refine GO.callL rfl rfl rfl rfl rfl (evR_ret hb e4 (r := r4) (Args := [.pointer (some ⟨PB, po, none⟩), .int .u64 0, .int .i64 1, .agg (purV (1, [116])).toArray, .bool true, .int .i64 0]) (RelL.cons hA (RelL.cons (by unfold Rel; rfl) (RelL.cons (by unfold Rel; rfl) (RelL.cons tag_rel (RelL.cons (by unfold Rel; rfl) (RelL.cons (by unfold Rel; rfl) (RelL.nil _))))))) hs5) ?_)
  rintro V6 w6 ⟨r6, hr46, hV6, hs6, hM6⟩
  refine ⟨fun _ h => by first | trivial | exact Mod.trans h (Ext.mod (by assumption)), ?_⟩
  have := rel_b hV6
  subst this
  have hA6 := hA.mono hr46
  (repeat (refine GX.pure rfl ?_; first | refine GO.move rfl rfl rfl rfl ?_ | refine GO.neq rfl rfl rfl rfl rfl ?_ | refine GO.pickT rfl rfl rfl rfl rfl ?_ | refine GO.pickF rfl rfl rfl rfl rfl ?_ | refine GO.not rfl rfl rfl rfl ?_ | refine GO.ptrEqlNil rfl rfl rfl rfl rfl ?_ | refine GO.skip (.inl rfl) rfl rfl ?_))
  (repeat (first | refine GX.doneD ?_ | refine GX.done ?_ | refine GQ.goNormal ?_ | refine GC.seq ?_ | refine GC.skip ?_ | refine GC.block ?_ | refine GC.exit ?_ | refine GC.ret ?_ | refine GQ.goExit ?_ | refine GQ.goRet ?_ | refine GQ.inNormal ?_ | refine GQ.inExit ?_ | refine GQ.inExitNe rfl ?_ | refine GQ.inRet ?_ | refine GQ.loopExit ?_ | refine GQ.loopRet ?_ | refine GQ.cutExit ?_ | refine GQ.cutRet ?_))
  refine GC.cond rfl (fun hq3 => ?_) (fun hq3 => ?_)
  · cases hq3
  (repeat (first | refine GX.doneD ?_ | refine GX.done ?_ | refine GQ.goNormal ?_ | refine GC.seq ?_ | refine GC.skip ?_ | refine GC.block ?_ | refine GC.exit ?_ | refine GC.ret ?_ | refine GQ.goExit ?_ | refine GQ.goRet ?_ | refine GQ.inNormal ?_ | refine GQ.inExit ?_ | refine GQ.inExitNe rfl ?_ | refine GQ.inRet ?_ | refine GQ.loopExit ?_ | refine GQ.loopRet ?_ | refine GQ.cutExit ?_ | refine GQ.cutRet ?_))
  refine GC.region (.pure 0 .done) rfl ?_
  (repeat (refine GX.pure rfl ?_; refine GO.assign rfl rfl rfl rfl ?_))
  (repeat (first | refine GX.doneD ?_ | refine GX.done ?_ | refine GQ.goNormal ?_ | refine GC.seq ?_ | refine GC.skip ?_ | refine GC.block ?_ | refine GC.exit ?_ | refine GC.ret ?_ | refine GQ.goExit ?_ | refine GQ.goRet ?_ | refine GQ.inNormal ?_ | refine GQ.inExit ?_ | refine GQ.inExitNe rfl ?_ | refine GQ.inRet ?_ | refine GQ.loopExit ?_ | refine GQ.loopRet ?_ | refine GQ.cutExit ?_ | refine GQ.cutRet ?_))
  refine GC.region (.pure 0 (.pure 1 .done)) rfl ?_
  (repeat (refine GX.pure rfl ?_; first | refine GO.move rfl rfl rfl rfl ?_ | refine GO.gtr rfl rfl rfl rfl rfl ?_))
  (repeat (first | refine GX.doneD ?_ | refine GX.done ?_ | refine GQ.goNormal ?_ | refine GC.seq ?_ | refine GC.skip ?_ | refine GC.block ?_ | refine GC.exit ?_ | refine GC.ret ?_ | refine GQ.goExit ?_ | refine GQ.goRet ?_ | refine GQ.inNormal ?_ | refine GQ.inExit ?_ | refine GQ.inExitNe rfl ?_ | refine GQ.inRet ?_ | refine GQ.loopExit ?_ | refine GQ.loopRet ?_ | refine GQ.cutExit ?_ | refine GQ.cutRet ?_))
  refine GC.cut (X := Unit) (fun _ => [(1, .int .i64 ahead), (9, .pointer (some ⟨PB, po, none⟩)), (11, .int .i64 (if 1001 < ahead then 3 else 0))]) (fun _ w' => w6 = w') ?_ ?_
  · refine GC.cond rfl (fun hq4 => ?_) (fun hq4 => ?_)
    · have h4 : 1001 < ahead := of_decide_eq_true hq4
      (repeat (first | refine GX.doneD ?_ | refine GX.done ?_ | refine GQ.goNormal ?_ | refine GC.seq ?_ | refine GC.skip ?_ | refine GC.block ?_ | refine GC.exit ?_ | refine GC.ret ?_ | refine GQ.goExit ?_ | refine GQ.goRet ?_ | refine GQ.inNormal ?_ | refine GQ.inExit ?_ | refine GQ.inExitNe rfl ?_ | refine GQ.inRet ?_ | refine GQ.loopExit ?_ | refine GQ.loopRet ?_ | refine GQ.cutExit ?_ | refine GQ.cutRet ?_))
      refine GC.region (.pure 0 .done) rfl ?_
      (repeat (refine GX.pure rfl ?_; refine GO.assign rfl rfl rfl rfl ?_))
      (repeat (first | refine GX.doneD ?_ | refine GX.done ?_ | refine GQ.goNormal ?_ | refine GC.seq ?_ | refine GC.skip ?_ | refine GC.block ?_ | refine GC.exit ?_ | refine GC.ret ?_ | refine GQ.goExit ?_ | refine GQ.goRet ?_ | refine GQ.inNormal ?_ | refine GQ.inExit ?_ | refine GQ.inExitNe rfl ?_ | refine GQ.inRet ?_ | refine GQ.loopExit ?_ | refine GQ.loopRet ?_ | refine GQ.cutExit ?_ | refine GQ.cutRet ?_))
      refine GQ.cutNormal () ?_ rfl
      rw [if_pos h4]
      exact sub_pick (l := [1, 9, 11]) rfl
    · have h4 : ¬ 1001 < ahead := of_decide_eq_false hq4
      (repeat (first | refine GX.doneD ?_ | refine GX.done ?_ | refine GQ.goNormal ?_ | refine GC.seq ?_ | refine GC.skip ?_ | refine GC.block ?_ | refine GC.exit ?_ | refine GC.ret ?_ | refine GQ.goExit ?_ | refine GQ.goRet ?_ | refine GQ.inNormal ?_ | refine GQ.inExit ?_ | refine GQ.inExitNe rfl ?_ | refine GQ.inRet ?_ | refine GQ.loopExit ?_ | refine GQ.loopRet ?_ | refine GQ.cutExit ?_ | refine GQ.cutRet ?_))
      refine GQ.cutNormal () ?_ rfl
      rw [if_neg h4]
      exact sub_pick (l := [1, 9, 11]) rfl
  rintro _ _ rfl
  (repeat (first | refine GX.doneD ?_ | refine GX.done ?_ | refine GQ.goNormal ?_ | refine GC.seq ?_ | refine GC.skip ?_ | refine GC.block ?_ | refine GC.exit ?_ | refine GC.ret ?_ | refine GQ.goExit ?_ | refine GQ.goRet ?_ | refine GQ.inNormal ?_ | refine GQ.inExit ?_ | refine GQ.inExitNe rfl ?_ | refine GQ.inRet ?_ | refine GQ.loopExit ?_ | refine GQ.loopRet ?_ | refine GQ.cutExit ?_ | refine GQ.cutRet ?_))
  refine GC.region (.pure 0 (.pure 1 (.eff 2 (.pure 3 (.pure 4 (.pure 5 (.eff 6 (.pure 7 (.pure 8 (.eff 9 (.pure 10 (.pure 11 (.pure 12 (.eff 13 (.pure 14 (.pure 15 .done)))))))))))))))) rfl ?_
  (repeat (refine GX.pure rfl ?_; first | refine GO.move rfl rfl rfl rfl ?_ | refine GO.assign rfl rfl rfl rfl ?_ | refine GO.eql rfl rfl rfl rfl rfl ?_ | refine GO.pickT rfl rfl rfl rfl rfl ?_ | refine GO.pickF rfl rfl rfl rfl rfl ?_ | refine GO.skip (.inl rfl) rfl rfl ?_))
  (refine GX.eff rfl ?_; refine GO.callL rfl rfl rfl rfl rfl (tag_ret [116] w6) ?_)
  rintro _ w7 ⟨rfl, hE67⟩
  refine ⟨fun _ h => by first | trivial | exact Mod.trans h (Ext.mod (by assumption)), ?_⟩
  (repeat (refine GX.pure rfl ?_; first | refine GO.move rfl rfl rfl rfl ?_ | refine GO.assign rfl rfl rfl rfl ?_ | refine GO.eql rfl rfl rfl rfl rfl ?_ | refine GO.pickT rfl rfl rfl rfl rfl ?_ | refine GO.pickF rfl rfl rfl rfl rfl ?_ | refine GO.skip (.inl rfl) rfl rfl ?_))
  have hs7 := hs6.ext hE67
  (refine GX.eff rfl ?_; refine GO.callL rfl rfl rfl rfl rfl (evR_ret hb e6 (r := r6) (Args := [.pointer (some ⟨PB, po, none⟩), .int .u64 0, .int .i64 ahead, .agg (purV (1, [116])).toArray, .bool (decide ((if 1001 < ahead then (3 : Int) else 0) = 0)), .int .i64 (if 1001 < ahead then 3 else 0)]) (RelL.cons hA6 (RelL.cons (by unfold Rel; rfl) (RelL.cons (by unfold Rel; rfl) (RelL.cons tag_rel (RelL.cons (by unfold Rel; rfl) (RelL.cons (by unfold Rel; rfl) (RelL.nil _))))))) hs7) ?_)
  rintro V8 w8 ⟨r8, hr68, hV8, hs8, hM8⟩
  refine ⟨fun _ h => by first | trivial | exact Mod.trans h (Ext.mod (by assumption)), ?_⟩
  have := rel_b hV8
  subst this
  have hA8 := hA6.mono hr68
  (repeat (refine GX.pure rfl ?_; first | refine GO.move rfl rfl rfl rfl ?_ | refine GO.assign rfl rfl rfl rfl ?_ | refine GO.eql rfl rfl rfl rfl rfl ?_ | refine GO.pickT rfl rfl rfl rfl rfl ?_ | refine GO.pickF rfl rfl rfl rfl rfl ?_ | refine GO.skip (.inl rfl) rfl rfl ?_))
  (refine GX.eff rfl ?_; refine GO.callL rfl rfl rfl rfl rfl (evR_ret hb e7 (r := r8) (Args := [.pointer (some ⟨PB, po, none⟩)]) (RelL.cons hA8 (RelL.nil _)) hs8) ?_)
  rintro V9 w9 ⟨r9, hr89, hV9, hs9, hM9⟩
  refine ⟨fun _ h => by first | trivial | exact Mod.trans h (Ext.mod (by assumption)), ?_⟩
  have := rel_i hV9
  subst this
  (repeat (refine GX.pure rfl ?_; first | refine GO.move rfl rfl rfl rfl ?_ | refine GO.assign rfl rfl rfl rfl ?_ | refine GO.eql rfl rfl rfl rfl rfl ?_ | refine GO.pickT rfl rfl rfl rfl rfl ?_ | refine GO.pickF rfl rfl rfl rfl rfl ?_ | refine GO.skip (.inl rfl) rfl rfl ?_))
  (refine GX.eff rfl ?_; refine GO.callL rfl rfl rfl rfl rfl (busHubs.known_ret w9) ?_)
  rintro _ w10 ⟨rfl, hE910⟩
  refine ⟨fun _ h => by first | trivial | exact Mod.trans h (Ext.mod (by assumption)), ?_⟩
  (repeat (refine GX.pure rfl ?_; first | refine GO.move rfl rfl rfl rfl ?_ | refine GO.assign rfl rfl rfl rfl ?_ | refine GO.eql rfl rfl rfl rfl rfl ?_ | refine GO.pickT rfl rfl rfl rfl rfl ?_ | refine GO.pickF rfl rfl rfl rfl rfl ?_ | refine GO.skip (.inl rfl) rfl rfl ?_))
  (repeat (first | refine GX.doneD ?_ | refine GX.done ?_ | refine GQ.goNormal ?_ | refine GC.seq ?_ | refine GC.skip ?_ | refine GC.block ?_ | refine GC.exit ?_ | refine GC.ret ?_ | refine GQ.goExit ?_ | refine GQ.goRet ?_ | refine GQ.inNormal ?_ | refine GQ.inExit ?_ | refine GQ.inExitNe rfl ?_ | refine GQ.inRet ?_ | refine GQ.loopExit ?_ | refine GQ.loopRet ?_ | refine GQ.cutExit ?_ | refine GQ.cutRet ?_))
  refine GQ.ret1 (by first | exact .inl rfl | exact .inr rfl) rfl rfl ?_
  have hMM : Mod (fun k => w.heap.size ≤ k) w2 w10 := hM3.trans (hM4.trans ((Ext.mod hE45).trans (hM6.trans ((Ext.mod hE67).trans (hM8.trans (hM9.trans (Ext.mod hE910)))))))
  exact ⟨rfl, hE2.then hMM fun k hk h => by omega⟩
end Go.Proofs.YtgmokaflgdmekaaGreat.busFulls
