/-
  What the functions that write a command as a frame compute (package request). Conditions: the command's parts are shorter than 2^28.
-/
import Derived.Test.YtahkglanddhncaaWs
namespace Go.Proofs.Ytahkglanddhncaa.V
attribute [local irreducible] GX GO

theorem valid_ret (op : Int) (h : -9223372036854775808 ≤ op ∧ op < 9223372036854775808) (w : World) :
    Ret Try.prog 44 [.int .i64 op].toArray w fun v w' => v = .bool (decide (0 < op ∧ op < 16)) ∧ w' = w := by
  
  refine Ret.enter Try.func44 rfl Try.ntmps44 rfl ?_
  (repeat (first | refine GX.doneD ?_ | refine GX.done ?_ | refine GQ.goNormal ?_ | refine GC.seq ?_ | refine GC.skip ?_ | refine GC.block ?_ | refine GC.exit ?_ | refine GC.ret ?_ | refine GQ.goExit ?_ | refine GQ.goRet ?_ | refine GQ.inNormal ?_ | refine GQ.inExit ?_ | refine GQ.inExitNe rfl ?_ | refine GQ.inRet ?_ | refine GQ.loopExit ?_ | refine GQ.loopRet ?_ | refine GQ.cutExit ?_ | refine GQ.cutRet ?_))
  refine GC.region (.pure 0 .done) rfl ?_
  (repeat (refine GX.pure rfl ?_; refine GO.assign rfl rfl rfl rfl ?_))
  (repeat (first | refine GX.doneD ?_ | refine GX.done ?_ | refine GQ.goNormal ?_ | refine GC.seq ?_ | refine GC.skip ?_ | refine GC.block ?_ | refine GC.exit ?_ | refine GC.ret ?_ | refine GQ.goExit ?_ | refine GQ.goRet ?_ | refine GQ.inNormal ?_ | refine GQ.inExit ?_ | refine GQ.inExitNe rfl ?_ | refine GQ.inRet ?_ | refine GQ.loopExit ?_ | refine GQ.loopRet ?_ | refine GQ.cutExit ?_ | refine GQ.cutRet ?_))
  refine GC.region (.pure 0 (.pure 1 (.pure 2 (.pure 3 (.pure 4 (.pure 5 (.pure 6 .done))))))) rfl ?_
  (repeat (refine GX.pure rfl ?_; first | refine GO.move rfl rfl rfl rfl ?_ | refine GO.assign rfl rfl rfl rfl ?_ | refine GO.lss rfl rfl rfl rfl rfl ?_ | refine GO.gtr rfl rfl rfl rfl rfl ?_ | refine GO.pickT rfl rfl rfl rfl rfl ?_ | refine GO.pickF rfl rfl rfl rfl rfl ?_ | refine GO.skip (.inl rfl) rfl rfl ?_))
  refine GX.case 5 rfl (fun h0 => ?_) (fun h0 => ?_)
  · have h0' := of_decide_eq_true h0
    (repeat (refine GX.pure rfl ?_; first | refine GO.move rfl rfl rfl rfl ?_ | refine GO.assign rfl rfl rfl rfl ?_ | refine GO.lss rfl rfl rfl rfl rfl ?_ | refine GO.gtr rfl rfl rfl rfl rfl ?_ | refine GO.pickT rfl rfl rfl rfl rfl ?_ | refine GO.pickF rfl rfl rfl rfl rfl ?_ | refine GO.skip (.inl rfl) rfl rfl ?_))
    (repeat (first | refine GX.doneD ?_ | refine GX.done ?_ | refine GQ.goNormal ?_ | refine GC.seq ?_ | refine GC.skip ?_ | refine GC.block ?_ | refine GC.exit ?_ | refine GC.ret ?_ | refine GQ.goExit ?_ | refine GQ.goRet ?_ | refine GQ.inNormal ?_ | refine GQ.inExit ?_ | refine GQ.inExitNe rfl ?_ | refine GQ.inRet ?_ | refine GQ.loopExit ?_ | refine GQ.loopRet ?_ | refine GQ.cutExit ?_ | refine GQ.cutRet ?_))
    refine GQ.ret1 (by first | exact .inl rfl | exact .inr rfl) rfl rfl ?_
    exact ⟨by congr 1; rw [decide_eq_decide]; omega, rfl⟩
  · have h0' := of_decide_eq_false h0
    (repeat (first | (refine GX.pure rfl ?_; first | refine GO.move rfl rfl rfl rfl ?_ | refine GO.assign rfl rfl rfl rfl ?_ | refine GO.lss rfl rfl rfl rfl rfl ?_ | refine GO.gtr rfl rfl rfl rfl rfl ?_ | refine GO.pickT rfl rfl rfl rfl rfl ?_ | refine GO.pickF rfl rfl rfl rfl rfl ?_ | refine GO.skip (.inl rfl) rfl rfl ?_) | (refine GX.eff rfl ?_; refine GO.skip (.inr rfl) rfl rfl ?_) | (refine GX.read rfl ?_; refine GO.skipRead (by assumption) rfl rfl ?_)))
    (repeat (first | refine GX.doneD ?_ | refine GX.done ?_ | refine GQ.goNormal ?_ | refine GC.seq ?_ | refine GC.skip ?_ | refine GC.block ?_ | refine GC.exit ?_ | refine GC.ret ?_ | refine GQ.goExit ?_ | refine GQ.goRet ?_ | refine GQ.inNormal ?_ | refine GQ.inExit ?_ | refine GQ.inExitNe rfl ?_ | refine GQ.inRet ?_ | refine GQ.loopExit ?_ | refine GQ.loopRet ?_ | refine GQ.cutExit ?_ | refine GQ.cutRet ?_))
    refine GQ.ret1 (by first | exact .inl rfl | exact .inr rfl) rfl rfl ?_
    exact ⟨by congr 1; symm; rw [decide_eq_false_iff_not]; omega, rfl⟩

/-- The state of the codec that has written a command. -/
def written (c : Cmd) : St := (doParts (⟨false, [], false⟩, c)).1
/-- Whether a command may be written. -/
def canW (c : Cmd) : Bool := decide ((0 < c.op ∧ c.op < 16) ∧ c.value.length ≤ 65536 ∧ (written c).bad = false ∧ readC c.op.toNat (written c).data = (c, 0))

theorem written_len (c : Cmd) : (written c).data.length ≤ csize c := by
  have := (doParts_w (⟨false, [], false⟩, c) rfl).2.2
  simpa [written] using this

def WroteC (w : World) (c : Cmd) (v : Value) (w' : World) : Prop :=
  (if canW c then ∃ a k, v = .tuple #[.agg [.int .u8 c.op.toNat, .slice a (written c).data.length k].toArray, .int .i64 0] ∧ BytesAt w' a k (written c).data
  else v = .tuple #[.agg [.int .u8 0, .slice none 0 0].toArray, .int .i64 2]) ∧ Ext w w'

set_option maxHeartbeats 4000000 in
theorem writeC_ret (c : Cmd) (hc : OkC c) (l : List Value) (B : Nat) (w : World) (hV : CmdV w B l c) :
    Ret Try.prog 31 [.agg l.toArray].toArray w (WroteC w c) := by
  have hone := hV.one
  have hlen := hV.length
  obtain ⟨ka, kc, va, vc, ta, tc, rfl, hK, hA, hT, hX⟩ := hV
  have hsz := hc.size
  have hsm := hc.small
  have hvl : c.value.length < 2 ^ 30 := hsm.value
  
  refine Ret.enter Try.func31 rfl Try.ntmps31 rfl ?_
  (repeat (first | refine GX.doneD ?_ | refine GX.done ?_ | refine GQ.goNormal ?_ | refine GC.seq ?_ | refine GC.skip ?_ | refine GC.block ?_ | refine GC.exit ?_ | refine GC.ret ?_ | refine GQ.goExit ?_ | refine GQ.goRet ?_ | refine GQ.inNormal ?_ | refine GQ.inExit ?_ | refine GQ.inExitNe rfl ?_ | refine GQ.inRet ?_ | refine GQ.loopExit ?_ | refine GQ.loopRet ?_ | refine GQ.cutExit ?_ | refine GQ.cutRet ?_))
  refine GC.region (.eff 0 (.eff 1 (.pure 2 .done))) rfl ?_
  refine GX.eff rfl ?_
  refine GO.box (l := cmdCells c ka kc va vc ta tc) rfl rfl rfl rfl fun b1 w1 hb1 hB1 hE1 => ?_
  refine ⟨fun _ h => by first | trivial | exact Mod.trans h (Ext.mod (by assumption)), ?_⟩
  refine GX.eff rfl ?_
  refine GO.alloc rfl rfl fun b2 w2 hb2 hB2 hE2 => ?_
  refine ⟨fun _ h => by first | trivial | exact Mod.trans h (Ext.mod (by assumption)), ?_⟩
  (repeat (refine GX.pure rfl ?_; refine GO.assign rfl rfl rfl rfl ?_))
  (repeat (first | refine GX.doneD ?_ | refine GX.done ?_ | refine GQ.goNormal ?_ | refine GC.seq ?_ | refine GC.skip ?_ | refine GC.block ?_ | refine GC.exit ?_ | refine GC.ret ?_ | refine GQ.goExit ?_ | refine GQ.goRet ?_ | refine GQ.inNormal ?_ | refine GQ.inExit ?_ | refine GQ.inExitNe rfl ?_ | refine GQ.inRet ?_ | refine GQ.loopExit ?_ | refine GQ.loopRet ?_ | refine GQ.cutExit ?_ | refine GQ.cutRet ?_))
  have hB1' := hB1.ext hE2
  have hE12 := hE1.trans hE2
  have fail : ∀ (w' w'' : World), Ext w2 w' → Put w' w'' b2 0 [.int .u8 0, .slice none 0 0] → Blk w'' b2 [.int .u8 0, .slice none 0 0] ∧ Ext w w'' := fun w' w'' hx hp =>
    ⟨by have := hp.blk (hB2.ext hx); simpa using this, (hE12.trans hx).then hp.mod fun i hi h => by have := hE1.size; omega⟩
  refine GC.cut (X := Bool) (fun z => [(1, .pointer (some ⟨b1, 0, none⟩)), (2, .pointer (some ⟨b2, 0, none⟩)), (17, .bool z)]) (fun z w' => w2 = w' ∧ z = decide (¬ (0 < c.op ∧ c.op < 16) ∨ 65536 < c.value.length)) ?_ ?_
  · refine GC.region (.pure 0 (.eff 1 (.eff 2 (.pure 3 (.pure 4 (.pure 5 (.eff 6 (.pure 7 (.pure 8 (.pure 9 .done)))))))))) rfl ?_
    (repeat (refine GX.pure rfl ?_; first | refine GO.move rfl rfl rfl rfl ?_ | refine GO.fieldAddr rfl rfl rfl rfl rfl ?_ | refine GO.lenSlice rfl rfl rfl rfl ?_ | refine GO.gtr rfl rfl rfl rfl rfl ?_ | refine GO.pickT rfl rfl rfl rfl rfl ?_ | refine GO.pickF rfl rfl rfl rfl rfl ?_ | refine GO.not rfl rfl rfl rfl ?_ | refine GO.skip (.inl rfl) rfl rfl ?_))
    (first | (refine GX.eff rfl ?_; first | refine GO.load1 (hB1'.get (o := 0 + 0) rfl) rfl rfl rfl ?_ | refine GO.loadN (hB1'.get (o := 0 + 0) rfl) rfl rfl rfl rfl ?_) | (refine GX.read rfl ?_; first | refine GO.load1R (by assumption) (fun _ hS_ => At.mod (hB1'.get (o := 0 + 0) rfl) hS_ (by simp)) rfl rfl rfl ?_ | refine GO.loadNR (by assumption) (fun _ hS_ => At.mod (hB1'.get (o := 0 + 0) rfl) hS_ (by simp)) rfl rfl rfl rfl ?_))
    (refine GX.eff rfl ?_; refine GO.callL rfl rfl rfl rfl rfl (valid_ret c.op hc.op w2) ?_)
    rintro v w3 ⟨rfl, rfl⟩
    refine ⟨fun _ h => by first | trivial | exact Mod.trans h (Ext.mod (by assumption)), ?_⟩
    (repeat (refine GX.pure rfl ?_; first | refine GO.move rfl rfl rfl rfl ?_ | refine GO.fieldAddr rfl rfl rfl rfl rfl ?_ | refine GO.lenSlice rfl rfl rfl rfl ?_ | refine GO.gtr rfl rfl rfl rfl rfl ?_ | refine GO.pickT rfl rfl rfl rfl rfl ?_ | refine GO.pickF rfl rfl rfl rfl rfl ?_ | refine GO.not rfl rfl rfl rfl ?_ | refine GO.skip (.inl rfl) rfl rfl ?_))
    refine GX.case 12 rfl (fun h0 => ?_) (fun h0 => ?_)
    · (repeat (first | (refine GX.pure rfl ?_; first | refine GO.move rfl rfl rfl rfl ?_ | refine GO.fieldAddr rfl rfl rfl rfl rfl ?_ | refine GO.lenSlice rfl rfl rfl rfl ?_ | refine GO.gtr rfl rfl rfl rfl rfl ?_ | refine GO.pickT rfl rfl rfl rfl rfl ?_ | refine GO.pickF rfl rfl rfl rfl rfl ?_ | refine GO.not rfl rfl rfl rfl ?_ | refine GO.skip (.inl rfl) rfl rfl ?_) | (refine GX.eff rfl ?_; refine GO.skip (.inr rfl) rfl rfl ?_) | (refine GX.read rfl ?_; refine GO.skipRead (by assumption) rfl rfl ?_)))
      (repeat (first | refine GX.doneD ?_ | refine GX.done ?_ | refine GQ.goNormal ?_ | refine GC.seq ?_ | refine GC.skip ?_ | refine GC.block ?_ | refine GC.exit ?_ | refine GC.ret ?_ | refine GQ.goExit ?_ | refine GQ.goRet ?_ | refine GQ.inNormal ?_ | refine GQ.inExit ?_ | refine GQ.inExitNe rfl ?_ | refine GQ.inRet ?_ | refine GQ.loopExit ?_ | refine GQ.loopRet ?_ | refine GQ.cutExit ?_ | refine GQ.cutRet ?_))
      exact GQ.cutNormal _ (sub_pick (l := [1, 2, 17]) rfl) ⟨rfl, by
        have h0' : ¬ (0 < c.op ∧ c.op < 16) := by intro hx; simp [hx.1, hx.2] at h0
        symm; rw [decide_eq_true_eq]; exact .inl h0'⟩
    · have h0' : 0 < c.op ∧ c.op < 16 := by simpa using h0
      (repeat (refine GX.pure rfl ?_; first | refine GO.move rfl rfl rfl rfl ?_ | refine GO.fieldAddr rfl rfl rfl rfl rfl ?_ | refine GO.lenSlice rfl rfl rfl rfl ?_ | refine GO.gtr rfl rfl rfl rfl rfl ?_ | refine GO.pickT rfl rfl rfl rfl rfl ?_ | refine GO.pickF rfl rfl rfl rfl rfl ?_ | refine GO.not rfl rfl rfl rfl ?_ | refine GO.skip (.inl rfl) rfl rfl ?_))
      (first | (refine GX.eff rfl ?_; first | refine GO.load1 (hB1'.get (o := 0 + 3) rfl) rfl rfl rfl ?_ | refine GO.loadN (hB1'.get (o := 0 + 3) rfl) rfl rfl rfl rfl ?_) | (refine GX.read rfl ?_; first | refine GO.load1R (by assumption) (fun _ hS_ => At.mod (hB1'.get (o := 0 + 3) rfl) hS_ (by simp)) rfl rfl rfl ?_ | refine GO.loadNR (by assumption) (fun _ hS_ => At.mod (hB1'.get (o := 0 + 3) rfl) hS_ (by simp)) rfl rfl rfl rfl ?_))
      (repeat (refine GX.pure rfl ?_; first | refine GO.move rfl rfl rfl rfl ?_ | refine GO.fieldAddr rfl rfl rfl rfl rfl ?_ | refine GO.lenSlice rfl rfl rfl rfl ?_ | refine GO.gtr rfl rfl rfl rfl rfl ?_ | refine GO.pickT rfl rfl rfl rfl rfl ?_ | refine GO.pickF rfl rfl rfl rfl rfl ?_ | refine GO.not rfl rfl rfl rfl ?_ | refine GO.skip (.inl rfl) rfl rfl ?_))
      (repeat (first | refine GX.doneD ?_ | refine GX.done ?_ | refine GQ.goNormal ?_ | refine GC.seq ?_ | refine GC.skip ?_ | refine GC.block ?_ | refine GC.exit ?_ | refine GC.ret ?_ | refine GQ.goExit ?_ | refine GQ.goRet ?_ | refine GQ.inNormal ?_ | refine GQ.inExit ?_ | refine GQ.inExitNe rfl ?_ | refine GQ.inRet ?_ | refine GQ.loopExit ?_ | refine GQ.loopRet ?_ | refine GQ.cutExit ?_ | refine GQ.cutRet ?_))
      exact GQ.cutNormal _ (sub_pick (l := [1, 2, 17]) rfl) ⟨rfl, by rw [decide_eq_decide]; omega⟩
  rintro z _ ⟨rfl, rfl⟩
  (repeat (first | refine GX.doneD ?_ | refine GX.done ?_ | refine GQ.goNormal ?_ | refine GC.seq ?_ | refine GC.skip ?_ | refine GC.block ?_ | refine GC.exit ?_ | refine GC.ret ?_ | refine GQ.goExit ?_ | refine GQ.goRet ?_ | refine GQ.inNormal ?_ | refine GQ.inExit ?_ | refine GQ.inExitNe rfl ?_ | refine GQ.inRet ?_ | refine GQ.loopExit ?_ | refine GQ.loopRet ?_ | refine GQ.cutExit ?_ | refine GQ.cutRet ?_))
  refine GC.cond rfl (fun hh => ?_) (fun hh => ?_)
  · have hh' := of_decide_eq_true hh
    have hcw : canW c = false := by unfold canW; rw [decide_eq_false_iff_not]; omega
    (repeat (first | refine GX.doneD ?_ | refine GX.done ?_ | refine GQ.goNormal ?_ | refine GC.seq ?_ | refine GC.skip ?_ | refine GC.block ?_ | refine GC.exit ?_ | refine GC.ret ?_ | refine GQ.goExit ?_ | refine GQ.goRet ?_ | refine GQ.inNormal ?_ | refine GQ.inExit ?_ | refine GQ.inExitNe rfl ?_ | refine GQ.inRet ?_ | refine GQ.loopExit ?_ | refine GQ.loopRet ?_ | refine GQ.cutExit ?_ | refine GQ.cutRet ?_))
    refine GC.region (.pure 0 (.eff 1 (.pure 2 .done))) rfl ?_
    refine GX.pure rfl ?_
    refine GO.build (out := [.int .u8 0, .slice none 0 0]) rfl (by kernel_rfl) (by kernel_rfl) rfl rfl rfl rfl ?_
    refine GX.eff rfl ?_
    refine GO.store (vs := [.int .u8 0, .slice none 0 0]) (hB2.wr (by simp)) rfl rfl (by simp [Value.oneCell']) rfl rfl rfl fun w3 hp => ⟨(by first | exact fun _ _ => trivial | exact late_abs (by kernel_rfl)), ?_⟩
    (repeat (refine GX.pure rfl ?_; refine GO.assign rfl rfl rfl rfl ?_))
    (repeat (first | refine GX.doneD ?_ | refine GX.done ?_ | refine GQ.goNormal ?_ | refine GC.seq ?_ | refine GC.skip ?_ | refine GC.block ?_ | refine GC.exit ?_ | refine GC.ret ?_ | refine GQ.goExit ?_ | refine GQ.goRet ?_ | refine GQ.inNormal ?_ | refine GQ.inExit ?_ | refine GQ.inExitNe rfl ?_ | refine GQ.inRet ?_ | refine GQ.loopExit ?_ | refine GQ.loopRet ?_ | refine GQ.cutExit ?_ | refine GQ.cutRet ?_))
    obtain ⟨hb, he⟩ := fail w2 w3 (Mod.refl _) hp
    refine GQ.retC1 (l := [.int .u8 0, .slice none 0 0]) (.inl rfl) rfl rfl rfl hb.at rfl ?_
    unfold WroteC
    rw [hcw]
    exact ⟨rfl, he⟩
  have hh' := of_decide_eq_false hh
  have hop : 0 < c.op ∧ c.op < 16 := by omega
  have hvl' : c.value.length ≤ 65536 := by omega
  (repeat (first | refine GX.doneD ?_ | refine GX.done ?_ | refine GQ.goNormal ?_ | refine GC.seq ?_ | refine GC.skip ?_ | refine GC.block ?_ | refine GC.exit ?_ | refine GC.ret ?_ | refine GQ.goExit ?_ | refine GQ.goRet ?_ | refine GQ.inNormal ?_ | refine GQ.inExit ?_ | refine GQ.inExitNe rfl ?_ | refine GQ.inRet ?_ | refine GQ.loopExit ?_ | refine GQ.loopRet ?_ | refine GQ.cutExit ?_ | refine GQ.cutRet ?_))
  refine GC.region (.pure 0 (.eff 1 (.eff 2 .done))) rfl ?_
  refine GX.pure rfl ?_
  refine GO.build (out := [.pointer (some ⟨b1, 0, none⟩), .pointer none, .slice none 0 0, .bool false]) rfl (by kernel_rfl) (by kernel_rfl) rfl rfl rfl rfl ?_
  refine GX.eff rfl ?_
  refine GO.alloc rfl rfl fun b4 w3 hb4 hB4 hE3 => ?_
  refine ⟨fun _ h => by first | trivial | exact Mod.trans h (Ext.mod (by assumption)), ?_⟩
  refine GX.eff rfl ?_
  refine GO.store (vs := [.pointer (some ⟨b1, 0, none⟩), .pointer none, .slice none 0 0, .bool false]) (hB4.wr (by simp)) rfl rfl (by simp [Value.oneCell']) rfl rfl rfl fun w4 hp4 => ⟨(by first | exact fun _ _ => trivial | exact late_abs (by kernel_rfl)), ?_⟩
  have hX4 : Blk w4 b4 [.pointer (some ⟨b1, 0, none⟩), .pointer none, .slice none 0 0, .bool false] := by have := hp4.blk hB4; simpa using this
  have hE4 : Ext w2 w4 := hE3.then hp4.mod fun i hi h => by omega
  have hB14 := hB1'.ext hE4
  have hE14 := hE12.trans hE4
  have s1 := hE1.size
  have s2 := hE2.size
  have s4 := hE4.size
  have hb1l := hB14.lt
  have hb4l := hX4.lt
  have hb2l := hB2.lt
  have hPX : PX 0 w4 b4 b1 b4 none (⟨false, [], false⟩, c) := by
    refine ⟨Nat.zero_le _, ⟨⟨by omega, by omega, by simp, hb1l, hb4l, by simp⟩, none, 0, hX4, BytesAt.none _, by simp⟩, ?_⟩
    refine ⟨ka, kc, va, vc, ta, tc, hB14, hK.mod hE14 (by simp), hA.ext hE14, hT.mod hE14 (by simp), fun y hy h => ?_⟩
    have hlt : y.block < w.heap.size := by
      rcases hy with ⟨h, hn⟩ | ⟨h, hn⟩ | ⟨h, hn⟩
      · exact hK.lt y h hn
      · exact hA.lt y h hn
      · exact hT.lt y h hn
    rcases h with ((h | h) | h) | h <;> omega
  (repeat (first | refine GX.doneD ?_ | refine GX.done ?_ | refine GQ.goNormal ?_ | refine GC.seq ?_ | refine GC.skip ?_ | refine GC.block ?_ | refine GC.exit ?_ | refine GC.ret ?_ | refine GQ.goExit ?_ | refine GQ.goRet ?_ | refine GQ.inNormal ?_ | refine GQ.inExit ?_ | refine GQ.inExitNe rfl ?_ | refine GQ.inRet ?_ | refine GQ.loopExit ?_ | refine GQ.loopRet ?_ | refine GQ.cutExit ?_ | refine GQ.cutRet ?_))
  refine GC.region (.eff 0 .done) rfl ?_
  (refine GX.eff rfl ?_; refine GO.callL rfl rfl rfl rfl rfl (parts_ret 0 b4 b1 b4 none (⟨false, [], false⟩, c) w4 hPX hsm (by simp) (by simp)) ?_)
  rintro v w5 ⟨rfl, h5, hM5⟩
  refine ⟨fun _ h => by first | trivial | exact Mod.trans h (Ext.mod (by assumption)), ?_⟩
  obtain ⟨hc5, hr5, hl5⟩ := doParts_w (⟨false, [], false⟩, c) rfl
  have hlen5 := written_len c
  have hst : (doParts (⟨false, [], false⟩, c)) = (⟨false, (written c).data, (written c).bad⟩, c) := by
    have h1 : (doParts (⟨false, [], false⟩, c)).1 = written c := rfl
    have h2 : (written c).read = false := hr5
    have h3 : doParts (⟨false, [], false⟩, c) = (written c, c) := Prod.ext h1 hc5
    rw [h3, ← h2]
  rw [hst] at h5
  clear hc5 hr5 hl5 hst
  have hcw : canW c = decide ((written c).bad = false ∧ readC c.op.toNat (written c).data = (c, 0)) := by
    unfold canW
    rw [decide_eq_decide]
    exact ⟨fun h => h.2.2, fun h => ⟨hop, hvl', h⟩⟩
  generalize hwr : (written c) = y at *
  obtain ⟨rd, data, bad⟩ := y
  dsimp only at h5 hcw hlen5
  obtain ⟨_, ⟨_, oa, oc, hX5, hO5, hOx⟩, hC5⟩ := h5
  dsimp only at hX5 hO5
  obtain ⟨ka', kc', va', vc', ta', tc', hbc5, hK5, hV5, hT5, hX5'⟩ := hC5
  dsimp only at hbc5 hK5 hV5 hT5
  have hE5 : Ext w w5 := hE14.then hM5 fun i hi h => by
    rcases h with (h | h) | h
    · omega
    · omega
    · omega
  have hB25 : Blk w5 b2 [.int .u8 0, .slice none 0 0] := (hB2.ext hE4).mod hM5 (by have := hB1.lt; rintro ((h | h) | h) <;> omega)
  have hq : ((c.op.toNat : Nat) : Int) = c.op := by omega
  have s5 := hM5.size
  (repeat (first | refine GX.doneD ?_ | refine GX.done ?_ | refine GQ.goNormal ?_ | refine GC.seq ?_ | refine GC.skip ?_ | refine GC.block ?_ | refine GC.exit ?_ | refine GC.ret ?_ | refine GQ.goExit ?_ | refine GQ.goRet ?_ | refine GQ.inNormal ?_ | refine GQ.inExit ?_ | refine GQ.inExitNe rfl ?_ | refine GQ.inRet ?_ | refine GQ.loopExit ?_ | refine GQ.loopRet ?_ | refine GQ.cutExit ?_ | refine GQ.cutRet ?_))
  refine GC.region (.pure 0 (.eff 1 (.pure 2 (.pure 3 (.eff 4 (.pure 5 (.eff 6 (.eff 7 .done)))))))) rfl ?_
  (repeat (refine GX.pure rfl ?_; first | refine GO.fieldAddr rfl rfl rfl rfl rfl ?_ | refine GO.conv rfl rfl rfl rfl (wrapIn (by dsimp only [InK]; omega)) ?_ | refine GO.convStr rfl rfl rfl rfl ?_))
  (first | (refine GX.eff rfl ?_; first | refine GO.load1 (hbc5.get (o := 0 + 0) rfl) rfl rfl rfl ?_ | refine GO.loadN (hbc5.get (o := 0 + 0) rfl) rfl rfl rfl rfl ?_) | (refine GX.read rfl ?_; first | refine GO.load1R (by assumption) (fun _ hS_ => At.mod (hbc5.get (o := 0 + 0) rfl) hS_ (by simp)) rfl rfl rfl ?_ | refine GO.loadNR (by assumption) (fun _ hS_ => At.mod (hbc5.get (o := 0 + 0) rfl) hS_ (by simp)) rfl rfl rfl rfl ?_))
  refine GX.pure rfl (GO.conv rfl rfl rfl rfl (show _ = ((c.op.toNat : Nat) : Int) from by rw [hq]; exact wrapIn (by dsimp only [InK]; omega)) ?_)
  (repeat (refine GX.pure rfl ?_; first | refine GO.fieldAddr rfl rfl rfl rfl rfl ?_ | refine GO.conv rfl rfl rfl rfl (wrapIn (by dsimp only [InK]; omega)) ?_ | refine GO.convStr rfl rfl rfl rfl ?_))
  (first | (refine GX.eff rfl ?_; first | refine GO.load1 (hX5.get (o := 0 + 2) rfl) rfl rfl rfl ?_ | refine GO.loadN (hX5.get (o := 0 + 2) rfl) rfl rfl rfl rfl ?_) | (refine GX.read rfl ?_; first | refine GO.load1R (by assumption) (fun _ hS_ => At.mod (hX5.get (o := 0 + 2) rfl) hS_ (by simp)) rfl rfl rfl ?_ | refine GO.loadNR (by assumption) (fun _ hS_ => At.mod (hX5.get (o := 0 + 2) rfl) hS_ (by simp)) rfl rfl rfl rfl ?_))
  refine GX.pure rfl ?_
  refine GO.build (out := [.int .u8 c.op.toNat, .slice oa data.length oc]) rfl (by kernel_rfl) (by kernel_rfl) rfl rfl rfl rfl ?_
  refine GX.eff rfl ?_
  refine GO.alloc rfl rfl fun b5 w6 hb5 hB5 hE6 => ?_
  refine ⟨fun _ h => by first | trivial | exact Mod.trans h (Ext.mod (by assumption)), ?_⟩
  refine GX.eff rfl ?_
  refine GO.store (vs := [.int .u8 c.op.toNat, .slice oa data.length oc]) (hB5.wr (by simp)) rfl rfl (by simp [Value.oneCell']) rfl rfl rfl fun w7 hp7 => ⟨(by first | exact fun _ _ => trivial | exact late_abs (by kernel_rfl)), ?_⟩
  have hE7 : Ext w5 w7 := hE6.then hp7.mod fun i hi h => by omega
  have hF7 : Blk w7 b5 [.int .u8 c.op.toNat, .slice oa data.length oc] := by have := hp7.blk hB5; simpa using this
  have s7 := hE7.size
  (repeat (first | refine GX.doneD ?_ | refine GX.done ?_ | refine GQ.goNormal ?_ | refine GC.seq ?_ | refine GC.skip ?_ | refine GC.block ?_ | refine GC.exit ?_ | refine GC.ret ?_ | refine GQ.goExit ?_ | refine GQ.goRet ?_ | refine GQ.inNormal ?_ | refine GQ.inExit ?_ | refine GQ.inExitNe rfl ?_ | refine GQ.inRet ?_ | refine GQ.loopExit ?_ | refine GQ.loopRet ?_ | refine GQ.cutExit ?_ | refine GQ.cutRet ?_))
  refine GC.region (.eff 0 (.eff 1 (.pure 2 (.pure 3 (.pure 4 (.eff 5 (.eff 6 (.pure 7 .done)))))))) rfl ?_
  (first | (refine GX.eff rfl ?_; first | refine GO.load1 (hF7.at) rfl rfl rfl ?_ | refine GO.loadN (hF7.at) rfl rfl rfl rfl ?_) | (refine GX.read rfl ?_; first | refine GO.load1R (by assumption) (fun _ hS_ => At.mod (hF7.at) hS_ (by simp)) rfl rfl rfl ?_ | refine GO.loadNR (by assumption) (fun _ hS_ => At.mod (hF7.at) hS_ (by simp)) rfl rfl rfl rfl ?_))
  (refine GX.eff rfl ?_; refine GO.callL rfl rfl rfl rfl rfl (readC_ret c.op.toNat (by omega) data _ rfl (by omega) oa oc w7 (hO5.ext hE7)) ?_)
  rintro v w8 ⟨la, rfl, hV8, hE8⟩
  refine ⟨fun _ h => by first | trivial | exact Mod.trans h (Ext.mod (by assumption)), ?_⟩
  (repeat (refine GX.pure rfl ?_; first | refine GO.move rfl rfl rfl rfl ?_ | refine GO.assign rfl rfl rfl rfl ?_ | refine GO.extract rfl rfl rfl rfl rfl ?_))
  refine GX.eff rfl ?_
  refine GO.alloc rfl rfl fun b6 w9 hb6 hB6 hE9 => ?_
  refine ⟨fun _ h => by first | trivial | exact Mod.trans h (Ext.mod (by assumption)), ?_⟩
  refine GX.eff rfl ?_
  refine GO.store (vs := la) (hB6.wr (by simp)) rfl hV8.length hV8.one rfl rfl rfl fun w10 hp10 => ⟨(by first | exact fun _ _ => trivial | exact late_abs (by kernel_rfl)), ?_⟩
  have hE10 : Ext w8 w10 := hE9.then hp10.mod fun i hi h => by omega
  have hA10 : Blk w10 b6 la := by have := hp10.blk hB6; simpa [hV8.length] using this
  have hE5x : Ext w5 w10 := (hE7.trans hE8).trans hE10
  have hbc10 := hbc5.ext hE5x
  have hX10 := hX5.ext hE5x
  have hB210 := hB25.ext hE5x
  have hF10 := (hF7.ext hE8).ext hE10
  have hV10 := hV8.ext hE10
  have hr10 := readC_r c.op.toNat data
  (repeat (refine GX.pure rfl ?_; first | refine GO.move rfl rfl rfl rfl ?_ | refine GO.assign rfl rfl rfl rfl ?_ | refine GO.extract rfl rfl rfl rfl rfl ?_))
  (repeat (first | refine GX.doneD ?_ | refine GX.done ?_ | refine GQ.goNormal ?_ | refine GC.seq ?_ | refine GC.skip ?_ | refine GC.block ?_ | refine GC.exit ?_ | refine GC.ret ?_ | refine GQ.goExit ?_ | refine GQ.goRet ?_ | refine GQ.inNormal ?_ | refine GQ.inExit ?_ | refine GQ.inExitNe rfl ?_ | refine GQ.inRet ?_ | refine GQ.loopExit ?_ | refine GQ.loopRet ?_ | refine GQ.cutExit ?_ | refine GQ.cutRet ?_))
  refine GC.cut (X := Bool) (fun z => [(2, .pointer (some ⟨b2, 0, none⟩)), (5, .pointer (some ⟨b5, 0, none⟩)), (43, .bool z)]) (fun z w' => Ext w10 w' ∧ z = !canW c) ?_ ?_
  · refine GC.region (.pure 0 (.eff 1 (.pure 2 (.pure 3 (.pure 4 (.pure 5 (.pure 6 (.eff 7 (.eff 8 (.eff 9 (.pure 10 (.pure 11 .done)))))))))))) rfl ?_
    (repeat (refine GX.pure rfl ?_; first | refine GO.move rfl rfl rfl rfl ?_ | refine GO.fieldAddr rfl rfl rfl rfl rfl ?_ | refine GO.neq rfl rfl rfl rfl rfl ?_ | refine GO.pickT rfl rfl rfl rfl rfl ?_ | refine GO.pickF rfl rfl rfl rfl rfl ?_ | refine GO.not rfl rfl rfl rfl ?_ | refine GO.skip (.inl rfl) rfl rfl ?_))
    (first | (refine GX.eff rfl ?_; first | refine GO.load1 (hX10.get (o := 0 + 3) rfl) rfl rfl rfl ?_ | refine GO.loadN (hX10.get (o := 0 + 3) rfl) rfl rfl rfl rfl ?_) | (refine GX.read rfl ?_; first | refine GO.load1R (by assumption) (fun _ hS_ => At.mod (hX10.get (o := 0 + 3) rfl) hS_ (by simp)) rfl rfl rfl ?_ | refine GO.loadNR (by assumption) (fun _ hS_ => At.mod (hX10.get (o := 0 + 3) rfl) hS_ (by simp)) rfl rfl rfl rfl ?_))
    (repeat (refine GX.pure rfl ?_; first | refine GO.move rfl rfl rfl rfl ?_ | refine GO.fieldAddr rfl rfl rfl rfl rfl ?_ | refine GO.neq rfl rfl rfl rfl rfl ?_ | refine GO.pickT rfl rfl rfl rfl rfl ?_ | refine GO.pickF rfl rfl rfl rfl rfl ?_ | refine GO.not rfl rfl rfl rfl ?_ | refine GO.skip (.inl rfl) rfl rfl ?_))
    refine GX.case 34 rfl (fun hb => ?_) (fun hb => ?_)
    · (repeat (first | (refine GX.pure rfl ?_; first | refine GO.move rfl rfl rfl rfl ?_ | refine GO.fieldAddr rfl rfl rfl rfl rfl ?_ | refine GO.neq rfl rfl rfl rfl rfl ?_ | refine GO.pickT rfl rfl rfl rfl rfl ?_ | refine GO.pickF rfl rfl rfl rfl rfl ?_ | refine GO.not rfl rfl rfl rfl ?_ | refine GO.skip (.inl rfl) rfl rfl ?_) | (refine GX.eff rfl ?_; refine GO.skip (.inr rfl) rfl rfl ?_) | (refine GX.read rfl ?_; refine GO.skipRead (by assumption) rfl rfl ?_)))
      (repeat (first | refine GX.doneD ?_ | refine GX.done ?_ | refine GQ.goNormal ?_ | refine GC.seq ?_ | refine GC.skip ?_ | refine GC.block ?_ | refine GC.exit ?_ | refine GC.ret ?_ | refine GQ.goExit ?_ | refine GQ.goRet ?_ | refine GQ.inNormal ?_ | refine GQ.inExit ?_ | refine GQ.inExitNe rfl ?_ | refine GQ.inRet ?_ | refine GQ.loopExit ?_ | refine GQ.loopRet ?_ | refine GQ.cutExit ?_ | refine GQ.cutRet ?_))
      exact GQ.cutNormal _ (sub_pick (l := [2, 5, 43]) rfl) ⟨Mod.refl _, by rw [hcw]; simp [hb]⟩
    (repeat (refine GX.pure rfl ?_; first | refine GO.move rfl rfl rfl rfl ?_ | refine GO.fieldAddr rfl rfl rfl rfl rfl ?_ | refine GO.neq rfl rfl rfl rfl rfl ?_ | refine GO.pickT rfl rfl rfl rfl rfl ?_ | refine GO.pickF rfl rfl rfl rfl rfl ?_ | refine GO.not rfl rfl rfl rfl ?_ | refine GO.skip (.inl rfl) rfl rfl ?_))
    refine GX.case 38 rfl (fun he => ?_) (fun he => ?_)
    · have he' := of_decide_eq_true he
      (repeat (first | (refine GX.pure rfl ?_; first | refine GO.move rfl rfl rfl rfl ?_ | refine GO.fieldAddr rfl rfl rfl rfl rfl ?_ | refine GO.neq rfl rfl rfl rfl rfl ?_ | refine GO.pickT rfl rfl rfl rfl rfl ?_ | refine GO.pickF rfl rfl rfl rfl rfl ?_ | refine GO.not rfl rfl rfl rfl ?_ | refine GO.skip (.inl rfl) rfl rfl ?_) | (refine GX.eff rfl ?_; refine GO.skip (.inr rfl) rfl rfl ?_) | (refine GX.read rfl ?_; refine GO.skipRead (by assumption) rfl rfl ?_)))
      (repeat (first | refine GX.doneD ?_ | refine GX.done ?_ | refine GQ.goNormal ?_ | refine GC.seq ?_ | refine GC.skip ?_ | refine GC.block ?_ | refine GC.exit ?_ | refine GC.ret ?_ | refine GQ.goExit ?_ | refine GQ.goRet ?_ | refine GQ.inNormal ?_ | refine GQ.inExit ?_ | refine GQ.inExitNe rfl ?_ | refine GQ.inRet ?_ | refine GQ.loopExit ?_ | refine GQ.loopRet ?_ | refine GQ.cutExit ?_ | refine GQ.cutRet ?_))
      exact GQ.cutNormal _ (sub_pick (l := [2, 5, 43]) rfl) ⟨Mod.refl _, by rw [hcw]; symm; rw [Bool.not_eq_true', decide_eq_false_iff_not]; rintro ⟨_, h⟩; rw [h] at he'; exact he' rfl⟩
    have he' : (readC c.op.toNat data).2 = 0 := by have := of_decide_eq_false he; simpa using this
    (repeat (refine GX.pure rfl ?_; first | refine GO.move rfl rfl rfl rfl ?_ | refine GO.fieldAddr rfl rfl rfl rfl rfl ?_ | refine GO.neq rfl rfl rfl rfl rfl ?_ | refine GO.pickT rfl rfl rfl rfl rfl ?_ | refine GO.pickF rfl rfl rfl rfl rfl ?_ | refine GO.not rfl rfl rfl rfl ?_ | refine GO.skip (.inl rfl) rfl rfl ?_))
    refine GX.eff rfl ?_
    refine GO.loadN hA10.at hV8.length rfl rfl rfl ?_
    (first | (refine GX.eff rfl ?_; first | refine GO.load1 (hbc10.at) rfl rfl rfl ?_ | refine GO.loadN (hbc10.at) rfl rfl rfl rfl ?_) | (refine GX.read rfl ?_; first | refine GO.load1R (by assumption) (fun _ hS_ => At.mod (hbc10.at) hS_ (by simp)) rfl rfl rfl ?_ | refine GO.loadNR (by assumption) (fun _ hS_ => At.mod (hbc10.at) hS_ (by simp)) rfl rfl rfl rfl ?_))
    (refine GX.eff rfl ?_; refine GO.callL rfl rfl rfl rfl rfl (equalC_ret (readC c.op.toNat data).1 c la _ w10 _ 0 hV10 ⟨ka', kc', va', vc', ta', tc', rfl, hK5.mod hE5x (by simp), hV5.ext hE5x, hT5.mod hE5x (by simp), by simp⟩ (by have := hr10.keys.1; omega) (by have := hr10.tags.1; omega)) ?_)
    rintro v w11 ⟨rfl, hE11⟩
    refine ⟨fun _ h => by first | trivial | exact Mod.trans h (Ext.mod (by assumption)), ?_⟩
    (repeat (refine GX.pure rfl ?_; first | refine GO.move rfl rfl rfl rfl ?_ | refine GO.fieldAddr rfl rfl rfl rfl rfl ?_ | refine GO.neq rfl rfl rfl rfl rfl ?_ | refine GO.pickT rfl rfl rfl rfl rfl ?_ | refine GO.pickF rfl rfl rfl rfl rfl ?_ | refine GO.not rfl rfl rfl rfl ?_ | refine GO.skip (.inl rfl) rfl rfl ?_))
    (repeat (first | refine GX.doneD ?_ | refine GX.done ?_ | refine GQ.goNormal ?_ | refine GC.seq ?_ | refine GC.skip ?_ | refine GC.block ?_ | refine GC.exit ?_ | refine GC.ret ?_ | refine GQ.goExit ?_ | refine GQ.goRet ?_ | refine GQ.inNormal ?_ | refine GQ.inExit ?_ | refine GQ.inExitNe rfl ?_ | refine GQ.inRet ?_ | refine GQ.loopExit ?_ | refine GQ.loopRet ?_ | refine GQ.cutExit ?_ | refine GQ.cutRet ?_))
    exact GQ.cutNormal _ (sub_pick (l := [2, 5, 43]) rfl) ⟨hE11, by rw [hcw]; simp [hb, Prod.ext_iff, he']⟩
  rintro z w11 ⟨hE11, rfl⟩
  have hB211 := hB210.ext hE11
  have hF11 := hF10.ext hE11
  have hE511 := hE5x.trans hE11
  have s8 := hE511.size
  have sE5 := hE5.size
  (repeat (first | refine GX.doneD ?_ | refine GX.done ?_ | refine GQ.goNormal ?_ | refine GC.seq ?_ | refine GC.skip ?_ | refine GC.block ?_ | refine GC.exit ?_ | refine GC.ret ?_ | refine GQ.goExit ?_ | refine GQ.goRet ?_ | refine GQ.inNormal ?_ | refine GQ.inExit ?_ | refine GQ.inExitNe rfl ?_ | refine GQ.inRet ?_ | refine GQ.loopExit ?_ | refine GQ.loopRet ?_ | refine GQ.cutExit ?_ | refine GQ.cutRet ?_))
  refine GC.cond rfl (fun hz => ?_) (fun hz => ?_)
  · have hz' : canW c = false := by simpa using hz
    (repeat (first | refine GX.doneD ?_ | refine GX.done ?_ | refine GQ.goNormal ?_ | refine GC.seq ?_ | refine GC.skip ?_ | refine GC.block ?_ | refine GC.exit ?_ | refine GC.ret ?_ | refine GQ.goExit ?_ | refine GQ.goRet ?_ | refine GQ.inNormal ?_ | refine GQ.inExit ?_ | refine GQ.inExitNe rfl ?_ | refine GQ.inRet ?_ | refine GQ.loopExit ?_ | refine GQ.loopRet ?_ | refine GQ.cutExit ?_ | refine GQ.cutRet ?_))
    refine GC.region (.pure 0 (.eff 1 (.pure 2 .done))) rfl ?_
    refine GX.pure rfl ?_
    refine GO.build (out := [.int .u8 0, .slice none 0 0]) rfl (by kernel_rfl) (by kernel_rfl) rfl rfl rfl rfl ?_
    refine GX.eff rfl ?_
    refine GO.store (vs := [.int .u8 0, .slice none 0 0]) (hB211.wr (by simp)) rfl rfl (by simp [Value.oneCell']) rfl rfl rfl fun w12 hp => ⟨(by first | exact fun _ _ => trivial | exact late_abs (by kernel_rfl)), ?_⟩
    (repeat (refine GX.pure rfl ?_; refine GO.assign rfl rfl rfl rfl ?_))
    (repeat (first | refine GX.doneD ?_ | refine GX.done ?_ | refine GQ.goNormal ?_ | refine GC.seq ?_ | refine GC.skip ?_ | refine GC.block ?_ | refine GC.exit ?_ | refine GC.ret ?_ | refine GQ.goExit ?_ | refine GQ.goRet ?_ | refine GQ.inNormal ?_ | refine GQ.inExit ?_ | refine GQ.inExitNe rfl ?_ | refine GQ.inRet ?_ | refine GQ.loopExit ?_ | refine GQ.loopRet ?_ | refine GQ.cutExit ?_ | refine GQ.cutRet ?_))
    have hb : Blk w12 b2 [.int .u8 0, .slice none 0 0] := by have := hp.blk hB211; simpa using this
    refine GQ.retC1 (l := [.int .u8 0, .slice none 0 0]) (.inl rfl) rfl rfl rfl hb.at rfl ?_
    unfold WroteC
    rw [hz']
    exact ⟨rfl, (hE5.trans hE511).then hp.mod fun i hi h => by omega⟩
  · have hz' : canW c = true := by simpa using hz
    (repeat (first | refine GX.doneD ?_ | refine GX.done ?_ | refine GQ.goNormal ?_ | refine GC.seq ?_ | refine GC.skip ?_ | refine GC.block ?_ | refine GC.exit ?_ | refine GC.ret ?_ | refine GQ.goExit ?_ | refine GQ.goRet ?_ | refine GQ.inNormal ?_ | refine GQ.inExit ?_ | refine GQ.inExitNe rfl ?_ | refine GQ.inRet ?_ | refine GQ.loopExit ?_ | refine GQ.loopRet ?_ | refine GQ.cutExit ?_ | refine GQ.cutRet ?_))
    refine GC.region (.eff 0 (.eff 1 (.pure 2 .done))) rfl ?_
    (first | (refine GX.eff rfl ?_; first | refine GO.load1 (hF11.at) rfl rfl rfl ?_ | refine GO.loadN (hF11.at) rfl rfl rfl rfl ?_) | (refine GX.read rfl ?_; first | refine GO.load1R (by assumption) (fun _ hS_ => At.mod (hF11.at) hS_ (by simp)) rfl rfl rfl ?_ | refine GO.loadNR (by assumption) (fun _ hS_ => At.mod (hF11.at) hS_ (by simp)) rfl rfl rfl rfl ?_))
    refine GX.eff rfl ?_
    refine GO.store (vs := [.int .u8 c.op.toNat, .slice oa data.length oc]) (hB211.wr (by simp)) rfl rfl (by simp [Value.oneCell']) rfl rfl rfl fun w12 hp => ⟨(by first | exact fun _ _ => trivial | exact late_abs (by kernel_rfl)), ?_⟩
    (repeat (refine GX.pure rfl ?_; refine GO.assign rfl rfl rfl rfl ?_))
    (repeat (first | refine GX.doneD ?_ | refine GX.done ?_ | refine GQ.goNormal ?_ | refine GC.seq ?_ | refine GC.skip ?_ | refine GC.block ?_ | refine GC.exit ?_ | refine GC.ret ?_ | refine GQ.goExit ?_ | refine GQ.goRet ?_ | refine GQ.inNormal ?_ | refine GQ.inExit ?_ | refine GQ.inExitNe rfl ?_ | refine GQ.inRet ?_ | refine GQ.loopExit ?_ | refine GQ.loopRet ?_ | refine GQ.cutExit ?_ | refine GQ.cutRet ?_))
    have hb : Blk w12 b2 [.int .u8 c.op.toNat, .slice oa data.length oc] := by have := hp.blk hB211; simpa using this
    refine GQ.retC1 (l := [.int .u8 c.op.toNat, .slice oa data.length oc]) (.inl rfl) rfl rfl rfl hb.at rfl ?_
    unfold WroteC
    rw [hz', if_pos rfl, hwr]
    exact ⟨⟨oa, oc, rfl, (hO5.ext hE511).mod hp.mod fun y hy h => by have := hOx y hy; omega⟩, (hE5.trans hE511).then hp.mod fun i hi h => by omega⟩

theorem validC_ret (c : Cmd) (hc : OkC c) (l : List Value) (B : Nat) (w : World) (hV : CmdV w B l c) :
    Ret Try.prog 30 [.agg l.toArray].toArray w fun v w' => v = .bool (canW c) ∧ Ext w w' := by
  have hlen := hV.length
  
  refine Ret.enter Try.func30 rfl Try.ntmps30 rfl ?_
  (repeat (first | refine GX.doneD ?_ | refine GX.done ?_ | refine GQ.goNormal ?_ | refine GC.seq ?_ | refine GC.skip ?_ | refine GC.block ?_ | refine GC.exit ?_ | refine GC.ret ?_ | refine GQ.goExit ?_ | refine GQ.goRet ?_ | refine GQ.inNormal ?_ | refine GQ.inExit ?_ | refine GQ.inExitNe rfl ?_ | refine GQ.inRet ?_ | refine GQ.loopExit ?_ | refine GQ.loopRet ?_ | refine GQ.cutExit ?_ | refine GQ.cutRet ?_))
  refine GC.region (.eff 0 (.pure 1 .done)) rfl ?_
  refine GX.eff rfl ?_
  refine GO.box (l := l) rfl rfl rfl rfl fun b1 w1 hb1 hB1 hE1 => ?_
  refine ⟨fun _ h => by first | trivial | exact Mod.trans h (Ext.mod (by assumption)), ?_⟩
  (repeat (refine GX.pure rfl ?_; refine GO.assign rfl rfl rfl rfl ?_))
  (repeat (first | refine GX.doneD ?_ | refine GX.done ?_ | refine GQ.goNormal ?_ | refine GC.seq ?_ | refine GC.skip ?_ | refine GC.block ?_ | refine GC.exit ?_ | refine GC.ret ?_ | refine GQ.goExit ?_ | refine GQ.goRet ?_ | refine GQ.inNormal ?_ | refine GQ.inExit ?_ | refine GQ.inExitNe rfl ?_ | refine GQ.inRet ?_ | refine GQ.loopExit ?_ | refine GQ.loopRet ?_ | refine GQ.cutExit ?_ | refine GQ.cutRet ?_))
  refine GC.region (.eff 0 (.eff 1 (.pure 2 (.pure 3 (.pure 4 (.eff 5 (.eff 6 (.pure 7 .done)))))))) rfl ?_
  refine GX.eff rfl ?_
  refine GO.loadN hB1.at hlen rfl rfl rfl ?_
  (refine GX.eff rfl ?_; refine GO.callL rfl rfl rfl rfl rfl (writeC_ret c hc l B w1 (hV.ext hE1)) ?_)
  rintro v w2 ⟨hW, hE2⟩
  refine ⟨fun _ h => by first | trivial | exact Mod.trans h (Ext.mod (by assumption)), ?_⟩
  have hW' : ∃ (m : List Value) (e : Int), v = .tuple #[.agg m.toArray, .int .i64 e] ∧ m.length = 2 ∧ (∀ u ∈ m, u.oneCell' = true) ∧ decide (e = 0) = canW c := by
    split at hW
    · rename_i h
      obtain ⟨a, k, h1, _⟩ := hW
      exact ⟨_, 0, h1, rfl, by simp [Value.oneCell'], by simp [h]⟩
    · rename_i h
      exact ⟨_, 2, hW, rfl, by simp [Value.oneCell'], by simp [h]⟩
  obtain ⟨m, e, rfl, hm1, hm2, he⟩ := hW'
  (repeat (refine GX.pure rfl ?_; first | refine GO.move rfl rfl rfl rfl ?_ | refine GO.assign rfl rfl rfl rfl ?_ | refine GO.extract rfl rfl rfl rfl rfl ?_))
  refine GX.eff rfl ?_
  refine GO.alloc rfl rfl fun b3 w3 hb3 hB3 hE3 => ?_
  refine ⟨fun _ h => by first | trivial | exact Mod.trans h (Ext.mod (by assumption)), ?_⟩
  refine GX.eff rfl ?_
  refine GO.store (vs := m) (hB3.wr (by simp)) rfl hm1 hm2 rfl rfl rfl fun w4 hp => ⟨(by first | exact fun _ _ => trivial | exact late_abs (by kernel_rfl)), ?_⟩
  (repeat (refine GX.pure rfl ?_; first | refine GO.move rfl rfl rfl rfl ?_ | refine GO.assign rfl rfl rfl rfl ?_ | refine GO.extract rfl rfl rfl rfl rfl ?_))
  (repeat (first | refine GX.doneD ?_ | refine GX.done ?_ | refine GQ.goNormal ?_ | refine GC.seq ?_ | refine GC.skip ?_ | refine GC.block ?_ | refine GC.exit ?_ | refine GC.ret ?_ | refine GQ.goExit ?_ | refine GQ.goRet ?_ | refine GQ.inNormal ?_ | refine GQ.inExit ?_ | refine GQ.inExitNe rfl ?_ | refine GQ.inRet ?_ | refine GQ.loopExit ?_ | refine GQ.loopRet ?_ | refine GQ.cutExit ?_ | refine GQ.cutRet ?_))
  refine GC.region (.pure 0 (.pure 1 (.pure 2 .done))) rfl ?_
  (repeat (refine GX.pure rfl ?_; first | refine GO.move rfl rfl rfl rfl ?_ | refine GO.assign rfl rfl rfl rfl ?_ | refine GO.eql rfl rfl rfl rfl rfl ?_))
  (repeat (first | refine GX.doneD ?_ | refine GX.done ?_ | refine GQ.goNormal ?_ | refine GC.seq ?_ | refine GC.skip ?_ | refine GC.block ?_ | refine GC.exit ?_ | refine GC.ret ?_ | refine GQ.goExit ?_ | refine GQ.goRet ?_ | refine GQ.inNormal ?_ | refine GQ.inExit ?_ | refine GQ.inExitNe rfl ?_ | refine GQ.inRet ?_ | refine GQ.loopExit ?_ | refine GQ.loopRet ?_ | refine GQ.cutExit ?_ | refine GQ.cutRet ?_))
  refine GQ.ret1 (by first | exact .inl rfl | exact .inr rfl) rfl rfl ?_
  rw [he]
  exact ⟨rfl, (hE1.trans hE2).trans (hE3.then hp.mod fun i hi h => by omega)⟩
end Go.Proofs.Ytahkglanddhncaa.V
