/-
  What a codec's functions for a value and for a list compute, in both modes (package request). Conditions: the lengths of what is read and made stay below 2^38; the blocks of the codec, the command, the reader and the variables are different ones.
-/
import Derived.Test.YtahkglanddhncaaWj
namespace Go.Proofs.Ytahkglanddhncaa.V
attribute [local irreducible] GX GO

def okValue (s : List UInt8) : Bool := decide (s.length ≤ 65536)
set_option maxHeartbeats 400000 in
theorem okValue_ret : Tells 64 okValue := by
  intro l w
  have hs := size_str l
  
  refine Ret.enter Try.func64 rfl Try.ntmps64 rfl ?_
  (repeat (first | refine GX.doneD ?_ | refine GX.done ?_ | refine GQ.goNormal ?_ | refine GC.seq ?_ | refine GC.skip ?_ | refine GC.block ?_ | refine GC.exit ?_ | refine GC.ret ?_ | refine GQ.goExit ?_ | refine GQ.goRet ?_ | refine GQ.inNormal ?_ | refine GQ.inExit ?_ | refine GQ.inExitNe rfl ?_ | refine GQ.inRet ?_ | refine GQ.loopExit ?_ | refine GQ.loopRet ?_ | refine GQ.cutExit ?_ | refine GQ.cutRet ?_))
  refine GC.region (.pure 0 .done) rfl ?_
  (repeat (refine GX.pure rfl ?_; refine GO.assign rfl rfl rfl rfl ?_))
  (repeat (first | refine GX.doneD ?_ | refine GX.done ?_ | refine GQ.goNormal ?_ | refine GC.seq ?_ | refine GC.skip ?_ | refine GC.block ?_ | refine GC.exit ?_ | refine GC.ret ?_ | refine GQ.goExit ?_ | refine GQ.goRet ?_ | refine GQ.inNormal ?_ | refine GQ.inExit ?_ | refine GQ.inExitNe rfl ?_ | refine GQ.inRet ?_ | refine GQ.loopExit ?_ | refine GQ.loopRet ?_ | refine GQ.cutExit ?_ | refine GQ.cutRet ?_))
  refine GC.region (.pure 0 (.pure 1 (.pure 2 (.pure 3 .done)))) rfl ?_
  (repeat (refine GX.pure rfl ?_; first | refine GO.move rfl rfl rfl rfl ?_ | refine GO.assign rfl rfl rfl rfl ?_ | refine GO.lenStr rfl rfl rfl rfl ?_ | refine GO.leq rfl rfl rfl rfl rfl ?_))
  (repeat (first | refine GX.doneD ?_ | refine GX.done ?_ | refine GQ.goNormal ?_ | refine GC.seq ?_ | refine GC.skip ?_ | refine GC.block ?_ | refine GC.exit ?_ | refine GC.ret ?_ | refine GQ.goExit ?_ | refine GQ.goRet ?_ | refine GQ.inNormal ?_ | refine GQ.inExit ?_ | refine GQ.inExitNe rfl ?_ | refine GQ.inRet ?_ | refine GQ.loopExit ?_ | refine GQ.loopRet ?_ | refine GQ.cutExit ?_ | refine GQ.cutRet ?_))
  refine GQ.ret1 (by first | exact .inl rfl | exact .inr rfl) rfl rfl ?_
  refine ⟨?_, Mod.refl _⟩
  congr 1
  unfold okValue
  rw [decide_eq_decide]; omega

set_option maxHeartbeats 1000000 in
theorem value_ret (B bx bc br : Nat) (ba : Option Nat) (st : St) (c : Cmd) (w : World) (hBw : B ≤ w.heap.size) (hC : Cx w bx bc br ba st) (hc : CmdAt w (Fx B bx br bc) bc c) (hl : st.data.length < 2 ^ 38) (hv : c.value.length < 2 ^ 38) :
    Ret Try.prog 56 [.pointer (some ⟨bx, 0, none⟩)].toArray w
      fun v w' => v = .tuple #[] ∧ Cx w' bx bc br ba (doValue st c.value).1 ∧ CmdAt w' (Fx B bx br bc) bc { c with value := (doValue st c.value).2 } ∧ Mod (Fc bx br bc) w w' := by
  have hc0 := hc
  have hC0 := hC
  obtain ⟨ka, kc, va, vc, ta, tc, hbc, h2, h3, h4, h5⟩ := hc
  obtain ⟨v1, v2, hb⟩ := hC.blkX
  have hG := hC.1
  have hfl := fun k hk => Fp.lt hC (k := k) hk
  have hnf := hC.not_fp
  
  refine Ret.enter Try.func56 rfl Try.ntmps56 rfl ?_
  (repeat (first | refine GX.doneD ?_ | refine GX.done ?_ | refine GQ.goNormal ?_ | refine GC.seq ?_ | refine GC.skip ?_ | refine GC.block ?_ | refine GC.exit ?_ | refine GC.ret ?_ | refine GQ.goExit ?_ | refine GQ.goRet ?_ | refine GQ.inNormal ?_ | refine GQ.inExit ?_ | refine GQ.inExitNe rfl ?_ | refine GQ.inRet ?_ | refine GQ.loopExit ?_ | refine GQ.loopRet ?_ | refine GQ.cutExit ?_ | refine GQ.cutRet ?_))
  refine GC.region (.pure 0 (.pure 1 (.pure 2 (.eff 3 (.pure 4 (.pure 5 (.eff 6 (.eff 7 (.eff 8 (.eff 9 .done)))))))))) rfl ?_
  (repeat (refine GX.pure rfl ?_; first | refine GO.move rfl rfl rfl rfl ?_ | refine GO.nilCheck rfl rfl rfl rfl ?_ | refine GO.fieldAddr rfl rfl rfl rfl rfl ?_ | refine GO.conv rfl rfl rfl rfl (wrapIn (by dsimp only [InK]; omega)) ?_ | refine GO.convStr rfl rfl rfl rfl ?_ | refine GO.nilCheckF rfl rfl rfl rfl ?_))
  (first | (refine GX.eff rfl ?_; first | refine GO.load1 (hb.get (o := 0 + 0) rfl) rfl rfl rfl ?_ | refine GO.loadN (hb.get (o := 0 + 0) rfl) rfl rfl rfl rfl ?_) | (refine GX.read rfl ?_; first | refine GO.load1R (by assumption) (fun _ hS_ => At.mod (hb.get (o := 0 + 0) rfl) hS_ (by simp)) rfl rfl rfl ?_ | refine GO.loadNR (by assumption) (fun _ hS_ => At.mod (hb.get (o := 0 + 0) rfl) hS_ (by simp)) rfl rfl rfl rfl ?_))
  (repeat (refine GX.pure rfl ?_; first | refine GO.move rfl rfl rfl rfl ?_ | refine GO.nilCheck rfl rfl rfl rfl ?_ | refine GO.fieldAddr rfl rfl rfl rfl rfl ?_ | refine GO.conv rfl rfl rfl rfl (wrapIn (by dsimp only [InK]; omega)) ?_ | refine GO.convStr rfl rfl rfl rfl ?_ | refine GO.nilCheckF rfl rfl rfl rfl ?_))
  (first | (refine GX.eff rfl ?_; first | refine GO.load1 (hbc.get (o := 0 + 3) rfl) rfl rfl rfl ?_ | refine GO.loadN (hbc.get (o := 0 + 3) rfl) rfl rfl rfl rfl ?_) | (refine GX.read rfl ?_; first | refine GO.load1R (by assumption) (fun _ hS_ => At.mod (hbc.get (o := 0 + 3) rfl) hS_ (by simp)) rfl rfl rfl ?_ | refine GO.loadNR (by assumption) (fun _ hS_ => At.mod (hbc.get (o := 0 + 3) rfl) hS_ (by simp)) rfl rfl rfl rfl ?_))
  refine GX.eff rfl ?_
  refine GO.toStr' h3.cells rfl rfl rfl rfl ?_
  refine GX.eff rfl ?_
  refine GO.alloc rfl rfl fun bn w1 hbn hblk hE1 => ?_
  refine ⟨fun _ h => by first | trivial | exact Mod.trans h (Ext.mod (by assumption)), ?_⟩
  refine GX.eff rfl ?_
  refine GO.store (vs := [str c.value]) (hblk.wr (by simp)) rfl rfl (by simp [Value.oneCell', str]) rfl rfl rfl fun w2 hp2 => ⟨(by first | exact fun _ _ => trivial | exact late_abs (by kernel_rfl)), ?_⟩
  have hn2 : Blk w2 bn [str c.value] := by have := hp2.blk hblk; simpa using this
  have hE2 : Ext w w2 := hE1.then hp2.mod fun i hi h => by omega
  have hC2 := hC.ext hE2
  (repeat (first | refine GX.doneD ?_ | refine GX.done ?_ | refine GQ.goNormal ?_ | refine GC.seq ?_ | refine GC.skip ?_ | refine GC.block ?_ | refine GC.exit ?_ | refine GC.ret ?_ | refine GQ.goExit ?_ | refine GQ.goRet ?_ | refine GQ.inNormal ?_ | refine GQ.inExit ?_ | refine GQ.inExitNe rfl ?_ | refine GQ.inRet ?_ | refine GQ.loopExit ?_ | refine GQ.loopRet ?_ | refine GQ.cutExit ?_ | refine GQ.cutRet ?_))
  refine GC.region (.pure 0 (.eff 1 .done)) rfl ?_
  (repeat (refine GX.pure rfl ?_; refine GO.move rfl rfl rfl rfl ?_))
  (refine GX.eff rfl ?_; refine GO.callL rfl rfl rfl rfl rfl (part_ret 64 okValue okValue_ret bx bc br ba st c.value bn 0 w2 hC2 hn2.at (hn2.wr (by simp)) hl hv (by have := hfl bx (.inl rfl); omega) (by have := hfl br (.inr rfl); omega) (fun h => by have := hG.a bn h; omega)) ?_)
  rintro v w3 ⟨rfl, hC3, hU3, hM3⟩
  refine ⟨fun _ h => by first | trivial | exact Mod.trans h (Ext.mod (by assumption)), ?_⟩
  have hn3 : Blk w3 bn [str (doPart okValue st c.value).2] := by have := hU3.blk hn2; simpa using this
  have hM3' : Mod (Fp bx br) w w3 := (Ext.mod hE2).then hM3 fun i hi h => by
    rcases h with h | ⟨_, h⟩
    · exact h
    · omega
  have hc3 : CmdAt w3 (Fx B bx br bc) bc c := hc0.mod hM3' hnf fun k hk => .inl (.inl (.inl hk))
  have hbc3 := hbc.mod hM3' hnf
  have hrd3 : (doPart okValue st c.value).1.read = st.read := doPart_read _ _ _
  (repeat (first | refine GX.doneD ?_ | refine GX.done ?_ | refine GQ.goNormal ?_ | refine GC.seq ?_ | refine GC.skip ?_ | refine GC.block ?_ | refine GC.exit ?_ | refine GC.ret ?_ | refine GQ.goExit ?_ | refine GQ.goRet ?_ | refine GQ.inNormal ?_ | refine GQ.inExit ?_ | refine GQ.inExitNe rfl ?_ | refine GQ.inRet ?_ | refine GQ.loopExit ?_ | refine GQ.loopRet ?_ | refine GQ.cutExit ?_ | refine GQ.cutRet ?_))
  have keep : (doValue st c.value).2 = c.value → Cx w3 bx bc br ba (doValue st c.value).1 ∧ CmdAt w3 (Fx B bx br bc) bc { c with value := (doValue st c.value).2 } ∧ Mod (Fc bx br bc) w w3 := fun h =>
    ⟨hC3, by rw [h]; exact hc3, hM3'.of fun k hk => .inl hk⟩
  obtain ⟨hG3, hCC⟩ := hC3
  rw [hrd3] at hCC
  cases hrd : st.read with
  | false =>
    rw [hrd] at hCC
    obtain ⟨oa, oc, hb3, _⟩ := hCC
    refine GC.region (.pure 0 (.pure 1 (.pure 2 (.eff 3 (.pure 4 (.pure 5 (.eff 6 (.pure 7 (.pure 8 (.pure 9 .done)))))))))) rfl ?_
    (repeat (refine GX.pure rfl ?_; first | refine GO.move rfl rfl rfl rfl ?_ | refine GO.nilCheck rfl rfl rfl rfl ?_ | refine GO.fieldAddr rfl rfl rfl rfl rfl ?_ | refine GO.lenStr rfl rfl rfl rfl ?_ | refine GO.gtr rfl rfl rfl rfl rfl ?_ | refine GO.pickT rfl rfl rfl rfl rfl ?_ | refine GO.pickF rfl rfl rfl rfl rfl ?_ | refine GO.ptrNeqNil rfl rfl rfl rfl rfl ?_ | refine GO.nilCheckF rfl rfl rfl rfl ?_ | refine GO.skip (.inl rfl) rfl rfl ?_))
    (first | (refine GX.eff rfl ?_; first | refine GO.load1 (hb3.get (o := 0 + 1) rfl) rfl rfl rfl ?_ | refine GO.loadN (hb3.get (o := 0 + 1) rfl) rfl rfl rfl rfl ?_) | (refine GX.read rfl ?_; first | refine GO.load1R (by assumption) (fun _ hS_ => At.mod (hb3.get (o := 0 + 1) rfl) hS_ (by simp)) rfl rfl rfl ?_ | refine GO.loadNR (by assumption) (fun _ hS_ => At.mod (hb3.get (o := 0 + 1) rfl) hS_ (by simp)) rfl rfl rfl rfl ?_))
    (repeat (refine GX.pure rfl ?_; first | refine GO.move rfl rfl rfl rfl ?_ | refine GO.nilCheck rfl rfl rfl rfl ?_ | refine GO.fieldAddr rfl rfl rfl rfl rfl ?_ | refine GO.lenStr rfl rfl rfl rfl ?_ | refine GO.gtr rfl rfl rfl rfl rfl ?_ | refine GO.pickT rfl rfl rfl rfl rfl ?_ | refine GO.pickF rfl rfl rfl rfl rfl ?_ | refine GO.ptrNeqNil rfl rfl rfl rfl rfl ?_ | refine GO.nilCheckF rfl rfl rfl rfl ?_ | refine GO.skip (.inl rfl) rfl rfl ?_))
    refine GX.eff rfl ?_
    refine GO.skip (.inr rfl) rfl rfl ?_
    (repeat (refine GX.pure rfl ?_; first | refine GO.move rfl rfl rfl rfl ?_ | refine GO.nilCheck rfl rfl rfl rfl ?_ | refine GO.fieldAddr rfl rfl rfl rfl rfl ?_ | refine GO.lenStr rfl rfl rfl rfl ?_ | refine GO.gtr rfl rfl rfl rfl rfl ?_ | refine GO.pickT rfl rfl rfl rfl rfl ?_ | refine GO.pickF rfl rfl rfl rfl rfl ?_ | refine GO.ptrNeqNil rfl rfl rfl rfl rfl ?_ | refine GO.nilCheckF rfl rfl rfl rfl ?_ | refine GO.skip (.inl rfl) rfl rfl ?_))
    (repeat (first | refine GX.doneD ?_ | refine GX.done ?_ | refine GQ.goNormal ?_ | refine GC.seq ?_ | refine GC.skip ?_ | refine GC.block ?_ | refine GC.exit ?_ | refine GC.ret ?_ | refine GQ.goExit ?_ | refine GQ.goRet ?_ | refine GQ.inNormal ?_ | refine GQ.inExit ?_ | refine GQ.inExitNe rfl ?_ | refine GQ.inRet ?_ | refine GQ.loopExit ?_ | refine GQ.loopRet ?_ | refine GQ.cutExit ?_ | refine GQ.cutRet ?_))
    refine GC.cond rfl (fun hh => ?_) (fun hh => ?_)
    · cases hh
    · (repeat (first | refine GX.doneD ?_ | refine GX.done ?_ | refine GQ.goNormal ?_ | refine GC.seq ?_ | refine GC.skip ?_ | refine GC.block ?_ | refine GC.exit ?_ | refine GC.ret ?_ | refine GQ.goExit ?_ | refine GQ.goRet ?_ | refine GQ.inNormal ?_ | refine GQ.inExit ?_ | refine GQ.inExitNe rfl ?_ | refine GQ.inRet ?_ | refine GQ.loopExit ?_ | refine GQ.loopRet ?_ | refine GQ.cutExit ?_ | refine GQ.cutRet ?_))
      refine GQ.ret0 (by first | exact .inl rfl | exact .inr rfl) rfl ?_
      exact ⟨rfl, keep (by unfold doValue; rw [if_neg (by simp [hrd])])⟩
  | true =>
    rw [hrd] at hCC
    obtain ⟨hb3, _⟩ := hCC
    have hsz := size_str (doPart okValue st c.value).2
    refine GC.region (.pure 0 (.pure 1 (.pure 2 (.eff 3 (.pure 4 (.pure 5 (.eff 6 (.pure 7 (.pure 8 (.pure 9 .done)))))))))) rfl ?_
    (repeat (refine GX.pure rfl ?_; first | refine GO.move rfl rfl rfl rfl ?_ | refine GO.nilCheck rfl rfl rfl rfl ?_ | refine GO.fieldAddr rfl rfl rfl rfl rfl ?_ | refine GO.lenStr rfl rfl rfl rfl ?_ | refine GO.gtr rfl rfl rfl rfl rfl ?_ | refine GO.pickT rfl rfl rfl rfl rfl ?_ | refine GO.pickF rfl rfl rfl rfl rfl ?_ | refine GO.ptrNeqNil rfl rfl rfl rfl rfl ?_ | refine GO.nilCheckF rfl rfl rfl rfl ?_ | refine GO.skip (.inl rfl) rfl rfl ?_))
    (first | (refine GX.eff rfl ?_; first | refine GO.load1 (hb3.get (o := 0 + 1) rfl) rfl rfl rfl ?_ | refine GO.loadN (hb3.get (o := 0 + 1) rfl) rfl rfl rfl rfl ?_) | (refine GX.read rfl ?_; first | refine GO.load1R (by assumption) (fun _ hS_ => At.mod (hb3.get (o := 0 + 1) rfl) hS_ (by simp)) rfl rfl rfl ?_ | refine GO.loadNR (by assumption) (fun _ hS_ => At.mod (hb3.get (o := 0 + 1) rfl) hS_ (by simp)) rfl rfl rfl rfl ?_))
    (repeat (refine GX.pure rfl ?_; first | refine GO.move rfl rfl rfl rfl ?_ | refine GO.nilCheck rfl rfl rfl rfl ?_ | refine GO.fieldAddr rfl rfl rfl rfl rfl ?_ | refine GO.lenStr rfl rfl rfl rfl ?_ | refine GO.gtr rfl rfl rfl rfl rfl ?_ | refine GO.pickT rfl rfl rfl rfl rfl ?_ | refine GO.pickF rfl rfl rfl rfl rfl ?_ | refine GO.ptrNeqNil rfl rfl rfl rfl rfl ?_ | refine GO.nilCheckF rfl rfl rfl rfl ?_ | refine GO.skip (.inl rfl) rfl rfl ?_))
    (first | (refine GX.eff rfl ?_; first | refine GO.load1 (hn3.get (o := 0) rfl) rfl rfl rfl ?_ | refine GO.loadN (hn3.get (o := 0) rfl) rfl rfl rfl rfl ?_) | (refine GX.read rfl ?_; first | refine GO.load1R (by assumption) (fun _ hS_ => At.mod (hn3.get (o := 0) rfl) hS_ (by simp)) rfl rfl rfl ?_ | refine GO.loadNR (by assumption) (fun _ hS_ => At.mod (hn3.get (o := 0) rfl) hS_ (by simp)) rfl rfl rfl rfl ?_))
    (repeat (refine GX.pure rfl ?_; first | refine GO.move rfl rfl rfl rfl ?_ | refine GO.nilCheck rfl rfl rfl rfl ?_ | refine GO.fieldAddr rfl rfl rfl rfl rfl ?_ | refine GO.lenStr rfl rfl rfl rfl ?_ | refine GO.gtr rfl rfl rfl rfl rfl ?_ | refine GO.pickT rfl rfl rfl rfl rfl ?_ | refine GO.pickF rfl rfl rfl rfl rfl ?_ | refine GO.ptrNeqNil rfl rfl rfl rfl rfl ?_ | refine GO.nilCheckF rfl rfl rfl rfl ?_ | refine GO.skip (.inl rfl) rfl rfl ?_))
    (repeat (first | refine GX.doneD ?_ | refine GX.done ?_ | refine GQ.goNormal ?_ | refine GC.seq ?_ | refine GC.skip ?_ | refine GC.block ?_ | refine GC.exit ?_ | refine GC.ret ?_ | refine GQ.goExit ?_ | refine GQ.goRet ?_ | refine GQ.inNormal ?_ | refine GQ.inExit ?_ | refine GQ.inExitNe rfl ?_ | refine GQ.inRet ?_ | refine GQ.loopExit ?_ | refine GQ.loopRet ?_ | refine GQ.cutExit ?_ | refine GQ.cutRet ?_))
    refine GC.cond rfl (fun hh => ?_) (fun hh => ?_)
    · have hpos : 0 < (doPart okValue st c.value).2.length := by have := of_decide_eq_true hh; omega
      (repeat (first | refine GX.doneD ?_ | refine GX.done ?_ | refine GQ.goNormal ?_ | refine GC.seq ?_ | refine GC.skip ?_ | refine GC.block ?_ | refine GC.exit ?_ | refine GC.ret ?_ | refine GQ.goExit ?_ | refine GQ.goRet ?_ | refine GQ.inNormal ?_ | refine GQ.inExit ?_ | refine GQ.inExitNe rfl ?_ | refine GQ.inRet ?_ | refine GQ.loopExit ?_ | refine GQ.loopRet ?_ | refine GQ.cutExit ?_ | refine GQ.cutRet ?_))
      refine GC.regionD (.pure 0 (.pure 1 (.pure 2 (.read 3 (.read 4 (.eff 5 (.pure 6 (.pure 7 (.eff 8 .done))))))))) (fun _ => False) mixed (by kernel_rfl) (by kernel_rfl) ?_
      intro w4 _ hE4
      have hS : Mod (fun _ => False) w3 w4 := hE4
      (repeat (refine GX.pure rfl ?_; first | refine GO.move rfl rfl rfl rfl ?_ | refine GO.nilCheck rfl rfl rfl rfl ?_ | refine GO.fieldAddr rfl rfl rfl rfl rfl ?_ | refine GO.conv rfl rfl rfl rfl (wrapIn (by dsimp only [InK]; omega)) ?_ | refine GO.convStr rfl rfl rfl rfl ?_ | refine GO.nilCheckF rfl rfl rfl rfl ?_))
      (first | (refine GX.eff rfl ?_; first | refine GO.load1 (hb3.get (o := 0 + 0) rfl) rfl rfl rfl ?_ | refine GO.loadN (hb3.get (o := 0 + 0) rfl) rfl rfl rfl rfl ?_) | (refine GX.read rfl ?_; first | refine GO.load1R (by assumption) (fun _ hS_ => At.mod (hb3.get (o := 0 + 0) rfl) hS_ (by simp)) rfl rfl rfl ?_ | refine GO.loadNR (by assumption) (fun _ hS_ => At.mod (hb3.get (o := 0 + 0) rfl) hS_ (by simp)) rfl rfl rfl rfl ?_))
      (first | (refine GX.eff rfl ?_; first | refine GO.load1 (hn3.get (o := 0) rfl) rfl rfl rfl ?_ | refine GO.loadN (hn3.get (o := 0) rfl) rfl rfl rfl rfl ?_) | (refine GX.read rfl ?_; first | refine GO.load1R (by assumption) (fun _ hS_ => At.mod (hn3.get (o := 0) rfl) hS_ (by simp)) rfl rfl rfl ?_ | refine GO.loadNR (by assumption) (fun _ hS_ => At.mod (hn3.get (o := 0) rfl) hS_ (by simp)) rfl rfl rfl rfl ?_))
      (repeat (refine GX.pure rfl ?_; first | refine GO.move rfl rfl rfl rfl ?_ | refine GO.nilCheck rfl rfl rfl rfl ?_ | refine GO.fieldAddr rfl rfl rfl rfl rfl ?_ | refine GO.conv rfl rfl rfl rfl (wrapIn (by dsimp only [InK]; omega)) ?_ | refine GO.convStr rfl rfl rfl rfl ?_ | refine GO.nilCheckF rfl rfl rfl rfl ?_))
      refine GX.eff rfl ?_
      refine GO.toBytes rfl rfl rfl fun b c5 w5 hb5 hcap5 hAt hE5 => ?_
      refine ⟨fun _ h => by first | trivial | exact Mod.trans h (Ext.mod (by assumption)), ?_⟩
      (repeat (refine GX.pure rfl ?_; first | refine GO.move rfl rfl rfl rfl ?_ | refine GO.nilCheck rfl rfl rfl rfl ?_ | refine GO.fieldAddr rfl rfl rfl rfl rfl ?_ | refine GO.conv rfl rfl rfl rfl (wrapIn (by dsimp only [InK]; omega)) ?_ | refine GO.convStr rfl rfl rfl rfl ?_ | refine GO.nilCheckF rfl rfl rfl rfl ?_))
      have hE45 := hE4.trans hE5
      have hbc5 := hbc3.ext hE45
      refine GX.eff rfl ?_
      refine GO.store (vs := [.slice (some ⟨b, 0, none⟩) (doPart okValue st c.value).2.length c5]) (hbc5.wr (by simp [cmdCells])) rfl rfl (by simp [Value.oneCell']) rfl rfl rfl fun w6 hp6 => ⟨(by first | exact fun _ _ => trivial | exact late_abs (by kernel_rfl)), ?_⟩
      (repeat (first | refine GX.doneD ?_ | refine GX.done ?_ | refine GQ.goNormal ?_ | refine GC.seq ?_ | refine GC.skip ?_ | refine GC.block ?_ | refine GC.exit ?_ | refine GC.ret ?_ | refine GQ.goExit ?_ | refine GQ.goRet ?_ | refine GQ.inNormal ?_ | refine GQ.inExit ?_ | refine GQ.inExitNe rfl ?_ | refine GQ.inRet ?_ | refine GQ.loopExit ?_ | refine GQ.loopRet ?_ | refine GQ.cutExit ?_ | refine GQ.cutRet ?_))
      refine GQ.ret0 (by first | exact .inl rfl | exact .inr rfl) rfl ?_
      have hv2 : (doValue st c.value).2 = (doPart okValue st c.value).2 := by unfold doValue; exact if_pos ⟨hrd, hpos⟩
      have hM6 : Mod (Fc bx br bc) w w6 := ((hM3'.of fun k hk => .inl hk).trans (Ext.mod hE45)).trans (hp6.mod.of fun k hk => .inr hk)
      have hC6 : Cx w6 bx bc br ba (doPart okValue st c.value).1 := (Cx.ext ⟨hG3, by rw [hrd3, hrd]; exact ⟨hb3, by assumption⟩⟩ hE45).mod hp6.mod hG.xc (fun h => hG.cr h.symm) (fun k hk => .inl hk)
      have hbsz : w.heap.size ≤ b := by have := hM3'.size; have := hE4.size; omega
      have hbl : b < w6.heap.size := by
        have h0 := hAt 0 (byteV ((doPart okValue st c.value).2)[0]) (by simp [bytesV, hpos])
        have := block_lt_of_cell h0
        rw [hp6.size]; simpa using this
      refine ⟨rfl, hC6, ?_, hM6⟩
      rw [hv2]
      refine ⟨ka, kc, some ⟨b, 0, none⟩, c5, ta, tc, ?_, h2.mod hM6 (fun x hx hne h' => h5 x (.inl ⟨hx, hne⟩) (.inl h')), ⟨?_, ?_, by simp, by rintro x ⟨⟩ _; exact hbl⟩, h4.mod hM6 (fun x hx hne h' => h5 x (.inr (.inr ⟨hx, hne⟩)) (.inl h')), ?_⟩
      · have := hp6.blk hbc5
        simpa [cmdCells] using this
      · exact hAt.mod hp6.mod (by have := hG.c; omega)
      · exact hcap5
      · rintro y (h | ⟨h, _⟩ | h)
        · exact h5 y (.inl h)
        · cases h
          rintro (((h | h) | h) | h) <;> dsimp only at h
          · have := hfl bx (.inl rfl); omega
          · have := hfl br (.inr rfl); omega
          · have := hG.c; omega
          · omega
        · exact h5 y (.inr (.inr h))
    · have hz : ¬ 0 < (doPart okValue st c.value).2.length := by have := of_decide_eq_false hh; omega
      (repeat (first | refine GX.doneD ?_ | refine GX.done ?_ | refine GQ.goNormal ?_ | refine GC.seq ?_ | refine GC.skip ?_ | refine GC.block ?_ | refine GC.exit ?_ | refine GC.ret ?_ | refine GQ.goExit ?_ | refine GQ.goRet ?_ | refine GQ.inNormal ?_ | refine GQ.inExit ?_ | refine GQ.inExitNe rfl ?_ | refine GQ.inRet ?_ | refine GQ.loopExit ?_ | refine GQ.loopRet ?_ | refine GQ.cutExit ?_ | refine GQ.cutRet ?_))
      refine GQ.ret0 (by first | exact .inl rfl | exact .inr rfl) rfl ?_
      exact ⟨rfl, keep (by unfold doValue; exact if_neg (fun h => hz h.2))⟩
end Go.Proofs.Ytahkglanddhncaa.V
