/-
  What the functions for frames compute (package frame). Conditions: the bytes are shorter than 2^38.
-/
import Derived.Test.YtahkglanddhncaaWe
namespace Go.Proofs.Ytahkglanddhncaa.V
attribute [local irreducible] GX GO

/-- The cells of a frame. -/
def frameV (code : Nat) (a : Option Addr) (n c : Nat) : List Value := [.int .u8 code, .slice a n c]

theorem length_ret (code : Nat) (l : List UInt8) (n : Nat) (hn : l.length = n) (hl : l.length < 2 ^ 38) (a : Option Addr) (c : Nat) (w : World) :
    Ret Try.prog 46 [.agg (frameV code a n c).toArray].toArray w
      fun v w' => v = .tuple #[.int .i64 (if 2097152 < l.length then 0 else l.length + 1 : Nat), .int .i64 (if 2097152 < l.length then 5 else 0 : Nat)] ∧ Ext w w' := by
  subst hn
  
  refine Ret.enter Try.func46 rfl Try.ntmps46 rfl ?_
  (repeat (first | refine GX.doneD ?_ | refine GX.done ?_ | refine GQ.goNormal ?_ | refine GC.seq ?_ | refine GC.skip ?_ | refine GC.block ?_ | refine GC.exit ?_ | refine GC.ret ?_ | refine GQ.goExit ?_ | refine GQ.goRet ?_ | refine GQ.inNormal ?_ | refine GQ.inExit ?_ | refine GQ.inExitNe rfl ?_ | refine GQ.inRet ?_ | refine GQ.loopExit ?_ | refine GQ.loopRet ?_ | refine GQ.cutExit ?_ | refine GQ.cutRet ?_))
  refine GC.region (.eff 0 (.pure 1 (.pure 2 .done))) rfl ?_
  refine GX.eff rfl ?_
  refine GO.box (l := frameV code a l.length c) rfl rfl rfl rfl fun b1 w1 hb1 hB1 hE1 => ?_
  refine ⟨fun _ h => by first | trivial | exact Mod.trans h (Ext.mod (by assumption)), ?_⟩
  (repeat (refine GX.pure rfl ?_; refine GO.assign rfl rfl rfl rfl ?_))
  (repeat (first | refine GX.doneD ?_ | refine GX.done ?_ | refine GQ.goNormal ?_ | refine GC.seq ?_ | refine GC.skip ?_ | refine GC.block ?_ | refine GC.exit ?_ | refine GC.ret ?_ | refine GQ.goExit ?_ | refine GQ.goRet ?_ | refine GQ.inNormal ?_ | refine GQ.inExit ?_ | refine GQ.inExitNe rfl ?_ | refine GQ.inRet ?_ | refine GQ.loopExit ?_ | refine GQ.loopRet ?_ | refine GQ.cutExit ?_ | refine GQ.cutRet ?_))
  refine GC.region (.pure 0 (.eff 1 (.pure 2 (.pure 3 .done)))) rfl ?_
  (repeat (refine GX.pure rfl ?_; first | refine GO.fieldAddr rfl rfl rfl rfl rfl ?_ | refine GO.lenSlice rfl rfl rfl rfl ?_ | refine GO.gtr rfl rfl rfl rfl rfl ?_))
  (first | (refine GX.eff rfl ?_; first | refine GO.load1 (hB1.get (o := 0 + 1) rfl) rfl rfl rfl ?_ | refine GO.loadN (hB1.get (o := 0 + 1) rfl) rfl rfl rfl rfl ?_) | (refine GX.read rfl ?_; first | refine GO.load1R (by assumption) (fun _ hS_ => At.mod (hB1.get (o := 0 + 1) rfl) hS_ (by simp)) rfl rfl rfl ?_ | refine GO.loadNR (by assumption) (fun _ hS_ => At.mod (hB1.get (o := 0 + 1) rfl) hS_ (by simp)) rfl rfl rfl rfl ?_))
  (repeat (refine GX.pure rfl ?_; first | refine GO.fieldAddr rfl rfl rfl rfl rfl ?_ | refine GO.lenSlice rfl rfl rfl rfl ?_ | refine GO.gtr rfl rfl rfl rfl rfl ?_))
  (repeat (first | refine GX.doneD ?_ | refine GX.done ?_ | refine GQ.goNormal ?_ | refine GC.seq ?_ | refine GC.skip ?_ | refine GC.block ?_ | refine GC.exit ?_ | refine GC.ret ?_ | refine GQ.goExit ?_ | refine GQ.goRet ?_ | refine GQ.inNormal ?_ | refine GQ.inExit ?_ | refine GQ.inExitNe rfl ?_ | refine GQ.inRet ?_ | refine GQ.loopExit ?_ | refine GQ.loopRet ?_ | refine GQ.cutExit ?_ | refine GQ.cutRet ?_))
  refine GC.cond rfl (fun h0 => ?_) (fun h0 => ?_)
  · have h0' : 2097152 < l.length := by have := of_decide_eq_true h0; omega
    (repeat (first | refine GX.doneD ?_ | refine GX.done ?_ | refine GQ.goNormal ?_ | refine GC.seq ?_ | refine GC.skip ?_ | refine GC.block ?_ | refine GC.exit ?_ | refine GC.ret ?_ | refine GQ.goExit ?_ | refine GQ.goRet ?_ | refine GQ.inNormal ?_ | refine GQ.inExit ?_ | refine GQ.inExitNe rfl ?_ | refine GQ.inRet ?_ | refine GQ.loopExit ?_ | refine GQ.loopRet ?_ | refine GQ.cutExit ?_ | refine GQ.cutRet ?_))
    refine GC.region (.pure 0 (.pure 1 .done)) rfl ?_
    (repeat (refine GX.pure rfl ?_; refine GO.assign rfl rfl rfl rfl ?_))
    (repeat (first | refine GX.doneD ?_ | refine GX.done ?_ | refine GQ.goNormal ?_ | refine GC.seq ?_ | refine GC.skip ?_ | refine GC.block ?_ | refine GC.exit ?_ | refine GC.ret ?_ | refine GQ.goExit ?_ | refine GQ.goRet ?_ | refine GQ.inNormal ?_ | refine GQ.inExit ?_ | refine GQ.inExitNe rfl ?_ | refine GQ.inRet ?_ | refine GQ.loopExit ?_ | refine GQ.loopRet ?_ | refine GQ.cutExit ?_ | refine GQ.cutRet ?_))
    refine GQ.ret2 (by first | exact .inl rfl | exact .inr rfl) rfl rfl rfl ?_
    rw [if_pos h0', if_pos h0']
    exact ⟨rfl, hE1⟩
  · have h0' : ¬ 2097152 < l.length := by have := of_decide_eq_false h0; omega
    (repeat (first | refine GX.doneD ?_ | refine GX.done ?_ | refine GQ.goNormal ?_ | refine GC.seq ?_ | refine GC.skip ?_ | refine GC.block ?_ | refine GC.exit ?_ | refine GC.ret ?_ | refine GQ.goExit ?_ | refine GQ.goRet ?_ | refine GQ.inNormal ?_ | refine GQ.inExit ?_ | refine GQ.inExitNe rfl ?_ | refine GQ.inRet ?_ | refine GQ.loopExit ?_ | refine GQ.loopRet ?_ | refine GQ.cutExit ?_ | refine GQ.cutRet ?_))
    refine GC.region (.pure 0 (.eff 1 (.pure 2 (.pure 3 (.pure 4 (.pure 5 .done)))))) rfl ?_
    (repeat (refine GX.pure rfl ?_; first | refine GO.assign rfl rfl rfl rfl ?_ | refine GO.fieldAddr rfl rfl rfl rfl rfl ?_ | refine GO.lenSlice rfl rfl rfl rfl ?_ | refine GO.add rfl rfl rfl rfl rfl (wrapIn (by dsimp only [InK]; omega)) ?_))
    (first | (refine GX.eff rfl ?_; first | refine GO.load1 (hB1.get (o := 0 + 1) rfl) rfl rfl rfl ?_ | refine GO.loadN (hB1.get (o := 0 + 1) rfl) rfl rfl rfl rfl ?_) | (refine GX.read rfl ?_; first | refine GO.load1R (by assumption) (fun _ hS_ => At.mod (hB1.get (o := 0 + 1) rfl) hS_ (by simp)) rfl rfl rfl ?_ | refine GO.loadNR (by assumption) (fun _ hS_ => At.mod (hB1.get (o := 0 + 1) rfl) hS_ (by simp)) rfl rfl rfl rfl ?_))
    (repeat (refine GX.pure rfl ?_; first | refine GO.assign rfl rfl rfl rfl ?_ | refine GO.fieldAddr rfl rfl rfl rfl rfl ?_ | refine GO.lenSlice rfl rfl rfl rfl ?_ | refine GO.add rfl rfl rfl rfl rfl (wrapIn (by dsimp only [InK]; omega)) ?_))
    (repeat (first | refine GX.doneD ?_ | refine GX.done ?_ | refine GQ.goNormal ?_ | refine GC.seq ?_ | refine GC.skip ?_ | refine GC.block ?_ | refine GC.exit ?_ | refine GC.ret ?_ | refine GQ.goExit ?_ | refine GQ.goRet ?_ | refine GQ.inNormal ?_ | refine GQ.inExit ?_ | refine GQ.inExitNe rfl ?_ | refine GQ.inRet ?_ | refine GQ.loopExit ?_ | refine GQ.loopRet ?_ | refine GQ.cutExit ?_ | refine GQ.cutRet ?_))
    refine GQ.ret2 (by first | exact .inl rfl | exact .inr rfl) rfl rfl rfl ?_
    rw [if_neg h0', if_neg h0']
    exact ⟨rfl, hE1⟩

/-- The bytes of a frame. -/
def writeF (code : Nat) (l : List UInt8) : List UInt8 := putN (l.length + 1) ++ [UInt8.ofNat code] ++ l

set_option maxHeartbeats 1000000 in
theorem writeF_ret (code : Nat) (hcode : code < 256) (l : List UInt8) (n : Nat) (hn : l.length = n) (hl : l.length < 2 ^ 38) (a : Option Addr) (c : Nat) (w : World) (hA : BytesAt w a c l) :
    Ret Try.prog 32 [.agg (frameV code a n c).toArray].toArray w
      fun v w' => if 2097152 < l.length then v = .tuple #[.slice none 0 0, .int .i64 5] ∧ Ext w w' else ∃ u, v = .tuple #[u, .int .i64 0] ∧ NewBytes w (writeF code l) u w' := by
  have hn' := hn
  subst hn
  
  refine Ret.enter Try.func32 rfl Try.ntmps32 rfl ?_
  (repeat (first | refine GX.doneD ?_ | refine GX.done ?_ | refine GQ.goNormal ?_ | refine GC.seq ?_ | refine GC.skip ?_ | refine GC.block ?_ | refine GC.exit ?_ | refine GC.ret ?_ | refine GQ.goExit ?_ | refine GQ.goRet ?_ | refine GQ.inNormal ?_ | refine GQ.inExit ?_ | refine GQ.inExitNe rfl ?_ | refine GQ.inRet ?_ | refine GQ.loopExit ?_ | refine GQ.loopRet ?_ | refine GQ.cutExit ?_ | refine GQ.cutRet ?_))
  refine GC.region (.eff 0 (.pure 1 (.pure 2 .done))) rfl ?_
  refine GX.eff rfl ?_
  refine GO.box (l := frameV code a l.length c) rfl rfl rfl rfl fun b1 w1 hb1 hB1 hE1 => ?_
  refine ⟨fun _ h => by first | trivial | exact Mod.trans h (Ext.mod (by assumption)), ?_⟩
  (repeat (refine GX.pure rfl ?_; refine GO.assign rfl rfl rfl rfl ?_))
  (repeat (first | refine GX.doneD ?_ | refine GX.done ?_ | refine GQ.goNormal ?_ | refine GC.seq ?_ | refine GC.skip ?_ | refine GC.block ?_ | refine GC.exit ?_ | refine GC.ret ?_ | refine GQ.goExit ?_ | refine GQ.goRet ?_ | refine GQ.inNormal ?_ | refine GQ.inExit ?_ | refine GQ.inExitNe rfl ?_ | refine GQ.inRet ?_ | refine GQ.loopExit ?_ | refine GQ.loopRet ?_ | refine GQ.cutExit ?_ | refine GQ.cutRet ?_))
  refine GC.region (.eff 0 (.eff 1 (.pure 2 (.pure 3 (.pure 4 (.pure 5 (.pure 6 .done))))))) rfl ?_
  (first | (refine GX.eff rfl ?_; first | refine GO.load1 (hB1.at) rfl rfl rfl ?_ | refine GO.loadN (hB1.at) rfl rfl rfl rfl ?_) | (refine GX.read rfl ?_; first | refine GO.load1R (by assumption) (fun _ hS_ => At.mod (hB1.at) hS_ (by simp)) rfl rfl rfl ?_ | refine GO.loadNR (by assumption) (fun _ hS_ => At.mod (hB1.at) hS_ (by simp)) rfl rfl rfl rfl ?_))
  (refine GX.eff rfl ?_; refine GO.callL rfl rfl rfl rfl rfl (length_ret code l _ rfl hl a c w1) ?_)
  rintro v w2 ⟨rfl, hE2⟩
  refine ⟨fun _ h => by first | trivial | exact Mod.trans h (Ext.mod (by assumption)), ?_⟩
  have hB2 := hB1.ext hE2
  have hE := hE1.trans hE2
  (repeat (refine GX.pure rfl ?_; first | refine GO.move rfl rfl rfl rfl ?_ | refine GO.assign rfl rfl rfl rfl ?_ | refine GO.extract rfl rfl rfl rfl rfl ?_))
  (repeat (first | refine GX.doneD ?_ | refine GX.done ?_ | refine GQ.goNormal ?_ | refine GC.seq ?_ | refine GC.skip ?_ | refine GC.block ?_ | refine GC.exit ?_ | refine GC.ret ?_ | refine GQ.goExit ?_ | refine GQ.goRet ?_ | refine GQ.inNormal ?_ | refine GQ.inExit ?_ | refine GQ.inExitNe rfl ?_ | refine GQ.inRet ?_ | refine GQ.loopExit ?_ | refine GQ.loopRet ?_ | refine GQ.cutExit ?_ | refine GQ.cutRet ?_))
  refine GC.region (.pure 0 (.pure 1 .done)) rfl ?_
  (repeat (refine GX.pure rfl ?_; first | refine GO.move rfl rfl rfl rfl ?_ | refine GO.neq rfl rfl rfl rfl rfl ?_))
  (repeat (first | refine GX.doneD ?_ | refine GX.done ?_ | refine GQ.goNormal ?_ | refine GC.seq ?_ | refine GC.skip ?_ | refine GC.block ?_ | refine GC.exit ?_ | refine GC.ret ?_ | refine GQ.goExit ?_ | refine GQ.goRet ?_ | refine GQ.inNormal ?_ | refine GQ.inExit ?_ | refine GQ.inExitNe rfl ?_ | refine GQ.inRet ?_ | refine GQ.loopExit ?_ | refine GQ.loopRet ?_ | refine GQ.cutExit ?_ | refine GQ.cutRet ?_))
  by_cases h0 : 2097152 < l.length
  · rw [if_pos h0, if_pos h0]
    refine GC.cond rfl (fun hc => ?_) (fun hc => ?_)
    rotate_left
    · exact absurd (of_decide_eq_false hc) (by simp)
    (repeat (first | refine GX.doneD ?_ | refine GX.done ?_ | refine GQ.goNormal ?_ | refine GC.seq ?_ | refine GC.skip ?_ | refine GC.block ?_ | refine GC.exit ?_ | refine GC.ret ?_ | refine GQ.goExit ?_ | refine GQ.goRet ?_ | refine GQ.inNormal ?_ | refine GQ.inExit ?_ | refine GQ.inExitNe rfl ?_ | refine GQ.inRet ?_ | refine GQ.loopExit ?_ | refine GQ.loopRet ?_ | refine GQ.cutExit ?_ | refine GQ.cutRet ?_))
    refine GC.region (.pure 0 (.pure 1 (.pure 2 .done))) rfl ?_
    (repeat (refine GX.pure rfl ?_; first | refine GO.move rfl rfl rfl rfl ?_ | refine GO.assign rfl rfl rfl rfl ?_))
    (repeat (first | refine GX.doneD ?_ | refine GX.done ?_ | refine GQ.goNormal ?_ | refine GC.seq ?_ | refine GC.skip ?_ | refine GC.block ?_ | refine GC.exit ?_ | refine GC.ret ?_ | refine GQ.goExit ?_ | refine GQ.goRet ?_ | refine GQ.inNormal ?_ | refine GQ.inExit ?_ | refine GQ.inExitNe rfl ?_ | refine GQ.inRet ?_ | refine GQ.loopExit ?_ | refine GQ.loopRet ?_ | refine GQ.cutExit ?_ | refine GQ.cutRet ?_))
    refine GQ.ret2 (by first | exact .inl rfl | exact .inr rfl) rfl rfl rfl ?_
    rw [if_pos h0]
    exact ⟨rfl, hE⟩
  rw [if_neg h0, if_neg h0]
  refine GC.cond rfl (fun hc => ?_) (fun hc => ?_)
  · exact absurd (of_decide_eq_true hc) (by simp)
  (repeat (first | refine GX.doneD ?_ | refine GX.done ?_ | refine GQ.goNormal ?_ | refine GC.seq ?_ | refine GC.skip ?_ | refine GC.block ?_ | refine GC.exit ?_ | refine GC.ret ?_ | refine GQ.goExit ?_ | refine GQ.goRet ?_ | refine GQ.inNormal ?_ | refine GQ.inExit ?_ | refine GQ.inExitNe rfl ?_ | refine GQ.inRet ?_ | refine GQ.loopExit ?_ | refine GQ.loopRet ?_ | refine GQ.cutExit ?_ | refine GQ.cutRet ?_))
  refine GC.regionD (.pure 0 (.pure 1 (.pure 3 (.pure 7 (.read 4 (.read 8 (.alt (.eff 2 (.eff 5 (.eff 6 (.eff 9 (.pure 10 (.pure 11 .done)))))) (.eff 5 (.eff 2 (.eff 6 (.eff 9 (.pure 10 (.pure 11 .done))))))))))))) (fun _ => False) mixed (by kernel_rfl) (by kernel_rfl) ?_
  intro w3 _ hE3
  have hS : Mod (fun _ => False) w2 w3 := hE3
  have hB3 := hB2.ext hE3
  have hA3 := (hA.ext hE).ext hE3
  have hE13 := hE.trans hE3
  (repeat (refine GX.pure rfl ?_; first | refine GO.move rfl rfl rfl rfl ?_ | refine GO.assign rfl rfl rfl rfl ?_ | refine GO.fieldAddr rfl rfl rfl rfl rfl ?_ | refine GO.conv rfl rfl rfl rfl (wrapIn (by dsimp only [InK]; omega)) ?_ | refine GO.convStr rfl rfl rfl rfl ?_))
  (first | (refine GX.eff rfl ?_; first | refine GO.load1 (hB2.get (o := 0 + 0) rfl) rfl rfl rfl ?_ | refine GO.loadN (hB2.get (o := 0 + 0) rfl) rfl rfl rfl rfl ?_) | (refine GX.read rfl ?_; first | refine GO.load1R (by assumption) (fun _ hS_ => At.mod (hB2.get (o := 0 + 0) rfl) hS_ (by simp)) rfl rfl rfl ?_ | refine GO.loadNR (by assumption) (fun _ hS_ => At.mod (hB2.get (o := 0 + 0) rfl) hS_ (by simp)) rfl rfl rfl rfl ?_))
  (first | (refine GX.eff rfl ?_; first | refine GO.load1 (hB2.get (o := 0 + 1) rfl) rfl rfl rfl ?_ | refine GO.loadN (hB2.get (o := 0 + 1) rfl) rfl rfl rfl rfl ?_) | (refine GX.read rfl ?_; first | refine GO.load1R (by assumption) (fun _ hS_ => At.mod (hB2.get (o := 0 + 1) rfl) hS_ (by simp)) rfl rfl rfl ?_ | refine GO.loadNR (by assumption) (fun _ hS_ => At.mod (hB2.get (o := 0 + 1) rfl) hS_ (by simp)) rfl rfl rfl rfl ?_))
  have hcV : bytesV [UInt8.ofNat code] = [.int .u8 code] := by simp [bytesV, byteV_ofNat hcode]
  have hpl := putN_length (l.length + 1)
  refine GX.alt ?_ ?_
  · skip
    (refine GX.eff rfl ?_; refine GO.callL rfl rfl rfl rfl rfl (put_ret [] (l.length + 1) (by omega) 0 rfl (by simp) none 0 w3 (BytesAt.none _)) ?_)
    rintro v w4 ⟨⟨ob, a1, c1, rfl, hO4, hF1', hF2⟩, hE4⟩
    refine ⟨fun _ h => by first | trivial | exact Mod.trans h (Ext.mod (by assumption)), ?_⟩
    refine GX.eff rfl ?_
    refine GO.buildSlice (out := [.int .u8 code]) (by kernel_rfl) (by decide) rfl rfl rfl (by simp) rfl fun b w5 hb hP5 hE5x => ?_
    rw [← hcV] at hP5
    refine ⟨fun _ h => by first | trivial | exact Mod.trans h (Ext.mod (by assumption)), ?_⟩
    have hE5 := hE4.trans hE5x
    have hO5 := hO4.ext hE5x
    have hF1 := hF1'
    refine GX.eff rfl ?_
    refine GO.append hO5 hP5.sla (by simp) (bytesV_one [UInt8.ofNat code]) (by simp; omega) (by simp; omega) rfl rfl rfl rfl rfl fun ob6 a6 c6 w6 hO6 hM6 hB6 hA6 => ?_
    have hE6 : Ext w3 w6 := hE5.then hM6 fun i hi h => by have := hF1 i h.symm; omega
    refine ⟨fun _ _ => hS.trans hE6, ?_⟩
    refine GX.eff rfl ?_
    refine GO.append hO6 ((hA3.ext hE6).cells) (by simp) (bytesV_one l) (by simp; omega) (by simp; omega) rfl rfl rfl rfl rfl fun ob7 a7 c7 w7 hO7 hM7 hB7 hA7 => ?_
    have hfr6 : ∀ y, ob6 = some y → w3.heap.size ≤ y := fun y hy => by
      rcases hB6 y hy with h | h
      · exact hF1 y h
      · have := hE5.size; omega
    have hE7 : Ext w3 w7 := hE6.then hM7 fun i hi h => by have := hfr6 i h.symm; omega
    refine ⟨fun _ _ => hS.trans hE7, ?_⟩
    (repeat (refine GX.pure rfl ?_; first | refine GO.move rfl rfl rfl rfl ?_ | refine GO.assign rfl rfl rfl rfl ?_ | refine GO.fieldAddr rfl rfl rfl rfl rfl ?_ | refine GO.conv rfl rfl rfl rfl (wrapIn (by dsimp only [InK]; omega)) ?_ | refine GO.convStr rfl rfl rfl rfl ?_))
    (repeat (first | refine GX.doneD ?_ | refine GX.done ?_ | refine GQ.goNormal ?_ | refine GC.seq ?_ | refine GC.skip ?_ | refine GC.block ?_ | refine GC.exit ?_ | refine GC.ret ?_ | refine GQ.goExit ?_ | refine GQ.goRet ?_ | refine GQ.inNormal ?_ | refine GQ.inExit ?_ | refine GQ.inExitNe rfl ?_ | refine GQ.inRet ?_ | refine GQ.loopExit ?_ | refine GQ.loopRet ?_ | refine GQ.cutExit ?_ | refine GQ.cutRet ?_))
    refine GQ.ret2 (by first | exact .inl rfl | exact .inr rfl) rfl rfl rfl ?_
    rw [if_neg h0]
    rw [← bytesV_append, ← bytesV_append] at hO7
    have hw : (([] ++ putN (l.length + 1)) ++ [UInt8.ofNat code]) ++ l = writeF code l := rfl
    rw [hw] at hO7
    have hlen : ([] ++ putN (l.length + 1)).length + 1 + l.length = (writeF code l).length := by simp [writeF]; omega
    rw [hlen] at hO7 ⊢
    have hs3 := hE13.size
    refine ⟨_, rfl, ⟨ob7, a7, c7, rfl, hO7, fun y hy => ?_, fun y hy => ?_⟩, hE13.trans hE7⟩
    · have := hE6.size
      rcases hB7 y hy with h | h
      · have := hfr6 y h; omega
      · omega
    · rcases hA7 y hy with h | ⟨h, h'⟩
      · exact h
      · rw [h']
        rcases hA6 y h with h2 | ⟨h2, h3⟩
        · exact h2
        · rw [h3]; exact hF2 y h2
  · skip
    refine GX.eff rfl ?_
    refine GO.buildSlice (out := [.int .u8 code]) (by kernel_rfl) (by decide) rfl rfl rfl (by simp) rfl fun b w4 hb hP4 hE4 => ?_
    rw [← hcV] at hP4
    refine ⟨fun _ h => by first | trivial | exact Mod.trans h (Ext.mod (by assumption)), ?_⟩
    (refine GX.eff rfl ?_; refine GO.callL rfl rfl rfl rfl rfl (put_ret [] (l.length + 1) (by omega) 0 rfl (by simp) none 0 w4 (BytesAt.none _)) ?_)
    rintro v w5 ⟨⟨ob, a1, c1, rfl, hO5, hF1', hF2⟩, hE5x⟩
    refine ⟨fun _ h => by first | trivial | exact Mod.trans h (Ext.mod (by assumption)), ?_⟩
    have hE5 := hE4.trans hE5x
    have hP5 := hP4.ext hE5x
    have hF1 : ∀ y, ob = some y → w3.heap.size ≤ y := fun y hy => by
      have := hF1' y hy
      have := hE4.size
      omega
    refine GX.eff rfl ?_
    refine GO.append hO5 hP5.sla (by simp) (bytesV_one [UInt8.ofNat code]) (by simp; omega) (by simp; omega) rfl rfl rfl rfl rfl fun ob6 a6 c6 w6 hO6 hM6 hB6 hA6 => ?_
    have hE6 : Ext w3 w6 := hE5.then hM6 fun i hi h => by have := hF1 i h.symm; omega
    refine ⟨fun _ _ => hS.trans hE6, ?_⟩
    refine GX.eff rfl ?_
    refine GO.append hO6 ((hA3.ext hE6).cells) (by simp) (bytesV_one l) (by simp; omega) (by simp; omega) rfl rfl rfl rfl rfl fun ob7 a7 c7 w7 hO7 hM7 hB7 hA7 => ?_
    have hfr6 : ∀ y, ob6 = some y → w3.heap.size ≤ y := fun y hy => by
      rcases hB6 y hy with h | h
      · exact hF1 y h
      · have := hE5.size; omega
    have hE7 : Ext w3 w7 := hE6.then hM7 fun i hi h => by have := hfr6 i h.symm; omega
    refine ⟨fun _ _ => hS.trans hE7, ?_⟩
    (repeat (refine GX.pure rfl ?_; first | refine GO.move rfl rfl rfl rfl ?_ | refine GO.assign rfl rfl rfl rfl ?_ | refine GO.fieldAddr rfl rfl rfl rfl rfl ?_ | refine GO.conv rfl rfl rfl rfl (wrapIn (by dsimp only [InK]; omega)) ?_ | refine GO.convStr rfl rfl rfl rfl ?_))
    (repeat (first | refine GX.doneD ?_ | refine GX.done ?_ | refine GQ.goNormal ?_ | refine GC.seq ?_ | refine GC.skip ?_ | refine GC.block ?_ | refine GC.exit ?_ | refine GC.ret ?_ | refine GQ.goExit ?_ | refine GQ.goRet ?_ | refine GQ.inNormal ?_ | refine GQ.inExit ?_ | refine GQ.inExitNe rfl ?_ | refine GQ.inRet ?_ | refine GQ.loopExit ?_ | refine GQ.loopRet ?_ | refine GQ.cutExit ?_ | refine GQ.cutRet ?_))
    refine GQ.ret2 (by first | exact .inl rfl | exact .inr rfl) rfl rfl rfl ?_
    rw [if_neg h0]
    rw [← bytesV_append, ← bytesV_append] at hO7
    have hw : (([] ++ putN (l.length + 1)) ++ [UInt8.ofNat code]) ++ l = writeF code l := rfl
    rw [hw] at hO7
    have hlen : ([] ++ putN (l.length + 1)).length + 1 + l.length = (writeF code l).length := by simp [writeF]; omega
    rw [hlen] at hO7 ⊢
    have hs3 := hE13.size
    refine ⟨_, rfl, ⟨ob7, a7, c7, rfl, hO7, fun y hy => ?_, fun y hy => ?_⟩, hE13.trans hE7⟩
    · have := hE6.size
      rcases hB7 y hy with h | h
      · have := hfr6 y h; omega
      · omega
    · rcases hA7 y hy with h | ⟨h, h'⟩
      · exact h
      · rw [h']
        rcases hA6 y h with h2 | ⟨h2, h3⟩
        · exact h2
        · rw [h3]; exact hF2 y h2

end Go.Proofs.Ytahkglanddhncaa.V
