/-
  What the law's function for a record computes. Conditions: the command's parts are shorter than 2^28.
-/
import Derived.Test.YtahkglanddhncaaYe
namespace Go.Proofs.Ytahkglanddhncaa.V
attribute [local irreducible] GX GO

theorem quoU32 (z k : Nat) (hz : z < 4294967296) : IntKind.u32.wrap (Int.tdiv (z : Int) (k : Int)) = ((z / k : Nat) : Int) := by
  rw [wrapU32, ← Int.ofNat_tdiv]
  have : z / k ≤ z := Nat.div_le_self z k
  generalize z / k = q at *
  omega
theorem remU32 (z k : Nat) : Int.tmod (z : Int) (k : Int) = ((z % k : Nat) : Int) := (Int.ofNat_tmod z k).symm

theorem canR_w {x : Nat × Cmd} : canR x = true → canW x.2 = true := fun h => by unfold canR at h; simp at h; exact h.1

set_option maxHeartbeats 4000000 in
theorem recordL_ret (s : Nat) (hs : s < 4294967296) (x : Nat × Cmd) (hx : x.1 < 18446744073709551616) (hc : OkC x.2) (cs : List Value) (w : World) (hX : EntV w 0 cs x) :
    Ret Try.prog 12 [.int .u32 s, .agg cs.toArray].toArray w fun v w' => ∃ u, v = .tuple #[u, .bool (canR x)] ∧ NewBytes w (recJ s x) u w' := by
  obtain ⟨t, c⟩ := x
  dsimp only at hx hc
  obtain ⟨l, rfl, hV⟩ := hX
  dsimp only at hV
  have hlen := hV.length
  have hsz := hc.size
  have hwl := written_len c
  
  refine Ret.enter Try.func12 rfl Try.ntmps12 rfl ?_
  (repeat (first | refine GX.doneD ?_ | refine GX.done ?_ | refine GQ.goNormal ?_ | refine GC.seq ?_ | refine GC.skip ?_ | refine GC.block ?_ | refine GC.exit ?_ | refine GC.ret ?_ | refine GQ.goExit ?_ | refine GQ.goRet ?_ | refine GQ.inNormal ?_ | refine GQ.inExit ?_ | refine GQ.inExitNe rfl ?_ | refine GQ.inRet ?_ | refine GQ.loopExit ?_ | refine GQ.loopRet ?_ | refine GQ.cutExit ?_ | refine GQ.cutRet ?_))
  refine GC.region (.eff 0 (.pure 1 (.pure 2 .done))) rfl ?_
  refine GX.eff rfl ?_
  refine GO.box (l := .int .u64 t :: l) rfl rfl rfl rfl fun b1 w1 hb1 hB1 hE1 => ?_
  refine ⟨fun _ h => by first | trivial | exact Mod.trans h (Ext.mod (by assumption)), ?_⟩
  (repeat (refine GX.pure rfl ?_; refine GO.assign rfl rfl rfl rfl ?_))
  (repeat (first | refine GX.doneD ?_ | refine GX.done ?_ | refine GQ.goNormal ?_ | refine GC.seq ?_ | refine GC.skip ?_ | refine GC.block ?_ | refine GC.exit ?_ | refine GC.ret ?_ | refine GQ.goExit ?_ | refine GQ.goRet ?_ | refine GQ.inNormal ?_ | refine GQ.inExit ?_ | refine GQ.inExitNe rfl ?_ | refine GQ.inRet ?_ | refine GQ.loopExit ?_ | refine GQ.loopRet ?_ | refine GQ.cutExit ?_ | refine GQ.cutRet ?_))
  refine GC.region (.pure 0 (.eff 1 (.eff 2 (.pure 3 .done)))) rfl ?_
  (repeat (refine GX.pure rfl ?_; first | refine GO.fieldAddr rfl rfl rfl rfl rfl ?_ | refine GO.not rfl rfl rfl rfl ?_))
  refine GX.eff rfl ?_
  refine GO.loadN (hB1.get (o := 0 + 1) rfl) hlen rfl rfl rfl ?_
  (refine GX.eff rfl ?_; refine GO.callL rfl rfl rfl rfl rfl (validC_ret c hc l 0 w1 (hV.ext hE1)) ?_)
  rintro v w2 ⟨rfl, hE2⟩
  refine ⟨fun _ h => by first | trivial | exact Mod.trans h (Ext.mod (by assumption)), ?_⟩
  (repeat (refine GX.pure rfl ?_; first | refine GO.fieldAddr rfl rfl rfl rfl rfl ?_ | refine GO.not rfl rfl rfl rfl ?_))
  (repeat (first | refine GX.doneD ?_ | refine GX.done ?_ | refine GQ.goNormal ?_ | refine GC.seq ?_ | refine GC.skip ?_ | refine GC.block ?_ | refine GC.exit ?_ | refine GC.ret ?_ | refine GQ.goExit ?_ | refine GQ.goRet ?_ | refine GQ.inNormal ?_ | refine GQ.inExit ?_ | refine GQ.inExitNe rfl ?_ | refine GQ.inRet ?_ | refine GQ.loopExit ?_ | refine GQ.loopRet ?_ | refine GQ.cutExit ?_ | refine GQ.cutRet ?_))
  by_cases hcw : canW c = true
  rotate_left
  · have hcw' : canW c = false := by simpa using hcw
    refine GC.cond rfl (fun hh => ?_) (fun hh => ?_)
    rotate_left
    · rw [hcw'] at hh; cases hh
    (repeat (first | refine GX.doneD ?_ | refine GX.done ?_ | refine GQ.goNormal ?_ | refine GC.seq ?_ | refine GC.skip ?_ | refine GC.block ?_ | refine GC.exit ?_ | refine GC.ret ?_ | refine GQ.goExit ?_ | refine GQ.goRet ?_ | refine GQ.inNormal ?_ | refine GQ.inExit ?_ | refine GQ.inExitNe rfl ?_ | refine GQ.inRet ?_ | refine GQ.loopExit ?_ | refine GQ.loopRet ?_ | refine GQ.cutExit ?_ | refine GQ.cutRet ?_))
    refine GC.region (.pure 0 (.pure 1 .done)) rfl ?_
    (repeat (refine GX.pure rfl ?_; refine GO.assign rfl rfl rfl rfl ?_))
    (repeat (first | refine GX.doneD ?_ | refine GX.done ?_ | refine GQ.goNormal ?_ | refine GC.seq ?_ | refine GC.skip ?_ | refine GC.block ?_ | refine GC.exit ?_ | refine GC.ret ?_ | refine GQ.goExit ?_ | refine GQ.goRet ?_ | refine GQ.inNormal ?_ | refine GQ.inExit ?_ | refine GQ.inExitNe rfl ?_ | refine GQ.inRet ?_ | refine GQ.loopExit ?_ | refine GQ.loopRet ?_ | refine GQ.cutExit ?_ | refine GQ.cutRet ?_))
    refine GQ.ret2 (by first | exact .inl rfl | exact .inr rfl) rfl rfl rfl ?_
    have h1 : recJ s (t, c) = [] := by unfold recJ canR; rw [hcw']; rfl
    have h2 : canR (t, c) = false := by unfold canR; rw [hcw']; rfl
    rw [h1, h2]
    exact ⟨_, rfl, ⟨none, none, 0, rfl, OwnS.nil _ _ _, by simp, by simp⟩, hE1.trans hE2⟩
  refine GC.cond rfl (fun hh => ?_) (fun hh => ?_)
  · rw [hcw] at hh; cases hh
  have hE12 := hE1.trans hE2
  have hB2 := hB1.ext hE2
  (repeat (first | refine GX.doneD ?_ | refine GX.done ?_ | refine GQ.goNormal ?_ | refine GC.seq ?_ | refine GC.skip ?_ | refine GC.block ?_ | refine GC.exit ?_ | refine GC.ret ?_ | refine GQ.goExit ?_ | refine GQ.goRet ?_ | refine GQ.inNormal ?_ | refine GQ.inExit ?_ | refine GQ.inExitNe rfl ?_ | refine GQ.inRet ?_ | refine GQ.loopExit ?_ | refine GQ.loopRet ?_ | refine GQ.cutExit ?_ | refine GQ.cutRet ?_))
  refine GC.region (.pure 0 (.eff 1 (.eff 2 (.pure 3 (.pure 4 (.pure 5 (.eff 6 (.eff 7 (.pure 8 .done))))))))) rfl ?_
  (repeat (refine GX.pure rfl ?_; first | refine GO.move rfl rfl rfl rfl ?_ | refine GO.assign rfl rfl rfl rfl ?_ | refine GO.fieldAddr rfl rfl rfl rfl rfl ?_ | refine GO.extract rfl rfl rfl rfl rfl ?_))
  refine GX.eff rfl ?_
  refine GO.loadN (hB2.get (o := 0 + 1) rfl) hlen rfl rfl rfl ?_
  (refine GX.eff rfl ?_; refine GO.callL rfl rfl rfl rfl rfl (writeC_ret c hc l 0 w2 (hV.ext hE12)) ?_)
  rintro v w3 ⟨hW, hE3⟩
  refine ⟨fun _ h => by first | trivial | exact Mod.trans h (Ext.mod (by assumption)), ?_⟩
  rw [if_pos hcw] at hW
  obtain ⟨oa, oc, rfl, hO3⟩ := hW
  have hop : 0 < c.op ∧ c.op < 16 := by
    unfold canW at hcw; have := of_decide_eq_true hcw; exact this.1
  (repeat (refine GX.pure rfl ?_; first | refine GO.move rfl rfl rfl rfl ?_ | refine GO.assign rfl rfl rfl rfl ?_ | refine GO.fieldAddr rfl rfl rfl rfl rfl ?_ | refine GO.extract rfl rfl rfl rfl rfl ?_))
  refine GX.eff rfl ?_
  refine GO.alloc rfl rfl fun b6 w4 hb6 hB6 hE4' => ?_
  refine ⟨fun _ h => by first | trivial | exact Mod.trans h (Ext.mod (by assumption)), ?_⟩
  refine GX.eff rfl ?_
  refine GO.store (vs := [.int .u8 c.op.toNat, .slice oa (written c).data.length oc]) (hB6.wr (by simp)) rfl rfl (by simp [Value.oneCell']) rfl rfl rfl fun w5 hp5 => ⟨(by first | exact fun _ _ => trivial | exact late_abs (by kernel_rfl)), ?_⟩
  have hE35 : Ext w3 w5 := hE4'.then hp5.mod fun i hi h => by omega
  have hF5 : Blk w5 b6 [.int .u8 c.op.toNat, .slice oa (written c).data.length oc] := by have := hp5.blk hB6; simpa using this
  have hB5 := (hB2.ext hE3).ext hE35
  have hE15 := (hE12.trans hE3).trans hE35
  (repeat (refine GX.pure rfl ?_; first | refine GO.move rfl rfl rfl rfl ?_ | refine GO.assign rfl rfl rfl rfl ?_ | refine GO.fieldAddr rfl rfl rfl rfl rfl ?_ | refine GO.extract rfl rfl rfl rfl rfl ?_))
  (repeat (first | refine GX.doneD ?_ | refine GX.done ?_ | refine GQ.goNormal ?_ | refine GC.seq ?_ | refine GC.skip ?_ | refine GC.block ?_ | refine GC.exit ?_ | refine GC.ret ?_ | refine GQ.goExit ?_ | refine GQ.goRet ?_ | refine GQ.inNormal ?_ | refine GQ.inExit ?_ | refine GQ.inExitNe rfl ?_ | refine GQ.inRet ?_ | refine GQ.loopExit ?_ | refine GQ.loopRet ?_ | refine GQ.cutExit ?_ | refine GQ.cutRet ?_))
  refine GC.region (.eff 0 (.eff 1 (.pure 2 (.pure 3 (.pure 4 (.pure 5 (.pure 6 .done))))))) rfl ?_
  (first | (refine GX.eff rfl ?_; first | refine GO.load1 (hF5.at) rfl rfl rfl ?_ | refine GO.loadN (hF5.at) rfl rfl rfl rfl ?_) | (refine GX.read rfl ?_; first | refine GO.load1R (by assumption) (fun _ hS_ => At.mod (hF5.at) hS_ (by simp)) rfl rfl rfl ?_ | refine GO.loadNR (by assumption) (fun _ hS_ => At.mod (hF5.at) hS_ (by simp)) rfl rfl rfl rfl ?_))
  (refine GX.eff rfl ?_; refine GO.callL rfl rfl rfl rfl rfl (writeF_ret c.op.toNat (by omega) (written c).data _ rfl (by omega) oa oc w5 (hO3.ext hE35)) ?_)
  rintro v w6 hW6
  by_cases hbig : 2097152 < (written c).data.length
  · rw [if_pos hbig] at hW6
    obtain ⟨rfl, hE6⟩ := hW6
    refine ⟨fun _ h => by first | trivial | exact Mod.trans h (Ext.mod (by assumption)), ?_⟩
    (repeat (refine GX.pure rfl ?_; first | refine GO.move rfl rfl rfl rfl ?_ | refine GO.assign rfl rfl rfl rfl ?_ | refine GO.extract rfl rfl rfl rfl rfl ?_))
    (repeat (first | refine GX.doneD ?_ | refine GX.done ?_ | refine GQ.goNormal ?_ | refine GC.seq ?_ | refine GC.skip ?_ | refine GC.block ?_ | refine GC.exit ?_ | refine GC.ret ?_ | refine GQ.goExit ?_ | refine GQ.goRet ?_ | refine GQ.inNormal ?_ | refine GQ.inExit ?_ | refine GQ.inExitNe rfl ?_ | refine GQ.inRet ?_ | refine GQ.loopExit ?_ | refine GQ.loopRet ?_ | refine GQ.cutExit ?_ | refine GQ.cutRet ?_))
    refine GC.region (.pure 0 (.pure 1 (.pure 2 (.pure 3 (.pure 4 (.pure 5 .done)))))) rfl ?_
    (repeat (refine GX.pure rfl ?_; first | refine GO.move rfl rfl rfl rfl ?_ | refine GO.neq rfl rfl rfl rfl rfl ?_ | refine GO.pickT rfl rfl rfl rfl rfl ?_ | refine GO.pickF rfl rfl rfl rfl rfl ?_ | refine GO.skip (.inl rfl) rfl rfl ?_))
    refine GX.case 28 rfl (fun hq => ?_) (fun hq => ?_)
    · exact absurd (of_decide_eq_true hq) (by simp)
    (repeat (refine GX.pure rfl ?_; first | refine GO.move rfl rfl rfl rfl ?_ | refine GO.neq rfl rfl rfl rfl rfl ?_ | refine GO.pickT rfl rfl rfl rfl rfl ?_ | refine GO.pickF rfl rfl rfl rfl rfl ?_ | refine GO.skip (.inl rfl) rfl rfl ?_))
    (repeat (first | refine GX.doneD ?_ | refine GX.done ?_ | refine GQ.goNormal ?_ | refine GC.seq ?_ | refine GC.skip ?_ | refine GC.block ?_ | refine GC.exit ?_ | refine GC.ret ?_ | refine GQ.goExit ?_ | refine GQ.goRet ?_ | refine GQ.inNormal ?_ | refine GQ.inExit ?_ | refine GQ.inExitNe rfl ?_ | refine GQ.inRet ?_ | refine GQ.loopExit ?_ | refine GQ.loopRet ?_ | refine GQ.cutExit ?_ | refine GQ.cutRet ?_))
    refine GC.cond rfl (fun hh2 => ?_) (fun hh2 => ?_)
    · (repeat (first | refine GX.doneD ?_ | refine GX.done ?_ | refine GQ.goNormal ?_ | refine GC.seq ?_ | refine GC.skip ?_ | refine GC.block ?_ | refine GC.exit ?_ | refine GC.ret ?_ | refine GQ.goExit ?_ | refine GQ.goRet ?_ | refine GQ.inNormal ?_ | refine GQ.inExit ?_ | refine GQ.inExitNe rfl ?_ | refine GQ.inRet ?_ | refine GQ.loopExit ?_ | refine GQ.loopRet ?_ | refine GQ.cutExit ?_ | refine GQ.cutRet ?_))
      refine GC.region (.pure 0 (.pure 1 .done)) rfl ?_
      (repeat (refine GX.pure rfl ?_; refine GO.assign rfl rfl rfl rfl ?_))
      (repeat (first | refine GX.doneD ?_ | refine GX.done ?_ | refine GQ.goNormal ?_ | refine GC.seq ?_ | refine GC.skip ?_ | refine GC.block ?_ | refine GC.exit ?_ | refine GC.ret ?_ | refine GQ.goExit ?_ | refine GQ.goRet ?_ | refine GQ.inNormal ?_ | refine GQ.inExit ?_ | refine GQ.inExitNe rfl ?_ | refine GQ.inRet ?_ | refine GQ.loopExit ?_ | refine GQ.loopRet ?_ | refine GQ.cutExit ?_ | refine GQ.cutRet ?_))
      refine GQ.ret2 (by first | exact .inl rfl | exact .inr rfl) rfl rfl rfl ?_
      have h1 : recJ s (t, c) = [] := by unfold recJ canR; rw [if_neg (by simp; intro _; omega)]
      have h2 : canR (t, c) = false := by unfold canR; simp; intro _; omega
      rw [h1, h2]
      exact ⟨_, rfl, ⟨none, none, 0, rfl, OwnS.nil _ _ _, by simp, by simp⟩, hE15.trans hE6⟩
    · exact absurd (of_decide_eq_false hh2) (by simp)
  rw [if_neg hbig] at hW6
  have hcr : canR (t, c) = true := by unfold canR; simp [hcw]; omega
  have hrec : recJ s (t, c) = recHead (t, c) ++ sumB (foldN s (recHead (t, c))) := by unfold recJ; rw [if_pos hcr]
  rw [hrec, hcr]
  have hhead : recHead (t, c) = putN t ++ writeF c.op.toNat (written c).data := rfl
  have hwfl : (writeF c.op.toNat (written c).data).length ≤ 2097152 + 12 := by have := putN_length ((written c).data.length + 1); simp [writeF]; omega
  obtain ⟨u, rfl, ⟨ob6, a6, c6, rfl, hO6, hF6, hG6⟩, hE6⟩ := hW6
  refine ⟨fun _ h => by first | trivial | exact Mod.trans h (Ext.mod (by assumption)), ?_⟩
  generalize hwd : writeF c.op.toNat (written c).data = bs at *
  have hB6' := hO6.bytes hG6
  have hB56 := hB5.ext hE6
  have hE16 := hE15.trans hE6
  (repeat (refine GX.pure rfl ?_; first | refine GO.move rfl rfl rfl rfl ?_ | refine GO.assign rfl rfl rfl rfl ?_ | refine GO.extract rfl rfl rfl rfl rfl ?_))
  (repeat (first | refine GX.doneD ?_ | refine GX.done ?_ | refine GQ.goNormal ?_ | refine GC.seq ?_ | refine GC.skip ?_ | refine GC.block ?_ | refine GC.exit ?_ | refine GC.ret ?_ | refine GQ.goExit ?_ | refine GQ.goRet ?_ | refine GQ.inNormal ?_ | refine GQ.inExit ?_ | refine GQ.inExitNe rfl ?_ | refine GQ.inRet ?_ | refine GQ.loopExit ?_ | refine GQ.loopRet ?_ | refine GQ.cutExit ?_ | refine GQ.cutRet ?_))
  refine GC.region (.pure 0 (.pure 1 (.pure 2 (.pure 3 (.pure 4 (.pure 5 .done)))))) rfl ?_
  (repeat (refine GX.pure rfl ?_; first | refine GO.move rfl rfl rfl rfl ?_ | refine GO.neq rfl rfl rfl rfl rfl ?_ | refine GO.pickT rfl rfl rfl rfl rfl ?_ | refine GO.pickF rfl rfl rfl rfl rfl ?_ | refine GO.skip (.inl rfl) rfl rfl ?_))
  refine GX.case 28 rfl (fun hq => ?_) (fun hq => ?_)
  · exact absurd (of_decide_eq_true hq) (by simp)
  (repeat (refine GX.pure rfl ?_; first | refine GO.move rfl rfl rfl rfl ?_ | refine GO.neq rfl rfl rfl rfl rfl ?_ | refine GO.pickT rfl rfl rfl rfl rfl ?_ | refine GO.pickF rfl rfl rfl rfl rfl ?_ | refine GO.skip (.inl rfl) rfl rfl ?_))
  (repeat (first | refine GX.doneD ?_ | refine GX.done ?_ | refine GQ.goNormal ?_ | refine GC.seq ?_ | refine GC.skip ?_ | refine GC.block ?_ | refine GC.exit ?_ | refine GC.ret ?_ | refine GQ.goExit ?_ | refine GQ.goRet ?_ | refine GQ.inNormal ?_ | refine GQ.inExit ?_ | refine GQ.inExitNe rfl ?_ | refine GQ.inRet ?_ | refine GQ.loopExit ?_ | refine GQ.loopRet ?_ | refine GQ.cutExit ?_ | refine GQ.cutRet ?_))
  refine GC.cond rfl (fun hh2 => ?_) (fun hh2 => ?_)
  · exact absurd (of_decide_eq_true hh2) (by simp)
  (repeat (first | refine GX.doneD ?_ | refine GX.done ?_ | refine GQ.goNormal ?_ | refine GC.seq ?_ | refine GC.skip ?_ | refine GC.block ?_ | refine GC.exit ?_ | refine GC.ret ?_ | refine GQ.goExit ?_ | refine GQ.goRet ?_ | refine GQ.inNormal ?_ | refine GQ.inExit ?_ | refine GQ.inExitNe rfl ?_ | refine GQ.inRet ?_ | refine GQ.loopExit ?_ | refine GQ.loopRet ?_ | refine GQ.cutExit ?_ | refine GQ.cutRet ?_))
  refine GC.region (.pure 0 (.eff 1 (.eff 2 (.pure 3 (.eff 4 (.pure 5 .done)))))) rfl ?_
  (repeat (refine GX.pure rfl ?_; first | refine GO.move rfl rfl rfl rfl ?_ | refine GO.assign rfl rfl rfl rfl ?_ | refine GO.fieldAddr rfl rfl rfl rfl rfl ?_))
  (first | (refine GX.eff rfl ?_; first | refine GO.load1 (hB56.get (o := 0 + 0) rfl) rfl rfl rfl ?_ | refine GO.loadN (hB56.get (o := 0 + 0) rfl) rfl rfl rfl rfl ?_) | (refine GX.read rfl ?_; first | refine GO.load1R (by assumption) (fun _ hS_ => At.mod (hB56.get (o := 0 + 0) rfl) hS_ (by simp)) rfl rfl rfl ?_ | refine GO.loadNR (by assumption) (fun _ hS_ => At.mod (hB56.get (o := 0 + 0) rfl) hS_ (by simp)) rfl rfl rfl rfl ?_))
  (refine GX.eff rfl ?_; refine GO.callL rfl rfl rfl rfl rfl (put_ret [] t hx 0 rfl (by simp) none 0 w6 (BytesAt.none _)) ?_)
  rintro v w7 ⟨⟨ob7, a7, c7, rfl, hO7, hF7, hG7⟩, hE7⟩
  refine ⟨fun _ h => by first | trivial | exact Mod.trans h (Ext.mod (by assumption)), ?_⟩
  have hpl := putN_length t
  (repeat (refine GX.pure rfl ?_; first | refine GO.move rfl rfl rfl rfl ?_ | refine GO.assign rfl rfl rfl rfl ?_ | refine GO.fieldAddr rfl rfl rfl rfl rfl ?_))
  refine GX.eff rfl ?_
  refine GO.append hO7 (hB6'.ext hE7).cells (by simp) (bytesV_one bs) (by simp; omega) (by simp; omega) rfl rfl rfl rfl rfl fun ob8 a8 c8 w8 hO8 hM8 hF8 hG8 => ?_
  have hE8 : Ext w6 w8 := hE7.then hM8 fun i hi h => by have := hF7 i h.symm; omega
  refine ⟨fun _ h => by first | trivial | exact Mod.trans h (Ext.mod (by assumption)), ?_⟩
  rw [← bytesV_append] at hO8
  have hl8 : ([] ++ putN t).length + bs.length = (recHead (t, c)).length := by rw [hhead]; simp
  have hb8 : ([] ++ putN t) ++ bs = recHead (t, c) := by rw [hhead]; simp
  rw [hb8, hl8] at hO8
  rw [hl8]
  have hfr8 : ∀ y, ob8 = some y → w6.heap.size ≤ y := fun y hy => by
    rcases hF8 y hy with h | h
    · exact hF7 y h
    · have := hE7.size; omega
  have hgr8 : ∀ y, a8 = some y → ob8 = some y.block := fun y hy => by
    rcases hG8 y hy with h | ⟨h, h'⟩
    · exact h
    · rw [h']; exact hG7 y h
  have hhl : (recHead (t, c)).length < 2 ^ 30 := by rw [hhead]; simp; omega
  clear hhead hb8 hl8
  generalize recHead (t, c) = hd at *
  (repeat (refine GX.pure rfl ?_; first | refine GO.move rfl rfl rfl rfl ?_ | refine GO.assign rfl rfl rfl rfl ?_ | refine GO.fieldAddr rfl rfl rfl rfl rfl ?_))
  (repeat (first | refine GX.doneD ?_ | refine GX.done ?_ | refine GQ.goNormal ?_ | refine GC.seq ?_ | refine GC.skip ?_ | refine GC.block ?_ | refine GC.exit ?_ | refine GC.ret ?_ | refine GQ.goExit ?_ | refine GQ.goRet ?_ | refine GQ.inNormal ?_ | refine GQ.inExit ?_ | refine GQ.inExitNe rfl ?_ | refine GQ.inRet ?_ | refine GQ.loopExit ?_ | refine GQ.loopRet ?_ | refine GQ.cutExit ?_ | refine GQ.cutRet ?_))
  refine GC.region (.pure 0 (.pure 1 (.eff 2 (.pure 3 .done)))) rfl ?_
  (repeat (refine GX.pure rfl ?_; first | refine GO.move rfl rfl rfl rfl ?_ | refine GO.assign rfl rfl rfl rfl ?_))
  (refine GX.eff rfl ?_; refine GO.callL rfl rfl rfl rfl rfl (sumL_ret s hs hd (by omega) a8 c8 w8 (hO8.bytes hgr8).cells) ?_)
  rintro v w9 ⟨rfl, rfl⟩
  refine ⟨fun _ h => by first | trivial | exact Mod.trans h (Ext.mod (by assumption)), ?_⟩
  have hfl := foldN_lt s hd hs
  generalize foldN s hd = z at *
  (repeat (refine GX.pure rfl ?_; first | refine GO.move rfl rfl rfl rfl ?_ | refine GO.assign rfl rfl rfl rfl ?_))
  (repeat (first | refine GX.doneD ?_ | refine GX.done ?_ | refine GQ.goNormal ?_ | refine GC.seq ?_ | refine GC.skip ?_ | refine GC.block ?_ | refine GC.exit ?_ | refine GC.ret ?_ | refine GQ.goExit ?_ | refine GQ.goRet ?_ | refine GQ.inNormal ?_ | refine GQ.inExit ?_ | refine GQ.inExitNe rfl ?_ | refine GQ.inRet ?_ | refine GQ.loopExit ?_ | refine GQ.loopRet ?_ | refine GQ.cutExit ?_ | refine GQ.cutRet ?_))
  refine GC.region (.pure 0 (.pure 1 (.pure 2 (.pure 3 (.pure 4 (.pure 5 (.pure 6 (.pure 7 (.pure 8 (.pure 9 (.pure 10 (.pure 11 (.pure 12 (.pure 13 (.pure 14 (.eff 15 (.eff 16 (.pure 17 (.pure 18 .done))))))))))))))))))) rfl ?_
  (repeat (refine GX.pure rfl ?_; first | refine GO.move rfl rfl rfl rfl ?_ | refine GO.assign rfl rfl rfl rfl ?_ | refine GO.conv rfl rfl rfl rfl (wrapIn (by dsimp only [InK]; omega)) ?_ | refine GO.convStr rfl rfl rfl rfl ?_))
  refine GX.pure rfl (GO.quo rfl rfl rfl rfl rfl (by decide) (quoU32 z 16777216 hfl) ?_)
  refine GX.pure rfl (GO.conv rfl rfl rfl rfl (wrapU8 _) ?_)
  (repeat (refine GX.pure rfl ?_; first | refine GO.move rfl rfl rfl rfl ?_ | refine GO.assign rfl rfl rfl rfl ?_ | refine GO.conv rfl rfl rfl rfl (wrapIn (by dsimp only [InK]; omega)) ?_ | refine GO.convStr rfl rfl rfl rfl ?_))
  refine GX.pure rfl (GO.quo rfl rfl rfl rfl rfl (by decide) (quoU32 z 65536 hfl) ?_)
  refine GX.pure rfl (GO.rem rfl rfl rfl rfl rfl (by decide) (remU32 (z / 65536) 256) ?_)
  refine GX.pure rfl (GO.conv rfl rfl rfl rfl (wrapU8 _) ?_)
  (repeat (refine GX.pure rfl ?_; first | refine GO.move rfl rfl rfl rfl ?_ | refine GO.assign rfl rfl rfl rfl ?_ | refine GO.conv rfl rfl rfl rfl (wrapIn (by dsimp only [InK]; omega)) ?_ | refine GO.convStr rfl rfl rfl rfl ?_))
  refine GX.pure rfl (GO.quo rfl rfl rfl rfl rfl (by decide) (quoU32 z 256 hfl) ?_)
  refine GX.pure rfl (GO.rem rfl rfl rfl rfl rfl (by decide) (remU32 (z / 256) 256) ?_)
  refine GX.pure rfl (GO.conv rfl rfl rfl rfl (wrapU8 _) ?_)
  (repeat (refine GX.pure rfl ?_; first | refine GO.move rfl rfl rfl rfl ?_ | refine GO.assign rfl rfl rfl rfl ?_ | refine GO.conv rfl rfl rfl rfl (wrapIn (by dsimp only [InK]; omega)) ?_ | refine GO.convStr rfl rfl rfl rfl ?_))
  refine GX.pure rfl (GO.rem rfl rfl rfl rfl rfl (by decide) (remU32 z 256) ?_)
  refine GX.pure rfl (GO.conv rfl rfl rfl rfl (wrapU8 _) ?_)
  refine GX.eff rfl ?_
  refine GO.buildSlice (out := [.int .u8 (((z / 16777216 : Nat) : Int) % 256), .int .u8 (((z / 65536 % 256 : Nat) : Int) % 256), .int .u8 (((z / 256 % 256 : Nat) : Int) % 256), .int .u8 (((z % 256 : Nat) : Int) % 256)]) (by kernel_rfl) (by decide) rfl rfl rfl (by simp) rfl fun b9 w10 hb9 hO9 hE9 => ?_
  have hsb : [.int .u8 (((z / 16777216 : Nat) : Int) % 256), .int .u8 (((z / 65536 % 256 : Nat) : Int) % 256), .int .u8 (((z / 256 % 256 : Nat) : Int) % 256), .int .u8 (((z % 256 : Nat) : Int) % 256)] = bytesV (sumB z) := by
    have g1 : ((z / 65536 % 256 : Nat) : Int) % 256 = ((z / 65536 : Nat) : Int) % 256 := by omega
    have g2 : ((z / 256 % 256 : Nat) : Int) % 256 = ((z / 256 : Nat) : Int) % 256 := by omega
    have g3 : ((z % 256 : Nat) : Int) % 256 = (z : Int) % 256 := by omega
    rw [g1, g2, g3]
    simp only [bytesV, sumB, List.map_cons, List.map_nil, byteV_mod]
  rw [hsb] at hO9
  refine ⟨fun _ h => by first | trivial | exact Mod.trans h (Ext.mod (by assumption)), ?_⟩
  refine GX.eff rfl ?_
  refine GO.append (hO8.ext hE9) hO9.sla (by simp [sumB]) (bytesV_one (sumB z)) (by omega) (by omega) rfl rfl rfl rfl rfl fun ob10 a10 c10 w11 hO10 hM10 hF10 hG10 => ?_
  have s79 := hE9.size
  have s57 := hE8.size
  have s6 := hE7.size
  have hE10 : Ext w6 w11 := (hE8.trans hE9).then hM10 fun i hi h => by have := hfr8 i h.symm; omega
  refine ⟨fun _ h => by first | trivial | exact Mod.trans h (Ext.mod (by assumption)), ?_⟩
  (repeat (refine GX.pure rfl ?_; first | refine GO.move rfl rfl rfl rfl ?_ | refine GO.assign rfl rfl rfl rfl ?_ | refine GO.conv rfl rfl rfl rfl (wrapIn (by dsimp only [InK]; omega)) ?_ | refine GO.convStr rfl rfl rfl rfl ?_))
  (repeat (first | refine GX.doneD ?_ | refine GX.done ?_ | refine GQ.goNormal ?_ | refine GC.seq ?_ | refine GC.skip ?_ | refine GC.block ?_ | refine GC.exit ?_ | refine GC.ret ?_ | refine GQ.goExit ?_ | refine GQ.goRet ?_ | refine GQ.inNormal ?_ | refine GQ.inExit ?_ | refine GQ.inExitNe rfl ?_ | refine GQ.inRet ?_ | refine GQ.loopExit ?_ | refine GQ.loopRet ?_ | refine GQ.cutExit ?_ | refine GQ.cutRet ?_))
  refine GQ.ret2 (by first | exact .inl rfl | exact .inr rfl) rfl rfl rfl ?_
  rw [← bytesV_append] at hO10
  have hlf : hd.length + 4 = (hd ++ sumB z).length := by simp [sumB]
  rw [hlf] at hO10 ⊢
  have hEw := hE16.trans hE10
  have s5 := hE16.size
  refine ⟨_, rfl, ⟨ob10, a10, c10, rfl, hO10, fun y hy => ?_, fun y hy => ?_⟩, hEw⟩
  · rcases hF10 y hy with h | h
    · have := hfr8 y h; omega
    · omega
  · rcases hG10 y hy with h | ⟨h, h'⟩
    · exact h
    · rw [h']; exact hgr8 y h
end Go.Proofs.Ytahkglanddhncaa.V
