/-
  What the functions that make the record of a command and read the next command compute (package journal). Conditions: the command's parts are shorter than 2^28, the bytes shorter than 2^30.
-/
import Derived.Test.YtahkglanddhncaaWv
namespace Go.Proofs.Ytahkglanddhncaa.V
attribute [local irreducible] GX GO

/-- The four bytes of a sum. -/
def sumB (s : Nat) : List UInt8 := [UInt8.ofNat (s / 16777216), UInt8.ofNat (s / 65536), UInt8.ofNat (s / 256), UInt8.ofNat s]
/-- The record of a command without its sum. -/
def recHead (x : Nat × Cmd) : List UInt8 := putN x.1 ++ writeF x.2.op.toNat (written x.2).data
/-- Whether there is a record. -/
def canR (x : Nat × Cmd) : Bool := canW x.2 && decide ((written x.2).data.length ≤ 2097152)
/-- The record of a command after a sum, or nothing. -/
def recJ (s : Nat) (x : Nat × Cmd) : List UInt8 := if canR x then recHead x ++ sumB (foldN s (recHead x)) else []

theorem shrU32 (z k : Nat) (hk : k ≤ 32) : ((z : Int) / 2 ^ min ((k : Int)).toNat (IntKind.bits .u32)) = ((z / 2 ^ k : Nat) : Int) := by
  have : min ((k : Int)).toNat (IntKind.bits .u32) = k := by
    have : IntKind.bits .u32 = 32 := rfl
    rw [this]; omega
  rw [this]
  simp
theorem byteV_mod (n : Nat) : byteV (UInt8.ofNat n) = .int .u8 ((n : Int) % 256) := by
  simp [byteV, UInt8.toNat_ofNat]

set_option maxHeartbeats 4000000 in
theorem record_ret (s : Nat) (hs : s < 4294967296) (x : Nat × Cmd) (hx : x.1 < 18446744073709551616) (hc : OkC x.2) (l : List Value) (B : Nat) (w : World) (hV : CmdV w B l x.2) :
    Ret Try.prog 34 [.int .u32 s, .int .u64 x.1, .agg l.toArray].toArray w (NewBytes w (recJ s x)) := by
  obtain ⟨t, c⟩ := x
  dsimp only at hx hc hV
  have hlen := hV.length
  have hsz := hc.size
  have hwl := written_len c
  
  refine Ret.enter Try.func34 rfl Try.ntmps34 rfl ?_
  (repeat (first | refine GX.doneD ?_ | refine GX.done ?_ | refine GQ.goNormal ?_ | refine GC.seq ?_ | refine GC.skip ?_ | refine GC.block ?_ | refine GC.exit ?_ | refine GC.ret ?_ | refine GQ.goExit ?_ | refine GQ.goRet ?_ | refine GQ.inNormal ?_ | refine GQ.inExit ?_ | refine GQ.inExitNe rfl ?_ | refine GQ.inRet ?_ | refine GQ.loopExit ?_ | refine GQ.loopRet ?_ | refine GQ.cutExit ?_ | refine GQ.cutRet ?_))
  refine GC.region (.eff 0 (.pure 1 .done)) rfl ?_
  refine GX.eff rfl ?_
  refine GO.box (l := l) rfl rfl rfl rfl fun b1 w1 hb1 hB1 hE1 => ?_
  refine ⟨fun _ h => by first | trivial | exact Mod.trans h (Ext.mod (by assumption)), ?_⟩
  (repeat (refine GX.pure rfl ?_; refine GO.assign rfl rfl rfl rfl ?_))
  (repeat (first | refine GX.doneD ?_ | refine GX.done ?_ | refine GQ.goNormal ?_ | refine GC.seq ?_ | refine GC.skip ?_ | refine GC.block ?_ | refine GC.exit ?_ | refine GC.ret ?_ | refine GQ.goExit ?_ | refine GQ.goRet ?_ | refine GQ.inNormal ?_ | refine GQ.inExit ?_ | refine GQ.inExitNe rfl ?_ | refine GQ.inRet ?_ | refine GQ.loopExit ?_ | refine GQ.loopRet ?_ | refine GQ.cutExit ?_ | refine GQ.cutRet ?_))
  refine GC.region (.eff 0 (.eff 1 (.pure 2 (.pure 3 (.pure 4 (.eff 5 (.eff 6 (.pure 7 .done)))))))) rfl ?_
  refine GX.eff rfl ?_
  refine GO.loadN hB1.at hlen rfl rfl rfl ?_
  (refine GX.eff rfl ?_; refine GO.callL rfl rfl rfl rfl rfl (writeC_ret c hc l B w1 (hV.ext hE1)) ?_)
  rintro v w2 ⟨hW, hE2⟩
  refine ⟨fun _ h => by first | trivial | exact Mod.trans h (Ext.mod (by assumption)), ?_⟩
  by_cases hcw : canW c = true
  rotate_left
  · have hcw' : canW c = false := by simpa using hcw
    rw [hcw'] at hW
    rw [if_neg (by simp)] at hW
    subst hW
    (repeat (refine GX.pure rfl ?_; first | refine GO.move rfl rfl rfl rfl ?_ | refine GO.assign rfl rfl rfl rfl ?_ | refine GO.extract rfl rfl rfl rfl rfl ?_))
    refine GX.eff rfl ?_
    refine GO.alloc rfl rfl fun b3 w3 hb3 hB3 hE3 => ?_
    refine ⟨fun _ h => by first | trivial | exact Mod.trans h (Ext.mod (by assumption)), ?_⟩
    refine GX.eff rfl ?_
    refine GO.store (vs := [.int .u8 0, .slice none 0 0]) (hB3.wr (by simp)) rfl rfl (by simp [Value.oneCell']) rfl rfl rfl fun w4 hp => ⟨(by first | exact fun _ _ => trivial | exact late_abs (by kernel_rfl)), ?_⟩
    (repeat (refine GX.pure rfl ?_; first | refine GO.move rfl rfl rfl rfl ?_ | refine GO.assign rfl rfl rfl rfl ?_ | refine GO.extract rfl rfl rfl rfl rfl ?_))
    (repeat (first | refine GX.doneD ?_ | refine GX.done ?_ | refine GQ.goNormal ?_ | refine GC.seq ?_ | refine GC.skip ?_ | refine GC.block ?_ | refine GC.exit ?_ | refine GC.ret ?_ | refine GQ.goExit ?_ | refine GQ.goRet ?_ | refine GQ.inNormal ?_ | refine GQ.inExit ?_ | refine GQ.inExitNe rfl ?_ | refine GQ.inRet ?_ | refine GQ.loopExit ?_ | refine GQ.loopRet ?_ | refine GQ.cutExit ?_ | refine GQ.cutRet ?_))
    refine GC.region (.pure 0 (.pure 1 .done)) rfl ?_
    (repeat (refine GX.pure rfl ?_; first | refine GO.move rfl rfl rfl rfl ?_ | refine GO.neq rfl rfl rfl rfl rfl ?_))
    (repeat (first | refine GX.doneD ?_ | refine GX.done ?_ | refine GQ.goNormal ?_ | refine GC.seq ?_ | refine GC.skip ?_ | refine GC.block ?_ | refine GC.exit ?_ | refine GC.ret ?_ | refine GQ.goExit ?_ | refine GQ.goRet ?_ | refine GQ.inNormal ?_ | refine GQ.inExit ?_ | refine GQ.inExitNe rfl ?_ | refine GQ.inRet ?_ | refine GQ.loopExit ?_ | refine GQ.loopRet ?_ | refine GQ.cutExit ?_ | refine GQ.cutRet ?_))
    refine GC.cond rfl (fun hh => ?_) (fun hh => ?_)
    · (repeat (first | refine GX.doneD ?_ | refine GX.done ?_ | refine GQ.goNormal ?_ | refine GC.seq ?_ | refine GC.skip ?_ | refine GC.block ?_ | refine GC.exit ?_ | refine GC.ret ?_ | refine GQ.goExit ?_ | refine GQ.goRet ?_ | refine GQ.inNormal ?_ | refine GQ.inExit ?_ | refine GQ.inExitNe rfl ?_ | refine GQ.inRet ?_ | refine GQ.loopExit ?_ | refine GQ.loopRet ?_ | refine GQ.cutExit ?_ | refine GQ.cutRet ?_))
      refine GC.region (.pure 0 .done) rfl ?_
      (repeat (refine GX.pure rfl ?_; refine GO.assign rfl rfl rfl rfl ?_))
      (repeat (first | refine GX.doneD ?_ | refine GX.done ?_ | refine GQ.goNormal ?_ | refine GC.seq ?_ | refine GC.skip ?_ | refine GC.block ?_ | refine GC.exit ?_ | refine GC.ret ?_ | refine GQ.goExit ?_ | refine GQ.goRet ?_ | refine GQ.inNormal ?_ | refine GQ.inExit ?_ | refine GQ.inExitNe rfl ?_ | refine GQ.inRet ?_ | refine GQ.loopExit ?_ | refine GQ.loopRet ?_ | refine GQ.cutExit ?_ | refine GQ.cutRet ?_))
      refine GQ.ret1 (by first | exact .inl rfl | exact .inr rfl) rfl rfl ?_
      have : recJ s (t, c) = [] := by unfold recJ canR; rw [hcw']; rfl
      rw [this]
      exact ⟨⟨none, none, 0, rfl, OwnS.nil _ _ _, by simp, by simp⟩, (hE1.trans hE2).trans (hE3.then hp.mod fun i hi h => by omega)⟩
    · exact absurd (of_decide_eq_false hh) (by simp)
  rw [if_pos hcw] at hW
  obtain ⟨oa, oc, rfl, hO2⟩ := hW
  have hop : 0 < c.op ∧ c.op < 16 := by
    unfold canW at hcw; have := of_decide_eq_true hcw; exact this.1
  (repeat (refine GX.pure rfl ?_; first | refine GO.move rfl rfl rfl rfl ?_ | refine GO.assign rfl rfl rfl rfl ?_ | refine GO.extract rfl rfl rfl rfl rfl ?_))
  refine GX.eff rfl ?_
  refine GO.alloc rfl rfl fun b3 w3 hb3 hB3 hE3 => ?_
  refine ⟨fun _ h => by first | trivial | exact Mod.trans h (Ext.mod (by assumption)), ?_⟩
  refine GX.eff rfl ?_
  refine GO.store (vs := [.int .u8 c.op.toNat, .slice oa (written c).data.length oc]) (hB3.wr (by simp)) rfl rfl (by simp [Value.oneCell']) rfl rfl rfl fun w4 hp4 => ⟨(by first | exact fun _ _ => trivial | exact late_abs (by kernel_rfl)), ?_⟩
  have hE4 : Ext w2 w4 := hE3.then hp4.mod fun i hi h => by omega
  have hF4 : Blk w4 b3 [.int .u8 c.op.toNat, .slice oa (written c).data.length oc] := by have := hp4.blk hB3; simpa using this
  (repeat (refine GX.pure rfl ?_; first | refine GO.move rfl rfl rfl rfl ?_ | refine GO.assign rfl rfl rfl rfl ?_ | refine GO.extract rfl rfl rfl rfl rfl ?_))
  (repeat (first | refine GX.doneD ?_ | refine GX.done ?_ | refine GQ.goNormal ?_ | refine GC.seq ?_ | refine GC.skip ?_ | refine GC.block ?_ | refine GC.exit ?_ | refine GC.ret ?_ | refine GQ.goExit ?_ | refine GQ.goRet ?_ | refine GQ.inNormal ?_ | refine GQ.inExit ?_ | refine GQ.inExitNe rfl ?_ | refine GQ.inRet ?_ | refine GQ.loopExit ?_ | refine GQ.loopRet ?_ | refine GQ.cutExit ?_ | refine GQ.cutRet ?_))
  refine GC.region (.pure 0 (.pure 1 .done)) rfl ?_
  (repeat (refine GX.pure rfl ?_; first | refine GO.move rfl rfl rfl rfl ?_ | refine GO.neq rfl rfl rfl rfl rfl ?_))
  (repeat (first | refine GX.doneD ?_ | refine GX.done ?_ | refine GQ.goNormal ?_ | refine GC.seq ?_ | refine GC.skip ?_ | refine GC.block ?_ | refine GC.exit ?_ | refine GC.ret ?_ | refine GQ.goExit ?_ | refine GQ.goRet ?_ | refine GQ.inNormal ?_ | refine GQ.inExit ?_ | refine GQ.inExitNe rfl ?_ | refine GQ.inRet ?_ | refine GQ.loopExit ?_ | refine GQ.loopRet ?_ | refine GQ.cutExit ?_ | refine GQ.cutRet ?_))
  refine GC.cond rfl (fun hh => ?_) (fun hh => ?_)
  · exact absurd (of_decide_eq_true hh) (by simp)
  (repeat (first | refine GX.doneD ?_ | refine GX.done ?_ | refine GQ.goNormal ?_ | refine GC.seq ?_ | refine GC.skip ?_ | refine GC.block ?_ | refine GC.exit ?_ | refine GC.ret ?_ | refine GQ.goExit ?_ | refine GQ.goRet ?_ | refine GQ.inNormal ?_ | refine GQ.inExit ?_ | refine GQ.inExitNe rfl ?_ | refine GQ.inRet ?_ | refine GQ.loopExit ?_ | refine GQ.loopRet ?_ | refine GQ.cutExit ?_ | refine GQ.cutRet ?_))
  refine GC.region (.eff 0 (.eff 1 (.pure 2 (.pure 3 (.pure 4 (.pure 5 (.pure 6 .done))))))) rfl ?_
  (first | (refine GX.eff rfl ?_; first | refine GO.load1 (hF4.at) rfl rfl rfl ?_ | refine GO.loadN (hF4.at) rfl rfl rfl rfl ?_) | (refine GX.read rfl ?_; first | refine GO.load1R (by assumption) (fun _ hS_ => At.mod (hF4.at) hS_ (by simp)) rfl rfl rfl ?_ | refine GO.loadNR (by assumption) (fun _ hS_ => At.mod (hF4.at) hS_ (by simp)) rfl rfl rfl rfl ?_))
  (refine GX.eff rfl ?_; refine GO.callL rfl rfl rfl rfl rfl (writeF_ret c.op.toNat (by omega) (written c).data _ rfl (by omega) oa oc w4 (hO2.ext hE4)) ?_)
  rintro v w5 hW5
  have hE14 : Ext w w4 := (hE1.trans hE2).trans hE4
  by_cases hbig : 2097152 < (written c).data.length
  · rw [if_pos hbig] at hW5
    obtain ⟨rfl, hE5⟩ := hW5
    refine ⟨fun _ h => by first | trivial | exact Mod.trans h (Ext.mod (by assumption)), ?_⟩
    (repeat (refine GX.pure rfl ?_; first | refine GO.move rfl rfl rfl rfl ?_ | refine GO.assign rfl rfl rfl rfl ?_ | refine GO.extract rfl rfl rfl rfl rfl ?_))
    (repeat (first | refine GX.doneD ?_ | refine GX.done ?_ | refine GQ.goNormal ?_ | refine GC.seq ?_ | refine GC.skip ?_ | refine GC.block ?_ | refine GC.exit ?_ | refine GC.ret ?_ | refine GQ.goExit ?_ | refine GQ.goRet ?_ | refine GQ.inNormal ?_ | refine GQ.inExit ?_ | refine GQ.inExitNe rfl ?_ | refine GQ.inRet ?_ | refine GQ.loopExit ?_ | refine GQ.loopRet ?_ | refine GQ.cutExit ?_ | refine GQ.cutRet ?_))
    refine GC.region (.pure 0 (.pure 1 .done)) rfl ?_
    (repeat (refine GX.pure rfl ?_; first | refine GO.move rfl rfl rfl rfl ?_ | refine GO.neq rfl rfl rfl rfl rfl ?_))
    (repeat (first | refine GX.doneD ?_ | refine GX.done ?_ | refine GQ.goNormal ?_ | refine GC.seq ?_ | refine GC.skip ?_ | refine GC.block ?_ | refine GC.exit ?_ | refine GC.ret ?_ | refine GQ.goExit ?_ | refine GQ.goRet ?_ | refine GQ.inNormal ?_ | refine GQ.inExit ?_ | refine GQ.inExitNe rfl ?_ | refine GQ.inRet ?_ | refine GQ.loopExit ?_ | refine GQ.loopRet ?_ | refine GQ.cutExit ?_ | refine GQ.cutRet ?_))
    refine GC.cond rfl (fun hh2 => ?_) (fun hh2 => ?_)
    · (repeat (first | refine GX.doneD ?_ | refine GX.done ?_ | refine GQ.goNormal ?_ | refine GC.seq ?_ | refine GC.skip ?_ | refine GC.block ?_ | refine GC.exit ?_ | refine GC.ret ?_ | refine GQ.goExit ?_ | refine GQ.goRet ?_ | refine GQ.inNormal ?_ | refine GQ.inExit ?_ | refine GQ.inExitNe rfl ?_ | refine GQ.inRet ?_ | refine GQ.loopExit ?_ | refine GQ.loopRet ?_ | refine GQ.cutExit ?_ | refine GQ.cutRet ?_))
      refine GC.region (.pure 0 .done) rfl ?_
      (repeat (refine GX.pure rfl ?_; refine GO.assign rfl rfl rfl rfl ?_))
      (repeat (first | refine GX.doneD ?_ | refine GX.done ?_ | refine GQ.goNormal ?_ | refine GC.seq ?_ | refine GC.skip ?_ | refine GC.block ?_ | refine GC.exit ?_ | refine GC.ret ?_ | refine GQ.goExit ?_ | refine GQ.goRet ?_ | refine GQ.inNormal ?_ | refine GQ.inExit ?_ | refine GQ.inExitNe rfl ?_ | refine GQ.inRet ?_ | refine GQ.loopExit ?_ | refine GQ.loopRet ?_ | refine GQ.cutExit ?_ | refine GQ.cutRet ?_))
      refine GQ.ret1 (by first | exact .inl rfl | exact .inr rfl) rfl rfl ?_
      have : recJ s (t, c) = [] := by unfold recJ canR; rw [if_neg (by simp; intro _; omega)]
      rw [this]
      exact ⟨⟨none, none, 0, rfl, OwnS.nil _ _ _, by simp, by simp⟩, hE14.trans hE5⟩
    · exact absurd (of_decide_eq_false hh2) (by simp)
  rw [if_neg hbig] at hW5
  have hrec : recJ s (t, c) = recHead (t, c) ++ sumB (foldN s (recHead (t, c))) := by unfold recJ canR; rw [if_pos (by simp [hcw]; omega)]
  rw [hrec]
  have hhead : recHead (t, c) = putN t ++ writeF c.op.toNat (written c).data := rfl
  have hwfl : (writeF c.op.toNat (written c).data).length ≤ 2097152 + 12 := by have := putN_length ((written c).data.length + 1); simp [writeF]; omega
  obtain ⟨u, rfl, ⟨ob5, a5, c5, rfl, hO5, hF5, hG5⟩, hE5⟩ := hW5
  refine ⟨fun _ h => by first | trivial | exact Mod.trans h (Ext.mod (by assumption)), ?_⟩
  generalize hwd : writeF c.op.toNat (written c).data = bs at *
  have hB5 := hO5.bytes hG5
  (repeat (refine GX.pure rfl ?_; first | refine GO.move rfl rfl rfl rfl ?_ | refine GO.assign rfl rfl rfl rfl ?_ | refine GO.extract rfl rfl rfl rfl rfl ?_))
  (repeat (first | refine GX.doneD ?_ | refine GX.done ?_ | refine GQ.goNormal ?_ | refine GC.seq ?_ | refine GC.skip ?_ | refine GC.block ?_ | refine GC.exit ?_ | refine GC.ret ?_ | refine GQ.goExit ?_ | refine GQ.goRet ?_ | refine GQ.inNormal ?_ | refine GQ.inExit ?_ | refine GQ.inExitNe rfl ?_ | refine GQ.inRet ?_ | refine GQ.loopExit ?_ | refine GQ.loopRet ?_ | refine GQ.cutExit ?_ | refine GQ.cutRet ?_))
  refine GC.region (.pure 0 (.pure 1 .done)) rfl ?_
  (repeat (refine GX.pure rfl ?_; first | refine GO.move rfl rfl rfl rfl ?_ | refine GO.neq rfl rfl rfl rfl rfl ?_))
  (repeat (first | refine GX.doneD ?_ | refine GX.done ?_ | refine GQ.goNormal ?_ | refine GC.seq ?_ | refine GC.skip ?_ | refine GC.block ?_ | refine GC.exit ?_ | refine GC.ret ?_ | refine GQ.goExit ?_ | refine GQ.goRet ?_ | refine GQ.inNormal ?_ | refine GQ.inExit ?_ | refine GQ.inExitNe rfl ?_ | refine GQ.inRet ?_ | refine GQ.loopExit ?_ | refine GQ.loopRet ?_ | refine GQ.cutExit ?_ | refine GQ.cutRet ?_))
  refine GC.cond rfl (fun hh2 => ?_) (fun hh2 => ?_)
  · exact absurd (of_decide_eq_true hh2) (by simp)
  (repeat (first | refine GX.doneD ?_ | refine GX.done ?_ | refine GQ.goNormal ?_ | refine GC.seq ?_ | refine GC.skip ?_ | refine GC.block ?_ | refine GC.exit ?_ | refine GC.ret ?_ | refine GQ.goExit ?_ | refine GQ.goRet ?_ | refine GQ.inNormal ?_ | refine GQ.inExit ?_ | refine GQ.inExitNe rfl ?_ | refine GQ.inRet ?_ | refine GQ.loopExit ?_ | refine GQ.loopRet ?_ | refine GQ.cutExit ?_ | refine GQ.cutRet ?_))
  refine GC.region (.pure 0 (.eff 1 (.pure 2 (.eff 3 (.pure 4 .done))))) rfl ?_
  (repeat (refine GX.pure rfl ?_; first | refine GO.move rfl rfl rfl rfl ?_ | refine GO.assign rfl rfl rfl rfl ?_))
  (refine GX.eff rfl ?_; refine GO.callL rfl rfl rfl rfl rfl (put_ret [] t hx 0 rfl (by simp) none 0 w5 (BytesAt.none _)) ?_)
  rintro v w6 ⟨⟨ob6, a6, c6, rfl, hO6, hF6, hG6⟩, hE6⟩
  refine ⟨fun _ h => by first | trivial | exact Mod.trans h (Ext.mod (by assumption)), ?_⟩
  have hpl := putN_length t
  (repeat (refine GX.pure rfl ?_; first | refine GO.move rfl rfl rfl rfl ?_ | refine GO.assign rfl rfl rfl rfl ?_))
  refine GX.eff rfl ?_
  refine GO.append hO6 (hB5.ext hE6).cells (by simp) (bytesV_one bs) (by simp; omega) (by simp; omega) rfl rfl rfl rfl rfl fun ob7 a7 c7 w7 hO7 hM7 hF7 hG7 => ?_
  have hE7 : Ext w5 w7 := hE6.then hM7 fun i hi h => by have := hF6 i h.symm; omega
  refine ⟨fun _ h => by first | trivial | exact Mod.trans h (Ext.mod (by assumption)), ?_⟩
  rw [← bytesV_append] at hO7
  have hl7 : ([] ++ putN t).length + bs.length = (recHead (t, c)).length := by rw [hhead]; simp
  have hb7 : ([] ++ putN t) ++ bs = recHead (t, c) := by rw [hhead]; simp
  rw [hb7, hl7] at hO7
  rw [hl7]
  have hfr7 : ∀ y, ob7 = some y → w5.heap.size ≤ y := fun y hy => by
    rcases hF7 y hy with h | h
    · exact hF6 y h
    · have := hE6.size; omega
  have hgr7 : ∀ y, a7 = some y → ob7 = some y.block := fun y hy => by
    rcases hG7 y hy with h | ⟨h, h'⟩
    · exact h
    · rw [h']; exact hG6 y h
  have hhl : (recHead (t, c)).length < 2 ^ 30 := by rw [hhead]; simp; omega
  clear hhead hb7 hl7
  generalize recHead (t, c) = hd at *
  (repeat (refine GX.pure rfl ?_; first | refine GO.move rfl rfl rfl rfl ?_ | refine GO.assign rfl rfl rfl rfl ?_))
  (repeat (first | refine GX.doneD ?_ | refine GX.done ?_ | refine GQ.goNormal ?_ | refine GC.seq ?_ | refine GC.skip ?_ | refine GC.block ?_ | refine GC.exit ?_ | refine GC.ret ?_ | refine GQ.goExit ?_ | refine GQ.goRet ?_ | refine GQ.inNormal ?_ | refine GQ.inExit ?_ | refine GQ.inExitNe rfl ?_ | refine GQ.inRet ?_ | refine GQ.loopExit ?_ | refine GQ.loopRet ?_ | refine GQ.cutExit ?_ | refine GQ.cutRet ?_))
  refine GC.region (.pure 0 (.pure 1 (.eff 2 (.pure 3 .done)))) rfl ?_
  (repeat (refine GX.pure rfl ?_; first | refine GO.move rfl rfl rfl rfl ?_ | refine GO.assign rfl rfl rfl rfl ?_))
  (refine GX.eff rfl ?_; refine GO.callL rfl rfl rfl rfl rfl (fold_ret s hs hd (by omega) a7 c7 w7 (hO7.bytes hgr7).cells) ?_)
  rintro v w8 ⟨rfl, rfl⟩
  refine ⟨fun _ h => by first | trivial | exact Mod.trans h (Ext.mod (by assumption)), ?_⟩
  have hfl := foldN_lt s hd hs
  generalize foldN s hd = z at *
  (repeat (refine GX.pure rfl ?_; first | refine GO.move rfl rfl rfl rfl ?_ | refine GO.assign rfl rfl rfl rfl ?_))
  (repeat (first | refine GX.doneD ?_ | refine GX.done ?_ | refine GQ.goNormal ?_ | refine GC.seq ?_ | refine GC.skip ?_ | refine GC.block ?_ | refine GC.exit ?_ | refine GC.ret ?_ | refine GQ.goExit ?_ | refine GQ.goRet ?_ | refine GQ.inNormal ?_ | refine GQ.inExit ?_ | refine GQ.inExitNe rfl ?_ | refine GQ.inRet ?_ | refine GQ.loopExit ?_ | refine GQ.loopRet ?_ | refine GQ.cutExit ?_ | refine GQ.cutRet ?_))
  refine GC.region (.pure 0 (.pure 1 (.pure 2 (.pure 3 (.pure 4 (.pure 5 (.pure 6 (.pure 7 (.pure 8 (.pure 9 (.pure 10 (.pure 11 (.eff 12 (.eff 13 (.pure 14 .done))))))))))))))) rfl ?_
  (repeat (refine GX.pure rfl ?_; first | refine GO.move rfl rfl rfl rfl ?_ | refine GO.assign rfl rfl rfl rfl ?_ | refine GO.conv rfl rfl rfl rfl (wrapIn (by dsimp only [InK]; omega)) ?_ | refine GO.convStr rfl rfl rfl rfl ?_))
  refine GX.pure rfl (GO.shr rfl rfl rfl rfl rfl (by decide) (shrU32 z 24 (by decide)) ?_)
  refine GX.pure rfl (GO.conv rfl rfl rfl rfl (wrapU8 _) ?_)
  (repeat (refine GX.pure rfl ?_; first | refine GO.move rfl rfl rfl rfl ?_ | refine GO.assign rfl rfl rfl rfl ?_ | refine GO.conv rfl rfl rfl rfl (wrapIn (by dsimp only [InK]; omega)) ?_ | refine GO.convStr rfl rfl rfl rfl ?_))
  refine GX.pure rfl (GO.shr rfl rfl rfl rfl rfl (by decide) (shrU32 z 16 (by decide)) ?_)
  refine GX.pure rfl (GO.conv rfl rfl rfl rfl (wrapU8 _) ?_)
  (repeat (refine GX.pure rfl ?_; first | refine GO.move rfl rfl rfl rfl ?_ | refine GO.assign rfl rfl rfl rfl ?_ | refine GO.conv rfl rfl rfl rfl (wrapIn (by dsimp only [InK]; omega)) ?_ | refine GO.convStr rfl rfl rfl rfl ?_))
  refine GX.pure rfl (GO.shr rfl rfl rfl rfl rfl (by decide) (shrU32 z 8 (by decide)) ?_)
  refine GX.pure rfl (GO.conv rfl rfl rfl rfl (wrapU8 _) ?_)
  (repeat (refine GX.pure rfl ?_; first | refine GO.move rfl rfl rfl rfl ?_ | refine GO.assign rfl rfl rfl rfl ?_ | refine GO.conv rfl rfl rfl rfl (wrapIn (by dsimp only [InK]; omega)) ?_ | refine GO.convStr rfl rfl rfl rfl ?_))
  refine GX.pure rfl (GO.conv rfl rfl rfl rfl (wrapU8 _) ?_)
  refine GX.eff rfl ?_
  refine GO.buildSlice (out := [.int .u8 (((z / 2 ^ 24 : Nat) : Int) % 256), .int .u8 (((z / 2 ^ 16 : Nat) : Int) % 256), .int .u8 (((z / 2 ^ 8 : Nat) : Int) % 256), .int .u8 ((z : Int) % 256)]) (by kernel_rfl) (by decide) rfl rfl rfl (by simp) rfl fun b9 w9 hb9 hO9 hE9 => ?_
  have hsb : [.int .u8 (((z / 2 ^ 24 : Nat) : Int) % 256), .int .u8 (((z / 2 ^ 16 : Nat) : Int) % 256), .int .u8 (((z / 2 ^ 8 : Nat) : Int) % 256), .int .u8 ((z : Int) % 256)] = bytesV (sumB z) := by
    simp only [bytesV, sumB, List.map_cons, List.map_nil, byteV_mod]
  rw [hsb] at hO9
  refine ⟨fun _ h => by first | trivial | exact Mod.trans h (Ext.mod (by assumption)), ?_⟩
  refine GX.eff rfl ?_
  refine GO.append (hO7.ext hE9) hO9.sla (by simp [sumB]) (bytesV_one (sumB z)) (by omega) (by omega) rfl rfl rfl rfl rfl fun ob10 a10 c10 w10 hO10 hM10 hF10 hG10 => ?_
  have s79 := hE9.size
  have s57 := hE7.size
  have s6 := hE6.size
  have hE10 : Ext w5 w10 := (hE7.trans hE9).then hM10 fun i hi h => by have := hfr7 i h.symm; omega
  refine ⟨fun _ h => by first | trivial | exact Mod.trans h (Ext.mod (by assumption)), ?_⟩
  (repeat (refine GX.pure rfl ?_; first | refine GO.move rfl rfl rfl rfl ?_ | refine GO.assign rfl rfl rfl rfl ?_ | refine GO.conv rfl rfl rfl rfl (wrapIn (by dsimp only [InK]; omega)) ?_ | refine GO.convStr rfl rfl rfl rfl ?_))
  (repeat (first | refine GX.doneD ?_ | refine GX.done ?_ | refine GQ.goNormal ?_ | refine GC.seq ?_ | refine GC.skip ?_ | refine GC.block ?_ | refine GC.exit ?_ | refine GC.ret ?_ | refine GQ.goExit ?_ | refine GQ.goRet ?_ | refine GQ.inNormal ?_ | refine GQ.inExit ?_ | refine GQ.inExitNe rfl ?_ | refine GQ.inRet ?_ | refine GQ.loopExit ?_ | refine GQ.loopRet ?_ | refine GQ.cutExit ?_ | refine GQ.cutRet ?_))
  refine GQ.ret1 (by first | exact .inl rfl | exact .inr rfl) rfl rfl ?_
  rw [← bytesV_append] at hO10
  have hlf : hd.length + 4 = (hd ++ sumB z).length := by simp [sumB]
  rw [hlf] at hO10 ⊢
  have hEw := (hE14.trans hE5).trans hE10
  have s5 := (hE14.trans hE5).size
  refine ⟨⟨ob10, a10, c10, rfl, hO10, fun y hy => ?_, fun y hy => ?_⟩, hEw⟩
  · rcases hF10 y hy with h | h
    · have := hfr7 y h; omega
    · omega
  · rcases hG10 y hy with h | ⟨h, h'⟩
    · exact h
    · rw [h']; exact hgr7 y h

/-- The bytes from one on. -/
theorem BytesAt.from_ {w : World} {a : Option Addr} {c : Nat} {l : List UInt8} (h : BytesAt w a c l) (k : Nat) (hk : k ≤ l.length) : BytesAt w (sliced' a k c 1) (c - k) (l.drop k) := by
  have hcap := h.cap
  refine ⟨?_, by simp; omega, fun h' => ?_, fun x hx hne => ?_⟩
  rotate_left 2
  · have hn2 : l ≠ [] := fun h0 => hne (by subst h0; simp)
    unfold sliced' at hx
    split at hx
    · exact h.lt x hx hn2
    · cases ha : a with
      | none => rw [ha] at hx; cases hx
      | some y =>
        rw [ha] at hx
        simp at hx
        have := h.lt y ha hn2
        rw [← hx]
        unfold Addr.add
        split <;> exact this
  · have := h.cells.bytes k c (l.length - k) (by omega)
    rwa [List.take_of_length_le (by simp)] at this
  · unfold sliced' at h'
    split at h'
    · omega
    · have : a = Option.none := by cases a <;> simp_all
      have := h.nil this
      omega

/-- The command that bytes begin with, if there is one. -/
def nextJ (l : List UInt8) : Option (Nat × Cmd) :=
  if (getN l).2.2 ≠ 0 then none
  else if (readF (l.drop (getN l).2.1)).2.2.2 ≠ 0 then none
  else if (readC (readF (l.drop (getN l).2.1)).1 (readF (l.drop (getN l).2.1)).2.1).2 ≠ 0 then none
  else some ((getN l).1, (readC (readF (l.drop (getN l).2.1)).1 (readF (l.drop (getN l).2.1)).2.1).1)

/-- The cells of a command with its time. -/
def EntV (w : World) (B : Nat) (cs : List Value) (x : Nat × Cmd) : Prop := ∃ l, cs = .int .u64 x.1 :: l ∧ CmdV w B l x.2
theorem EntV.mod {S : Nat → Prop} {w w' : World} {B : Nat} {l : List Value} {x : Nat × Cmd} (h : EntV w B l x) (hm : Mod S w w') (hs : ∀ k, S k → k < B ∨ w.heap.size ≤ k) : EntV w' B l x := by
  obtain ⟨m, h1, h2⟩ := h; exact ⟨m, h1, h2.mod hm hs⟩
theorem EntV.length {w : World} {B : Nat} {l : List Value} {x : Nat × Cmd} (h : EntV w B l x) : l.length = 11 := by
  obtain ⟨m, rfl, h2⟩ := h; simp [h2.length]
theorem EntV.one {w : World} {B : Nat} {l : List Value} {x : Nat × Cmd} (h : EntV w B l x) : ∀ u ∈ l, u.oneCell' = true := by
  obtain ⟨m, rfl, h2⟩ := h
  intro u hu
  rcases List.mem_cons.1 hu with rfl | h
  · rfl
  · exact h2.one u h
def zeroE : List Value := .int .u64 0 :: cmdCells (bare 0) none 0 none 0 none 0
theorem entV_zero (w : World) (B : Nat) : EntV w B zeroE (0, bare 0) := ⟨_, rfl, cmdV_bare w B 0⟩

def NextV (w : World) (l : List UInt8) (v : Value) (w' : World) : Prop :=
  ∃ cs x, v = .tuple #[.agg cs.toArray, .bool (nextJ l).isSome] ∧ EntV w' w.heap.size cs x ∧ (∀ y, nextJ l = some y → y = x) ∧ Ext w w'

theorem readF_code (l : List UInt8) : (readF l).1 < 256 := by
  unfold readF
  repeat' split
  all_goals first | decide | exact UInt8.toNat_lt _
theorem readF_len (l : List UInt8) : (readF l).2.1.length ≤ l.length := by
  unfold readF
  repeat' split
  all_goals first | exact Nat.zero_le _ | (simp; omega)

set_option maxHeartbeats 4000000 in
theorem next_ret (l : List UInt8) (n : Nat) (hn : l.length = n) (hl : l.length < 2 ^ 30) (a : Option Addr) (c : Nat) (w : World) (hA : BytesAt w a c l) :
    Ret Try.prog 42 [.slice a n c].toArray w (NextV w l) := by
  subst hn
  have hcap := hA.cap
  
  refine Ret.enter Try.func42 rfl Try.ntmps42 rfl ?_
  (repeat (first | refine GX.doneD ?_ | refine GX.done ?_ | refine GQ.goNormal ?_ | refine GC.seq ?_ | refine GC.skip ?_ | refine GC.block ?_ | refine GC.exit ?_ | refine GC.ret ?_ | refine GQ.goExit ?_ | refine GQ.goRet ?_ | refine GQ.inNormal ?_ | refine GQ.inExit ?_ | refine GQ.inExitNe rfl ?_ | refine GQ.inRet ?_ | refine GQ.loopExit ?_ | refine GQ.loopRet ?_ | refine GQ.cutExit ?_ | refine GQ.cutRet ?_))
  refine GC.region (.eff 0 (.pure 1 .done)) rfl ?_
  refine GX.eff rfl ?_
  refine GO.alloc rfl rfl fun b2 w1 hb2 hB2 hE1 => ?_
  refine ⟨fun _ h => by first | trivial | exact Mod.trans h (Ext.mod (by assumption)), ?_⟩
  (repeat (refine GX.pure rfl ?_; refine GO.assign rfl rfl rfl rfl ?_))
  (repeat (first | refine GX.doneD ?_ | refine GX.done ?_ | refine GQ.goNormal ?_ | refine GC.seq ?_ | refine GC.skip ?_ | refine GC.block ?_ | refine GC.exit ?_ | refine GC.ret ?_ | refine GQ.goExit ?_ | refine GQ.goRet ?_ | refine GQ.inNormal ?_ | refine GQ.inExit ?_ | refine GQ.inExitNe rfl ?_ | refine GQ.inRet ?_ | refine GQ.loopExit ?_ | refine GQ.loopRet ?_ | refine GQ.cutExit ?_ | refine GQ.cutRet ?_))
  have hB2' : Blk w1 b2 zeroE := hB2
  have hb2l := hB2.lt
  refine GC.region (.pure 0 (.eff 1 (.pure 2 (.pure 3 (.pure 4 (.pure 5 (.pure 6 (.pure 7 (.pure 8 .done))))))))) rfl ?_
  (repeat (refine GX.pure rfl ?_; first | refine GO.move rfl rfl rfl rfl ?_ | refine GO.assign rfl rfl rfl rfl ?_ | refine GO.extract rfl rfl rfl rfl rfl ?_))
  (refine GX.eff rfl ?_; refine GO.callL rfl rfl rfl rfl rfl (get_ret l _ rfl (by omega) a c w1 (hA.ext hE1).cells) ?_)
  rintro v w2 ⟨rfl, rfl⟩
  refine ⟨fun _ h => by first | trivial | exact Mod.trans h (Ext.mod (by assumption)), ?_⟩
  (repeat (refine GX.pure rfl ?_; first | refine GO.move rfl rfl rfl rfl ?_ | refine GO.assign rfl rfl rfl rfl ?_ | refine GO.extract rfl rfl rfl rfl rfl ?_))
  (repeat (first | refine GX.doneD ?_ | refine GX.done ?_ | refine GQ.goNormal ?_ | refine GC.seq ?_ | refine GC.skip ?_ | refine GC.block ?_ | refine GC.exit ?_ | refine GC.ret ?_ | refine GQ.goExit ?_ | refine GQ.goRet ?_ | refine GQ.inNormal ?_ | refine GQ.inExit ?_ | refine GQ.inExitNe rfl ?_ | refine GQ.inRet ?_ | refine GQ.loopExit ?_ | refine GQ.loopRet ?_ | refine GQ.cutExit ?_ | refine GQ.cutRet ?_))
  refine GC.region (.pure 0 (.pure 1 .done)) rfl ?_
  (repeat (refine GX.pure rfl ?_; first | refine GO.move rfl rfl rfl rfl ?_ | refine GO.neq rfl rfl rfl rfl rfl ?_))
  (repeat (first | refine GX.doneD ?_ | refine GX.done ?_ | refine GQ.goNormal ?_ | refine GC.seq ?_ | refine GC.skip ?_ | refine GC.block ?_ | refine GC.exit ?_ | refine GC.ret ?_ | refine GQ.goExit ?_ | refine GQ.goRet ?_ | refine GQ.inNormal ?_ | refine GQ.inExit ?_ | refine GQ.inExitNe rfl ?_ | refine GQ.inRet ?_ | refine GQ.loopExit ?_ | refine GQ.loopRet ?_ | refine GQ.cutExit ?_ | refine GQ.cutRet ?_))
  refine GC.cond rfl (fun h1 => ?_) (fun h1 => ?_)
  · have h1' := of_decide_eq_true h1
    have hN : nextJ l = none := by unfold nextJ; rw [if_pos h1']
    (repeat (first | refine GX.doneD ?_ | refine GX.done ?_ | refine GQ.goNormal ?_ | refine GC.seq ?_ | refine GC.skip ?_ | refine GC.block ?_ | refine GC.exit ?_ | refine GC.ret ?_ | refine GQ.goExit ?_ | refine GQ.goRet ?_ | refine GQ.inNormal ?_ | refine GQ.inExit ?_ | refine GQ.inExitNe rfl ?_ | refine GQ.inRet ?_ | refine GQ.loopExit ?_ | refine GQ.loopRet ?_ | refine GQ.cutExit ?_ | refine GQ.cutRet ?_))
    refine GC.region (.eff 0 (.eff 1 (.pure 2 .done))) rfl ?_
    (first | (refine GX.eff rfl ?_; first | refine GO.load1 (hB2'.at) rfl rfl rfl ?_ | refine GO.loadN (hB2'.at) rfl rfl rfl rfl ?_) | (refine GX.read rfl ?_; first | refine GO.load1R (by assumption) (fun _ hS_ => At.mod (hB2'.at) hS_ (by simp)) rfl rfl rfl ?_ | refine GO.loadNR (by assumption) (fun _ hS_ => At.mod (hB2'.at) hS_ (by simp)) rfl rfl rfl rfl ?_))
    refine GX.eff rfl ?_
    refine GO.store (vs := zeroE) (hB2'.wr (by simp [zeroE, cmdCells])) rfl rfl (by simp [Value.oneCell', cmdCells, str, zeroE]) rfl rfl rfl fun w3 hp => ⟨(by first | exact fun _ _ => trivial | exact late_abs (by kernel_rfl)), ?_⟩
    (repeat (refine GX.pure rfl ?_; refine GO.assign rfl rfl rfl rfl ?_))
    (repeat (first | refine GX.doneD ?_ | refine GX.done ?_ | refine GQ.goNormal ?_ | refine GC.seq ?_ | refine GC.skip ?_ | refine GC.block ?_ | refine GC.exit ?_ | refine GC.ret ?_ | refine GQ.goExit ?_ | refine GQ.goRet ?_ | refine GQ.inNormal ?_ | refine GQ.inExit ?_ | refine GQ.inExitNe rfl ?_ | refine GQ.inRet ?_ | refine GQ.loopExit ?_ | refine GQ.loopRet ?_ | refine GQ.cutExit ?_ | refine GQ.cutRet ?_))
    have hb3 : Blk w3 b2 zeroE := by have := hp.blk hB2'; simpa [zeroE, cmdCells] using this
    refine GQ.retC1 (l := zeroE) (.inl rfl) rfl rfl rfl hb3.at rfl ?_
    refine ⟨zeroE, (0, bare 0), by rw [hN]; rfl, entV_zero _ _, by rw [hN]; simp, hE1.then hp.mod fun i hi h => by omega⟩
  have h1' : (getN l).2.2 = 0 := by have := of_decide_eq_false h1; simpa using this
  have hs := getN_size l h1'
  (repeat (first | refine GX.doneD ?_ | refine GX.done ?_ | refine GQ.goNormal ?_ | refine GC.seq ?_ | refine GC.skip ?_ | refine GC.block ?_ | refine GC.exit ?_ | refine GC.ret ?_ | refine GQ.goExit ?_ | refine GQ.goRet ?_ | refine GQ.inNormal ?_ | refine GQ.inExit ?_ | refine GQ.inExitNe rfl ?_ | refine GQ.inRet ?_ | refine GQ.loopExit ?_ | refine GQ.loopRet ?_ | refine GQ.cutExit ?_ | refine GQ.cutRet ?_))
  refine GC.region (.pure 0 (.pure 1 (.pure 2 (.eff 3 (.pure 4 (.pure 5 (.pure 6 (.pure 7 (.eff 8 (.eff 9 (.pure 10 (.pure 11 .done)))))))))))) rfl ?_
  (repeat (refine GX.pure rfl ?_; first | refine GO.move rfl rfl rfl rfl ?_ | refine GO.assign rfl rfl rfl rfl ?_ | refine GO.extract rfl rfl rfl rfl rfl ?_))
  refine GX.pure rfl ?_
  refine GO.sliceS rfl rfl rfl rfl (bounds_l (by omega) (by omega)) ⟨by simp; rfl, by simp, by simp⟩ ?_
  have e1 : (((getN l).2.1 : Int)).toNat = (getN l).2.1 := by omega
  rw [e1]
  have hA1 := hA.ext hE1
  have hsl := hA1.from_ (getN l).2.1 hs.2
  have hdl : (l.drop (getN l).2.1).length = l.length - (getN l).2.1 := by simp
  (refine GX.eff rfl ?_; refine GO.callL rfl rfl rfl rfl rfl (readF_ret (l.drop (getN l).2.1) _ hdl (by omega) _ _ w2 hsl) ?_)
  generalize hF : readF (l.drop (getN l).2.1) = f at *
  have hfc : f.1 < 256 := by rw [← hF]; exact readF_code _
  have hfl : f.2.1.length < 2 ^ 30 := by have := readF_len (l.drop (getN l).2.1); rw [hF] at this; omega
  have hN : nextJ l = if f.2.2.2 ≠ 0 then none else if (readC f.1 f.2.1).2 ≠ 0 then none else some ((getN l).1, (readC f.1 f.2.1).1) := by
    unfold nextJ; rw [if_neg (by simp [h1']), hF]
  obtain ⟨fc, fp, fs, fe⟩ := f
  dsimp only at hfc hfl hN
  rintro v w3 ⟨fa, fk, rfl, hP3, hE3⟩
  dsimp only at hP3
  refine ⟨fun _ h => by first | trivial | exact Mod.trans h (Ext.mod (by assumption)), ?_⟩
  (repeat (refine GX.pure rfl ?_; first | refine GO.move rfl rfl rfl rfl ?_ | refine GO.assign rfl rfl rfl rfl ?_ | refine GO.extract rfl rfl rfl rfl rfl ?_))
  refine GX.eff rfl ?_
  refine GO.alloc rfl rfl fun b7 w4 hb7 hB7 hE4 => ?_
  refine ⟨fun _ h => by first | trivial | exact Mod.trans h (Ext.mod (by assumption)), ?_⟩
  refine GX.eff rfl ?_
  refine GO.store (vs := frameV fc fa fp.length fk) (hB7.wr (by simp [frameV])) rfl rfl (by simp [Value.oneCell', frameV]) rfl rfl rfl fun w5 hp5 => ⟨(by first | exact fun _ _ => trivial | exact late_abs (by kernel_rfl)), ?_⟩
  have hE5 : Ext w3 w5 := hE4.then hp5.mod fun i hi h => by omega
  have hF5 : Blk w5 b7 (frameV fc fa fp.length fk) := by have := hp5.blk hB7; simpa [frameV] using this
  have hE25 := hE3.trans hE5
  have hB25 := hB2'.ext hE25
  (repeat (refine GX.pure rfl ?_; first | refine GO.move rfl rfl rfl rfl ?_ | refine GO.assign rfl rfl rfl rfl ?_ | refine GO.extract rfl rfl rfl rfl rfl ?_))
  (repeat (first | refine GX.doneD ?_ | refine GX.done ?_ | refine GQ.goNormal ?_ | refine GC.seq ?_ | refine GC.skip ?_ | refine GC.block ?_ | refine GC.exit ?_ | refine GC.ret ?_ | refine GQ.goExit ?_ | refine GQ.goRet ?_ | refine GQ.inNormal ?_ | refine GQ.inExit ?_ | refine GQ.inExitNe rfl ?_ | refine GQ.inRet ?_ | refine GQ.loopExit ?_ | refine GQ.loopRet ?_ | refine GQ.cutExit ?_ | refine GQ.cutRet ?_))
  refine GC.region (.pure 0 (.pure 1 .done)) rfl ?_
  (repeat (refine GX.pure rfl ?_; first | refine GO.move rfl rfl rfl rfl ?_ | refine GO.neq rfl rfl rfl rfl rfl ?_))
  (repeat (first | refine GX.doneD ?_ | refine GX.done ?_ | refine GQ.goNormal ?_ | refine GC.seq ?_ | refine GC.skip ?_ | refine GC.block ?_ | refine GC.exit ?_ | refine GC.ret ?_ | refine GQ.goExit ?_ | refine GQ.goRet ?_ | refine GQ.inNormal ?_ | refine GQ.inExit ?_ | refine GQ.inExitNe rfl ?_ | refine GQ.inRet ?_ | refine GQ.loopExit ?_ | refine GQ.loopRet ?_ | refine GQ.cutExit ?_ | refine GQ.cutRet ?_))
  refine GC.cond rfl (fun h2 => ?_) (fun h2 => ?_)
  · have h2' := of_decide_eq_true h2
    rw [if_pos h2'] at hN
    (repeat (first | refine GX.doneD ?_ | refine GX.done ?_ | refine GQ.goNormal ?_ | refine GC.seq ?_ | refine GC.skip ?_ | refine GC.block ?_ | refine GC.exit ?_ | refine GC.ret ?_ | refine GQ.goExit ?_ | refine GQ.goRet ?_ | refine GQ.inNormal ?_ | refine GQ.inExit ?_ | refine GQ.inExitNe rfl ?_ | refine GQ.inRet ?_ | refine GQ.loopExit ?_ | refine GQ.loopRet ?_ | refine GQ.cutExit ?_ | refine GQ.cutRet ?_))
    refine GC.region (.eff 0 (.eff 1 (.pure 2 .done))) rfl ?_
    (first | (refine GX.eff rfl ?_; first | refine GO.load1 (hB25.at) rfl rfl rfl ?_ | refine GO.loadN (hB25.at) rfl rfl rfl rfl ?_) | (refine GX.read rfl ?_; first | refine GO.load1R (by assumption) (fun _ hS_ => At.mod (hB25.at) hS_ (by simp)) rfl rfl rfl ?_ | refine GO.loadNR (by assumption) (fun _ hS_ => At.mod (hB25.at) hS_ (by simp)) rfl rfl rfl rfl ?_))
    refine GX.eff rfl ?_
    refine GO.store (vs := zeroE) (hB25.wr (by simp [zeroE, cmdCells])) rfl rfl (by simp [Value.oneCell', cmdCells, str, zeroE]) rfl rfl rfl fun w6 hp => ⟨(by first | exact fun _ _ => trivial | exact late_abs (by kernel_rfl)), ?_⟩
    (repeat (refine GX.pure rfl ?_; refine GO.assign rfl rfl rfl rfl ?_))
    (repeat (first | refine GX.doneD ?_ | refine GX.done ?_ | refine GQ.goNormal ?_ | refine GC.seq ?_ | refine GC.skip ?_ | refine GC.block ?_ | refine GC.exit ?_ | refine GC.ret ?_ | refine GQ.goExit ?_ | refine GQ.goRet ?_ | refine GQ.inNormal ?_ | refine GQ.inExit ?_ | refine GQ.inExitNe rfl ?_ | refine GQ.inRet ?_ | refine GQ.loopExit ?_ | refine GQ.loopRet ?_ | refine GQ.cutExit ?_ | refine GQ.cutRet ?_))
    have hb3 : Blk w6 b2 zeroE := by have := hp.blk hB25; simpa [zeroE, cmdCells] using this
    refine GQ.retC1 (l := zeroE) (.inl rfl) rfl rfl rfl hb3.at rfl ?_
    refine ⟨zeroE, (0, bare 0), by rw [hN]; rfl, entV_zero _ _, by rw [hN]; simp, (hE1.trans hE25).then hp.mod fun i hi h => by omega⟩
  have h2' := of_decide_eq_false h2
  rw [if_neg h2'] at hN
  (repeat (first | refine GX.doneD ?_ | refine GX.done ?_ | refine GQ.goNormal ?_ | refine GC.seq ?_ | refine GC.skip ?_ | refine GC.block ?_ | refine GC.exit ?_ | refine GC.ret ?_ | refine GQ.goExit ?_ | refine GQ.goRet ?_ | refine GQ.inNormal ?_ | refine GQ.inExit ?_ | refine GQ.inExitNe rfl ?_ | refine GQ.inRet ?_ | refine GQ.loopExit ?_ | refine GQ.loopRet ?_ | refine GQ.cutExit ?_ | refine GQ.cutRet ?_))
  refine GC.region (.eff 0 (.eff 1 (.pure 2 (.pure 3 (.pure 4 (.eff 5 (.eff 6 (.pure 7 .done)))))))) rfl ?_
  (first | (refine GX.eff rfl ?_; first | refine GO.load1 (hF5.at) rfl rfl rfl ?_ | refine GO.loadN (hF5.at) rfl rfl rfl rfl ?_) | (refine GX.read rfl ?_; first | refine GO.load1R (by assumption) (fun _ hS_ => At.mod (hF5.at) hS_ (by simp)) rfl rfl rfl ?_ | refine GO.loadNR (by assumption) (fun _ hS_ => At.mod (hF5.at) hS_ (by simp)) rfl rfl rfl rfl ?_))
  (refine GX.eff rfl ?_; refine GO.callL rfl rfl rfl rfl rfl (readC_ret fc hfc fp _ rfl hfl fa fk w5 (hP3.ext hE5)) ?_)
  rintro v w6 ⟨la, rfl, hV6, hE6⟩
  refine ⟨fun _ h => by first | trivial | exact Mod.trans h (Ext.mod (by assumption)), ?_⟩
  generalize readC fc fp = rc at *
  obtain ⟨rc1, rc2⟩ := rc
  dsimp only at hV6 hN
  dsimp only
  have hV6' := hV6
  obtain ⟨ka, kc, va, vc, ta, tc, rfl, _, _, _, _⟩ := hV6'
  (repeat (refine GX.pure rfl ?_; first | refine GO.move rfl rfl rfl rfl ?_ | refine GO.assign rfl rfl rfl rfl ?_ | refine GO.extract rfl rfl rfl rfl rfl ?_))
  refine GX.eff rfl ?_
  refine GO.alloc rfl rfl fun b9 w7 hb9 hB9 hE7 => ?_
  refine ⟨fun _ h => by first | trivial | exact Mod.trans h (Ext.mod (by assumption)), ?_⟩
  refine GX.eff rfl ?_
  refine GO.store (vs := cmdCells rc1 ka kc va vc ta tc) (hB9.wr (by simp)) rfl hV6.length hV6.one rfl rfl rfl fun w8 hp8 => ⟨(by first | exact fun _ _ => trivial | exact late_abs (by kernel_rfl)), ?_⟩
  have hE8 : Ext w6 w8 := hE7.then hp8.mod fun i hi h => by omega
  have hA8 : Blk w8 b9 (cmdCells rc1 ka kc va vc ta tc) := by have := hp8.blk hB9; simpa [hV6.length] using this
  have hV8 := hV6.ext hE8
  have hB28 := (hB25.ext hE6).ext hE8
  (repeat (refine GX.pure rfl ?_; first | refine GO.move rfl rfl rfl rfl ?_ | refine GO.assign rfl rfl rfl rfl ?_ | refine GO.extract rfl rfl rfl rfl rfl ?_))
  (repeat (first | refine GX.doneD ?_ | refine GX.done ?_ | refine GQ.goNormal ?_ | refine GC.seq ?_ | refine GC.skip ?_ | refine GC.block ?_ | refine GC.exit ?_ | refine GC.ret ?_ | refine GQ.goExit ?_ | refine GQ.goRet ?_ | refine GQ.inNormal ?_ | refine GQ.inExit ?_ | refine GQ.inExitNe rfl ?_ | refine GQ.inRet ?_ | refine GQ.loopExit ?_ | refine GQ.loopRet ?_ | refine GQ.cutExit ?_ | refine GQ.cutRet ?_))
  refine GC.region (.pure 0 (.eff 1 (.pure 2 (.pure 3 (.pure 4 (.eff 5 (.pure 6 .done))))))) rfl ?_
  (repeat (refine GX.pure rfl ?_; first | refine GO.move rfl rfl rfl rfl ?_ | refine GO.assign rfl rfl rfl rfl ?_ | refine GO.eql rfl rfl rfl rfl rfl ?_))
  refine GX.eff rfl ?_
  refine GO.loadN hA8.at hV6.length rfl rfl rfl ?_
  refine GX.pure rfl ?_
  refine GO.build (out := .int .u64 (getN l).1 :: cmdCells rc1 ka kc va vc ta tc) rfl (by kernel_rfl) (by kernel_rfl) rfl rfl rfl rfl ?_
  (repeat (refine GX.pure rfl ?_; first | refine GO.move rfl rfl rfl rfl ?_ | refine GO.assign rfl rfl rfl rfl ?_ | refine GO.eql rfl rfl rfl rfl rfl ?_))
  refine GX.eff rfl ?_
  refine GO.store (vs := .int .u64 (getN l).1 :: cmdCells rc1 ka kc va vc ta tc) (hB28.wr (by simp [zeroE, cmdCells])) rfl rfl (by simp [Value.oneCell', cmdCells, str]) rfl rfl rfl fun w9 hp => ⟨(by first | exact fun _ _ => trivial | exact late_abs (by kernel_rfl)), ?_⟩
  (repeat (refine GX.pure rfl ?_; first | refine GO.move rfl rfl rfl rfl ?_ | refine GO.assign rfl rfl rfl rfl ?_ | refine GO.eql rfl rfl rfl rfl rfl ?_))
  (repeat (first | refine GX.doneD ?_ | refine GX.done ?_ | refine GQ.goNormal ?_ | refine GC.seq ?_ | refine GC.skip ?_ | refine GC.block ?_ | refine GC.exit ?_ | refine GC.ret ?_ | refine GQ.goExit ?_ | refine GQ.goRet ?_ | refine GQ.inNormal ?_ | refine GQ.inExit ?_ | refine GQ.inExitNe rfl ?_ | refine GQ.inRet ?_ | refine GQ.loopExit ?_ | refine GQ.loopRet ?_ | refine GQ.cutExit ?_ | refine GQ.cutRet ?_))
  have hb9' : Blk w9 b2 (.int .u64 (getN l).1 :: cmdCells rc1 ka kc va vc ta tc) := by have := hp.blk hB28; simpa [zeroE, cmdCells] using this
  refine GQ.retC1 (l := .int .u64 (getN l).1 :: cmdCells rc1 ka kc va vc ta tc) (.inl rfl) rfl rfl rfl hb9'.at rfl ?_
  have hE28 := (hE25.trans hE6).trans hE8
  have s1 := hE1.size
  have s2 := hE25.size
  refine ⟨_, ((getN l).1, rc1), ?_, ⟨_, rfl, (hV8.mod hp.mod (fun k hk => .inl (by omega))).mono (by omega)⟩, ?_, (hE1.trans hE28).then hp.mod fun i hi h => by omega⟩
  · rw [hN]
    by_cases hz : rc2 = 0
    · subst hz; rfl
    · have : decide (rc2 = 0) = false := decide_eq_false hz
      rw [this, if_pos hz]; rfl
  · rw [hN]
    intro y hy
    split at hy
    · cases hy
    · cases hy; rfl
end Go.Proofs.Ytahkglanddhncaa.V
