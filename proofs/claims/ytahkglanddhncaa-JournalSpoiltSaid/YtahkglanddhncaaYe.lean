/-
  What the function that reads commands from bytes computes (package journal), and the law's own sum. Conditions: there are fewer than 2^21 bytes.
-/
import Derived.Test.YtahkglanddhncaaYd
namespace Go.Proofs.Ytahkglanddhncaa.V
attribute [local irreducible] GX GO

/-- The commands in new blocks, and how many bytes their records have. -/
def ReadV (w : World) (l : List UInt8) (v : Value) (w' : World) : Prop :=
  ∃ j u, v = .tuple #[u, .int .i64 j.data.length] ∧ ListV w j.xs u w' ∧ JOk l j ∧ Steps l zeroJ j ∧ stepJ l j = none

theorem read_ret (l : List UInt8) (n : Nat) (hn : l.length = n) (hl : l.length < 2 ^ 21) (a : Option Addr) (c : Nat) (w : World) (hA : BytesAt w a c l) :
    Ret Try.prog 16 [.slice a n c].toArray w (ReadV w l) := by
  
  refine Ret.enter Try.func16 rfl Try.ntmps16 rfl ?_
  (repeat (first | refine GX.doneD ?_ | refine GX.done ?_ | refine GQ.goNormal ?_ | refine GC.seq ?_ | refine GC.skip ?_ | refine GC.block ?_ | refine GC.exit ?_ | refine GC.ret ?_ | refine GQ.goExit ?_ | refine GQ.goRet ?_ | refine GQ.inNormal ?_ | refine GQ.inExit ?_ | refine GQ.inExitNe rfl ?_ | refine GQ.inRet ?_ | refine GQ.loopExit ?_ | refine GQ.loopRet ?_ | refine GQ.cutExit ?_ | refine GQ.cutRet ?_))
  refine GC.region (.pure 0 (.pure 1 .done)) rfl ?_
  (repeat (refine GX.pure rfl ?_; refine GO.assign rfl rfl rfl rfl ?_))
  (repeat (first | refine GX.doneD ?_ | refine GX.done ?_ | refine GQ.goNormal ?_ | refine GC.seq ?_ | refine GC.skip ?_ | refine GC.block ?_ | refine GC.exit ?_ | refine GC.ret ?_ | refine GQ.goExit ?_ | refine GQ.goRet ?_ | refine GQ.inNormal ?_ | refine GQ.inExit ?_ | refine GQ.inExitNe rfl ?_ | refine GQ.inRet ?_ | refine GQ.loopExit ?_ | refine GQ.loopRet ?_ | refine GQ.cutExit ?_ | refine GQ.cutRet ?_))
  refine GC.region (.pure 0 (.eff 1 (.pure 2 (.pure 3 (.pure 4 (.pure 5 (.pure 6 .done))))))) rfl ?_
  (repeat (refine GX.pure rfl ?_; first | refine GO.move rfl rfl rfl rfl ?_ | refine GO.assign rfl rfl rfl rfl ?_ | refine GO.extract rfl rfl rfl rfl rfl ?_))
  (refine GX.eff rfl ?_; refine GO.callL rfl rfl rfl rfl rfl (recover_ret l n hn hl a c w hA) ?_)
  rintro v w1 ⟨bj, j, rfl, ⟨F, hJ, hF, hE1⟩, hok, hst, hno⟩
  refine ⟨fun _ h => by first | trivial | exact Mod.trans h (Ext.mod (by assumption)), ?_⟩
  obtain ⟨od, da, dc, oe, ea, ec, ol, la, lc, cells, hb, q1, q2, q3, q4, hFj, k1, k2, k3⟩ := hJ
  (repeat (refine GX.pure rfl ?_; first | refine GO.move rfl rfl rfl rfl ?_ | refine GO.assign rfl rfl rfl rfl ?_ | refine GO.extract rfl rfl rfl rfl rfl ?_))
  (repeat (first | refine GX.doneD ?_ | refine GX.done ?_ | refine GQ.goNormal ?_ | refine GC.seq ?_ | refine GC.skip ?_ | refine GC.block ?_ | refine GC.exit ?_ | refine GC.ret ?_ | refine GQ.goExit ?_ | refine GQ.goRet ?_ | refine GQ.inNormal ?_ | refine GQ.inExit ?_ | refine GQ.inExitNe rfl ?_ | refine GQ.inRet ?_ | refine GQ.loopExit ?_ | refine GQ.loopRet ?_ | refine GQ.cutExit ?_ | refine GQ.cutRet ?_))
  refine GC.region (.pure 0 (.pure 1 (.pure 2 (.eff 3 (.pure 4 (.pure 5 (.pure 6 .done))))))) rfl ?_
  (repeat (refine GX.pure rfl ?_; first | refine GO.move rfl rfl rfl rfl ?_ | refine GO.assign rfl rfl rfl rfl ?_ | refine GO.nilCheck rfl rfl rfl rfl ?_ | refine GO.fieldAddr rfl rfl rfl rfl rfl ?_ | refine GO.nilCheckF rfl rfl rfl rfl ?_))
  (first | (refine GX.eff rfl ?_; first | refine GO.load1 (hb.get (o := 0 + 2) rfl) rfl rfl rfl ?_ | refine GO.loadN (hb.get (o := 0 + 2) rfl) rfl rfl rfl rfl ?_) | (refine GX.read rfl ?_; first | refine GO.load1R (by assumption) (fun _ hS_ => At.mod (hb.get (o := 0 + 2) rfl) hS_ (by simp)) rfl rfl rfl ?_ | refine GO.loadNR (by assumption) (fun _ hS_ => At.mod (hb.get (o := 0 + 2) rfl) hS_ (by simp)) rfl rfl rfl rfl ?_))
  (repeat (refine GX.pure rfl ?_; first | refine GO.move rfl rfl rfl rfl ?_ | refine GO.assign rfl rfl rfl rfl ?_ | refine GO.nilCheck rfl rfl rfl rfl ?_ | refine GO.fieldAddr rfl rfl rfl rfl rfl ?_ | refine GO.nilCheckF rfl rfl rfl rfl ?_))
  (repeat (first | refine GX.doneD ?_ | refine GX.done ?_ | refine GQ.goNormal ?_ | refine GC.seq ?_ | refine GC.skip ?_ | refine GC.block ?_ | refine GC.exit ?_ | refine GC.ret ?_ | refine GQ.goExit ?_ | refine GQ.goRet ?_ | refine GQ.inNormal ?_ | refine GQ.inExit ?_ | refine GQ.inExitNe rfl ?_ | refine GQ.inRet ?_ | refine GQ.loopExit ?_ | refine GQ.loopRet ?_ | refine GQ.cutExit ?_ | refine GQ.cutRet ?_))
  refine GQ.ret2 (by first | exact .inl rfl | exact .inr rfl) rfl rfl rfl ?_
  refine ⟨j, _, rfl, ⟨la, lc, cells, rfl, q3.own.sla, EntsF.mono (fun k hk h => (hF k h.1).1) q4, fun y hy => ?_, hE1⟩, hok, hst, hno⟩
  have := q3.at_ y hy
  exact ⟨(hF _ (k3 _ this).1).1, q3.lt _ this⟩

set_option maxHeartbeats 400000 in
theorem sumL_ret (s : Nat) (hs : s < 4294967296) (l : List UInt8) (hl : l.length < 2 ^ 40) (a : Option Addr) (c : Nat) (w : World) (hA : SlA w a (bytesV l)) :
    Ret Try.prog 15 [.int .u32 s, .slice a l.length c].toArray w fun v w' => v = .int .u32 (foldN s l) ∧ w' = w := by
  
  refine Ret.enter Try.func15 rfl Try.ntmps15 rfl ?_
  (repeat (first | refine GX.doneD ?_ | refine GX.done ?_ | refine GQ.goNormal ?_ | refine GC.seq ?_ | refine GC.skip ?_ | refine GC.block ?_ | refine GC.exit ?_ | refine GC.ret ?_ | refine GQ.goExit ?_ | refine GQ.goRet ?_ | refine GQ.inNormal ?_ | refine GQ.inExit ?_ | refine GQ.inExitNe rfl ?_ | refine GQ.inRet ?_ | refine GQ.loopExit ?_ | refine GQ.loopRet ?_ | refine GQ.cutExit ?_ | refine GQ.cutRet ?_))
  refine GC.region (.pure 0 .done) rfl ?_
  (repeat (refine GX.pure rfl ?_; refine GO.assign rfl rfl rfl rfl ?_))
  (repeat (first | refine GX.doneD ?_ | refine GX.done ?_ | refine GQ.goNormal ?_ | refine GC.seq ?_ | refine GC.skip ?_ | refine GC.block ?_ | refine GC.exit ?_ | refine GC.ret ?_ | refine GQ.goExit ?_ | refine GQ.goRet ?_ | refine GQ.inNormal ?_ | refine GQ.inExit ?_ | refine GQ.inExitNe rfl ?_ | refine GQ.inRet ?_ | refine GQ.loopExit ?_ | refine GQ.loopRet ?_ | refine GQ.cutExit ?_ | refine GQ.cutRet ?_))
  refine GC.region (.pure 0 .done) rfl ?_
  (repeat (refine GX.pure rfl ?_; refine GO.assign rfl rfl rfl rfl ?_))
  (repeat (first | refine GX.doneD ?_ | refine GX.done ?_ | refine GQ.goNormal ?_ | refine GC.seq ?_ | refine GC.skip ?_ | refine GC.block ?_ | refine GC.exit ?_ | refine GC.ret ?_ | refine GQ.goExit ?_ | refine GQ.goRet ?_ | refine GQ.inNormal ?_ | refine GQ.inExit ?_ | refine GQ.inExitNe rfl ?_ | refine GQ.inRet ?_ | refine GQ.loopExit ?_ | refine GQ.loopRet ?_ | refine GQ.cutExit ?_ | refine GQ.cutRet ?_))
  refine GC.loop (X := Nat) (fun k => [(0, .int .u32 (foldN s (l.take k))), (1, .slice a l.length c), (5, .int .i64 k)]) (fun k w' => k ≤ l.length ∧ w' = w) (fun k => l.length - k) 0 (sub_pick (l := [0, 1, 5]) rfl) ⟨Nat.zero_le _, rfl⟩ ?_
  rintro k w' ⟨hk, rfl⟩
  (repeat (first | refine GX.doneD ?_ | refine GX.done ?_ | refine GQ.goNormal ?_ | refine GC.seq ?_ | refine GC.skip ?_ | refine GC.block ?_ | refine GC.exit ?_ | refine GC.ret ?_ | refine GQ.goExit ?_ | refine GQ.goRet ?_ | refine GQ.inNormal ?_ | refine GQ.inExit ?_ | refine GQ.inExitNe rfl ?_ | refine GQ.inRet ?_ | refine GQ.loopExit ?_ | refine GQ.loopRet ?_ | refine GQ.cutExit ?_ | refine GQ.cutRet ?_))
  refine GC.region (.pure 0 (.pure 1 (.pure 2 (.pure 3 .done)))) rfl ?_
  (repeat (refine GX.pure rfl ?_; first | refine GO.move rfl rfl rfl rfl ?_ | refine GO.lenSlice rfl rfl rfl rfl ?_ | refine GO.lss rfl rfl rfl rfl rfl ?_))
  (repeat (first | refine GX.doneD ?_ | refine GX.done ?_ | refine GQ.goNormal ?_ | refine GC.seq ?_ | refine GC.skip ?_ | refine GC.block ?_ | refine GC.exit ?_ | refine GC.ret ?_ | refine GQ.goExit ?_ | refine GQ.goRet ?_ | refine GQ.inNormal ?_ | refine GQ.inExit ?_ | refine GQ.inExitNe rfl ?_ | refine GQ.inRet ?_ | refine GQ.loopExit ?_ | refine GQ.loopRet ?_ | refine GQ.cutExit ?_ | refine GQ.cutRet ?_))
  refine GC.cond rfl (fun hc => ?_) (fun hc => ?_)
  · have hlt : k < l.length := by have := of_decide_eq_true hc; omega
    obtain ⟨b, o, rfl, hAt⟩ := hA.of_pos (by simp; omega)
    (repeat (first | refine GX.doneD ?_ | refine GX.done ?_ | refine GQ.goNormal ?_ | refine GC.seq ?_ | refine GC.skip ?_ | refine GC.block ?_ | refine GC.exit ?_ | refine GC.ret ?_ | refine GQ.goExit ?_ | refine GQ.goRet ?_ | refine GQ.inNormal ?_ | refine GQ.inExit ?_ | refine GQ.inExitNe rfl ?_ | refine GQ.inRet ?_ | refine GQ.loopExit ?_ | refine GQ.loopRet ?_ | refine GQ.cutExit ?_ | refine GQ.cutRet ?_))
    refine GC.region (.pure 0 (.pure 1 (.pure 2 (.pure 3 (.pure 4 (.eff 5 (.pure 6 (.pure 7 (.pure 8 .done))))))))) rfl ?_
    (refine GX.pure rfl ?_; first | refine GO.move rfl rfl rfl rfl ?_ | refine GO.assign rfl rfl rfl rfl ?_ | refine GO.conv rfl rfl rfl rfl (wrapIn (by dsimp only [InK]; omega)) ?_ | refine GO.convStr rfl rfl rfl rfl ?_)
    refine GX.pure rfl (GO.mul rfl rfl rfl rfl rfl (wrapU32 _) ?_)
    (repeat (refine GX.pure rfl ?_; first | refine GO.move rfl rfl rfl rfl ?_ | refine GO.assign rfl rfl rfl rfl ?_ | refine GO.conv rfl rfl rfl rfl (wrapIn (by dsimp only [InK]; omega)) ?_ | refine GO.convStr rfl rfl rfl rfl ?_))
    refine GX.pure rfl ?_
    refine GO.indexAddr rfl rfl rfl rfl (by omega) (by omega) rfl ?_
    have hcell : At w' b (o + (k : Int).toNat * 1) [byteV l[k]] := by simpa using At.one hAt (bytes_get hlt)
    (first | (refine GX.eff rfl ?_; first | refine GO.load1 (hcell) rfl rfl rfl ?_ | refine GO.loadN (hcell) rfl rfl rfl rfl ?_) | (refine GX.read rfl ?_; first | refine GO.load1R (by assumption) (fun _ hS_ => At.mod (hcell) hS_ (by simp)) rfl rfl rfl ?_ | refine GO.loadNR (by assumption) (fun _ hS_ => At.mod (hcell) hS_ (by simp)) rfl rfl rfl rfl ?_))
    have hb := UInt8.toNat_lt l[k]
    (repeat (refine GX.pure rfl ?_; first | refine GO.move rfl rfl rfl rfl ?_ | refine GO.assign rfl rfl rfl rfl ?_ | refine GO.conv rfl rfl rfl rfl (wrapIn (by dsimp only [InK]; omega)) ?_ | refine GO.convStr rfl rfl rfl rfl ?_))
    have hf := foldN_lt s (l.take k) hs
    refine GX.pure rfl (GO.bits rfl rfl rfl rfl rfl (c := (foldN s (l.take (k + 1)) : Nat)) (fun w => ?_) ?_)
    · have h1 : foldN s (l.take (k + 1)) = ((33 * foldN s (l.take k)) % 4294967296) ^^^ l[k].toNat := by
        rw [← foldN_snoc, List.take_succ_eq_append_getElem hlt]
      have := run_xor (P := Try.prog) (w := w) .u32 rfl 36 ((33 * foldN s (l.take k)) % 4294967296) l[k].toNat (Nat.mod_lt _ (by decide)) (by simp [IntKind.bits]; omega)
      rw [h1, ← this]
      have e : ((foldN s (l.take k) : Int) * 33 % 4294967296) = ((33 * foldN s (l.take k) % 4294967296 : Nat) : Int) := by omega
      rw [e]
    (repeat (refine GX.pure rfl ?_; first | refine GO.move rfl rfl rfl rfl ?_ | refine GO.assign rfl rfl rfl rfl ?_ | refine GO.conv rfl rfl rfl rfl (wrapIn (by dsimp only [InK]; omega)) ?_ | refine GO.convStr rfl rfl rfl rfl ?_))
    (repeat (first | refine GX.doneD ?_ | refine GX.done ?_ | refine GQ.goNormal ?_ | refine GC.seq ?_ | refine GC.skip ?_ | refine GC.block ?_ | refine GC.exit ?_ | refine GC.ret ?_ | refine GQ.goExit ?_ | refine GQ.goRet ?_ | refine GQ.inNormal ?_ | refine GQ.inExit ?_ | refine GQ.inExitNe rfl ?_ | refine GQ.inRet ?_ | refine GQ.loopExit ?_ | refine GQ.loopRet ?_ | refine GQ.cutExit ?_ | refine GQ.cutRet ?_))
    refine GC.region (.pure 0 (.pure 1 (.pure 2 .done))) rfl ?_
    (repeat (refine GX.pure rfl ?_; first | refine GO.move rfl rfl rfl rfl ?_ | refine GO.assign rfl rfl rfl rfl ?_ | refine GO.add rfl rfl rfl rfl rfl (wrapIn (by dsimp only [InK]; omega)) ?_))
    (repeat (first | refine GX.doneD ?_ | refine GX.done ?_ | refine GQ.goNormal ?_ | refine GC.seq ?_ | refine GC.skip ?_ | refine GC.block ?_ | refine GC.exit ?_ | refine GC.ret ?_ | refine GQ.goExit ?_ | refine GQ.goRet ?_ | refine GQ.inNormal ?_ | refine GQ.inExit ?_ | refine GQ.inExitNe rfl ?_ | refine GQ.inRet ?_ | refine GQ.loopExit ?_ | refine GQ.loopRet ?_ | refine GQ.cutExit ?_ | refine GQ.cutRet ?_))
    exact GQ.again (k + 1) (sub_pick (l := [0, 1, 5]) rfl) ⟨hlt, rfl⟩ (by omega)
  · have hge : k = l.length := by have := of_decide_eq_false hc; omega
    subst hge
    (repeat (first | refine GX.doneD ?_ | refine GX.done ?_ | refine GQ.goNormal ?_ | refine GC.seq ?_ | refine GC.skip ?_ | refine GC.block ?_ | refine GC.exit ?_ | refine GC.ret ?_ | refine GQ.goExit ?_ | refine GQ.goRet ?_ | refine GQ.inNormal ?_ | refine GQ.inExit ?_ | refine GQ.inExitNe rfl ?_ | refine GQ.inRet ?_ | refine GQ.loopExit ?_ | refine GQ.loopRet ?_ | refine GQ.cutExit ?_ | refine GQ.cutRet ?_))
    refine GC.region (.pure 0 (.pure 1 .done)) rfl ?_
    (repeat (refine GX.pure rfl ?_; first | refine GO.move rfl rfl rfl rfl ?_ | refine GO.assign rfl rfl rfl rfl ?_))
    (repeat (first | refine GX.doneD ?_ | refine GX.done ?_ | refine GQ.goNormal ?_ | refine GC.seq ?_ | refine GC.skip ?_ | refine GC.block ?_ | refine GC.exit ?_ | refine GC.ret ?_ | refine GQ.goExit ?_ | refine GQ.goRet ?_ | refine GQ.inNormal ?_ | refine GQ.inExit ?_ | refine GQ.inExitNe rfl ?_ | refine GQ.inRet ?_ | refine GQ.loopExit ?_ | refine GQ.loopRet ?_ | refine GQ.cutExit ?_ | refine GQ.cutRet ?_))
    refine GQ.ret1 (by first | exact .inl rfl | exact .inr rfl) rfl rfl ?_
    exact ⟨by rw [List.take_length], rfl⟩
end Go.Proofs.Ytahkglanddhncaa.V
