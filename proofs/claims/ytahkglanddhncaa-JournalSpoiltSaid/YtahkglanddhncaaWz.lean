/-
  What a journal's Sum and Record compute (package journal). Conditions: its bytes are none or at least four, and shorter than 2^40; the ends lie within them.
-/
import Derived.Test.YtahkglanddhncaaWy
namespace Go.Proofs.Ytahkglanddhncaa.V
attribute [local irreducible] GX GO

def foldS (s : Nat) (l : List UInt8) : Nat := l.foldl (fun s b => (s * 256 % 4294967296) ||| b.toNat) s
theorem foldS_snoc (s : Nat) (l : List UInt8) (b : UInt8) : foldS s (l ++ [b]) = (foldS s l * 256 % 4294967296) ||| b.toNat := by simp [foldS]
theorem foldS_lt (s : Nat) (l : List UInt8) (h : s < 4294967296) : foldS s l < 4294967296 := by
  induction l generalizing s with
  | nil => exact h
  | cons b r ih =>
    refine ih _ ?_
    have h1 : s * 256 % 4294967296 < 2 ^ 32 := Nat.mod_lt _ (by decide)
    have h2 : b.toNat < 2 ^ 32 := by have := UInt8.toNat_lt b; omega
    exact Nat.or_lt_two_pow h1 h2
theorem sumOf_eq (l : List UInt8) : sumOf l = if l.length = 0 then 5381 else foldS 0 (l.drop (l.length - 4)) := rfl
theorem sumOf_lt (l : List UInt8) : sumOf l < 4294967296 := by
  rw [sumOf_eq]
  split
  · decide
  · exact foldS_lt _ _ (by decide)

set_option maxHeartbeats 1000000 in
theorem sumJ_ret (F : Nat → Prop) (bj : Nat) (j : JS) (w : World) (h : JAt w F bj j) (hl : j.data.length < 2 ^ 40) (h4 : j.data.length = 0 ∨ 4 ≤ j.data.length) :
    Ret Try.prog 22 [.pointer (some ⟨bj, 0, none⟩)].toArray w fun v w' => v = .int .u32 (sumOf j.data) ∧ Ext w w' := by
  obtain ⟨od, da, dc, oe, ea, ec, ol, la, lc, cells, hb, h1, h2, h3, _, hF, k1, k2, k3⟩ := h
  have hcap := h1.bytes.cap
  
  refine Ret.enter Try.func22 rfl Try.ntmps22 rfl ?_
  (repeat (first | refine GX.doneD ?_ | refine GX.done ?_ | refine GQ.goNormal ?_ | refine GC.seq ?_ | refine GC.skip ?_ | refine GC.block ?_ | refine GC.exit ?_ | refine GC.ret ?_ | refine GQ.goExit ?_ | refine GQ.goRet ?_ | refine GQ.inNormal ?_ | refine GQ.inExit ?_ | refine GQ.inExitNe rfl ?_ | refine GQ.inRet ?_ | refine GQ.loopExit ?_ | refine GQ.loopRet ?_ | refine GQ.cutExit ?_ | refine GQ.cutRet ?_))
  refine GC.region (.pure 0 .done) rfl ?_
  (repeat (refine GX.pure rfl ?_; refine GO.assign rfl rfl rfl rfl ?_))
  (repeat (first | refine GX.doneD ?_ | refine GX.done ?_ | refine GQ.goNormal ?_ | refine GC.seq ?_ | refine GC.skip ?_ | refine GC.block ?_ | refine GC.exit ?_ | refine GC.ret ?_ | refine GQ.goExit ?_ | refine GQ.goRet ?_ | refine GQ.inNormal ?_ | refine GQ.inExit ?_ | refine GQ.inExitNe rfl ?_ | refine GQ.inRet ?_ | refine GQ.loopExit ?_ | refine GQ.loopRet ?_ | refine GQ.cutExit ?_ | refine GQ.cutRet ?_))
  refine GC.region (.pure 0 (.pure 1 (.pure 2 .done))) rfl ?_
  (repeat (refine GX.pure rfl ?_; first | refine GO.move rfl rfl rfl rfl ?_ | refine GO.assign rfl rfl rfl rfl ?_ | refine GO.ptrEqlNil rfl rfl rfl rfl rfl ?_))
  (repeat (first | refine GX.doneD ?_ | refine GX.done ?_ | refine GQ.goNormal ?_ | refine GC.seq ?_ | refine GC.skip ?_ | refine GC.block ?_ | refine GC.exit ?_ | refine GC.ret ?_ | refine GQ.goExit ?_ | refine GQ.goRet ?_ | refine GQ.inNormal ?_ | refine GQ.inExit ?_ | refine GQ.inExitNe rfl ?_ | refine GQ.inRet ?_ | refine GQ.loopExit ?_ | refine GQ.loopRet ?_ | refine GQ.cutExit ?_ | refine GQ.cutRet ?_))
  refine GC.cond rfl (fun hc => ?_) (fun hc => ?_)
  · cases hc
  (repeat (first | refine GX.doneD ?_ | refine GX.done ?_ | refine GQ.goNormal ?_ | refine GC.seq ?_ | refine GC.skip ?_ | refine GC.block ?_ | refine GC.exit ?_ | refine GC.ret ?_ | refine GQ.goExit ?_ | refine GQ.goRet ?_ | refine GQ.inNormal ?_ | refine GQ.inExit ?_ | refine GQ.inExitNe rfl ?_ | refine GQ.inRet ?_ | refine GQ.loopExit ?_ | refine GQ.loopRet ?_ | refine GQ.cutExit ?_ | refine GQ.cutRet ?_))
  refine GC.region (.pure 0 (.pure 1 (.pure 2 (.eff 3 (.pure 4 (.pure 5 (.pure 6 .done))))))) rfl ?_
  (repeat (refine GX.pure rfl ?_; first | refine GO.move rfl rfl rfl rfl ?_ | refine GO.assign rfl rfl rfl rfl ?_ | refine GO.nilCheck rfl rfl rfl rfl ?_ | refine GO.fieldAddr rfl rfl rfl rfl rfl ?_ | refine GO.lenSlice rfl rfl rfl rfl ?_ | refine GO.eql rfl rfl rfl rfl rfl ?_ | refine GO.nilCheckF rfl rfl rfl rfl ?_))
  (first | (refine GX.eff rfl ?_; first | refine GO.load1 (hb.get (o := 0 + 0) rfl) rfl rfl rfl ?_ | refine GO.loadN (hb.get (o := 0 + 0) rfl) rfl rfl rfl rfl ?_) | (refine GX.read rfl ?_; first | refine GO.load1R (by assumption) (fun _ hS_ => At.mod (hb.get (o := 0 + 0) rfl) hS_ (by simp)) rfl rfl rfl ?_ | refine GO.loadNR (by assumption) (fun _ hS_ => At.mod (hb.get (o := 0 + 0) rfl) hS_ (by simp)) rfl rfl rfl rfl ?_))
  (repeat (refine GX.pure rfl ?_; first | refine GO.move rfl rfl rfl rfl ?_ | refine GO.assign rfl rfl rfl rfl ?_ | refine GO.nilCheck rfl rfl rfl rfl ?_ | refine GO.fieldAddr rfl rfl rfl rfl rfl ?_ | refine GO.lenSlice rfl rfl rfl rfl ?_ | refine GO.eql rfl rfl rfl rfl rfl ?_ | refine GO.nilCheckF rfl rfl rfl rfl ?_))
  (repeat (first | refine GX.doneD ?_ | refine GX.done ?_ | refine GQ.goNormal ?_ | refine GC.seq ?_ | refine GC.skip ?_ | refine GC.block ?_ | refine GC.exit ?_ | refine GC.ret ?_ | refine GQ.goExit ?_ | refine GQ.goRet ?_ | refine GQ.inNormal ?_ | refine GQ.inExit ?_ | refine GQ.inExitNe rfl ?_ | refine GQ.inRet ?_ | refine GQ.loopExit ?_ | refine GQ.loopRet ?_ | refine GQ.cutExit ?_ | refine GQ.cutRet ?_))
  refine GC.cond rfl (fun h0 => ?_) (fun h0 => ?_)
  · have h0' : j.data.length = 0 := by have := of_decide_eq_true h0; omega
    (repeat (first | refine GX.doneD ?_ | refine GX.done ?_ | refine GQ.goNormal ?_ | refine GC.seq ?_ | refine GC.skip ?_ | refine GC.block ?_ | refine GC.exit ?_ | refine GC.ret ?_ | refine GQ.goExit ?_ | refine GQ.goRet ?_ | refine GQ.inNormal ?_ | refine GQ.inExit ?_ | refine GQ.inExitNe rfl ?_ | refine GQ.inRet ?_ | refine GQ.loopExit ?_ | refine GQ.loopRet ?_ | refine GQ.cutExit ?_ | refine GQ.cutRet ?_))
    refine GC.region (.pure 0 .done) rfl ?_
    (repeat (refine GX.pure rfl ?_; refine GO.assign rfl rfl rfl rfl ?_))
    (repeat (first | refine GX.doneD ?_ | refine GX.done ?_ | refine GQ.goNormal ?_ | refine GC.seq ?_ | refine GC.skip ?_ | refine GC.block ?_ | refine GC.exit ?_ | refine GC.ret ?_ | refine GQ.goExit ?_ | refine GQ.goRet ?_ | refine GQ.inNormal ?_ | refine GQ.inExit ?_ | refine GQ.inExitNe rfl ?_ | refine GQ.inRet ?_ | refine GQ.loopExit ?_ | refine GQ.loopRet ?_ | refine GQ.cutExit ?_ | refine GQ.cutRet ?_))
    refine GQ.ret1 (by first | exact .inl rfl | exact .inr rfl) rfl rfl ?_
    exact ⟨by rw [sumOf_eq, if_pos h0']; rfl, Mod.refl _⟩
  have h0' : ¬ j.data.length = 0 := by have := of_decide_eq_false h0; omega
  rw [sumOf_eq, if_neg h0']
  (repeat (first | refine GX.doneD ?_ | refine GX.done ?_ | refine GQ.goNormal ?_ | refine GC.seq ?_ | refine GC.skip ?_ | refine GC.block ?_ | refine GC.exit ?_ | refine GC.ret ?_ | refine GQ.goExit ?_ | refine GQ.goRet ?_ | refine GQ.inNormal ?_ | refine GQ.inExit ?_ | refine GQ.inExitNe rfl ?_ | refine GQ.inRet ?_ | refine GQ.loopExit ?_ | refine GQ.loopRet ?_ | refine GQ.cutExit ?_ | refine GQ.cutRet ?_))
  refine GC.region (.pure 0 .done) rfl ?_
  (repeat (refine GX.pure rfl ?_; refine GO.assign rfl rfl rfl rfl ?_))
  (repeat (first | refine GX.doneD ?_ | refine GX.done ?_ | refine GQ.goNormal ?_ | refine GC.seq ?_ | refine GC.skip ?_ | refine GC.block ?_ | refine GC.exit ?_ | refine GC.ret ?_ | refine GQ.goExit ?_ | refine GQ.goRet ?_ | refine GQ.inNormal ?_ | refine GQ.inExit ?_ | refine GQ.inExitNe rfl ?_ | refine GQ.inRet ?_ | refine GQ.loopExit ?_ | refine GQ.loopRet ?_ | refine GQ.cutExit ?_ | refine GQ.cutRet ?_))
  refine GC.regionD (.pure 0 (.pure 1 (.pure 2 (.pure 4 (.pure 5 (.pure 6 (.pure 12 (.read 3 (.read 7 (.pure 8 (.pure 9 (.pure 10 (.pure 11 .done))))))))))))) (fun _ => False) mixed (by kernel_rfl) (by kernel_rfl) ?_
  intro w1 _ hE1
  have hS : Mod (fun _ => False) w w1 := hE1
  (repeat (refine GX.pure rfl ?_; first | refine GO.move rfl rfl rfl rfl ?_ | refine GO.nilCheck rfl rfl rfl rfl ?_ | refine GO.fieldAddr rfl rfl rfl rfl rfl ?_ | refine GO.lenSlice rfl rfl rfl rfl ?_ | refine GO.sub rfl rfl rfl rfl rfl (wrapIn (by dsimp only [InK]; omega)) ?_ | refine GO.nilCheckF rfl rfl rfl rfl ?_))
  (first | (refine GX.eff rfl ?_; first | refine GO.load1 (hb.get (o := 0 + 0) rfl) rfl rfl rfl ?_ | refine GO.loadN (hb.get (o := 0 + 0) rfl) rfl rfl rfl rfl ?_) | (refine GX.read rfl ?_; first | refine GO.load1R (by assumption) (fun _ hS_ => At.mod (hb.get (o := 0 + 0) rfl) hS_ (by simp)) rfl rfl rfl ?_ | refine GO.loadNR (by assumption) (fun _ hS_ => At.mod (hb.get (o := 0 + 0) rfl) hS_ (by simp)) rfl rfl rfl rfl ?_))
  (first | (refine GX.eff rfl ?_; first | refine GO.load1 (hb.get (o := 0 + 0) rfl) rfl rfl rfl ?_ | refine GO.loadN (hb.get (o := 0 + 0) rfl) rfl rfl rfl rfl ?_) | (refine GX.read rfl ?_; first | refine GO.load1R (by assumption) (fun _ hS_ => At.mod (hb.get (o := 0 + 0) rfl) hS_ (by simp)) rfl rfl rfl ?_ | refine GO.loadNR (by assumption) (fun _ hS_ => At.mod (hb.get (o := 0 + 0) rfl) hS_ (by simp)) rfl rfl rfl rfl ?_))
  (repeat (refine GX.pure rfl ?_; first | refine GO.move rfl rfl rfl rfl ?_ | refine GO.nilCheck rfl rfl rfl rfl ?_ | refine GO.fieldAddr rfl rfl rfl rfl rfl ?_ | refine GO.lenSlice rfl rfl rfl rfl ?_ | refine GO.sub rfl rfl rfl rfl rfl (wrapIn (by dsimp only [InK]; omega)) ?_ | refine GO.nilCheckF rfl rfl rfl rfl ?_))
  refine GX.pure rfl ?_
  refine GO.sliceS rfl rfl rfl rfl (bounds_l (by omega) (by omega)) ⟨by simp; rfl, by simp, by simp⟩ ?_
  have e1 : ((j.data.length : Int) - 4).toNat = j.data.length - 4 := by omega
  rw [e1]
  have hsl := (h1.bytes.ext hE1).from_ (j.data.length - 4) (by omega)
  have e2 : j.data.length - (j.data.length - 4) = 4 := by omega
  rw [e2]
  have hm4 : (j.data.drop (j.data.length - 4)).length = 4 := by simp; omega
  generalize j.data.drop (j.data.length - 4) = m at *
  generalize sliced' da (j.data.length - 4) dc 1 = sa at *
  generalize dc - (j.data.length - 4) = sc at *
  (repeat (refine GX.pure rfl ?_; first | refine GO.move rfl rfl rfl rfl ?_ | refine GO.nilCheck rfl rfl rfl rfl ?_ | refine GO.fieldAddr rfl rfl rfl rfl rfl ?_ | refine GO.lenSlice rfl rfl rfl rfl ?_ | refine GO.sub rfl rfl rfl rfl rfl (wrapIn (by dsimp only [InK]; omega)) ?_ | refine GO.nilCheckF rfl rfl rfl rfl ?_))
  (repeat (first | refine GX.doneD ?_ | refine GX.done ?_ | refine GQ.goNormal ?_ | refine GC.seq ?_ | refine GC.skip ?_ | refine GC.block ?_ | refine GC.exit ?_ | refine GC.ret ?_ | refine GQ.goExit ?_ | refine GQ.goRet ?_ | refine GQ.inNormal ?_ | refine GQ.inExit ?_ | refine GQ.inExitNe rfl ?_ | refine GQ.inRet ?_ | refine GQ.loopExit ?_ | refine GQ.loopRet ?_ | refine GQ.cutExit ?_ | refine GQ.cutRet ?_))
  refine GC.loop (X := Nat) (fun k => [(3, .int .u32 (foldS 0 (m.take k))), (26, .slice sa 4 sc), (27, .int .i64 (4 : Nat)), (28, .int .i64 k)]) (fun k w' => k ≤ 4 ∧ w' = w1) (fun k => 4 - k) 0 (sub_pick (l := [3, 26, 27, 28]) rfl) ⟨Nat.zero_le _, rfl⟩ ?_
  rintro k w' ⟨hk, rfl⟩
  (repeat (first | refine GX.doneD ?_ | refine GX.done ?_ | refine GQ.goNormal ?_ | refine GC.seq ?_ | refine GC.skip ?_ | refine GC.block ?_ | refine GC.exit ?_ | refine GC.ret ?_ | refine GQ.goExit ?_ | refine GQ.goRet ?_ | refine GQ.inNormal ?_ | refine GQ.inExit ?_ | refine GQ.inExitNe rfl ?_ | refine GQ.inRet ?_ | refine GQ.loopExit ?_ | refine GQ.loopRet ?_ | refine GQ.cutExit ?_ | refine GQ.cutRet ?_))
  refine GC.region (.pure 0 .done) rfl ?_
  (repeat (refine GX.pure rfl ?_; refine GO.lss rfl rfl rfl rfl rfl ?_))
  (repeat (first | refine GX.doneD ?_ | refine GX.done ?_ | refine GQ.goNormal ?_ | refine GC.seq ?_ | refine GC.skip ?_ | refine GC.block ?_ | refine GC.exit ?_ | refine GC.ret ?_ | refine GQ.goExit ?_ | refine GQ.goRet ?_ | refine GQ.inNormal ?_ | refine GQ.inExit ?_ | refine GQ.inExitNe rfl ?_ | refine GQ.inRet ?_ | refine GQ.loopExit ?_ | refine GQ.loopRet ?_ | refine GQ.cutExit ?_ | refine GQ.cutRet ?_))
  refine GC.cond rfl (fun hc2 => ?_) (fun hc2 => ?_)
  · have hlt : k < m.length := by have := of_decide_eq_true hc2; omega
    obtain ⟨b, o, rfl, hAt⟩ := hsl.cells.of_pos (by simp; omega)
    (repeat (first | refine GX.doneD ?_ | refine GX.done ?_ | refine GQ.goNormal ?_ | refine GC.seq ?_ | refine GC.skip ?_ | refine GC.block ?_ | refine GC.exit ?_ | refine GC.ret ?_ | refine GQ.goExit ?_ | refine GQ.goRet ?_ | refine GQ.inNormal ?_ | refine GQ.inExit ?_ | refine GQ.inExitNe rfl ?_ | refine GQ.inRet ?_ | refine GQ.loopExit ?_ | refine GQ.loopRet ?_ | refine GQ.cutExit ?_ | refine GQ.cutRet ?_))
    refine GC.region (.pure 0 (.eff 1 (.pure 2 .done))) rfl ?_
    refine GX.pure rfl ?_
    refine GO.indexAddr rfl rfl rfl rfl (by omega) (by omega) rfl ?_
    have hcell : At w' b (o + (k : Int).toNat * 1) [byteV m[k]] := by simpa using At.one hAt (bytes_get hlt)
    (first | (refine GX.eff rfl ?_; first | refine GO.load1 (hcell) rfl rfl rfl ?_ | refine GO.loadN (hcell) rfl rfl rfl rfl ?_) | (refine GX.read rfl ?_; first | refine GO.load1R (by assumption) (fun _ hS_ => At.mod (hcell) hS_ (by simp)) rfl rfl rfl ?_ | refine GO.loadNR (by assumption) (fun _ hS_ => At.mod (hcell) hS_ (by simp)) rfl rfl rfl rfl ?_))
    (repeat (refine GX.pure rfl ?_; refine GO.assign rfl rfl rfl rfl ?_))
    (repeat (first | refine GX.doneD ?_ | refine GX.done ?_ | refine GQ.goNormal ?_ | refine GC.seq ?_ | refine GC.skip ?_ | refine GC.block ?_ | refine GC.exit ?_ | refine GC.ret ?_ | refine GQ.goExit ?_ | refine GQ.goRet ?_ | refine GQ.inNormal ?_ | refine GQ.inExit ?_ | refine GQ.inExitNe rfl ?_ | refine GQ.inRet ?_ | refine GQ.loopExit ?_ | refine GQ.loopRet ?_ | refine GQ.cutExit ?_ | refine GQ.cutRet ?_))
    refine GC.region (.pure 0 (.pure 1 (.pure 2 (.pure 3 (.pure 4 (.pure 5 .done)))))) rfl ?_
    (repeat (refine GX.pure rfl ?_; first | refine GO.move rfl rfl rfl rfl ?_ | refine GO.assign rfl rfl rfl rfl ?_ | refine GO.conv rfl rfl rfl rfl (wrapIn (by dsimp only [InK]; omega)) ?_ | refine GO.convStr rfl rfl rfl rfl ?_))
    have hbt := UInt8.toNat_lt m[k]
    have hf := foldS_lt 0 (m.take k) (by decide)
    refine GX.pure rfl (GO.shl rfl rfl rfl rfl rfl (by decide) (show _ = ((foldS 0 (m.take k) * 256 % 4294967296 : Nat) : Int) from by rw [wrapU32]; rfl) ?_)
    (repeat (refine GX.pure rfl ?_; first | refine GO.move rfl rfl rfl rfl ?_ | refine GO.assign rfl rfl rfl rfl ?_ | refine GO.conv rfl rfl rfl rfl (wrapIn (by dsimp only [InK]; omega)) ?_ | refine GO.convStr rfl rfl rfl rfl ?_))
    refine GX.pure rfl (GO.bits rfl rfl rfl rfl rfl (c := (foldS 0 (m.take (k + 1)) : Nat)) (fun w => ?_) ?_)
    · have h1 : foldS 0 (m.take (k + 1)) = (foldS 0 (m.take k) * 256 % 4294967296) ||| m[k].toNat := by
        rw [← foldS_snoc, List.take_succ_eq_append_getElem hlt]
      have := run_or (P := Try.prog) (w := w) .u32 rfl 36 (foldS 0 (m.take k) * 256 % 4294967296) m[k].toNat (Nat.mod_lt _ (by decide)) (by simp [IntKind.bits]; omega)
      rw [h1, ← this]
    (repeat (refine GX.pure rfl ?_; first | refine GO.move rfl rfl rfl rfl ?_ | refine GO.assign rfl rfl rfl rfl ?_ | refine GO.conv rfl rfl rfl rfl (wrapIn (by dsimp only [InK]; omega)) ?_ | refine GO.convStr rfl rfl rfl rfl ?_))
    (repeat (first | refine GX.doneD ?_ | refine GX.done ?_ | refine GQ.goNormal ?_ | refine GC.seq ?_ | refine GC.skip ?_ | refine GC.block ?_ | refine GC.exit ?_ | refine GC.ret ?_ | refine GQ.goExit ?_ | refine GQ.goRet ?_ | refine GQ.inNormal ?_ | refine GQ.inExit ?_ | refine GQ.inExitNe rfl ?_ | refine GQ.inRet ?_ | refine GQ.loopExit ?_ | refine GQ.loopRet ?_ | refine GQ.cutExit ?_ | refine GQ.cutRet ?_))
    refine GC.region (.pure 0 (.pure 1 .done)) rfl ?_
    (repeat (refine GX.pure rfl ?_; first | refine GO.move rfl rfl rfl rfl ?_ | refine GO.add rfl rfl rfl rfl rfl (wrapIn (by dsimp only [InK]; omega)) ?_))
    (repeat (first | refine GX.doneD ?_ | refine GX.done ?_ | refine GQ.goNormal ?_ | refine GC.seq ?_ | refine GC.skip ?_ | refine GC.block ?_ | refine GC.exit ?_ | refine GC.ret ?_ | refine GQ.goExit ?_ | refine GQ.goRet ?_ | refine GQ.inNormal ?_ | refine GQ.inExit ?_ | refine GQ.inExitNe rfl ?_ | refine GQ.inRet ?_ | refine GQ.loopExit ?_ | refine GQ.loopRet ?_ | refine GQ.cutExit ?_ | refine GQ.cutRet ?_))
    exact GQ.again (k + 1) (sub_pick (l := [3, 26, 27, 28]) rfl) ⟨by omega, rfl⟩ (by omega)
  · have hge : k = m.length := by have := of_decide_eq_false hc2; omega
    subst hge
    (repeat (first | refine GX.doneD ?_ | refine GX.done ?_ | refine GQ.goNormal ?_ | refine GC.seq ?_ | refine GC.skip ?_ | refine GC.block ?_ | refine GC.exit ?_ | refine GC.ret ?_ | refine GQ.goExit ?_ | refine GQ.goRet ?_ | refine GQ.inNormal ?_ | refine GQ.inExit ?_ | refine GQ.inExitNe rfl ?_ | refine GQ.inRet ?_ | refine GQ.loopExit ?_ | refine GQ.loopRet ?_ | refine GQ.cutExit ?_ | refine GQ.cutRet ?_))
    refine GC.region (.pure 0 (.pure 1 .done)) rfl ?_
    (repeat (refine GX.pure rfl ?_; first | refine GO.move rfl rfl rfl rfl ?_ | refine GO.assign rfl rfl rfl rfl ?_))
    (repeat (first | refine GX.doneD ?_ | refine GX.done ?_ | refine GQ.goNormal ?_ | refine GC.seq ?_ | refine GC.skip ?_ | refine GC.block ?_ | refine GC.exit ?_ | refine GC.ret ?_ | refine GQ.goExit ?_ | refine GQ.goRet ?_ | refine GQ.inNormal ?_ | refine GQ.inExit ?_ | refine GQ.inExitNe rfl ?_ | refine GQ.inRet ?_ | refine GQ.loopExit ?_ | refine GQ.loopRet ?_ | refine GQ.cutExit ?_ | refine GQ.cutRet ?_))
    refine GQ.ret1 (by first | exact .inl rfl | exact .inr rfl) rfl rfl ?_
    exact ⟨by rw [List.take_length], hE1⟩
end Go.Proofs.Ytahkglanddhncaa.V
