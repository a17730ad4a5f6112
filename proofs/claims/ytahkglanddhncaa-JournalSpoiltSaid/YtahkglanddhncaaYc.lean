/-
  What a journal's Append computes (package journal). Conditions: the journal's bytes are at most 2^22, its commands and ends fewer than 2^30; the command's slices lie outside the journal.
-/
import Derived.Test.YtahkglanddhncaaYb
namespace Go.Proofs.Ytahkglanddhncaa.V
attribute [local irreducible] GX GO

def fullJ (j : JS) (r : List UInt8) : Prop := 4096 ≤ j.ends.length ∨ 4194304 < j.data.length + r.length
instance (j : JS) (r : List UInt8) : Decidable (fullJ j r) := by unfold fullJ; infer_instance
def errJ (j : JS) (x : Nat × Cmd) : Int := if (recJ (sumOf j.data) x).length = 0 then 2 else if fullJ j (recJ (sumOf j.data) x) then 7 else 0
def plusJ (j : JS) (x : Nat × Cmd) : JS := ⟨j.data ++ recJ (sumOf j.data) x, j.ends ++ [j.data.length + (recJ (sumOf j.data) x).length], j.xs ++ [x]⟩
def addJ (j : JS) (x : Nat × Cmd) : JS := if errJ j x = 0 then plusJ j x else j

theorem recJ_len (s : Nat) (x : Nat × Cmd) (h : OkC x.2) : (recJ s x).length < 2 ^ 30 := by
  unfold recJ
  split
  · have h1 := written_len x.2
    have h2 := h.size
    have h3 := putN_length x.1
    have h4 := putN_length ((written x.2).data.length + 1)
    simp [recHead, writeF, sumB]
    omega
  · decide

/-- A journal whose bytes and commands have been added to, but not its ends. -/
def MidA (w : World) (F : Nat → Prop) (bj : Nat) (od oe ol : Option Nat) (ea : Option Addr) (ec : Nat) (j : JS) (r : List UInt8) (x : Nat × Cmd) (w' : World) : Prop :=
  ∃ od' da' dc' ol' la' lc' cells, Blk w' bj [.slice da' (j.data.length + r.length) dc', .slice ea j.ends.length ec, .slice la' (j.xs.length + 1) lc'] ∧
    Own w' 5 1 od' da' (j.data.length + r.length) dc' (bytesV (j.data ++ r)) ∧ Own w' 3 1 oe ea j.ends.length ec (intsV j.ends) ∧ Own w' 47 11 ol' la' (j.xs.length + 1) lc' cells ∧
    EntsF w' (fun k => (F k ∨ w.heap.size ≤ k) ∧ k ≠ bj ∧ od' ≠ some k ∧ oe ≠ some k ∧ ol' ≠ some k) cells (j.xs ++ [x]) ∧
    (∀ y, od' = some y → od = some y ∨ w.heap.size ≤ y) ∧ (∀ y, ol' = some y → (ol = some y ∨ w.heap.size ≤ y) ∧ od' ≠ some y) ∧ Mod F w w'

set_option maxHeartbeats 4000000 in
theorem append_ret (F : Nat → Prop) (bj : Nat) (j : JS) (t : Nat) (c : Cmd) (ht : t < 18446744073709551616) (hc : OkC c) (l : List Value) (w : World) (h : JAt w F bj j) (hV : CmdF w (fun k => ¬ F k) l c)
    (hl : j.data.length < 2 ^ 30) (h4 : j.data.length = 0 ∨ 4 ≤ j.data.length) (hel : j.ends.length < 2 ^ 30) (hxl : j.xs.length < 2 ^ 30) :
    Ret Try.prog 14 [.pointer (some ⟨bj, 0, none⟩), .int .u64 t, .agg l.toArray].toArray w
      fun v w' => v = .int .i64 (errJ j (t, c)) ∧ JAt w' (fun k => F k ∨ w.heap.size ≤ k) bj (addJ j (t, c)) ∧ Mod F w w' := by
  have h00 := h
  obtain ⟨od, da, dc, oe, ea, ec, ol, la, lc, cells, hb, q1, q2, q3, q4, hF, k1, k2, k3⟩ := h00
  have hll := hV.length
  have hrl := recJ_len (sumOf j.data) (t, c) hc
  
  refine Ret.enter Try.func14 rfl Try.ntmps14 rfl ?_
  (repeat (first | refine GX.doneD ?_ | refine GX.done ?_ | refine GQ.goNormal ?_ | refine GC.seq ?_ | refine GC.skip ?_ | refine GC.block ?_ | refine GC.exit ?_ | refine GC.ret ?_ | refine GQ.goExit ?_ | refine GQ.goRet ?_ | refine GQ.inNormal ?_ | refine GQ.inExit ?_ | refine GQ.inExitNe rfl ?_ | refine GQ.inRet ?_ | refine GQ.loopExit ?_ | refine GQ.loopRet ?_ | refine GQ.cutExit ?_ | refine GQ.cutRet ?_))
  refine GC.region (.eff 0 (.pure 1 .done)) rfl ?_
  refine GX.eff rfl ?_
  refine GO.box (l := l) rfl rfl rfl rfl fun b5 w1 hb5 hB5 hE1 => ?_
  refine ⟨fun _ h => by first | trivial | exact Mod.trans h (Ext.mod (by assumption)), ?_⟩
  (repeat (refine GX.pure rfl ?_; refine GO.assign rfl rfl rfl rfl ?_))
  (repeat (first | refine GX.doneD ?_ | refine GX.done ?_ | refine GQ.goNormal ?_ | refine GC.seq ?_ | refine GC.skip ?_ | refine GC.block ?_ | refine GC.exit ?_ | refine GC.ret ?_ | refine GQ.goExit ?_ | refine GQ.goRet ?_ | refine GQ.inNormal ?_ | refine GQ.inExit ?_ | refine GQ.inExitNe rfl ?_ | refine GQ.inRet ?_ | refine GQ.loopExit ?_ | refine GQ.loopRet ?_ | refine GQ.cutExit ?_ | refine GQ.cutRet ?_))
  refine GC.region (.pure 0 (.pure 1 .done)) rfl ?_
  (repeat (refine GX.pure rfl ?_; first | refine GO.move rfl rfl rfl rfl ?_ | refine GO.ptrEqlNil rfl rfl rfl rfl rfl ?_))
  (repeat (first | refine GX.doneD ?_ | refine GX.done ?_ | refine GQ.goNormal ?_ | refine GC.seq ?_ | refine GC.skip ?_ | refine GC.block ?_ | refine GC.exit ?_ | refine GC.ret ?_ | refine GQ.goExit ?_ | refine GQ.goRet ?_ | refine GQ.inNormal ?_ | refine GQ.inExit ?_ | refine GQ.inExitNe rfl ?_ | refine GQ.inRet ?_ | refine GQ.loopExit ?_ | refine GQ.loopRet ?_ | refine GQ.cutExit ?_ | refine GQ.cutRet ?_))
  refine GC.cond rfl (fun h0 => ?_) (fun h0 => ?_)
  · cases h0
  have h1 := h.ext hE1
  have hV1 := hV.mod hE1 (fun _ _ _ h => h)
  (repeat (first | refine GX.doneD ?_ | refine GX.done ?_ | refine GQ.goNormal ?_ | refine GC.seq ?_ | refine GC.skip ?_ | refine GC.block ?_ | refine GC.exit ?_ | refine GC.ret ?_ | refine GQ.goExit ?_ | refine GQ.goRet ?_ | refine GQ.inNormal ?_ | refine GQ.inExit ?_ | refine GQ.inExitNe rfl ?_ | refine GQ.inRet ?_ | refine GQ.loopExit ?_ | refine GQ.loopRet ?_ | refine GQ.cutExit ?_ | refine GQ.cutRet ?_))
  refine GC.regionD (.pure 0 (.pure 2 (.read 3 (.eff 1 (.eff 4 (.pure 5 .done)))))) (fun _ => False) mixed (by kernel_rfl) (by kernel_rfl) ?_
  intro w2 _ hE2
  have hS : Mod (fun _ => False) w1 w2 := hE2
  (repeat (refine GX.pure rfl ?_; first | refine GO.move rfl rfl rfl rfl ?_ | refine GO.assign rfl rfl rfl rfl ?_))
  refine GX.read rfl ?_
  refine GO.loadNR (by assumption) (fun _ hS_ => At.mod hB5.at hS_ (by simp)) hll rfl rfl rfl ?_
  (refine GX.eff rfl ?_; refine GO.callL rfl rfl rfl rfl rfl (sumJ_ret F bj j w2 (h1.ext hE2) (by omega) h4) ?_)
  rintro v w3 ⟨rfl, hE3⟩
  refine ⟨fun _ h => by first | trivial | exact Mod.trans h (Ext.mod (by assumption)), ?_⟩
  (refine GX.eff rfl ?_; refine GO.callL rfl rfl rfl rfl rfl (record_ret (sumOf j.data) (sumOf_lt _) (t, c) ht hc l 0 w3 ((hV1.mod hE2 (fun _ _ _ h => h)).mod hE3 (fun _ _ _ h => h)).v) ?_)
  rintro v w4 ⟨⟨or_, ra, rc, rfl, hO4, hF4, hG4⟩, hE4⟩
  refine ⟨fun _ h => by first | trivial | exact Mod.trans h (Ext.mod (by assumption)), ?_⟩
  have hE14 : Ext w w4 := ((hE1.trans hE2).trans hE3).trans hE4
  have hJ4 := h.ext hE14
  have hB54 := ((hB5.ext hE2).ext hE3).ext hE4
  have hV4 := hV.mod hE14 (fun _ _ _ h => h)
  have s14 := hE14.size
  (repeat (refine GX.pure rfl ?_; first | refine GO.move rfl rfl rfl rfl ?_ | refine GO.assign rfl rfl rfl rfl ?_))
  (repeat (first | refine GX.doneD ?_ | refine GX.done ?_ | refine GQ.goNormal ?_ | refine GC.seq ?_ | refine GC.skip ?_ | refine GC.block ?_ | refine GC.exit ?_ | refine GC.ret ?_ | refine GQ.goExit ?_ | refine GQ.goRet ?_ | refine GQ.inNormal ?_ | refine GQ.inExit ?_ | refine GQ.inExitNe rfl ?_ | refine GQ.inRet ?_ | refine GQ.loopExit ?_ | refine GQ.loopRet ?_ | refine GQ.cutExit ?_ | refine GQ.cutRet ?_))
  refine GC.region (.pure 0 (.pure 1 (.pure 2 (.pure 3 .done)))) rfl ?_
  (repeat (refine GX.pure rfl ?_; first | refine GO.move rfl rfl rfl rfl ?_ | refine GO.assign rfl rfl rfl rfl ?_ | refine GO.lenSlice rfl rfl rfl rfl ?_ | refine GO.eql rfl rfl rfl rfl rfl ?_))
  (repeat (first | refine GX.doneD ?_ | refine GX.done ?_ | refine GQ.goNormal ?_ | refine GC.seq ?_ | refine GC.skip ?_ | refine GC.block ?_ | refine GC.exit ?_ | refine GC.ret ?_ | refine GQ.goExit ?_ | refine GQ.goRet ?_ | refine GQ.inNormal ?_ | refine GQ.inExit ?_ | refine GQ.inExitNe rfl ?_ | refine GQ.inRet ?_ | refine GQ.loopExit ?_ | refine GQ.loopRet ?_ | refine GQ.cutExit ?_ | refine GQ.cutRet ?_))
  have herr : errJ j (t, c) = if (recJ (sumOf j.data) (t, c)).length = 0 then 2 else if fullJ j (recJ (sumOf j.data) (t, c)) then 7 else 0 := rfl
  have hplus : plusJ j (t, c) = ⟨j.data ++ recJ (sumOf j.data) (t, c), j.ends ++ [j.data.length + (recJ (sumOf j.data) (t, c)).length], j.xs ++ [(t, c)]⟩ := rfl
  have hadd : addJ j (t, c) = if errJ j (t, c) = 0 then plusJ j (t, c) else j := rfl
  generalize recJ (sumOf j.data) (t, c) = r at *
  refine GC.cond rfl (fun hc1 => ?_) (fun hc1 => ?_)
  · have hz : r.length = 0 := by have := of_decide_eq_true hc1; omega
    (repeat (first | refine GX.doneD ?_ | refine GX.done ?_ | refine GQ.goNormal ?_ | refine GC.seq ?_ | refine GC.skip ?_ | refine GC.block ?_ | refine GC.exit ?_ | refine GC.ret ?_ | refine GQ.goExit ?_ | refine GQ.goRet ?_ | refine GQ.inNormal ?_ | refine GQ.inExit ?_ | refine GQ.inExitNe rfl ?_ | refine GQ.inRet ?_ | refine GQ.loopExit ?_ | refine GQ.loopRet ?_ | refine GQ.cutExit ?_ | refine GQ.cutRet ?_))
    refine GC.region (.pure 0 .done) rfl ?_
    (repeat (refine GX.pure rfl ?_; refine GO.assign rfl rfl rfl rfl ?_))
    (repeat (first | refine GX.doneD ?_ | refine GX.done ?_ | refine GQ.goNormal ?_ | refine GC.seq ?_ | refine GC.skip ?_ | refine GC.block ?_ | refine GC.exit ?_ | refine GC.ret ?_ | refine GQ.goExit ?_ | refine GQ.goRet ?_ | refine GQ.inNormal ?_ | refine GQ.inExit ?_ | refine GQ.inExitNe rfl ?_ | refine GQ.inRet ?_ | refine GQ.loopExit ?_ | refine GQ.loopRet ?_ | refine GQ.cutExit ?_ | refine GQ.cutRet ?_))
    refine GQ.ret1 (by first | exact .inl rfl | exact .inr rfl) rfl rfl ?_
    rw [if_pos hz] at herr
    rw [herr, if_neg (by decide)] at hadd
    rw [herr, hadd]
    exact ⟨rfl, hJ4.mono (fun _ _ h => .inl h), Ext.mod hE14⟩
  have hz : ¬ r.length = 0 := by have := of_decide_eq_false hc1; omega
  rw [if_neg hz] at herr
  have l1 := q1.lt
  have l2 := q2.lt
  have l3 := q3.lt
  have lb := hb.lt
  replace hb := hb.ext hE14
  replace q1 := q1.ext hE14
  replace q2 := q2.ext hE14
  replace q3 := q3.ext hE14
  replace q4 := EntsF.mod hE14 (fun _ _ _ h => h) (EntsF.mono (G := fun k => (F k ∧ k ≠ bj ∧ od ≠ some k ∧ oe ≠ some k ∧ ol ≠ some k) ∧ k < w.heap.size) (fun k hk h => ⟨h, hk⟩) q4)
  (repeat (first | refine GX.doneD ?_ | refine GX.done ?_ | refine GQ.goNormal ?_ | refine GC.seq ?_ | refine GC.skip ?_ | refine GC.block ?_ | refine GC.exit ?_ | refine GC.ret ?_ | refine GQ.goExit ?_ | refine GQ.goRet ?_ | refine GQ.inNormal ?_ | refine GQ.inExit ?_ | refine GQ.inExitNe rfl ?_ | refine GQ.inRet ?_ | refine GQ.loopExit ?_ | refine GQ.loopRet ?_ | refine GQ.cutExit ?_ | refine GQ.cutRet ?_))
  refine GC.cut (X := Bool) (fun z => [(0, .pointer (some ⟨bj, 0, none⟩)), (1, .int .u64 t), (5, .pointer (some ⟨b5, 0, none⟩)), (7, .slice ra r.length rc), (19, .bool z)]) (fun z w' => w4 = w' ∧ z = decide (fullJ j r)) ?_ ?_
  · refine GC.region (.pure 0 (.pure 1 (.pure 2 (.eff 3 (.pure 4 (.pure 5 (.pure 6 (.pure 7 (.pure 8 (.pure 9 (.eff 10 (.pure 11 (.pure 12 (.pure 13 (.pure 14 (.pure 15 (.pure 16 (.pure 17 .done)))))))))))))))))) rfl ?_
    (repeat (refine GX.pure rfl ?_; first | refine GO.move rfl rfl rfl rfl ?_ | refine GO.assign rfl rfl rfl rfl ?_ | refine GO.nilCheck rfl rfl rfl rfl ?_ | refine GO.fieldAddr rfl rfl rfl rfl rfl ?_ | refine GO.lenSlice rfl rfl rfl rfl ?_ | refine GO.gtr rfl rfl rfl rfl rfl ?_ | refine GO.geq rfl rfl rfl rfl rfl ?_ | refine GO.pickT rfl rfl rfl rfl rfl ?_ | refine GO.pickF rfl rfl rfl rfl rfl ?_ | refine GO.add rfl rfl rfl rfl rfl (wrapIn (by dsimp only [InK]; omega)) ?_ | refine GO.nilCheckF rfl rfl rfl rfl ?_ | refine GO.skip (.inl rfl) rfl rfl ?_))
    (first | (refine GX.eff rfl ?_; first | refine GO.load1 (hb.get (o := 0 + 1) rfl) rfl rfl rfl ?_ | refine GO.loadN (hb.get (o := 0 + 1) rfl) rfl rfl rfl rfl ?_) | (refine GX.read rfl ?_; first | refine GO.load1R (by assumption) (fun _ hS_ => At.mod (hb.get (o := 0 + 1) rfl) hS_ (by simp)) rfl rfl rfl ?_ | refine GO.loadNR (by assumption) (fun _ hS_ => At.mod (hb.get (o := 0 + 1) rfl) hS_ (by simp)) rfl rfl rfl rfl ?_))
    (repeat (refine GX.pure rfl ?_; first | refine GO.move rfl rfl rfl rfl ?_ | refine GO.assign rfl rfl rfl rfl ?_ | refine GO.nilCheck rfl rfl rfl rfl ?_ | refine GO.fieldAddr rfl rfl rfl rfl rfl ?_ | refine GO.lenSlice rfl rfl rfl rfl ?_ | refine GO.gtr rfl rfl rfl rfl rfl ?_ | refine GO.geq rfl rfl rfl rfl rfl ?_ | refine GO.pickT rfl rfl rfl rfl rfl ?_ | refine GO.pickF rfl rfl rfl rfl rfl ?_ | refine GO.add rfl rfl rfl rfl rfl (wrapIn (by dsimp only [InK]; omega)) ?_ | refine GO.nilCheckF rfl rfl rfl rfl ?_ | refine GO.skip (.inl rfl) rfl rfl ?_))
    refine GX.case 26 rfl (fun hf => ?_) (fun hf => ?_)
    · have hf' := of_decide_eq_true hf
      (repeat (first | (refine GX.pure rfl ?_; first | refine GO.move rfl rfl rfl rfl ?_ | refine GO.assign rfl rfl rfl rfl ?_ | refine GO.nilCheck rfl rfl rfl rfl ?_ | refine GO.fieldAddr rfl rfl rfl rfl rfl ?_ | refine GO.lenSlice rfl rfl rfl rfl ?_ | refine GO.gtr rfl rfl rfl rfl rfl ?_ | refine GO.geq rfl rfl rfl rfl rfl ?_ | refine GO.pickT rfl rfl rfl rfl rfl ?_ | refine GO.pickF rfl rfl rfl rfl rfl ?_ | refine GO.add rfl rfl rfl rfl rfl (wrapIn (by dsimp only [InK]; omega)) ?_ | refine GO.nilCheckF rfl rfl rfl rfl ?_ | refine GO.skip (.inl rfl) rfl rfl ?_) | (refine GX.eff rfl ?_; refine GO.skip (.inr rfl) rfl rfl ?_) | (refine GX.read rfl ?_; refine GO.skipRead (by assumption) rfl rfl ?_)))
      (repeat (first | refine GX.doneD ?_ | refine GX.done ?_ | refine GQ.goNormal ?_ | refine GC.seq ?_ | refine GC.skip ?_ | refine GC.block ?_ | refine GC.exit ?_ | refine GC.ret ?_ | refine GQ.goExit ?_ | refine GQ.goRet ?_ | refine GQ.inNormal ?_ | refine GQ.inExit ?_ | refine GQ.inExitNe rfl ?_ | refine GQ.inRet ?_ | refine GQ.loopExit ?_ | refine GQ.loopRet ?_ | refine GQ.cutExit ?_ | refine GQ.cutRet ?_))
      exact GQ.cutNormal _ (sub_pick (l := [0, 1, 5, 7, 19]) rfl) ⟨rfl, by symm; rw [decide_eq_true_eq]; exact .inl (by omega)⟩
    · have hf' := of_decide_eq_false hf
      (repeat (refine GX.pure rfl ?_; first | refine GO.move rfl rfl rfl rfl ?_ | refine GO.assign rfl rfl rfl rfl ?_ | refine GO.nilCheck rfl rfl rfl rfl ?_ | refine GO.fieldAddr rfl rfl rfl rfl rfl ?_ | refine GO.lenSlice rfl rfl rfl rfl ?_ | refine GO.gtr rfl rfl rfl rfl rfl ?_ | refine GO.geq rfl rfl rfl rfl rfl ?_ | refine GO.pickT rfl rfl rfl rfl rfl ?_ | refine GO.pickF rfl rfl rfl rfl rfl ?_ | refine GO.add rfl rfl rfl rfl rfl (wrapIn (by dsimp only [InK]; omega)) ?_ | refine GO.nilCheckF rfl rfl rfl rfl ?_ | refine GO.skip (.inl rfl) rfl rfl ?_))
      (first | (refine GX.eff rfl ?_; first | refine GO.load1 (hb.get (o := 0 + 0) rfl) rfl rfl rfl ?_ | refine GO.loadN (hb.get (o := 0 + 0) rfl) rfl rfl rfl rfl ?_) | (refine GX.read rfl ?_; first | refine GO.load1R (by assumption) (fun _ hS_ => At.mod (hb.get (o := 0 + 0) rfl) hS_ (by simp)) rfl rfl rfl ?_ | refine GO.loadNR (by assumption) (fun _ hS_ => At.mod (hb.get (o := 0 + 0) rfl) hS_ (by simp)) rfl rfl rfl rfl ?_))
      (repeat (refine GX.pure rfl ?_; first | refine GO.move rfl rfl rfl rfl ?_ | refine GO.assign rfl rfl rfl rfl ?_ | refine GO.nilCheck rfl rfl rfl rfl ?_ | refine GO.fieldAddr rfl rfl rfl rfl rfl ?_ | refine GO.lenSlice rfl rfl rfl rfl ?_ | refine GO.gtr rfl rfl rfl rfl rfl ?_ | refine GO.geq rfl rfl rfl rfl rfl ?_ | refine GO.pickT rfl rfl rfl rfl rfl ?_ | refine GO.pickF rfl rfl rfl rfl rfl ?_ | refine GO.add rfl rfl rfl rfl rfl (wrapIn (by dsimp only [InK]; omega)) ?_ | refine GO.nilCheckF rfl rfl rfl rfl ?_ | refine GO.skip (.inl rfl) rfl rfl ?_))
      (repeat (first | refine GX.doneD ?_ | refine GX.done ?_ | refine GQ.goNormal ?_ | refine GC.seq ?_ | refine GC.skip ?_ | refine GC.block ?_ | refine GC.exit ?_ | refine GC.ret ?_ | refine GQ.goExit ?_ | refine GQ.goRet ?_ | refine GQ.inNormal ?_ | refine GQ.inExit ?_ | refine GQ.inExitNe rfl ?_ | refine GQ.inRet ?_ | refine GQ.loopExit ?_ | refine GQ.loopRet ?_ | refine GQ.cutExit ?_ | refine GQ.cutRet ?_))
      exact GQ.cutNormal _ (sub_pick (l := [0, 1, 5, 7, 19]) rfl) ⟨rfl, by rw [decide_eq_decide]; unfold fullJ; omega⟩
  rintro z _ ⟨rfl, rfl⟩
  (repeat (first | refine GX.doneD ?_ | refine GX.done ?_ | refine GQ.goNormal ?_ | refine GC.seq ?_ | refine GC.skip ?_ | refine GC.block ?_ | refine GC.exit ?_ | refine GC.ret ?_ | refine GQ.goExit ?_ | refine GQ.goRet ?_ | refine GQ.inNormal ?_ | refine GQ.inExit ?_ | refine GQ.inExitNe rfl ?_ | refine GQ.inRet ?_ | refine GQ.loopExit ?_ | refine GQ.loopRet ?_ | refine GQ.cutExit ?_ | refine GQ.cutRet ?_))
  refine GC.cond rfl (fun hz2 => ?_) (fun hz2 => ?_)
  · have hfl := of_decide_eq_true hz2
    (repeat (first | refine GX.doneD ?_ | refine GX.done ?_ | refine GQ.goNormal ?_ | refine GC.seq ?_ | refine GC.skip ?_ | refine GC.block ?_ | refine GC.exit ?_ | refine GC.ret ?_ | refine GQ.goExit ?_ | refine GQ.goRet ?_ | refine GQ.inNormal ?_ | refine GQ.inExit ?_ | refine GQ.inExitNe rfl ?_ | refine GQ.inRet ?_ | refine GQ.loopExit ?_ | refine GQ.loopRet ?_ | refine GQ.cutExit ?_ | refine GQ.cutRet ?_))
    refine GC.region (.pure 0 .done) rfl ?_
    (repeat (refine GX.pure rfl ?_; refine GO.assign rfl rfl rfl rfl ?_))
    (repeat (first | refine GX.doneD ?_ | refine GX.done ?_ | refine GQ.goNormal ?_ | refine GC.seq ?_ | refine GC.skip ?_ | refine GC.block ?_ | refine GC.exit ?_ | refine GC.ret ?_ | refine GQ.goExit ?_ | refine GQ.goRet ?_ | refine GQ.inNormal ?_ | refine GQ.inExit ?_ | refine GQ.inExitNe rfl ?_ | refine GQ.inRet ?_ | refine GQ.loopExit ?_ | refine GQ.loopRet ?_ | refine GQ.cutExit ?_ | refine GQ.cutRet ?_))
    refine GQ.ret1 (by first | exact .inl rfl | exact .inr rfl) rfl rfl ?_
    rw [if_pos hfl] at herr
    rw [herr, if_neg (by decide)] at hadd
    rw [herr, hadd]
    exact ⟨rfl, hJ4.mono (fun _ _ h => .inl h), Ext.mod hE14⟩
  have hfl := of_decide_eq_false hz2
  rw [if_neg hfl] at herr
  rw [herr, if_pos rfl, hplus] at hadd
  rw [herr, hadd]
  have hfl' : ¬ (4096 ≤ j.ends.length ∨ 4194304 < j.data.length + r.length) := hfl
  (repeat (first | refine GX.doneD ?_ | refine GX.done ?_ | refine GQ.goNormal ?_ | refine GC.seq ?_ | refine GC.skip ?_ | refine GC.block ?_ | refine GC.exit ?_ | refine GC.ret ?_ | refine GQ.goExit ?_ | refine GQ.goRet ?_ | refine GQ.inNormal ?_ | refine GQ.inExit ?_ | refine GQ.inExitNe rfl ?_ | refine GQ.inRet ?_ | refine GQ.loopExit ?_ | refine GQ.loopRet ?_ | refine GQ.cutExit ?_ | refine GQ.cutRet ?_))
  have hn5 : ¬ (some b5 = od) := fun h => by have := l1 _ h.symm; omega
  refine GC.cut (X := Unit) (fun _ => [(0, .pointer (some ⟨bj, 0, none⟩))]) (fun _ w' => MidA w F bj od oe ol ea ec j r (t, c) w') ?_ ?_
  · skip
    refine GC.regionD (.pure 0 (.pure 1 (.pure 2 (.pure 3 (.pure 4 (.pure 6 (.pure 8 (.pure 9 (.pure 10 (.pure 12 (.read 5 (.read 11 (.alt (.eff 7 (.eff 13 (.eff 14 (.pure 15 (.eff 16 (.eff 17 (.pure 18 (.pure 19 (.eff 20 (.pure 21 (.pure 22 (.eff 23 .done)))))))))))) (.eff 13 (.eff 7 (.eff 14 (.pure 15 (.eff 16 (.eff 17 (.pure 18 (.pure 19 (.eff 20 (.pure 21 (.pure 22 (.eff 23 .done))))))))))))))))))))))))) (fun k => some k = od ∨ some k = ol) mixed (by kernel_rfl) (by kernel_rfl) ?_
    intro w5 hh5 hE5
    have hS5 : Mod (fun k => some k = od ∨ some k = ol) w4 w5 := Ext.mod hE5
    (repeat (refine GX.pure rfl ?_; first | refine GO.move rfl rfl rfl rfl ?_ | refine GO.nilCheck rfl rfl rfl rfl ?_ | refine GO.fieldAddr rfl rfl rfl rfl rfl ?_ | refine GO.nilCheckF rfl rfl rfl rfl ?_))
    have hbj : ¬ (some bj = od ∨ some bj = ol) := by
      rintro (h | h)
      · exact (k1 _ h.symm).2 rfl
      · exact (k3 _ h.symm).2.1 rfl
    refine GX.read rfl ?_
    refine GO.load1R (by assumption) (fun _ hS_ => At.mod (hb.get (o := 0 + 0) rfl) hS_ hbj) rfl rfl rfl ?_
    refine GX.read rfl ?_
    refine GO.load1R (by assumption) (fun _ hS_ => At.mod (hb.get (o := 0 + 2) rfl) hS_ hbj) rfl rfl rfl ?_
    refine GX.alt ?_ ?_
    · skip
      refine GX.eff rfl ?_
      refine GO.append (q1.own.ext hE5) (hO4.ext hE5).sla (by simp) (bytesV_one r) (by omega) (by omega) rfl rfl rfl rfl rfl fun od' da' dc' w6 hO6 hM6 hF6 hG6 => ?_
      refine ⟨fun _ h => h.trans (hM6.of fun k hk => .inl hk), ?_⟩
      have hb56 := (hB54.ext hE5).mod hM6 hn5
      refine GX.eff rfl ?_
      refine GO.loadN (hb56).at hll rfl rfl rfl ?_
      have hV6 := (hV4.mod hE5 (fun _ _ _ h => h)).mod hM6 (fun k hk hk' h => hk' (k1 k h.symm).1)
      (refine GX.eff rfl ?_; refine GO.callL rfl rfl rfl rfl rfl (copied_ret c hc l 0 w6 hV6.v) ?_)
      rintro v w7 ⟨l', rfl, hV7, hE7⟩
      refine ⟨fun _ h => h.trans (Ext.mod hE7), ?_⟩
      have hV7' := hV7
      obtain ⟨ka, kc, va, vc, ta, tc, rfl, _, _, _, _⟩ := hV7'
      refine GX.pure rfl ?_
      refine GO.build (out := .int .u64 t :: cmdCells c ka kc va vc ta tc) rfl (by kernel_rfl) (by kernel_rfl) rfl rfl rfl rfl ?_
      refine GX.eff rfl ?_
      refine GO.buildSlice (out := .int .u64 t :: cmdCells c ka kc va vc ta tc) (by kernel_rfl) (by decide) rfl rfl rfl (by simp [cmdCells]) rfl fun b8 w8 hb8 hO8 hE8 => ?_
      refine ⟨fun _ h => h.trans (Ext.mod hE8), ?_⟩
      have hE68 := hE7.trans hE8
      have q3' : Own w8 47 11 ol la j.xs.length lc cells := ((q3.ext hE5).mod hM6 (fun k hk h => (k3 k hk).2.2.1 h.symm)).ext hE68
      refine GX.eff rfl ?_
      refine GO.append (m := 1) q3'.own hO8.sla (by simp [cmdCells]) (by simp [Value.oneCell', cmdCells, str]) (by omega) (by omega) rfl rfl rfl rfl rfl fun ol' la' lc' w9 hO9 hM9 hF9 hG9 => ?_
      refine ⟨fun _ h => h.trans (hM9.of fun k hk => .inr hk), ?_⟩
      have s5 := hE5.size
      have s6 := hM6.size
      have s68 := hE68.size
      have s9 := hM9.size
      have hb9 : Blk w9 bj [.slice da j.data.length dc, .slice ea j.ends.length ec, .slice la j.xs.length lc] := (((hb.ext hE5).mod hM6 (fun h => (k1 _ h.symm).2 rfl)).ext hE68).mod hM9 (fun h => (k3 _ h.symm).2.1 rfl)
      (repeat (refine GX.pure rfl ?_; first | refine GO.move rfl rfl rfl rfl ?_ | refine GO.nilCheck rfl rfl rfl rfl ?_ | refine GO.fieldAddr rfl rfl rfl rfl rfl ?_ | refine GO.nilCheckF rfl rfl rfl rfl ?_))
      refine GX.eff rfl ?_
      refine GO.store (vs := [.slice da' (j.data.length + r.length) dc']) (hb9.wr (by simp)) rfl rfl (by simp [Value.oneCell']) rfl rfl rfl fun w10 hp10 => ⟨(by first | exact fun _ _ => trivial | exact late_abs (by kernel_rfl)), ?_⟩
      have hb10 : Blk w10 bj [.slice da' (j.data.length + r.length) dc', .slice ea j.ends.length ec, .slice la j.xs.length lc] := by have := hp10.blk hb9; simpa using this
      (repeat (refine GX.pure rfl ?_; first | refine GO.move rfl rfl rfl rfl ?_ | refine GO.nilCheck rfl rfl rfl rfl ?_ | refine GO.fieldAddr rfl rfl rfl rfl rfl ?_ | refine GO.nilCheckF rfl rfl rfl rfl ?_))
      refine GX.eff rfl ?_
      refine GO.store (vs := [.slice la' (j.xs.length + 1) lc']) (hb10.wr (by simp)) rfl rfl (by simp [Value.oneCell']) rfl rfl rfl fun w11 hp11 => ⟨(by first | exact fun _ _ => trivial | exact late_abs (by kernel_rfl)), ?_⟩
      have hb11 : Blk w11 bj [.slice da' (j.data.length + r.length) dc', .slice ea j.ends.length ec, .slice la' (j.xs.length + 1) lc'] := by have := hp11.blk hb10; simpa using this
      (repeat (first | refine GX.doneD ?_ | refine GX.done ?_ | refine GQ.goNormal ?_ | refine GC.seq ?_ | refine GC.skip ?_ | refine GC.block ?_ | refine GC.exit ?_ | refine GC.ret ?_ | refine GQ.goExit ?_ | refine GQ.goRet ?_ | refine GQ.inNormal ?_ | refine GQ.inExit ?_ | refine GQ.inExitNe rfl ?_ | refine GQ.inRet ?_ | refine GQ.loopExit ?_ | refine GQ.loopRet ?_ | refine GQ.cutExit ?_ | refine GQ.cutRet ?_))
      have hMb : Mod (· = bj) w9 w11 := hp10.mod.trans hp11.mod
      have fo6 : ∀ y, od' = some y → od = some y ∨ w.heap.size ≤ y := fun y hy => by
        rcases hF6 y hy with h | h
        · exact .inl h
        · right; omega
      have fo9 : ∀ y, ol' = some y → ol = some y ∨ w6.heap.size ≤ y := fun y hy => by
        rcases hF9 y hy with h | h
        · exact .inl h
        · right; omega
      have go6 : ∀ y, da' = some y → od' = some y.block := fun y hy => by
        rcases hG6 y hy with h | ⟨h, h'⟩
        · exact h
        · rw [h']; exact q1.at_ y h
      have go9 : ∀ y, la' = some y → ol' = some y.block := fun y hy => by
        rcases hG9 y hy with h | ⟨h, h'⟩
        · exact h
        · rw [h']; exact q3.at_ y h
      have l6 : ∀ y, od' = some y → y < w6.heap.size := fun y hy => by subst hy; exact hO6.block.2
      refine GQ.cutNormal () (sub_pick (l := [0]) rfl) ⟨od', da', dc', ol', la', lc', cells ++ .int .u64 t :: cmdCells c ka kc va vc ta tc, hb11, ⟨?_, go6⟩, ?_, ⟨?_, go9⟩, ?_, fo6, fun y hy => ⟨?_, ?_⟩, ?_⟩
      · rw [bytesV_append]
        refine ((hO6.ext hE68).mod hM9 fun y hy h => ?_).mod hMb fun y hy h => ?_
        · rcases fo6 _ (go6 y hy) with h' | h'
          · exact (k3 _ h.symm).2.2.1 h'
          · have := l3 _ h.symm; omega
        · rcases fo6 _ (go6 y hy) with h' | h'
          · exact (k1 _ h').2 h
          · omega
      · exact ((((q2.ext hE5).mod hM6 (fun k hk h => (k2 k hk).2.2 h.symm)).ext hE68).mod hM9 (fun k hk h => (k3 k h.symm).2.2.2 hk)).mod hMb (fun k hk => (k2 k hk).2.1)
      · refine hO9.mod hMb fun y hy h => ?_
        rcases fo9 _ (go9 y hy) with h' | h'
        · exact (k3 _ h').2.1 h
        · omega
      · have s8 := hE8.size
        refine EntsF.snoc (x := (t, c)) (b := .int .u64 t :: cmdCells c ka kc va vc ta tc) ⟨_, rfl, ?_⟩ ?_
        · refine CmdF.mono ((((hV7.f.mono (G := fun k => w6.heap.size ≤ k ∧ k < w7.heap.size) (fun k hk hk' => ⟨hk', hk⟩)).mod hE8 (fun _ _ _ h => h)).mod hM9 (fun k hk hk' h => ?_)).mod hMb (fun k hk hk' h => ?_)) (fun k hk hk' => ⟨.inr ?_, ?_, fun h => ?_, fun h => ?_, fun h => ?_⟩)
          · have := l3 k h.symm; omega
          · omega
          · omega
          · omega
          · have := l6 k h; omega
          · have := l2 k h; omega
          · rcases hF9 k h with h | h
            · have := l3 k h; omega
            · omega
        · refine EntsF.mono (fun k hk hk' => ?_) (EntsF.mod hMb (fun k hk hk' h => hk'.1.2.1 h) (EntsF.mod hM9 (fun k hk hk' h => hk'.1.2.2.2.2 h.symm) (EntsF.mod hE68 (fun _ _ _ h => h) (EntsF.mod hM6 (fun k hk hk' h => hk'.1.2.2.1 h.symm) (EntsF.mod hE5 (fun _ _ _ h => h) q4)))))
          obtain ⟨⟨g1, g2, g3, g4, g5⟩, g6⟩ := hk'
          refine ⟨.inl g1, g2, fun h => ?_, g4, fun h => ?_⟩
          · rcases fo6 k h with h | h
            · exact g3 h
            · omega
          · rcases fo9 k h with h | h
            · exact g5 h
            · omega
      · rcases fo9 y hy with h | h
        · exact .inl h
        · right; omega
      · intro h
        rcases hF9 y hy with h' | h'
        · rcases fo6 y h with h2 | h2
          · exact (k3 y h').2.2.1 h2
          · have := l3 y h'; omega
        · have := l6 y h; omega
      · exact ((((Ext.mod (hE14.trans hE5)).trans (hM6.of fun k hk => (k1 k hk.symm).1)).trans (Ext.mod hE68)).trans (hM9.of fun k hk => (k3 k hk.symm).1)).trans (hMb.of fun k hk => by rw [hk]; exact hF)
    · skip
      refine GX.eff rfl ?_
      refine GO.loadN (hB54.ext hE5).at hll rfl rfl rfl ?_
      refine GX.eff rfl ?_
      refine GO.append (q1.own.ext hE5) (hO4.ext hE5).sla (by simp) (bytesV_one r) (by omega) (by omega) rfl rfl rfl rfl rfl fun od' da' dc' w6 hO6 hM6 hF6 hG6 => ?_
      refine ⟨fun _ h => h.trans (hM6.of fun k hk => .inl hk), ?_⟩
      have hb56 := (hB54.ext hE5).mod hM6 hn5
      have hV6 := (hV4.mod hE5 (fun _ _ _ h => h)).mod hM6 (fun k hk hk' h => hk' (k1 k h.symm).1)
      (refine GX.eff rfl ?_; refine GO.callL rfl rfl rfl rfl rfl (copied_ret c hc l 0 w6 hV6.v) ?_)
      rintro v w7 ⟨l', rfl, hV7, hE7⟩
      refine ⟨fun _ h => h.trans (Ext.mod hE7), ?_⟩
      have hV7' := hV7
      obtain ⟨ka, kc, va, vc, ta, tc, rfl, _, _, _, _⟩ := hV7'
      refine GX.pure rfl ?_
      refine GO.build (out := .int .u64 t :: cmdCells c ka kc va vc ta tc) rfl (by kernel_rfl) (by kernel_rfl) rfl rfl rfl rfl ?_
      refine GX.eff rfl ?_
      refine GO.buildSlice (out := .int .u64 t :: cmdCells c ka kc va vc ta tc) (by kernel_rfl) (by decide) rfl rfl rfl (by simp [cmdCells]) rfl fun b8 w8 hb8 hO8 hE8 => ?_
      refine ⟨fun _ h => h.trans (Ext.mod hE8), ?_⟩
      have hE68 := hE7.trans hE8
      have q3' : Own w8 47 11 ol la j.xs.length lc cells := ((q3.ext hE5).mod hM6 (fun k hk h => (k3 k hk).2.2.1 h.symm)).ext hE68
      refine GX.eff rfl ?_
      refine GO.append (m := 1) q3'.own hO8.sla (by simp [cmdCells]) (by simp [Value.oneCell', cmdCells, str]) (by omega) (by omega) rfl rfl rfl rfl rfl fun ol' la' lc' w9 hO9 hM9 hF9 hG9 => ?_
      refine ⟨fun _ h => h.trans (hM9.of fun k hk => .inr hk), ?_⟩
      have s5 := hE5.size
      have s6 := hM6.size
      have s68 := hE68.size
      have s9 := hM9.size
      have hb9 : Blk w9 bj [.slice da j.data.length dc, .slice ea j.ends.length ec, .slice la j.xs.length lc] := (((hb.ext hE5).mod hM6 (fun h => (k1 _ h.symm).2 rfl)).ext hE68).mod hM9 (fun h => (k3 _ h.symm).2.1 rfl)
      (repeat (refine GX.pure rfl ?_; first | refine GO.move rfl rfl rfl rfl ?_ | refine GO.nilCheck rfl rfl rfl rfl ?_ | refine GO.fieldAddr rfl rfl rfl rfl rfl ?_ | refine GO.nilCheckF rfl rfl rfl rfl ?_))
      refine GX.eff rfl ?_
      refine GO.store (vs := [.slice da' (j.data.length + r.length) dc']) (hb9.wr (by simp)) rfl rfl (by simp [Value.oneCell']) rfl rfl rfl fun w10 hp10 => ⟨(by first | exact fun _ _ => trivial | exact late_abs (by kernel_rfl)), ?_⟩
      have hb10 : Blk w10 bj [.slice da' (j.data.length + r.length) dc', .slice ea j.ends.length ec, .slice la j.xs.length lc] := by have := hp10.blk hb9; simpa using this
      (repeat (refine GX.pure rfl ?_; first | refine GO.move rfl rfl rfl rfl ?_ | refine GO.nilCheck rfl rfl rfl rfl ?_ | refine GO.fieldAddr rfl rfl rfl rfl rfl ?_ | refine GO.nilCheckF rfl rfl rfl rfl ?_))
      refine GX.eff rfl ?_
      refine GO.store (vs := [.slice la' (j.xs.length + 1) lc']) (hb10.wr (by simp)) rfl rfl (by simp [Value.oneCell']) rfl rfl rfl fun w11 hp11 => ⟨(by first | exact fun _ _ => trivial | exact late_abs (by kernel_rfl)), ?_⟩
      have hb11 : Blk w11 bj [.slice da' (j.data.length + r.length) dc', .slice ea j.ends.length ec, .slice la' (j.xs.length + 1) lc'] := by have := hp11.blk hb10; simpa using this
      (repeat (first | refine GX.doneD ?_ | refine GX.done ?_ | refine GQ.goNormal ?_ | refine GC.seq ?_ | refine GC.skip ?_ | refine GC.block ?_ | refine GC.exit ?_ | refine GC.ret ?_ | refine GQ.goExit ?_ | refine GQ.goRet ?_ | refine GQ.inNormal ?_ | refine GQ.inExit ?_ | refine GQ.inExitNe rfl ?_ | refine GQ.inRet ?_ | refine GQ.loopExit ?_ | refine GQ.loopRet ?_ | refine GQ.cutExit ?_ | refine GQ.cutRet ?_))
      have hMb : Mod (· = bj) w9 w11 := hp10.mod.trans hp11.mod
      have fo6 : ∀ y, od' = some y → od = some y ∨ w.heap.size ≤ y := fun y hy => by
        rcases hF6 y hy with h | h
        · exact .inl h
        · right; omega
      have fo9 : ∀ y, ol' = some y → ol = some y ∨ w6.heap.size ≤ y := fun y hy => by
        rcases hF9 y hy with h | h
        · exact .inl h
        · right; omega
      have go6 : ∀ y, da' = some y → od' = some y.block := fun y hy => by
        rcases hG6 y hy with h | ⟨h, h'⟩
        · exact h
        · rw [h']; exact q1.at_ y h
      have go9 : ∀ y, la' = some y → ol' = some y.block := fun y hy => by
        rcases hG9 y hy with h | ⟨h, h'⟩
        · exact h
        · rw [h']; exact q3.at_ y h
      have l6 : ∀ y, od' = some y → y < w6.heap.size := fun y hy => by subst hy; exact hO6.block.2
      refine GQ.cutNormal () (sub_pick (l := [0]) rfl) ⟨od', da', dc', ol', la', lc', cells ++ .int .u64 t :: cmdCells c ka kc va vc ta tc, hb11, ⟨?_, go6⟩, ?_, ⟨?_, go9⟩, ?_, fo6, fun y hy => ⟨?_, ?_⟩, ?_⟩
      · rw [bytesV_append]
        refine ((hO6.ext hE68).mod hM9 fun y hy h => ?_).mod hMb fun y hy h => ?_
        · rcases fo6 _ (go6 y hy) with h' | h'
          · exact (k3 _ h.symm).2.2.1 h'
          · have := l3 _ h.symm; omega
        · rcases fo6 _ (go6 y hy) with h' | h'
          · exact (k1 _ h').2 h
          · omega
      · exact ((((q2.ext hE5).mod hM6 (fun k hk h => (k2 k hk).2.2 h.symm)).ext hE68).mod hM9 (fun k hk h => (k3 k h.symm).2.2.2 hk)).mod hMb (fun k hk => (k2 k hk).2.1)
      · refine hO9.mod hMb fun y hy h => ?_
        rcases fo9 _ (go9 y hy) with h' | h'
        · exact (k3 _ h').2.1 h
        · omega
      · have s8 := hE8.size
        refine EntsF.snoc (x := (t, c)) (b := .int .u64 t :: cmdCells c ka kc va vc ta tc) ⟨_, rfl, ?_⟩ ?_
        · refine CmdF.mono ((((hV7.f.mono (G := fun k => w6.heap.size ≤ k ∧ k < w7.heap.size) (fun k hk hk' => ⟨hk', hk⟩)).mod hE8 (fun _ _ _ h => h)).mod hM9 (fun k hk hk' h => ?_)).mod hMb (fun k hk hk' h => ?_)) (fun k hk hk' => ⟨.inr ?_, ?_, fun h => ?_, fun h => ?_, fun h => ?_⟩)
          · have := l3 k h.symm; omega
          · omega
          · omega
          · omega
          · have := l6 k h; omega
          · have := l2 k h; omega
          · rcases hF9 k h with h | h
            · have := l3 k h; omega
            · omega
        · refine EntsF.mono (fun k hk hk' => ?_) (EntsF.mod hMb (fun k hk hk' h => hk'.1.2.1 h) (EntsF.mod hM9 (fun k hk hk' h => hk'.1.2.2.2.2 h.symm) (EntsF.mod hE68 (fun _ _ _ h => h) (EntsF.mod hM6 (fun k hk hk' h => hk'.1.2.2.1 h.symm) (EntsF.mod hE5 (fun _ _ _ h => h) q4)))))
          obtain ⟨⟨g1, g2, g3, g4, g5⟩, g6⟩ := hk'
          refine ⟨.inl g1, g2, fun h => ?_, g4, fun h => ?_⟩
          · rcases fo6 k h with h | h
            · exact g3 h
            · omega
          · rcases fo9 k h with h | h
            · exact g5 h
            · omega
      · rcases fo9 y hy with h | h
        · exact .inl h
        · right; omega
      · intro h
        rcases hF9 y hy with h' | h'
        · rcases fo6 y h with h2 | h2
          · exact (k3 y h').2.2.1 h2
          · have := l3 y h'; omega
        · have := l6 y h; omega
      · exact ((((Ext.mod (hE14.trans hE5)).trans (hM6.of fun k hk => (k1 k hk.symm).1)).trans (Ext.mod hE68)).trans (hM9.of fun k hk => (k3 k hk.symm).1)).trans (hMb.of fun k hk => by rw [hk]; exact hF)
  rintro _ w11 ⟨od', da', dc', ol', la', lc', cs', hb, q1, q2', q3, q4, f1, f3, hM⟩
  have l1' := q1.lt
  have l3' := q3.lt
  (repeat (first | refine GX.doneD ?_ | refine GX.done ?_ | refine GQ.goNormal ?_ | refine GC.seq ?_ | refine GC.skip ?_ | refine GC.block ?_ | refine GC.exit ?_ | refine GC.ret ?_ | refine GQ.goExit ?_ | refine GQ.goRet ?_ | refine GQ.inNormal ?_ | refine GQ.inExit ?_ | refine GQ.inExitNe rfl ?_ | refine GQ.inRet ?_ | refine GQ.loopExit ?_ | refine GQ.loopRet ?_ | refine GQ.cutExit ?_ | refine GQ.cutRet ?_))
  refine GC.regionD (.pure 0 (.pure 1 (.pure 2 (.pure 3 (.pure 5 (.pure 6 (.pure 7 (.read 4 (.read 8 (.pure 9 (.eff 10 (.eff 11 (.pure 12 (.pure 13 (.eff 14 .done))))))))))))))) (fun k => some k = oe) mixed (by kernel_rfl) (by kernel_rfl) ?_
  intro w12 hh12 hE12
  have hS12 : Mod (fun k => some k = oe) w11 w12 := Ext.mod hE12
  have hbj : ¬ (some bj = oe) := fun h => (k2 _ h.symm).2.1 rfl
  (repeat (refine GX.pure rfl ?_; first | refine GO.move rfl rfl rfl rfl ?_ | refine GO.nilCheck rfl rfl rfl rfl ?_ | refine GO.fieldAddr rfl rfl rfl rfl rfl ?_ | refine GO.lenSlice rfl rfl rfl rfl ?_ | refine GO.nilCheckF rfl rfl rfl rfl ?_))
  refine GX.read rfl ?_
  refine GO.load1R (by assumption) (fun _ hS_ => At.mod (hb.get (o := 0 + 1) rfl) hS_ hbj) rfl rfl rfl ?_
  refine GX.read rfl ?_
  refine GO.load1R (by assumption) (fun _ hS_ => At.mod (hb.get (o := 0 + 0) rfl) hS_ hbj) rfl rfl rfl ?_
  (repeat (refine GX.pure rfl ?_; first | refine GO.move rfl rfl rfl rfl ?_ | refine GO.nilCheck rfl rfl rfl rfl ?_ | refine GO.fieldAddr rfl rfl rfl rfl rfl ?_ | refine GO.lenSlice rfl rfl rfl rfl ?_ | refine GO.nilCheckF rfl rfl rfl rfl ?_))
  refine GX.eff rfl ?_
  refine GO.buildSlice (out := [.int .i64 (j.data.length + r.length : Nat)]) (by kernel_rfl) (by decide) rfl rfl rfl (by simp) rfl fun b13 w13 hb13 hO13 hE13 => ?_
  refine ⟨fun _ h => h.trans (Ext.mod hE13), ?_⟩
  have hE113 : Ext w11 w13 := hE12.trans hE13
  refine GX.eff rfl ?_
  refine GO.append (m := 1) (q2'.own.ext hE113) hO13.sla (by simp) (by simp [Value.oneCell']) (by omega) (by omega) rfl rfl rfl rfl rfl fun oe' ea' ec' w14 hO14 hM14 hF14 hG14 => ?_
  refine ⟨fun _ h => h.trans (hM14.of fun k hk => hk), ?_⟩
  have hb14 := (hb.ext hE113).mod hM14 hbj
  (repeat (refine GX.pure rfl ?_; first | refine GO.move rfl rfl rfl rfl ?_ | refine GO.nilCheck rfl rfl rfl rfl ?_ | refine GO.fieldAddr rfl rfl rfl rfl rfl ?_ | refine GO.lenSlice rfl rfl rfl rfl ?_ | refine GO.nilCheckF rfl rfl rfl rfl ?_))
  refine GX.eff rfl ?_
  refine GO.store (vs := [.slice ea' (j.ends.length + 1) ec']) (hb14.wr (by simp)) rfl rfl (by simp [Value.oneCell']) rfl rfl rfl fun w15 hp15 => ⟨(by first | exact fun _ _ => trivial | exact late_abs (by kernel_rfl)), ?_⟩
  have hb15 : Blk w15 bj [.slice da' (j.data.length + r.length) dc', .slice ea' (j.ends.length + 1) ec', .slice la' (j.xs.length + 1) lc'] := by have := hp15.blk hb14; simpa using this
  (repeat (first | refine GX.doneD ?_ | refine GX.done ?_ | refine GQ.goNormal ?_ | refine GC.seq ?_ | refine GC.skip ?_ | refine GC.block ?_ | refine GC.exit ?_ | refine GC.ret ?_ | refine GQ.goExit ?_ | refine GQ.goRet ?_ | refine GQ.inNormal ?_ | refine GQ.inExit ?_ | refine GQ.inExitNe rfl ?_ | refine GQ.inRet ?_ | refine GQ.loopExit ?_ | refine GQ.loopRet ?_ | refine GQ.cutExit ?_ | refine GQ.cutRet ?_))
  refine GC.region (.pure 0 .done) rfl ?_
  (repeat (refine GX.pure rfl ?_; refine GO.assign rfl rfl rfl rfl ?_))
  (repeat (first | refine GX.doneD ?_ | refine GX.done ?_ | refine GQ.goNormal ?_ | refine GC.seq ?_ | refine GC.skip ?_ | refine GC.block ?_ | refine GC.exit ?_ | refine GC.ret ?_ | refine GQ.goExit ?_ | refine GQ.goRet ?_ | refine GQ.inNormal ?_ | refine GQ.inExit ?_ | refine GQ.inExitNe rfl ?_ | refine GQ.inRet ?_ | refine GQ.loopExit ?_ | refine GQ.loopRet ?_ | refine GQ.cutExit ?_ | refine GQ.cutRet ?_))
  refine GQ.ret1 (by first | exact .inl rfl | exact .inr rfl) rfl rfl ?_
  have s11 := hM.size
  have s113 := hE113.size
  have go : ∀ y, ea' = some y → oe' = some y.block := fun y hy => by
    rcases hG14 y hy with h | ⟨h, h'⟩
    · exact h
    · rw [h']; exact q2'.at_ y h
  have fo : ∀ y, oe' = some y → oe = some y ∨ w11.heap.size ≤ y := fun y hy => by
    rcases hF14 y hy with h | h
    · exact .inl h
    · right; omega
  have ne1 : ∀ y, od' = some y → oe ≠ some y := fun y hy h => by
    rcases f1 y hy with h' | h'
    · exact (k2 y h).2.2 h'
    · have := l2 y h; omega
  have ne3 : ∀ y, ol' = some y → oe ≠ some y := fun y hy h => by
    rcases (f3 y hy).1 with h' | h'
    · exact (k3 y h').2.2.2 h
    · have := l2 y h; omega
  have nb1 : ∀ y, od' = some y → y ≠ bj := fun y hy h => by
    rcases f1 y hy with h' | h'
    · exact (k1 y h').2 h
    · omega
  have nb3 : ∀ y, ol' = some y → y ≠ bj := fun y hy h => by
    rcases (f3 y hy).1 with h' | h'
    · exact (k3 y h').2.1 h
    · omega
  have hMo : Mod (fun k => some k = oe ∨ k = bj) w11 w15 := ((Ext.mod hE113).trans (hM14.of fun k hk => .inl hk)).trans (hp15.mod.of fun k hk => .inr hk)
  refine ⟨rfl, ⟨od', da', dc', oe', ea', ec', ol', la', lc', cs', ?_, ?_, ⟨?_, go⟩, ?_, ?_, .inl hF, fun y hy => ⟨?_, nb1 y hy⟩, fun y hy => ⟨?_, ?_, ?_⟩, fun y hy => ⟨?_, nb3 y hy, (f3 y hy).2, ?_⟩⟩, ?_⟩
  · simpa using hb15
  · have := q1.mod hMo (fun k hk h => by
      rcases h with h | h
      · exact ne1 k hk h.symm
      · exact nb1 k hk h)
    simpa using this
  · have := hO14.mod hp15.mod (fun y hy h => by
      rcases fo _ (go y hy) with h' | h'
      · exact (k2 _ h').2.1 h
      · omega)
    simpa [intsV] using this
  · have := q3.mod hMo (fun k hk h => by
      rcases h with h | h
      · exact ne3 k hk h.symm
      · exact nb3 k hk h)
    simpa using this
  · refine EntsF.mono (fun k _ hk' => ⟨hk'.1.1, hk'.1.2.1, hk'.1.2.2.1, hk'.2, hk'.1.2.2.2.2⟩) (EntsF.mod hMo (fun k hk hk' h => ?_) (EntsF.mono (G := fun k => ((F k ∨ w.heap.size ≤ k) ∧ k ≠ bj ∧ od' ≠ some k ∧ oe ≠ some k ∧ ol' ≠ some k) ∧ oe' ≠ some k) (fun k hk hk' => ⟨hk', fun h => ?_⟩) q4))
    · rcases h with h | h
      · exact hk'.1.2.2.2.1 h.symm
      · exact hk'.1.2.1 h
    · rcases fo k h with h' | h'
      · exact hk'.2.2.2.1 h'
      · omega
  · rcases f1 y hy with h | h
    · exact .inl (k1 y h).1
    · exact .inr h
  · rcases fo y hy with h | h
    · exact .inl (k2 y h).1
    · right; omega
  · rcases fo y hy with h | h
    · exact (k2 y h).2.1
    · omega
  · intro h
    rcases fo y hy with h' | h'
    · exact ne1 y h h'
    · have := l1' y h; omega
  · rcases (f3 y hy).1 with h | h
    · exact .inl (k3 y h).1
    · exact .inr h
  · intro h
    rcases fo y h with h' | h'
    · exact ne3 y hy h'
    · have := l3' y hy; omega
  · exact hM.trans (hMo.of fun k hk => by
      rcases hk with h | h
      · exact (k2 k h.symm).1
      · rw [h]; exact hF)
end Go.Proofs.Ytahkglanddhncaa.V
