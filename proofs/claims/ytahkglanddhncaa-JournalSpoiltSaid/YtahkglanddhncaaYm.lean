/-
  What the law's own reader of commands computes: the same steps as the journal's. Conditions: there are fewer than 2^21 bytes.
-/
import Derived.Test.YtahkglanddhncaaYl
namespace Go.Proofs.Ytahkglanddhncaa.V
attribute [local irreducible] GX GO

theorem or256 (a b : Nat) (h : b < 256) : (a * 256) ||| b = a * 256 + b := by
  have := Nat.two_pow_add_eq_or_of_lt (i := 8) (by simpa using h) a
  rw [Nat.mul_comm a 256]
  simpa using this.symm
theorem sumOf_sumB (l : List UInt8) (z : Nat) (hz : z < 4294967296) : sumOf (l ++ sumB z) = z := by
  have h1 : (l ++ sumB z).length = l.length + 4 := by simp [sumB]
  unfold sumOf
  rw [if_neg (by omega), h1, Nat.add_sub_cancel, List.drop_left]
  simp only [sumB, List.foldl_cons, List.foldl_nil, UInt8.toNat_ofNat']
  have e1 : 0 * 256 % 4294967296 ||| z / 16777216 % 2 ^ 8 = z / 16777216 := by simp; omega
  rw [e1]
  have e2 : z / 16777216 * 256 % 4294967296 ||| z / 65536 % 2 ^ 8 = z / 65536 := by
    rw [Nat.mod_eq_of_lt (by omega), or256 _ _ (Nat.mod_lt _ (by decide))]; omega
  rw [e2]
  have e3 : z / 65536 * 256 % 4294967296 ||| z / 256 % 2 ^ 8 = z / 256 := by
    rw [Nat.mod_eq_of_lt (by omega), or256 _ _ (Nat.mod_lt _ (by decide))]; omega
  rw [e3, Nat.mod_eq_of_lt (by omega), or256 _ _ (Nat.mod_lt _ (by decide))]
  omega
theorem recJ_can {s : Nat} {x : Nat × Cmd} (h : canR x = true) : recJ s x = recHead x ++ sumB (foldN s (recHead x)) := by unfold recJ; rw [if_pos h]
theorem recJ_cannot {s : Nat} {x : Nat × Cmd} (h : canR x = false) : recJ s x = [] := by unfold recJ; rw [if_neg (by simp [h])]
theorem sumOf_plus {j : JS} {x : Nat × Cmd} (h : canR x = true) : sumOf (plusJ j x).data = foldN (sumOf j.data) (recHead x) := by
  show sumOf (j.data ++ recJ (sumOf j.data) x) = _
  rw [recJ_can h, ← List.append_assoc]
  exact sumOf_sumB _ _ (foldN_lt _ _ (sumOf_lt _))
theorem errJ_iff {j : JS} {x : Nat × Cmd} : errJ j x = 0 ↔ (recJ (sumOf j.data) x).length ≠ 0 ∧ ¬ fullJ j (recJ (sumOf j.data) x) := by
  refine ⟨errJ_zero, fun ⟨h1, h2⟩ => ?_⟩
  unfold errJ
  rw [if_neg h1, if_neg h2]
theorem stepJ_full {l : List UInt8} {j : JS} (h : 4096 ≤ j.ends.length) : stepJ l j = none := by
  unfold stepJ
  split
  · rfl
  · rw [if_neg]
    rintro ⟨h1, _⟩
    exact (errJ_zero h1).2 (.inl h)
theorem stepJ_next {l : List UInt8} {j : JS} (h : nextJ (l.drop j.data.length) = none) : stepJ l j = none := by
  unfold stepJ; rw [h]
theorem stepJ_no {l : List UInt8} {j : JS} {x : Nat × Cmd} (h : nextJ (l.drop j.data.length) = some x) (hn : ¬ (errJ j x = 0 ∧ recJ (sumOf j.data) x <+: l.drop j.data.length)) : stepJ l j = none := by
  unfold stepJ; rw [h]; dsimp only; rw [if_neg hn]
theorem stepJ_yes {l : List UInt8} {j : JS} {x : Nat × Cmd} (h : nextJ (l.drop j.data.length) = some x) (hn : errJ j x = 0 ∧ recJ (sumOf j.data) x <+: l.drop j.data.length) : stepJ l j = some (plusJ j x) := by
  unfold stepJ; rw [h]; dsimp only; rw [if_pos hn]

/-- The state on the way. -/
def RdS (w : World) (l : List UInt8) (y : JS × Option Addr × Nat) (w' : World) : Prop :=
  ∃ ol cells, OwnS w' 47 11 ol y.2.1 y.1.xs.length y.2.2 cells ∧ (∀ k, y.2.1 = some k → ol = some k.block) ∧ (∀ k, ol = some k → w.heap.size ≤ k) ∧ EntsF w' (fun k => w.heap.size ≤ k ∧ ol ≠ some k) cells y.1.xs ∧ Ext w w' ∧ JOk l y.1 ∧ Steps l zeroJ y.1

set_option maxHeartbeats 8000000 in
theorem reads_ret (l : List UInt8) (n : Nat) (hn : l.length = n) (hl : l.length < 2 ^ 21) (a : Option Addr) (c : Nat) (w : World) (hA : BytesAt w a c l) :
    Ret Try.prog 25 [.slice a n c].toArray w (ReadV w l) := by
  subst hn
  have hcap := hA.cap
  
  refine Ret.enter Try.func25 rfl Try.ntmps25 rfl ?_
  (repeat (first | refine GX.doneD ?_ | refine GX.done ?_ | refine GQ.goNormal ?_ | refine GC.seq ?_ | refine GC.skip ?_ | refine GC.block ?_ | refine GC.exit ?_ | refine GC.ret ?_ | refine GQ.goExit ?_ | refine GQ.goRet ?_ | refine GQ.inNormal ?_ | refine GQ.inExit ?_ | refine GQ.inExitNe rfl ?_ | refine GQ.inRet ?_ | refine GQ.loopExit ?_ | refine GQ.loopRet ?_ | refine GQ.cutExit ?_ | refine GQ.cutRet ?_))
  refine GC.region (.pure 0 (.pure 1 .done)) rfl ?_
  (repeat (refine GX.pure rfl ?_; refine GO.assign rfl rfl rfl rfl ?_))
  (repeat (first | refine GX.doneD ?_ | refine GX.done ?_ | refine GQ.goNormal ?_ | refine GC.seq ?_ | refine GC.skip ?_ | refine GC.block ?_ | refine GC.exit ?_ | refine GC.ret ?_ | refine GQ.goExit ?_ | refine GQ.goRet ?_ | refine GQ.inNormal ?_ | refine GQ.inExit ?_ | refine GQ.inExitNe rfl ?_ | refine GQ.inRet ?_ | refine GQ.loopExit ?_ | refine GQ.loopRet ?_ | refine GQ.cutExit ?_ | refine GQ.cutRet ?_))
  refine GC.region (.pure 0 .done) rfl ?_
  (repeat (refine GX.pure rfl ?_; refine GO.assign rfl rfl rfl rfl ?_))
  (repeat (first | refine GX.doneD ?_ | refine GX.done ?_ | refine GQ.goNormal ?_ | refine GC.seq ?_ | refine GC.skip ?_ | refine GC.block ?_ | refine GC.exit ?_ | refine GC.ret ?_ | refine GQ.goExit ?_ | refine GQ.goRet ?_ | refine GQ.inNormal ?_ | refine GQ.inExit ?_ | refine GQ.inExitNe rfl ?_ | refine GQ.inRet ?_ | refine GQ.loopExit ?_ | refine GQ.loopRet ?_ | refine GQ.cutExit ?_ | refine GQ.cutRet ?_))
  refine GC.region (.pure 0 (.pure 1 .done)) rfl ?_
  (repeat (refine GX.pure rfl ?_; refine GO.assign rfl rfl rfl rfl ?_))
  refine GX.done ?_
  refine GQ.goNormal ?_
  refine GC.seq ?_
  refine GC.cut (X := JS × Option Addr × Nat) (fun y => [(4, .slice y.2.1 y.1.xs.length y.2.2), (6, .int .i64 y.1.data.length)]) (fun y w' => RdS w l y w' ∧ stepJ l y.1 = none) ?_ ?_
  rotate_left
  · rintro ⟨j, la, lc⟩ w' ⟨⟨ol, cells, hO, hb, hf, hX, hE, hok, hst⟩, hno⟩
    dsimp only at hO hb hf hX hE hok hst hno
    dsimp only
    (repeat (first | refine GX.doneD ?_ | refine GX.done ?_ | refine GQ.goNormal ?_ | refine GC.seq ?_ | refine GC.skip ?_ | refine GC.block ?_ | refine GC.exit ?_ | refine GC.ret ?_ | refine GQ.goExit ?_ | refine GQ.goRet ?_ | refine GQ.inNormal ?_ | refine GQ.inExit ?_ | refine GQ.inExitNe rfl ?_ | refine GQ.inRet ?_ | refine GQ.loopExit ?_ | refine GQ.loopRet ?_ | refine GQ.cutExit ?_ | refine GQ.cutRet ?_))
    refine GC.region (.pure 0 (.pure 1 (.pure 2 (.pure 3 .done)))) rfl ?_
    (repeat (refine GX.pure rfl ?_; first | refine GO.move rfl rfl rfl rfl ?_ | refine GO.assign rfl rfl rfl rfl ?_))
    (repeat (first | refine GX.doneD ?_ | refine GX.done ?_ | refine GQ.goNormal ?_ | refine GC.seq ?_ | refine GC.skip ?_ | refine GC.block ?_ | refine GC.exit ?_ | refine GC.ret ?_ | refine GQ.goExit ?_ | refine GQ.goRet ?_ | refine GQ.inNormal ?_ | refine GQ.inExit ?_ | refine GQ.inExitNe rfl ?_ | refine GQ.inRet ?_ | refine GQ.loopExit ?_ | refine GQ.loopRet ?_ | refine GQ.cutExit ?_ | refine GQ.cutRet ?_))
    refine GQ.ret2 (by first | exact .inl rfl | exact .inr rfl) rfl rfl rfl ?_
    refine ⟨j, _, rfl, ⟨la, lc, cells, rfl, hO.sla, EntsF.mono (fun _ _ h => h.1) hX, fun y hy => ?_, hE⟩, hok, hst, hno⟩
    have := hb y hy
    subst this
    exact ⟨hf _ rfl, hO.block.2⟩
  (repeat (first | refine GX.doneD ?_ | refine GX.done ?_ | refine GQ.goNormal ?_ | refine GC.seq ?_ | refine GC.skip ?_ | refine GC.block ?_ | refine GC.exit ?_ | refine GC.ret ?_ | refine GQ.goExit ?_ | refine GQ.goRet ?_ | refine GQ.inNormal ?_ | refine GQ.inExit ?_ | refine GQ.inExitNe rfl ?_ | refine GQ.inRet ?_ | refine GQ.loopExit ?_ | refine GQ.loopRet ?_ | refine GQ.cutExit ?_ | refine GQ.cutRet ?_))
  refine GC.loop (X := JS × Option Addr × Nat) (fun y => [(0, .slice a l.length c), (4, .slice y.2.1 y.1.xs.length y.2.2), (5, .int .u32 (sumOf y.1.data)), (6, .int .i64 y.1.data.length)]) (RdS w l) (fun y => l.length - y.1.data.length) (zeroJ, none, 0) (sub_pick (l := [0, 4, 5, 6]) rfl)
    ⟨none, [], OwnS.nil _ _ _, by simp, by simp, rfl, Mod.refl _, zeroJ_ok l, .refl _⟩ ?_
  rintro ⟨j, la, lc⟩ w1 ⟨ol, cells, hO, hb, hf, hX, hE, hok, hst⟩
  dsimp only at hO hb hf hX hE hok hst
  dsimp only
  have hdl := hok.data.length_le
  have hfew := hok.few
  have hends := hok.ends
  have hsize := hok.size
  have hcl := EntsF.length hX
  have hS1 : RdS w l (j, la, lc) w1 := ⟨ol, cells, hO, hb, hf, hX, hE, hok, hst⟩
  (repeat (first | refine GX.doneD ?_ | refine GX.done ?_ | refine GQ.goNormal ?_ | refine GC.seq ?_ | refine GC.skip ?_ | refine GC.block ?_ | refine GC.exit ?_ | refine GC.ret ?_ | refine GQ.goExit ?_ | refine GQ.goRet ?_ | refine GQ.inNormal ?_ | refine GQ.inExit ?_ | refine GQ.inExitNe rfl ?_ | refine GQ.inRet ?_ | refine GQ.loopExit ?_ | refine GQ.loopRet ?_ | refine GQ.cutExit ?_ | refine GQ.cutRet ?_))
  refine GC.region (.pure 0 (.pure 1 (.pure 2 .done))) rfl ?_
  (repeat (refine GX.pure rfl ?_; first | refine GO.move rfl rfl rfl rfl ?_ | refine GO.lenSlice rfl rfl rfl rfl ?_ | refine GO.lss rfl rfl rfl rfl rfl ?_))
  (repeat (first | refine GX.doneD ?_ | refine GX.done ?_ | refine GQ.goNormal ?_ | refine GC.seq ?_ | refine GC.skip ?_ | refine GC.block ?_ | refine GC.exit ?_ | refine GC.ret ?_ | refine GQ.goExit ?_ | refine GQ.goRet ?_ | refine GQ.inNormal ?_ | refine GQ.inExit ?_ | refine GQ.inExitNe rfl ?_ | refine GQ.inRet ?_ | refine GQ.loopExit ?_ | refine GQ.loopRet ?_ | refine GQ.cutExit ?_ | refine GQ.cutRet ?_))
  refine GC.cond rfl (fun h0 => ?_) (fun h0 => ?_)
  rotate_left
  · have := of_decide_eq_false h0
    (repeat (first | refine GX.doneD ?_ | refine GX.done ?_ | refine GQ.goNormal ?_ | refine GC.seq ?_ | refine GC.skip ?_ | refine GC.block ?_ | refine GC.exit ?_ | refine GC.ret ?_ | refine GQ.goExit ?_ | refine GQ.goRet ?_ | refine GQ.inNormal ?_ | refine GQ.inExit ?_ | refine GQ.inExitNe rfl ?_ | refine GQ.inRet ?_ | refine GQ.loopExit ?_ | refine GQ.loopRet ?_ | refine GQ.cutExit ?_ | refine GQ.cutRet ?_))
    exact GQ.cutNormal (j, la, lc) (sub_pick (l := [4, 6]) rfl) ⟨hS1, stepJ_full (by show 4096 ≤ j.ends.length; omega)⟩
  have hlt : j.xs.length < 4096 := by have := of_decide_eq_true h0; omega
  (repeat (first | refine GX.doneD ?_ | refine GX.done ?_ | refine GQ.goNormal ?_ | refine GC.seq ?_ | refine GC.skip ?_ | refine GC.block ?_ | refine GC.exit ?_ | refine GC.ret ?_ | refine GQ.goExit ?_ | refine GQ.goRet ?_ | refine GQ.inNormal ?_ | refine GQ.inExit ?_ | refine GQ.inExitNe rfl ?_ | refine GQ.inRet ?_ | refine GQ.loopExit ?_ | refine GQ.loopRet ?_ | refine GQ.cutExit ?_ | refine GQ.cutRet ?_))
  refine GC.region (.pure 0 (.pure 1 (.pure 2 (.pure 3 .done)))) rfl ?_
  (repeat (refine GX.pure rfl ?_; first | refine GO.move rfl rfl rfl rfl ?_ | refine GO.assign rfl rfl rfl rfl ?_))
  refine GX.pure rfl ?_
  refine GO.sliceS rfl rfl rfl rfl (bounds_l (by omega) (by omega)) ⟨by simp; rfl, by simp, by simp⟩ ?_
  have e1 : ((j.data.length : Nat) : Int).toNat = j.data.length := by omega
  rw [e1]
  have hsl := (hA.ext hE).from_ j.data.length hdl
  have hrl : (l.drop j.data.length).length = l.length - j.data.length := by simp
  have hyes := fun x => stepJ_yes (l := l) (j := j) (x := x)
  have hno := fun x => stepJ_no (l := l) (j := j) (x := x)
  have hnone := stepJ_next (l := l) (j := j)
  have hstok := fun k => stepJ_ok (l := l) (j := j) (k := k) hok
  generalize hrest : l.drop j.data.length = rest at *
  (repeat (refine GX.pure rfl ?_; first | refine GO.move rfl rfl rfl rfl ?_ | refine GO.assign rfl rfl rfl rfl ?_))
  (repeat (first | refine GX.doneD ?_ | refine GX.done ?_ | refine GQ.goNormal ?_ | refine GC.seq ?_ | refine GC.skip ?_ | refine GC.block ?_ | refine GC.exit ?_ | refine GC.ret ?_ | refine GQ.goExit ?_ | refine GQ.goRet ?_ | refine GQ.inNormal ?_ | refine GQ.inExit ?_ | refine GQ.inExitNe rfl ?_ | refine GQ.inRet ?_ | refine GQ.loopExit ?_ | refine GQ.loopRet ?_ | refine GQ.cutExit ?_ | refine GQ.cutRet ?_))
  refine GC.region (.pure 0 (.eff 1 (.pure 2 (.pure 3 (.pure 4 (.pure 5 (.pure 6 (.pure 7 (.pure 8 .done))))))))) rfl ?_
  (repeat (refine GX.pure rfl ?_; first | refine GO.move rfl rfl rfl rfl ?_ | refine GO.assign rfl rfl rfl rfl ?_ | refine GO.extract rfl rfl rfl rfl rfl ?_))
  (refine GX.eff rfl ?_; refine GO.callL rfl rfl rfl rfl rfl (get_ret rest _ hrl (by omega) _ _ w1 hsl.cells) ?_)
  rintro v w2 ⟨rfl, rfl⟩
  refine ⟨fun _ h => by first | trivial | exact Mod.trans h (Ext.mod (by assumption)), ?_⟩
  (repeat (refine GX.pure rfl ?_; first | refine GO.move rfl rfl rfl rfl ?_ | refine GO.assign rfl rfl rfl rfl ?_ | refine GO.extract rfl rfl rfl rfl rfl ?_))
  (repeat (first | refine GX.doneD ?_ | refine GX.done ?_ | refine GQ.goNormal ?_ | refine GC.seq ?_ | refine GC.skip ?_ | refine GC.block ?_ | refine GC.exit ?_ | refine GC.ret ?_ | refine GQ.goExit ?_ | refine GQ.goRet ?_ | refine GQ.inNormal ?_ | refine GQ.inExit ?_ | refine GQ.inExitNe rfl ?_ | refine GQ.inRet ?_ | refine GQ.loopExit ?_ | refine GQ.loopRet ?_ | refine GQ.cutExit ?_ | refine GQ.cutRet ?_))
  refine GC.region (.pure 0 (.pure 1 .done)) rfl ?_
  (repeat (refine GX.pure rfl ?_; first | refine GO.move rfl rfl rfl rfl ?_ | refine GO.neq rfl rfl rfl rfl rfl ?_))
  (repeat (first | refine GX.doneD ?_ | refine GX.done ?_ | refine GQ.goNormal ?_ | refine GC.seq ?_ | refine GC.skip ?_ | refine GC.block ?_ | refine GC.exit ?_ | refine GC.ret ?_ | refine GQ.goExit ?_ | refine GQ.goRet ?_ | refine GQ.inNormal ?_ | refine GQ.inExit ?_ | refine GQ.inExitNe rfl ?_ | refine GQ.inRet ?_ | refine GQ.loopExit ?_ | refine GQ.loopRet ?_ | refine GQ.cutExit ?_ | refine GQ.cutRet ?_))
  refine GC.cond rfl (fun h1 => ?_) (fun h1 => ?_)
  · have h1' := of_decide_eq_true h1
    have hN : nextJ rest = none := by unfold nextJ; rw [if_pos h1']
    (repeat (first | refine GX.doneD ?_ | refine GX.done ?_ | refine GQ.goNormal ?_ | refine GC.seq ?_ | refine GC.skip ?_ | refine GC.block ?_ | refine GC.exit ?_ | refine GC.ret ?_ | refine GQ.goExit ?_ | refine GQ.goRet ?_ | refine GQ.inNormal ?_ | refine GQ.inExit ?_ | refine GQ.inExitNe rfl ?_ | refine GQ.inRet ?_ | refine GQ.loopExit ?_ | refine GQ.loopRet ?_ | refine GQ.cutExit ?_ | refine GQ.cutRet ?_))
    exact GQ.cutNormal (j, la, lc) (sub_pick (l := [4, 6]) rfl) ⟨hS1, hnone hN⟩
  have h1' : (getN rest).2.2 = 0 := by have := of_decide_eq_false h1; simpa using this
  have hs := getN_size rest h1'
  (repeat (first | refine GX.doneD ?_ | refine GX.done ?_ | refine GQ.goNormal ?_ | refine GC.seq ?_ | refine GC.skip ?_ | refine GC.block ?_ | refine GC.exit ?_ | refine GC.ret ?_ | refine GQ.goExit ?_ | refine GQ.goRet ?_ | refine GQ.inNormal ?_ | refine GQ.inExit ?_ | refine GQ.inExitNe rfl ?_ | refine GQ.inRet ?_ | refine GQ.loopExit ?_ | refine GQ.loopRet ?_ | refine GQ.cutExit ?_ | refine GQ.cutRet ?_))
  refine GC.region (.pure 0 (.pure 1 (.pure 2 (.eff 3 (.pure 4 (.pure 5 (.pure 6 (.pure 7 (.eff 8 (.eff 9 (.pure 10 (.pure 11 .done)))))))))))) rfl ?_
  (repeat (refine GX.pure rfl ?_; first | refine GO.move rfl rfl rfl rfl ?_ | refine GO.assign rfl rfl rfl rfl ?_ | refine GO.extract rfl rfl rfl rfl rfl ?_))
  refine GX.pure rfl ?_
  refine GO.sliceS rfl rfl rfl rfl (bounds_l (by omega) (by omega)) ⟨by simp; rfl, by simp, by simp⟩ ?_
  have e2 : (((getN rest).2.1 : Int)).toNat = (getN rest).2.1 := by omega
  rw [e2]
  have hsl2 := hsl.from_ (getN rest).2.1 hs.2
  have hdl2 : (rest.drop (getN rest).2.1).length = l.length - j.data.length - (getN rest).2.1 := by rw [List.length_drop, hrl]
  (refine GX.eff rfl ?_; refine GO.callL rfl rfl rfl rfl rfl (readF_ret (rest.drop (getN rest).2.1) _ hdl2 (by omega) _ _ w2 hsl2) ?_)
  generalize hF : readF (rest.drop (getN rest).2.1) = f at *
  have hfc : f.1 < 256 := by rw [← hF]; exact readF_code _
  have hfl : f.2.1.length < 2 ^ 30 := by have := readF_len (rest.drop (getN rest).2.1); rw [hF] at this; omega
  have hN : nextJ rest = if f.2.2.2 ≠ 0 then none else if (readC f.1 f.2.1).2 ≠ 0 then none else some ((getN rest).1, (readC f.1 f.2.1).1) := by
    unfold nextJ; rw [if_neg (by simp [h1']), hF]
  obtain ⟨fc, fp, fs, fe⟩ := f
  dsimp only at hfc hfl hN
  rintro v w3 ⟨fa, fk, rfl, hP3, hE3⟩
  dsimp only at hP3
  refine ⟨fun _ h => by first | trivial | exact Mod.trans h (Ext.mod (by assumption)), ?_⟩
  (repeat (refine GX.pure rfl ?_; first | refine GO.move rfl rfl rfl rfl ?_ | refine GO.assign rfl rfl rfl rfl ?_ | refine GO.extract rfl rfl rfl rfl rfl ?_))
  refine GX.eff rfl ?_
  refine GO.alloc rfl rfl fun b7 w4 hb7 hB7 hE4 => ?_
  refine ⟨fun _ h => by first | trivial | exact Mod.trans h (Ext.mod (by assumption)), ?_⟩
  refine GX.eff rfl ?_
  refine GO.store (vs := frameV fc fa fp.length fk) (hB7.wr (by simp [frameV])) rfl rfl (by simp [Value.oneCell', frameV]) rfl rfl rfl fun w5 hp5 => ⟨(by first | exact fun _ _ => trivial | exact late_abs (by kernel_rfl)), ?_⟩
  have hE5 : Ext w3 w5 := hE4.then hp5.mod fun i hi h => by omega
  have hF5 : Blk w5 b7 (frameV fc fa fp.length fk) := by have := hp5.blk hB7; simpa [frameV] using this
  have hE25 := hE3.trans hE5
  have hS5 : RdS w l (j, la, lc) w5 := ⟨ol, cells, hO.ext hE25, hb, hf, EntsF.mod hE25 (fun _ _ _ h => h) hX, hE.trans hE25, hok, hst⟩
  (repeat (refine GX.pure rfl ?_; first | refine GO.move rfl rfl rfl rfl ?_ | refine GO.assign rfl rfl rfl rfl ?_ | refine GO.extract rfl rfl rfl rfl rfl ?_))
  (repeat (first | refine GX.doneD ?_ | refine GX.done ?_ | refine GQ.goNormal ?_ | refine GC.seq ?_ | refine GC.skip ?_ | refine GC.block ?_ | refine GC.exit ?_ | refine GC.ret ?_ | refine GQ.goExit ?_ | refine GQ.goRet ?_ | refine GQ.inNormal ?_ | refine GQ.inExit ?_ | refine GQ.inExitNe rfl ?_ | refine GQ.inRet ?_ | refine GQ.loopExit ?_ | refine GQ.loopRet ?_ | refine GQ.cutExit ?_ | refine GQ.cutRet ?_))
  refine GC.region (.pure 0 (.pure 1 .done)) rfl ?_
  (repeat (refine GX.pure rfl ?_; first | refine GO.move rfl rfl rfl rfl ?_ | refine GO.neq rfl rfl rfl rfl rfl ?_))
  (repeat (first | refine GX.doneD ?_ | refine GX.done ?_ | refine GQ.goNormal ?_ | refine GC.seq ?_ | refine GC.skip ?_ | refine GC.block ?_ | refine GC.exit ?_ | refine GC.ret ?_ | refine GQ.goExit ?_ | refine GQ.goRet ?_ | refine GQ.inNormal ?_ | refine GQ.inExit ?_ | refine GQ.inExitNe rfl ?_ | refine GQ.inRet ?_ | refine GQ.loopExit ?_ | refine GQ.loopRet ?_ | refine GQ.cutExit ?_ | refine GQ.cutRet ?_))
  refine GC.cond rfl (fun h2 => ?_) (fun h2 => ?_)
  · have h2' := of_decide_eq_true h2
    rw [if_pos h2'] at hN
    (repeat (first | refine GX.doneD ?_ | refine GX.done ?_ | refine GQ.goNormal ?_ | refine GC.seq ?_ | refine GC.skip ?_ | refine GC.block ?_ | refine GC.exit ?_ | refine GC.ret ?_ | refine GQ.goExit ?_ | refine GQ.goRet ?_ | refine GQ.inNormal ?_ | refine GQ.inExit ?_ | refine GQ.inExitNe rfl ?_ | refine GQ.inRet ?_ | refine GQ.loopExit ?_ | refine GQ.loopRet ?_ | refine GQ.cutExit ?_ | refine GQ.cutRet ?_))
    exact GQ.cutNormal (j, la, lc) (sub_pick (l := [4, 6]) rfl) ⟨hS5, hnone hN⟩
  have h2' := of_decide_eq_false h2
  rw [if_neg h2'] at hN
  refine GC.pick [0, 4, 5, 6, 7, 8, 11] rfl ?_
  (repeat (first | refine GX.doneD ?_ | refine GX.done ?_ | refine GQ.goNormal ?_ | refine GC.seq ?_ | refine GC.skip ?_ | refine GC.block ?_ | refine GC.exit ?_ | refine GC.ret ?_ | refine GQ.goExit ?_ | refine GQ.goRet ?_ | refine GQ.inNormal ?_ | refine GQ.inExit ?_ | refine GQ.inExitNe rfl ?_ | refine GQ.inRet ?_ | refine GQ.loopExit ?_ | refine GQ.loopRet ?_ | refine GQ.cutExit ?_ | refine GQ.cutRet ?_))
  refine GC.region (.eff 0 (.eff 1 (.pure 2 (.pure 3 (.pure 4 (.eff 5 (.eff 6 (.pure 7 .done)))))))) rfl ?_
  (first | (refine GX.eff rfl ?_; first | refine GO.load1 (hF5.at) rfl rfl rfl ?_ | refine GO.loadN (hF5.at) rfl rfl rfl rfl ?_) | (refine GX.read rfl ?_; first | refine GO.load1R (by assumption) (fun _ hS_ => At.mod (hF5.at) hS_ (by simp)) rfl rfl rfl ?_ | refine GO.loadNR (by assumption) (fun _ hS_ => At.mod (hF5.at) hS_ (by simp)) rfl rfl rfl rfl ?_))
  (refine GX.eff rfl ?_; refine GO.callL rfl rfl rfl rfl rfl (readC_ret fc hfc fp _ rfl hfl fa fk w5 (hP3.ext hE5)) ?_)
  rintro v w6 ⟨lx, rfl, hV6, hE6⟩
  refine ⟨fun _ h => by first | trivial | exact Mod.trans h (Ext.mod (by assumption)), ?_⟩
  have hrr := readC_r fc fp
  have hro := readC_op fc fp hfc
  generalize readC fc fp = rc at *
  obtain ⟨cm, ce⟩ := rc
  dsimp only at hV6 hN hrr hro
  dsimp only
  have hV6' := hV6
  obtain ⟨ka, kc, va, vc, ta, tc, rfl, _, _, _, _⟩ := hV6'
  (repeat (refine GX.pure rfl ?_; first | refine GO.move rfl rfl rfl rfl ?_ | refine GO.assign rfl rfl rfl rfl ?_ | refine GO.extract rfl rfl rfl rfl rfl ?_))
  refine GX.eff rfl ?_
  refine GO.alloc rfl rfl fun b9 w7 hb9 hB9 hE7 => ?_
  refine ⟨fun _ h => by first | trivial | exact Mod.trans h (Ext.mod (by assumption)), ?_⟩
  refine GX.eff rfl ?_
  refine GO.store (vs := cmdCells cm ka kc va vc ta tc) (hB9.wr (by simp)) rfl hV6.length hV6.one rfl rfl rfl fun w8 hp8 => ⟨(by first | exact fun _ _ => trivial | exact late_abs (by kernel_rfl)), ?_⟩
  have hE8 : Ext w6 w8 := hE7.then hp8.mod fun i hi h => by omega
  have hA8 : Blk w8 b9 (cmdCells cm ka kc va vc ta tc) := by have := hp8.blk hB9; simpa [hV6.length] using this
  have hV8 := hV6.ext hE8
  (repeat (refine GX.pure rfl ?_; first | refine GO.move rfl rfl rfl rfl ?_ | refine GO.assign rfl rfl rfl rfl ?_ | refine GO.extract rfl rfl rfl rfl rfl ?_))
  (repeat (first | refine GX.doneD ?_ | refine GX.done ?_ | refine GQ.goNormal ?_ | refine GC.seq ?_ | refine GC.skip ?_ | refine GC.block ?_ | refine GC.exit ?_ | refine GC.ret ?_ | refine GQ.goExit ?_ | refine GQ.goRet ?_ | refine GQ.inNormal ?_ | refine GQ.inExit ?_ | refine GQ.inExitNe rfl ?_ | refine GQ.inRet ?_ | refine GQ.loopExit ?_ | refine GQ.loopRet ?_ | refine GQ.cutExit ?_ | refine GQ.cutRet ?_))
  refine GC.region (.pure 0 (.eff 1 (.pure 2 (.eff 3 (.eff 4 .done))))) rfl ?_
  (repeat (refine GX.pure rfl ?_; refine GO.move rfl rfl rfl rfl ?_))
  refine GX.eff rfl ?_
  refine GO.loadN hA8.at hV6.length rfl rfl rfl ?_
  refine GX.pure rfl ?_
  refine GO.build (out := .int .u64 (getN rest).1 :: cmdCells cm ka kc va vc ta tc) rfl (by kernel_rfl) (by kernel_rfl) rfl rfl rfl rfl ?_
  refine GX.eff rfl ?_
  refine GO.alloc rfl rfl fun b10 w9 hb10 hB10 hE9 => ?_
  refine ⟨fun _ h => by first | trivial | exact Mod.trans h (Ext.mod (by assumption)), ?_⟩
  refine GX.eff rfl ?_
  refine GO.store (vs := .int .u64 (getN rest).1 :: cmdCells cm ka kc va vc ta tc) (hB10.wr (by simp [cmdCells])) rfl rfl (by simp [Value.oneCell', cmdCells, str]) rfl rfl rfl fun w10 hp10 => ⟨(by first | exact fun _ _ => trivial | exact late_abs (by kernel_rfl)), ?_⟩
  have hE10 : Ext w8 w10 := hE9.then hp10.mod fun i hi h => by omega
  have hA10 : Blk w10 b10 (.int .u64 (getN rest).1 :: cmdCells cm ka kc va vc ta tc) := by have := hp10.blk hB10; simpa [cmdCells] using this
  have s6 := hE6.size
  have s25 := hE25.size
  have s8 := hE8.size
  have s10 := hE10.size
  have hV10 : EntV w10 w2.heap.size (.int .u64 (getN rest).1 :: cmdCells cm ka kc va vc ta tc) ((getN rest).1, cm) := ⟨_, rfl, (hV8.ext hE10).mono (by omega)⟩
  have hE210 := ((hE25.trans hE6).trans hE8).trans hE10
  have hS10 : RdS w l (j, la, lc) w10 := ⟨ol, cells, hO.ext hE210, hb, hf, EntsF.mod hE210 (fun _ _ _ h => h) hX, hE.trans hE210, hok, hst⟩
  have hsl10 := hsl.ext hE210
  have htl := getN_lt rest
  have hokc : OkC cm := hrr.okc (by omega)
  clear hS5 hE25 hA8 hV8 hV6 hE6 hE8 hE10 hp10 hE9 hB10 hp8 hB9 hE7 hP3 hF5 hE5 hp5 hB7 hE4
  generalize getN rest = g at *
  obtain ⟨tm, gn, ge⟩ := g
  dsimp only at hN hV10 hA10 htl
  dsimp only
  (repeat (first | refine GX.doneD ?_ | refine GX.done ?_ | refine GQ.goNormal ?_ | refine GC.seq ?_ | refine GC.skip ?_ | refine GC.block ?_ | refine GC.exit ?_ | refine GC.ret ?_ | refine GQ.goExit ?_ | refine GQ.goRet ?_ | refine GQ.inNormal ?_ | refine GQ.inExit ?_ | refine GQ.inExitNe rfl ?_ | refine GQ.inRet ?_ | refine GQ.loopExit ?_ | refine GQ.loopRet ?_ | refine GQ.cutExit ?_ | refine GQ.cutRet ?_))
  refine GC.pick [0, 4, 5, 6, 7, 10, 14] rfl ?_
  refine GC.region (.pure 0 (.eff 1 (.eff 2 (.pure 3 (.pure 4 (.pure 5 (.pure 6 (.pure 7 .done)))))))) rfl ?_
  (repeat (refine GX.pure rfl ?_; first | refine GO.move rfl rfl rfl rfl ?_ | refine GO.assign rfl rfl rfl rfl ?_ | refine GO.extract rfl rfl rfl rfl rfl ?_))
  (first | (refine GX.eff rfl ?_; first | refine GO.load1 (hA10.at) rfl rfl rfl ?_ | refine GO.loadN (hA10.at) rfl rfl rfl rfl ?_) | (refine GX.read rfl ?_; first | refine GO.load1R (by assumption) (fun _ hS_ => At.mod (hA10.at) hS_ (by simp)) rfl rfl rfl ?_ | refine GO.loadNR (by assumption) (fun _ hS_ => At.mod (hA10.at) hS_ (by simp)) rfl rfl rfl rfl ?_))
  (refine GX.eff rfl ?_; refine GO.callL rfl rfl rfl rfl rfl (recordL_ret (sumOf j.data) (sumOf_lt _) (tm, cm) htl hokc _ w10 (let ⟨m, q1, q2⟩ := hV10; ⟨m, q1, q2.mono (Nat.zero_le _)⟩)) ?_)
  rintro v w11 ⟨u, rfl, ⟨or_, ra, rc, rfl, hO11, hF11, hG11⟩, hE11⟩
  refine ⟨fun _ h => by first | trivial | exact Mod.trans h (Ext.mod (by assumption)), ?_⟩
  have hB11 := hO11.bytes hG11
  have hcap11 := hB11.cap
  have hS11 : RdS w l (j, la, lc) w11 := by
    obtain ⟨ol, cells, hO, hb, hf, hX, hE, hok, hst⟩ := hS10
    exact ⟨ol, cells, hO.ext hE11, hb, hf, EntsF.mod hE11 (fun _ _ _ h => h) hX, hE.trans hE11, hok, hst⟩
  have hsl11 := hsl10.ext hE11
  have hA11 := hA10.ext hE11
  have hV11 := hV10.mod hE11 (fun _ h => h.elim)
  have hrlen := recJ_len (sumOf j.data) (tm, cm) hokc
  (repeat (refine GX.pure rfl ?_; first | refine GO.move rfl rfl rfl rfl ?_ | refine GO.assign rfl rfl rfl rfl ?_ | refine GO.extract rfl rfl rfl rfl rfl ?_))
  (repeat (first | refine GX.doneD ?_ | refine GX.done ?_ | refine GQ.goNormal ?_ | refine GC.seq ?_ | refine GC.skip ?_ | refine GC.block ?_ | refine GC.exit ?_ | refine GC.ret ?_ | refine GQ.goExit ?_ | refine GQ.goRet ?_ | refine GQ.inNormal ?_ | refine GQ.inExit ?_ | refine GQ.inExitNe rfl ?_ | refine GQ.inRet ?_ | refine GQ.loopExit ?_ | refine GQ.loopRet ?_ | refine GQ.cutExit ?_ | refine GQ.cutRet ?_))
  refine GC.cut (X := Bool) (fun z => [(0, .slice a l.length c), (4, .slice la j.xs.length lc), (5, .int .u32 (sumOf j.data)), (6, .int .i64 j.data.length), (14, .pointer (some ⟨b10, 0, none⟩)), (15, .slice ra (recJ (sumOf j.data) (tm, cm)).length rc), (84, .bool z)])
    (fun z w' => Ext w11 w' ∧ if z then stepJ l j = none else canR (tm, cm) = true ∧ stepJ l j = some (plusJ j (tm, cm))) ?_ ?_
  · refine GC.regionD (.pure 0 (.pure 1 (.pure 2 (.pure 3 (.pure 4 (.pure 5 (.pure 6 (.pure 7 (.pure 8 (.pure 9 (.pure 10 (.pure 11 (.pure 12 (.pure 13 (.pure 14 (.pure 16 (.pure 17 (.pure 18 (.pure 19 (.read 15 (.read 20 (.pure 21 (.pure 22 (.pure 23 (.pure 24 (.pure 25 (.pure 26 (.pure 27 (.pure 28 (.pure 29 .done)))))))))))))))))))))))))))))) (fun _ => False) mixed (by kernel_rfl) (by kernel_rfl) ?_
    intro w12 _ hE12
    have hS : Mod (fun _ => False) w11 w12 := hE12
    (refine GX.pure rfl ?_; first | refine GO.move rfl rfl rfl rfl ?_ | refine GO.lenSlice rfl rfl rfl rfl ?_ | refine GO.gtr rfl rfl rfl rfl rfl ?_ | refine GO.neq rfl rfl rfl rfl rfl ?_ | refine GO.pickT rfl rfl rfl rfl rfl ?_ | refine GO.pickF rfl rfl rfl rfl rfl ?_ | refine GO.not rfl rfl rfl rfl ?_ | refine GO.strNeq rfl rfl rfl rfl rfl ?_ | refine GO.add rfl rfl rfl rfl rfl (wrapIn (by dsimp only [InK]; omega)) ?_ | refine GO.conv rfl rfl rfl rfl (wrapIn (by dsimp only [InK]; omega)) ?_ | refine GO.convStr rfl rfl rfl rfl ?_ | refine GO.skip (.inl rfl) rfl rfl ?_)
    (refine GX.pure rfl ?_; first | refine GO.move rfl rfl rfl rfl ?_ | refine GO.lenSlice rfl rfl rfl rfl ?_ | refine GO.gtr rfl rfl rfl rfl rfl ?_ | refine GO.neq rfl rfl rfl rfl rfl ?_ | refine GO.pickT rfl rfl rfl rfl rfl ?_ | refine GO.pickF rfl rfl rfl rfl rfl ?_ | refine GO.not rfl rfl rfl rfl ?_ | refine GO.strNeq rfl rfl rfl rfl rfl ?_ | refine GO.add rfl rfl rfl rfl rfl (wrapIn (by dsimp only [InK]; omega)) ?_ | refine GO.conv rfl rfl rfl rfl (wrapIn (by dsimp only [InK]; omega)) ?_ | refine GO.convStr rfl rfl rfl rfl ?_ | refine GO.skip (.inl rfl) rfl rfl ?_)
    (refine GX.pure rfl ?_; first | refine GO.move rfl rfl rfl rfl ?_ | refine GO.lenSlice rfl rfl rfl rfl ?_ | refine GO.gtr rfl rfl rfl rfl rfl ?_ | refine GO.neq rfl rfl rfl rfl rfl ?_ | refine GO.pickT rfl rfl rfl rfl rfl ?_ | refine GO.pickF rfl rfl rfl rfl rfl ?_ | refine GO.not rfl rfl rfl rfl ?_ | refine GO.strNeq rfl rfl rfl rfl rfl ?_ | refine GO.add rfl rfl rfl rfl rfl (wrapIn (by dsimp only [InK]; omega)) ?_ | refine GO.conv rfl rfl rfl rfl (wrapIn (by dsimp only [InK]; omega)) ?_ | refine GO.convStr rfl rfl rfl rfl ?_ | refine GO.skip (.inl rfl) rfl rfl ?_)
    refine GX.case 57 rfl (fun g1 => ?_) (fun g1 => ?_)
    · have g1' := of_decide_eq_true g1
      (repeat (first | (refine GX.pure rfl ?_; first | refine GO.move rfl rfl rfl rfl ?_ | refine GO.lenSlice rfl rfl rfl rfl ?_ | refine GO.gtr rfl rfl rfl rfl rfl ?_ | refine GO.neq rfl rfl rfl rfl rfl ?_ | refine GO.pickT rfl rfl rfl rfl rfl ?_ | refine GO.pickF rfl rfl rfl rfl rfl ?_ | refine GO.not rfl rfl rfl rfl ?_ | refine GO.strNeq rfl rfl rfl rfl rfl ?_ | refine GO.add rfl rfl rfl rfl rfl (wrapIn (by dsimp only [InK]; omega)) ?_ | refine GO.conv rfl rfl rfl rfl (wrapIn (by dsimp only [InK]; omega)) ?_ | refine GO.convStr rfl rfl rfl rfl ?_ | refine GO.skip (.inl rfl) rfl rfl ?_) | (refine GX.eff rfl ?_; refine GO.skip (.inr rfl) rfl rfl ?_) | (refine GX.read rfl ?_; refine GO.skipRead (by assumption) rfl rfl ?_)))
      (repeat (first | refine GX.doneD ?_ | refine GX.done ?_ | refine GQ.goNormal ?_ | refine GC.seq ?_ | refine GC.skip ?_ | refine GC.block ?_ | refine GC.exit ?_ | refine GC.ret ?_ | refine GQ.goExit ?_ | refine GQ.goRet ?_ | refine GQ.inNormal ?_ | refine GQ.inExit ?_ | refine GQ.inExitNe rfl ?_ | refine GQ.inRet ?_ | refine GQ.loopExit ?_ | refine GQ.loopRet ?_ | refine GQ.cutExit ?_ | refine GQ.cutRet ?_))
      refine GQ.cutNormal true (sub_pick (l := [0, 4, 5, 6, 14, 15, 84]) rfl) ⟨hE12, ?_⟩
      exact hnone (by rw [hN, if_pos g1'])
    have g1' := of_decide_eq_false g1
    rw [if_neg g1'] at hN
    (repeat (refine GX.pure rfl ?_; first | refine GO.move rfl rfl rfl rfl ?_ | refine GO.lenSlice rfl rfl rfl rfl ?_ | refine GO.gtr rfl rfl rfl rfl rfl ?_ | refine GO.neq rfl rfl rfl rfl rfl ?_ | refine GO.pickT rfl rfl rfl rfl rfl ?_ | refine GO.pickF rfl rfl rfl rfl rfl ?_ | refine GO.not rfl rfl rfl rfl ?_ | refine GO.strNeq rfl rfl rfl rfl rfl ?_ | refine GO.add rfl rfl rfl rfl rfl (wrapIn (by dsimp only [InK]; omega)) ?_ | refine GO.conv rfl rfl rfl rfl (wrapIn (by dsimp only [InK]; omega)) ?_ | refine GO.convStr rfl rfl rfl rfl ?_ | refine GO.skip (.inl rfl) rfl rfl ?_))
    have hno1 := hno _ hN
    have hyes1 := hyes _ hN
    have herr := errJ_iff (j := j) (x := (tm, cm))
    have hfullD : fullJ j (recJ (sumOf j.data) (tm, cm)) ↔ (4096 ≤ j.ends.length ∨ 4194304 < j.data.length + (recJ (sumOf j.data) (tm, cm)).length) := Iff.rfl
    refine GX.case 61 rfl (fun g2 => ?_) (fun g2 => ?_)
    · have g2' : canR (tm, cm) = false := by simpa using g2
      (repeat (first | (refine GX.pure rfl ?_; first | refine GO.move rfl rfl rfl rfl ?_ | refine GO.lenSlice rfl rfl rfl rfl ?_ | refine GO.gtr rfl rfl rfl rfl rfl ?_ | refine GO.neq rfl rfl rfl rfl rfl ?_ | refine GO.pickT rfl rfl rfl rfl rfl ?_ | refine GO.pickF rfl rfl rfl rfl rfl ?_ | refine GO.not rfl rfl rfl rfl ?_ | refine GO.strNeq rfl rfl rfl rfl rfl ?_ | refine GO.add rfl rfl rfl rfl rfl (wrapIn (by dsimp only [InK]; omega)) ?_ | refine GO.conv rfl rfl rfl rfl (wrapIn (by dsimp only [InK]; omega)) ?_ | refine GO.convStr rfl rfl rfl rfl ?_ | refine GO.skip (.inl rfl) rfl rfl ?_) | (refine GX.eff rfl ?_; refine GO.skip (.inr rfl) rfl rfl ?_) | (refine GX.read rfl ?_; refine GO.skipRead (by assumption) rfl rfl ?_)))
      (repeat (first | refine GX.doneD ?_ | refine GX.done ?_ | refine GQ.goNormal ?_ | refine GC.seq ?_ | refine GC.skip ?_ | refine GC.block ?_ | refine GC.exit ?_ | refine GC.ret ?_ | refine GQ.goExit ?_ | refine GQ.goRet ?_ | refine GQ.inNormal ?_ | refine GQ.inExit ?_ | refine GQ.inExitNe rfl ?_ | refine GQ.inRet ?_ | refine GQ.loopExit ?_ | refine GQ.loopRet ?_ | refine GQ.cutExit ?_ | refine GQ.cutRet ?_))
      refine GQ.cutNormal true (sub_pick (l := [0, 4, 5, 6, 14, 15, 84]) rfl) ⟨hE12, ?_⟩
      exact hno1 (fun h => (herr.1 h.1).1 (by rw [recJ_cannot g2']; rfl))
    have g2' : canR (tm, cm) = true := by simpa using g2
    have hpos : (recJ (sumOf j.data) (tm, cm)).length ≠ 0 := by rw [recJ_can g2']; simp [sumB]
    have hrdef := (recJ_can (s := sumOf j.data) g2')
    generalize recJ (sumOf j.data) (tm, cm) = r at *
    (repeat (refine GX.pure rfl ?_; first | refine GO.move rfl rfl rfl rfl ?_ | refine GO.lenSlice rfl rfl rfl rfl ?_ | refine GO.gtr rfl rfl rfl rfl rfl ?_ | refine GO.neq rfl rfl rfl rfl rfl ?_ | refine GO.pickT rfl rfl rfl rfl rfl ?_ | refine GO.pickF rfl rfl rfl rfl rfl ?_ | refine GO.not rfl rfl rfl rfl ?_ | refine GO.strNeq rfl rfl rfl rfl rfl ?_ | refine GO.add rfl rfl rfl rfl rfl (wrapIn (by dsimp only [InK]; omega)) ?_ | refine GO.conv rfl rfl rfl rfl (wrapIn (by dsimp only [InK]; omega)) ?_ | refine GO.convStr rfl rfl rfl rfl ?_ | refine GO.skip (.inl rfl) rfl rfl ?_))
    refine GX.case 68 rfl (fun g3 => ?_) (fun g3 => ?_)
    · have g3' := of_decide_eq_true g3
      (repeat (first | (refine GX.pure rfl ?_; first | refine GO.move rfl rfl rfl rfl ?_ | refine GO.lenSlice rfl rfl rfl rfl ?_ | refine GO.gtr rfl rfl rfl rfl rfl ?_ | refine GO.neq rfl rfl rfl rfl rfl ?_ | refine GO.pickT rfl rfl rfl rfl rfl ?_ | refine GO.pickF rfl rfl rfl rfl rfl ?_ | refine GO.not rfl rfl rfl rfl ?_ | refine GO.strNeq rfl rfl rfl rfl rfl ?_ | refine GO.add rfl rfl rfl rfl rfl (wrapIn (by dsimp only [InK]; omega)) ?_ | refine GO.conv rfl rfl rfl rfl (wrapIn (by dsimp only [InK]; omega)) ?_ | refine GO.convStr rfl rfl rfl rfl ?_ | refine GO.skip (.inl rfl) rfl rfl ?_) | (refine GX.eff rfl ?_; refine GO.skip (.inr rfl) rfl rfl ?_) | (refine GX.read rfl ?_; refine GO.skipRead (by assumption) rfl rfl ?_)))
      (repeat (first | refine GX.doneD ?_ | refine GX.done ?_ | refine GQ.goNormal ?_ | refine GC.seq ?_ | refine GC.skip ?_ | refine GC.block ?_ | refine GC.exit ?_ | refine GC.ret ?_ | refine GQ.goExit ?_ | refine GQ.goRet ?_ | refine GQ.inNormal ?_ | refine GQ.inExit ?_ | refine GQ.inExitNe rfl ?_ | refine GQ.inRet ?_ | refine GQ.loopExit ?_ | refine GQ.loopRet ?_ | refine GQ.cutExit ?_ | refine GQ.cutRet ?_))
      refine GQ.cutNormal true (sub_pick (l := [0, 4, 5, 6, 14, 15, 84]) rfl) ⟨hE12, ?_⟩
      exact hno1 (fun h => by have := h.2.length_le; omega)
    have g3' := of_decide_eq_false g3
    (repeat (refine GX.pure rfl ?_; first | refine GO.move rfl rfl rfl rfl ?_ | refine GO.lenSlice rfl rfl rfl rfl ?_ | refine GO.gtr rfl rfl rfl rfl rfl ?_ | refine GO.neq rfl rfl rfl rfl rfl ?_ | refine GO.pickT rfl rfl rfl rfl rfl ?_ | refine GO.pickF rfl rfl rfl rfl rfl ?_ | refine GO.not rfl rfl rfl rfl ?_ | refine GO.strNeq rfl rfl rfl rfl rfl ?_ | refine GO.add rfl rfl rfl rfl rfl (wrapIn (by dsimp only [InK]; omega)) ?_ | refine GO.conv rfl rfl rfl rfl (wrapIn (by dsimp only [InK]; omega)) ?_ | refine GO.convStr rfl rfl rfl rfl ?_ | refine GO.skip (.inl rfl) rfl rfl ?_))
    have hcapS := hsl11.cap
    refine GX.pure rfl ?_
    refine GO.sliceS rfl rfl rfl rfl (bounds_h (by omega) (by omega)) ⟨by simp, by simp; rfl, by simp⟩ ?_
    have e3 : ((r.length : Nat) : Int).toNat = r.length := by omega
    rw [e3]
    have hpart := hsl11.cells.bytes 0 (c - j.data.length) r.length (by omega)
    rw [List.drop_zero] at hpart
    have htk : (rest.take r.length).length = r.length - 0 := by rw [List.length_take]; omega
    refine GX.read rfl ?_
    refine GO.toStrR' (l := r) (by assumption) (fun w' hw' => hB11.cells.ext hw') rfl rfl rfl rfl ?_
    refine GX.read rfl ?_
    refine GO.toStrR' (l := rest.take r.length) (by assumption) (fun w' hw' => hpart.ext hw') htk rfl rfl rfl ?_
    (repeat (refine GX.pure rfl ?_; first | refine GO.move rfl rfl rfl rfl ?_ | refine GO.lenSlice rfl rfl rfl rfl ?_ | refine GO.gtr rfl rfl rfl rfl rfl ?_ | refine GO.neq rfl rfl rfl rfl rfl ?_ | refine GO.pickT rfl rfl rfl rfl rfl ?_ | refine GO.pickF rfl rfl rfl rfl rfl ?_ | refine GO.not rfl rfl rfl rfl ?_ | refine GO.strNeq rfl rfl rfl rfl rfl ?_ | refine GO.add rfl rfl rfl rfl rfl (wrapIn (by dsimp only [InK]; omega)) ?_ | refine GO.conv rfl rfl rfl rfl (wrapIn (by dsimp only [InK]; omega)) ?_ | refine GO.convStr rfl rfl rfl rfl ?_ | refine GO.skip (.inl rfl) rfl rfl ?_))
    refine GX.case 78 rfl (fun g4 => ?_) (fun g4 => ?_)
    · have g4' : ¬ r = rest.take r.length := fun h => (of_decide_eq_true g4) (strB_inj.2 h)
      (repeat (first | (refine GX.pure rfl ?_; first | refine GO.move rfl rfl rfl rfl ?_ | refine GO.lenSlice rfl rfl rfl rfl ?_ | refine GO.gtr rfl rfl rfl rfl rfl ?_ | refine GO.neq rfl rfl rfl rfl rfl ?_ | refine GO.pickT rfl rfl rfl rfl rfl ?_ | refine GO.pickF rfl rfl rfl rfl rfl ?_ | refine GO.not rfl rfl rfl rfl ?_ | refine GO.strNeq rfl rfl rfl rfl rfl ?_ | refine GO.add rfl rfl rfl rfl rfl (wrapIn (by dsimp only [InK]; omega)) ?_ | refine GO.conv rfl rfl rfl rfl (wrapIn (by dsimp only [InK]; omega)) ?_ | refine GO.convStr rfl rfl rfl rfl ?_ | refine GO.skip (.inl rfl) rfl rfl ?_) | (refine GX.eff rfl ?_; refine GO.skip (.inr rfl) rfl rfl ?_) | (refine GX.read rfl ?_; refine GO.skipRead (by assumption) rfl rfl ?_)))
      (repeat (first | refine GX.doneD ?_ | refine GX.done ?_ | refine GQ.goNormal ?_ | refine GC.seq ?_ | refine GC.skip ?_ | refine GC.block ?_ | refine GC.exit ?_ | refine GC.ret ?_ | refine GQ.goExit ?_ | refine GQ.goRet ?_ | refine GQ.inNormal ?_ | refine GQ.inExit ?_ | refine GQ.inExitNe rfl ?_ | refine GQ.inRet ?_ | refine GQ.loopExit ?_ | refine GQ.loopRet ?_ | refine GQ.cutExit ?_ | refine GQ.cutRet ?_))
      refine GQ.cutNormal true (sub_pick (l := [0, 4, 5, 6, 14, 15, 84]) rfl) ⟨hE12, ?_⟩
      exact hno1 (fun h => g4' (List.prefix_iff_eq_take.1 h.2))
    have g4' : r <+: rest := List.prefix_iff_eq_take.2 (by have := of_decide_eq_false g4; simpa [strB_inj] using this)
    (repeat (refine GX.pure rfl ?_; first | refine GO.move rfl rfl rfl rfl ?_ | refine GO.lenSlice rfl rfl rfl rfl ?_ | refine GO.gtr rfl rfl rfl rfl rfl ?_ | refine GO.neq rfl rfl rfl rfl rfl ?_ | refine GO.pickT rfl rfl rfl rfl rfl ?_ | refine GO.pickF rfl rfl rfl rfl rfl ?_ | refine GO.not rfl rfl rfl rfl ?_ | refine GO.strNeq rfl rfl rfl rfl rfl ?_ | refine GO.add rfl rfl rfl rfl rfl (wrapIn (by dsimp only [InK]; omega)) ?_ | refine GO.conv rfl rfl rfl rfl (wrapIn (by dsimp only [InK]; omega)) ?_ | refine GO.convStr rfl rfl rfl rfl ?_ | refine GO.skip (.inl rfl) rfl rfl ?_))
    by_cases g5 : 4194304 < j.data.length + r.length
    · have g5' : decide ((4194304 : Int) < (j.data.length : Int) + r.length) = true := decide_eq_true (by omega)
      rw [g5']
      (repeat (first | refine GX.doneD ?_ | refine GX.done ?_ | refine GQ.goNormal ?_ | refine GC.seq ?_ | refine GC.skip ?_ | refine GC.block ?_ | refine GC.exit ?_ | refine GC.ret ?_ | refine GQ.goExit ?_ | refine GQ.goRet ?_ | refine GQ.inNormal ?_ | refine GQ.inExit ?_ | refine GQ.inExitNe rfl ?_ | refine GQ.inRet ?_ | refine GQ.loopExit ?_ | refine GQ.loopRet ?_ | refine GQ.cutExit ?_ | refine GQ.cutRet ?_))
      refine GQ.cutNormal true (sub_pick (l := [0, 4, 5, 6, 14, 15, 84]) rfl) ⟨hE12, ?_⟩
      exact hno1 (fun h => (herr.1 h.1).2 (hfullD.2 (.inr g5)))
    · have g5' : decide ((4194304 : Int) < (j.data.length : Int) + r.length) = false := decide_eq_false (by omega)
      rw [g5']
      (repeat (first | refine GX.doneD ?_ | refine GX.done ?_ | refine GQ.goNormal ?_ | refine GC.seq ?_ | refine GC.skip ?_ | refine GC.block ?_ | refine GC.exit ?_ | refine GC.ret ?_ | refine GQ.goExit ?_ | refine GQ.goRet ?_ | refine GQ.inNormal ?_ | refine GQ.inExit ?_ | refine GQ.inExitNe rfl ?_ | refine GQ.inRet ?_ | refine GQ.loopExit ?_ | refine GQ.loopRet ?_ | refine GQ.cutExit ?_ | refine GQ.cutRet ?_))
      refine GQ.cutNormal false (sub_pick (l := [0, 4, 5, 6, 14, 15, 84]) rfl) ⟨hE12, ?_⟩
      exact ⟨g2', hyes1 ⟨herr.2 ⟨hpos, fun h => by rcases hfullD.1 h with h | h <;> omega⟩, g4'⟩⟩
  rintro z w12 ⟨hE12, hz⟩
  have hE212 := (hE210.trans hE11).trans hE12
  have hS12 : RdS w l (j, la, lc) w12 := ⟨ol, cells, hO.ext hE212, hb, hf, EntsF.mod hE212 (fun _ _ _ h => h) hX, hE.trans hE212, hok, hst⟩
  (repeat (first | refine GX.doneD ?_ | refine GX.done ?_ | refine GQ.goNormal ?_ | refine GC.seq ?_ | refine GC.skip ?_ | refine GC.block ?_ | refine GC.exit ?_ | refine GC.ret ?_ | refine GQ.goExit ?_ | refine GQ.goRet ?_ | refine GQ.inNormal ?_ | refine GQ.inExit ?_ | refine GQ.inExitNe rfl ?_ | refine GQ.inRet ?_ | refine GQ.loopExit ?_ | refine GQ.loopRet ?_ | refine GQ.cutExit ?_ | refine GQ.cutRet ?_))
  refine GC.cond rfl (fun hzz => ?_) (fun hzz => ?_)
  · have hz2 : z = true := hzz
    subst hz2
    have hz3 : stepJ l j = none := hz
    (repeat (first | refine GX.doneD ?_ | refine GX.done ?_ | refine GQ.goNormal ?_ | refine GC.seq ?_ | refine GC.skip ?_ | refine GC.block ?_ | refine GC.exit ?_ | refine GC.ret ?_ | refine GQ.goExit ?_ | refine GQ.goRet ?_ | refine GQ.inNormal ?_ | refine GQ.inExit ?_ | refine GQ.inExitNe rfl ?_ | refine GQ.inRet ?_ | refine GQ.loopExit ?_ | refine GQ.loopRet ?_ | refine GQ.cutExit ?_ | refine GQ.cutRet ?_))
    exact GQ.cutNormal (j, la, lc) (sub_pick (l := [4, 6]) rfl) ⟨hS12, hz3⟩
  have hz2 : z = false := hzz
  subst hz2
  obtain ⟨hcan, hsome⟩ : canR (tm, cm) = true ∧ stepJ l j = some (plusJ j (tm, cm)) := hz
  obtain ⟨hk1, hk2⟩ := hstok _ hsome
  have hrec := recJ_can (s := sumOf j.data) hcan
  have hsum := sumOf_plus (j := j) hcan
  have hdata : (plusJ j (tm, cm)).data.length = j.data.length + (recJ (sumOf j.data) (tm, cm)).length := by show (j.data ++ recJ (sumOf j.data) (tm, cm)).length = _; simp
  have hxs : (plusJ j (tm, cm)).xs = j.xs ++ [(tm, cm)] := rfl
  have hkd := hk1.data.length_le
  generalize plusJ j (tm, cm) = jj at *
  obtain ⟨kd, ke, kx⟩ := jj
  dsimp only at hxs hdata hsum hkd
  subst hxs
  have hB12 := hB11.ext hE12
  have hrecl : (recJ (sumOf j.data) (tm, cm)).length = (recHead (tm, cm)).length + 4 := by rw [hrec]; simp [sumB]
  have htake : (recJ (sumOf j.data) (tm, cm)).take (recHead (tm, cm)).length = recHead (tm, cm) := by rw [hrec, List.take_left]
  generalize recJ (sumOf j.data) (tm, cm) = r at *
  generalize recHead (tm, cm) = hd at *
  (repeat (first | refine GX.doneD ?_ | refine GX.done ?_ | refine GQ.goNormal ?_ | refine GC.seq ?_ | refine GC.skip ?_ | refine GC.block ?_ | refine GC.exit ?_ | refine GC.ret ?_ | refine GQ.goExit ?_ | refine GQ.goRet ?_ | refine GQ.inNormal ?_ | refine GQ.inExit ?_ | refine GQ.inExitNe rfl ?_ | refine GQ.inRet ?_ | refine GQ.loopExit ?_ | refine GQ.loopRet ?_ | refine GQ.cutExit ?_ | refine GQ.cutRet ?_))
  refine GC.region (.pure 0 (.pure 1 (.pure 2 (.pure 3 (.pure 4 (.pure 5 (.eff 6 (.pure 7 .done)))))))) rfl ?_
  (repeat (refine GX.pure rfl ?_; first | refine GO.move rfl rfl rfl rfl ?_ | refine GO.assign rfl rfl rfl rfl ?_ | refine GO.lenSlice rfl rfl rfl rfl ?_ | refine GO.sub rfl rfl rfl rfl rfl (wrapIn (by dsimp only [InK]; omega)) ?_))
  refine GX.pure rfl ?_
  refine GO.sliceS rfl rfl rfl rfl (bounds_h (by omega) (by omega)) ⟨by simp, by simp; rfl, by simp⟩ ?_
  have e4 : ((r.length : Int) - 4).toNat - 0 = hd.length := by omega
  rw [e4]
  have hpart := hB12.cells.bytes 0 rc hd.length (by omega)
  rw [List.drop_zero, htake] at hpart
  (refine GX.eff rfl ?_; refine GO.callL rfl rfl rfl rfl rfl (sumL_ret (sumOf j.data) (sumOf_lt _) hd (by omega) _ _ w12 hpart) ?_)
  rintro v w13 ⟨rfl, rfl⟩
  refine ⟨fun _ h => by first | trivial | exact Mod.trans h (Ext.mod (by assumption)), ?_⟩
  (repeat (refine GX.pure rfl ?_; first | refine GO.move rfl rfl rfl rfl ?_ | refine GO.assign rfl rfl rfl rfl ?_ | refine GO.lenSlice rfl rfl rfl rfl ?_ | refine GO.sub rfl rfl rfl rfl rfl (wrapIn (by dsimp only [InK]; omega)) ?_))
  (repeat (first | refine GX.doneD ?_ | refine GX.done ?_ | refine GQ.goNormal ?_ | refine GC.seq ?_ | refine GC.skip ?_ | refine GC.block ?_ | refine GC.exit ?_ | refine GC.ret ?_ | refine GQ.goExit ?_ | refine GQ.goRet ?_ | refine GQ.inNormal ?_ | refine GQ.inExit ?_ | refine GQ.inExitNe rfl ?_ | refine GQ.inRet ?_ | refine GQ.loopExit ?_ | refine GQ.loopRet ?_ | refine GQ.cutExit ?_ | refine GQ.cutRet ?_))
  have hE1012 := hE11.trans hE12
  refine GC.region (.pure 0 (.eff 1 (.eff 2 (.eff 3 (.pure 4 (.pure 5 (.pure 6 (.pure 7 (.pure 8 (.pure 9 .done)))))))))) rfl ?_
  (repeat (refine GX.pure rfl ?_; first | refine GO.move rfl rfl rfl rfl ?_ | refine GO.assign rfl rfl rfl rfl ?_ | refine GO.lenSlice rfl rfl rfl rfl ?_ | refine GO.add rfl rfl rfl rfl rfl (wrapIn (by dsimp only [InK]; omega)) ?_))
  (first | (refine GX.eff rfl ?_; first | refine GO.load1 ((hA10.ext hE1012).at) rfl rfl rfl ?_ | refine GO.loadN ((hA10.ext hE1012).at) rfl rfl rfl rfl ?_) | (refine GX.read rfl ?_; first | refine GO.load1R (by assumption) (fun _ hS_ => At.mod ((hA10.ext hE1012).at) hS_ (by simp)) rfl rfl rfl ?_ | refine GO.loadNR (by assumption) (fun _ hS_ => At.mod ((hA10.ext hE1012).at) hS_ (by simp)) rfl rfl rfl rfl ?_))
  refine GX.eff rfl ?_
  refine GO.buildSlice (out := .int .u64 tm :: cmdCells cm ka kc va vc ta tc) (by kernel_rfl) (by decide) rfl rfl rfl (by simp [cmdCells]) rfl fun b14 w14 hb14 hO14 hE14 => ?_
  refine ⟨fun _ h => by first | trivial | exact Mod.trans h (Ext.mod (by assumption)), ?_⟩
  have hcl2 := EntsF.length hX
  refine GX.eff rfl ?_
  refine GO.append (m := 1) ((hO.ext hE212).ext hE14) hO14.sla (by simp [cmdCells]) (by simp [Value.oneCell', cmdCells, str]) (by omega) (by omega) rfl rfl rfl rfl rfl fun ol' la' lc' w15 hO15 hM15 hF15 hG15 => ?_
  refine ⟨fun _ h => by first | trivial | exact Mod.trans h (Ext.mod (by assumption)), ?_⟩
  (repeat (refine GX.pure rfl ?_; first | refine GO.move rfl rfl rfl rfl ?_ | refine GO.assign rfl rfl rfl rfl ?_ | refine GO.lenSlice rfl rfl rfl rfl ?_ | refine GO.add rfl rfl rfl rfl rfl (wrapIn (by dsimp only [InK]; omega)) ?_))
  (repeat (first | refine GX.doneD ?_ | refine GX.done ?_ | refine GQ.goNormal ?_ | refine GC.seq ?_ | refine GC.skip ?_ | refine GC.block ?_ | refine GC.exit ?_ | refine GC.ret ?_ | refine GQ.goExit ?_ | refine GQ.goRet ?_ | refine GQ.inNormal ?_ | refine GQ.inExit ?_ | refine GQ.inExitNe rfl ?_ | refine GQ.inRet ?_ | refine GQ.loopExit ?_ | refine GQ.loopRet ?_ | refine GQ.cutExit ?_ | refine GQ.cutRet ?_))
  have s11 := hE11.size
  have s12 := hE12.size
  have s14 := hE14.size
  have sE := hE.size
  have s210 := hE210.size
  have hlo : ∀ k, ol = some k → k < w2.heap.size := fun k hk => by subst hk; exact hO.block.2
  have hfo : ∀ k, ol' = some k → w.heap.size ≤ k := fun k hk => by
    rcases hF15 k hk with h | h
    · exact hf k h
    · omega
  refine GQ.again (⟨kd, ke, j.xs ++ [(tm, cm)]⟩, la', lc') (sub_pick (l := [0, 4, 5, 6]) (by rw [hsum, hdata, List.length_append]; rfl)) ⟨ol', cells ++ .int .u64 tm :: cmdCells cm ka kc va vc ta tc, ?_, fun k hk => ?_, hfo, ?_, ?_, hk1, .step hst hsome⟩ (by dsimp only at hk2 ⊢; omega)
  · rw [List.length_append]
    exact hO15
  · rcases hG15 k hk with h | ⟨h, h'⟩
    · exact h
    · rw [h']; exact hb k h
  · refine EntsF.snoc (x := (tm, cm)) (b := .int .u64 tm :: cmdCells cm ka kc va vc ta tc) ⟨_, rfl, ?_⟩ ?_
    · obtain ⟨_, hq1, hq2⟩ := hV10
      cases hq1
      have hq3 : CmdF w13 (fun k => w2.heap.size ≤ k ∧ k < w10.heap.size) _ cm := (hq2.f.mono (G := fun k => w2.heap.size ≤ k ∧ k < w10.heap.size) (fun k hk hk' => ⟨hk', hk⟩)).mod hE1012 (fun _ _ _ h => h)
      refine ((hq3.mod hE14 (fun _ _ _ h => h)).mod hM15 (fun k hk hk' h => ?_)).mono (fun k hk hk' => ⟨by omega, fun h => ?_⟩)
      · have := hlo k h.symm; omega
      · rcases hF15 k h with h | h
        · have := hlo k h; omega
        · omega
    · refine EntsF.mono (fun k hk hk' => ⟨hk'.1.1, fun h => ?_⟩) (EntsF.mod hM15 (fun k hk hk' h => hk'.1.2 h.symm) (EntsF.mod (hE212.trans hE14) (fun _ _ _ h => h) (EntsF.mono (G := fun k => (w.heap.size ≤ k ∧ ol ≠ some k) ∧ k < w2.heap.size) (fun k hk hk' => ⟨hk', hk⟩) hX)))
      rcases hF15 k h with h | h
      · exact hk'.1.2 h
      · omega
  · exact (hE.trans (hE212.trans hE14)).then hM15 (fun i hi h => by have := hf i h.symm; omega)
end Go.Proofs.Ytahkglanddhncaa.V
