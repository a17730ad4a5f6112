/-
  What the law's comparison of the readers computes, and the law on any bytes. Conditions: there are fewer than 2^21 bytes.
-/
import Derived.Test.YtahkglanddhncaaYm
namespace Go.Proofs.Ytahkglanddhncaa.V
attribute [local irreducible] GX GO

/-- A slice of its own that holds something lies at the start of a block. -/
theorem OwnS.here {w : World} {el sz : Nat} {ob : Option Nat} {a : Option Addr} {len cap : Nat} {cs : List Value} (h : OwnS w el sz ob a len cap cs) (hG : ∀ x, a = some x → ob = some x.block) (hl : 0 < cs.length) :
    ∃ b ext, a = some ⟨b, 0, none⟩ ∧ ob = some b ∧ Blk w b (cs ++ ext) := by
  obtain ⟨b, o, ha, _⟩ := h.sla.of_pos hl
  have hob := hG _ ha
  dsimp only at hob
  subst hob
  obtain ⟨ha', hbl⟩ := h.block
  obtain ⟨ext, hrow⟩ := h.row
  exact ⟨b, ext, ha', rfl, hrow⟩

theorem bytes_one (m : List UInt8) (k : Nat) (x : UInt8) (ext : List Value) (hk : k < m.length) : (bytesV m ++ ext).take k ++ [byteV x] ++ (bytesV m ++ ext).drop (k + 1) = bytesV (m.set k x) ++ ext := by
  have h1 : k ≤ (bytesV m).length := by simp; omega
  have h2 : k + 1 ≤ (bytesV m).length := by simp; omega
  rw [List.take_append_of_le_length h1, List.drop_append_of_le_length h2]
  have h3 : bytesV (m.set k x) = (bytesV m).set k (byteV x) := by simp [bytesV, List.map_set]
  rw [h3, List.set_eq_take_append_cons_drop, if_pos (by simp; omega)]
  simp

theorem inc_u8 (n : UInt8) : IntKind.u8.wrap ((n.toNat : Int) + 1) = ((n + 1).toNat : Int) := by
  have h1 := UInt8.toNat_lt n
  rw [wrapU8]
  have : (n + 1).toNat = (n.toNat + 1) % 256 := by simp [UInt8.toNat_add]
  rw [this]
  omega

set_option maxHeartbeats 8000000 in
theorem right_ret (l : List UInt8) (n : Nat) (hn : l.length = n) (hl : l.length < 2 ^ 21) (a : Option Addr) (c : Nat) (w : World) (hA : BytesAt w a c l) :
    Ret Try.prog 8 [.slice a n c].toArray w fun v w' => v = .bool true ∧ Ext w w' := by
  subst hn
  have hcap := hA.cap
  
  refine Ret.enter Try.func8 rfl Try.ntmps8 rfl ?_
  (repeat (first | refine GX.doneD ?_ | refine GX.done ?_ | refine GQ.goNormal ?_ | refine GC.seq ?_ | refine GC.skip ?_ | refine GC.block ?_ | refine GC.exit ?_ | refine GC.ret ?_ | refine GQ.goExit ?_ | refine GQ.goRet ?_ | refine GQ.inNormal ?_ | refine GQ.inExit ?_ | refine GQ.inExitNe rfl ?_ | refine GQ.inRet ?_ | refine GQ.loopExit ?_ | refine GQ.loopRet ?_ | refine GQ.cutExit ?_ | refine GQ.cutRet ?_))
  refine GC.region (.pure 0 .done) rfl ?_
  (repeat (refine GX.pure rfl ?_; refine GO.assign rfl rfl rfl rfl ?_))
  (repeat (first | refine GX.doneD ?_ | refine GX.done ?_ | refine GQ.goNormal ?_ | refine GC.seq ?_ | refine GC.skip ?_ | refine GC.block ?_ | refine GC.exit ?_ | refine GC.ret ?_ | refine GQ.goExit ?_ | refine GQ.goRet ?_ | refine GQ.inNormal ?_ | refine GQ.inExit ?_ | refine GQ.inExitNe rfl ?_ | refine GQ.inRet ?_ | refine GQ.loopExit ?_ | refine GQ.loopRet ?_ | refine GQ.cutExit ?_ | refine GQ.cutRet ?_))
  refine GC.region (.pure 0 (.eff 1 (.pure 2 .done))) rfl ?_
  (repeat (refine GX.pure rfl ?_; first | refine GO.move rfl rfl rfl rfl ?_ | refine GO.assign rfl rfl rfl rfl ?_))
  refine GX.eff rfl ?_
  refine GO.append (m := l.length) (OwnS.nil w 5 1) hA.cells (by simp) (bytesV_one l) (by omega) (by omega) rfl rfl rfl rfl rfl fun ob a1 c1 w1 hO1 hM1 hF1 hG1 => ?_
  refine ⟨fun _ h => by first | trivial | exact Mod.trans h (Ext.mod (by assumption)), ?_⟩
  have hE1 : Ext w w1 := hM1.weaken (fun k _ h => by cases h)
  rw [List.nil_append, Nat.zero_add] at hO1
  rw [Nat.zero_add]
  have hG1' : ∀ x, a1 = some x → ob = some x.block := fun x hx => by
    rcases hG1 x hx with h | ⟨h, _⟩
    · exact h
    · cases h
  have hF1' : ∀ x, ob = some x → w.heap.size ≤ x := fun x hx => by
    rcases hF1 x hx with h | h
    · cases h
    · exact h
  have hB1 := hO1.bytes hG1'
  (repeat (refine GX.pure rfl ?_; first | refine GO.move rfl rfl rfl rfl ?_ | refine GO.assign rfl rfl rfl rfl ?_))
  (repeat (first | refine GX.doneD ?_ | refine GX.done ?_ | refine GQ.goNormal ?_ | refine GC.seq ?_ | refine GC.skip ?_ | refine GC.block ?_ | refine GC.exit ?_ | refine GC.ret ?_ | refine GQ.goExit ?_ | refine GQ.goRet ?_ | refine GQ.inNormal ?_ | refine GQ.inExit ?_ | refine GQ.inExitNe rfl ?_ | refine GQ.inRet ?_ | refine GQ.loopExit ?_ | refine GQ.loopRet ?_ | refine GQ.cutExit ?_ | refine GQ.cutRet ?_))
  refine GC.region (.pure 0 (.eff 1 (.pure 2 (.pure 3 (.pure 4 (.pure 5 (.pure 6 .done))))))) rfl ?_
  (repeat (refine GX.pure rfl ?_; first | refine GO.move rfl rfl rfl rfl ?_ | refine GO.assign rfl rfl rfl rfl ?_ | refine GO.extract rfl rfl rfl rfl rfl ?_))
  (refine GX.eff rfl ?_; refine GO.callL rfl rfl rfl rfl rfl (reads_ret l _ rfl hl a c w1 (hA.ext hE1)) ?_)
  rintro v w2 ⟨j1, u1, rfl, ⟨a2, c2, cells2, rfl, hA2, hX2, hF2, hE2⟩, hok1, hst1, hno1⟩
  refine ⟨fun _ h => by first | trivial | exact Mod.trans h (Ext.mod (by assumption)), ?_⟩
  (repeat (refine GX.pure rfl ?_; first | refine GO.move rfl rfl rfl rfl ?_ | refine GO.assign rfl rfl rfl rfl ?_ | refine GO.extract rfl rfl rfl rfl rfl ?_))
  (repeat (first | refine GX.doneD ?_ | refine GX.done ?_ | refine GQ.goNormal ?_ | refine GC.seq ?_ | refine GC.skip ?_ | refine GC.block ?_ | refine GC.exit ?_ | refine GC.ret ?_ | refine GQ.goExit ?_ | refine GQ.goRet ?_ | refine GQ.inNormal ?_ | refine GQ.inExit ?_ | refine GQ.inExitNe rfl ?_ | refine GQ.inRet ?_ | refine GQ.loopExit ?_ | refine GQ.loopRet ?_ | refine GQ.cutExit ?_ | refine GQ.cutRet ?_))
  refine GC.region (.pure 0 (.eff 1 (.pure 2 (.pure 3 (.pure 4 (.pure 5 (.pure 6 .done))))))) rfl ?_
  (repeat (refine GX.pure rfl ?_; first | refine GO.move rfl rfl rfl rfl ?_ | refine GO.assign rfl rfl rfl rfl ?_ | refine GO.extract rfl rfl rfl rfl rfl ?_))
  (refine GX.eff rfl ?_; refine GO.callL rfl rfl rfl rfl rfl (read_ret l _ rfl hl a1 c1 w2 (hB1.ext hE2)) ?_)
  rintro v w3 ⟨j2, u2, rfl, ⟨a3, c3, cells3, rfl, hA3, hX3, hF3, hE3⟩, hok2, hst2, hno2⟩
  have hj2 : j2 = j1 := Steps.same l.length (zeroJ_ok l) (Nat.sub_le _ _) hst2 hst1 hno2 hno1
  subst hj2
  refine ⟨fun _ h => by first | trivial | exact Mod.trans h (Ext.mod (by assumption)), ?_⟩
  (repeat (refine GX.pure rfl ?_; first | refine GO.move rfl rfl rfl rfl ?_ | refine GO.assign rfl rfl rfl rfl ?_ | refine GO.extract rfl rfl rfl rfl rfl ?_))
  (repeat (first | refine GX.doneD ?_ | refine GX.done ?_ | refine GQ.goNormal ?_ | refine GC.seq ?_ | refine GC.skip ?_ | refine GC.block ?_ | refine GC.exit ?_ | refine GC.ret ?_ | refine GQ.goExit ?_ | refine GQ.goRet ?_ | refine GQ.inNormal ?_ | refine GQ.inExit ?_ | refine GQ.inExitNe rfl ?_ | refine GQ.inRet ?_ | refine GQ.loopExit ?_ | refine GQ.loopRet ?_ | refine GQ.cutExit ?_ | refine GQ.cutRet ?_))
  refine GC.region (.pure 0 (.eff 1 (.pure 2 (.pure 3 (.pure 4 (.pure 5 (.pure 6 .done))))))) rfl ?_
  (repeat (refine GX.pure rfl ?_; first | refine GO.move rfl rfl rfl rfl ?_ | refine GO.assign rfl rfl rfl rfl ?_ | refine GO.extract rfl rfl rfl rfl rfl ?_))
  (refine GX.eff rfl ?_; refine GO.callL rfl rfl rfl rfl rfl (recover_ret l _ rfl hl a1 c1 w3 ((hB1.ext hE2).ext hE3)) ?_)
  rintro v w4 ⟨bj, j3, rfl, ⟨F, hJ4, hF4, hE4⟩, hok3, hst3, hno3⟩
  have hj3 : j3 = j2 := Steps.same l.length (zeroJ_ok l) (Nat.sub_le _ _) hst3 hst2 hno3 hno2
  subst hj3
  refine ⟨fun _ h => by first | trivial | exact Mod.trans h (Ext.mod (by assumption)), ?_⟩
  have hdl := hok1.data.length_le
  have htk : l.take j3.data.length = j3.data := (List.prefix_iff_eq_take.1 hok1.data).symm
  have hsz := hok1.size
  have hfew := hok1.few
  have hxs : ∀ x ∈ j3.xs, OkC x.2 := fun x hx => (hok1.xs x hx).ok
  have hxk : ∀ x ∈ j3.xs, x.2.keys.length < 2 ^ 40 ∧ x.2.tags.length < 2 ^ 40 := fun x hx => by
    have h1 := (hxs x hx).keys
    have h2 := (hxs x hx).tags
    exact ⟨by omega, by omega⟩
  (repeat (refine GX.pure rfl ?_; first | refine GO.move rfl rfl rfl rfl ?_ | refine GO.assign rfl rfl rfl rfl ?_ | refine GO.extract rfl rfl rfl rfl rfl ?_))
  (repeat (first | refine GX.doneD ?_ | refine GX.done ?_ | refine GQ.goNormal ?_ | refine GC.seq ?_ | refine GC.skip ?_ | refine GC.block ?_ | refine GC.exit ?_ | refine GC.ret ?_ | refine GQ.goExit ?_ | refine GQ.goRet ?_ | refine GQ.inNormal ?_ | refine GQ.inExit ?_ | refine GQ.inExitNe rfl ?_ | refine GQ.inRet ?_ | refine GQ.loopExit ?_ | refine GQ.loopRet ?_ | refine GQ.cutExit ?_ | refine GQ.cutRet ?_))
  refine GC.pick [0, 3, 4, 5, 6, 7, 8, 9] rfl ?_
  refine GC.regionD (.pure 0 (.pure 2 (.read 1 (.read 3 (.pure 4 (.pure 5 (.pure 6 (.pure 7 (.eff 8 (.pure 9 (.pure 10 (.pure 11 (.pure 12 (.pure 13 (.pure 14 (.pure 15 (.pure 16 (.pure 17 (.pure 18 (.pure 19 (.pure 20 (.pure 21 (.pure 22 (.pure 23 (.pure 24 (.pure 25 (.pure 26 (.pure 28 (.eff 27 (.eff 29 (.pure 30 (.pure 31 (.pure 32 (.pure 33 (.pure 36 (.pure 37 (.pure 38 (.read 39 (.eff 34 (.eff 35 (.pure 40 (.pure 41 .done)))))))))))))))))))))))))))))))))))))))))) (fun _ => False) mixed (by kernel_rfl) (by kernel_rfl) ?_
  intro w5 _ hE5
  have hS : Mod (fun _ => False) w4 w5 := hE5
  (repeat (refine GX.pure rfl ?_; first | refine GO.move rfl rfl rfl rfl ?_ | refine GO.neq rfl rfl rfl rfl rfl ?_ | refine GO.pickT rfl rfl rfl rfl rfl ?_ | refine GO.pickF rfl rfl rfl rfl rfl ?_ | refine GO.not rfl rfl rfl rfl ?_ | refine GO.ptrEqlNil rfl rfl rfl rfl rfl ?_ | refine GO.strNeq rfl rfl rfl rfl rfl ?_ | refine GO.conv rfl rfl rfl rfl (wrapIn (by dsimp only [InK]; omega)) ?_ | refine GO.convStr rfl rfl rfl rfl ?_ | refine GO.skip (.inl rfl) rfl rfl ?_))
  have hE15 := ((hE2.trans hE3).trans hE4).trans hE5
  refine GX.read rfl ?_
  refine GO.toStrR' (l := l) (by assumption) (fun w' hw' => (((hB1.ext hE2).ext hE3).ext hE4).cells.ext hw') rfl rfl rfl rfl ?_
  refine GX.read rfl ?_
  refine GO.toStrR' (l := l) (by assumption) (fun w' hw' => ((((hA.ext hE1).ext hE2).ext hE3).ext hE4).cells.ext hw') rfl rfl rfl rfl ?_
  (refine GX.pure rfl ?_; first | refine GO.move rfl rfl rfl rfl ?_ | refine GO.neq rfl rfl rfl rfl rfl ?_ | refine GO.pickT rfl rfl rfl rfl rfl ?_ | refine GO.pickF rfl rfl rfl rfl rfl ?_ | refine GO.not rfl rfl rfl rfl ?_ | refine GO.ptrEqlNil rfl rfl rfl rfl rfl ?_ | refine GO.strNeq rfl rfl rfl rfl rfl ?_ | refine GO.conv rfl rfl rfl rfl (wrapIn (by dsimp only [InK]; omega)) ?_ | refine GO.convStr rfl rfl rfl rfl ?_ | refine GO.skip (.inl rfl) rfl rfl ?_)
  (refine GX.pure rfl ?_; first | refine GO.move rfl rfl rfl rfl ?_ | refine GO.neq rfl rfl rfl rfl rfl ?_ | refine GO.pickT rfl rfl rfl rfl rfl ?_ | refine GO.pickF rfl rfl rfl rfl rfl ?_ | refine GO.not rfl rfl rfl rfl ?_ | refine GO.ptrEqlNil rfl rfl rfl rfl rfl ?_ | refine GO.strNeq rfl rfl rfl rfl rfl ?_ | refine GO.conv rfl rfl rfl rfl (wrapIn (by dsimp only [InK]; omega)) ?_ | refine GO.convStr rfl rfl rfl rfl ?_ | refine GO.skip (.inl rfl) rfl rfl ?_)
  refine GX.case 33 rfl (fun k1 => ?_) (fun k1 => ?_)
  · exact absurd (of_decide_eq_true k1) (by simp)
  (repeat (refine GX.pure rfl ?_; first | refine GO.move rfl rfl rfl rfl ?_ | refine GO.neq rfl rfl rfl rfl rfl ?_ | refine GO.pickT rfl rfl rfl rfl rfl ?_ | refine GO.pickF rfl rfl rfl rfl rfl ?_ | refine GO.not rfl rfl rfl rfl ?_ | refine GO.ptrEqlNil rfl rfl rfl rfl rfl ?_ | refine GO.strNeq rfl rfl rfl rfl rfl ?_ | refine GO.conv rfl rfl rfl rfl (wrapIn (by dsimp only [InK]; omega)) ?_ | refine GO.convStr rfl rfl rfl rfl ?_ | refine GO.skip (.inl rfl) rfl rfl ?_))
  have hE35 := hE4.trans hE5
  (refine GX.eff rfl ?_; refine GO.callL rfl rfl rfl rfl rfl (equalL_ret _ _ j3.xs j3.xs _ _ rfl rfl (by omega) hxk cells3 cells2 a3 a2 c3 c2 w5 (hA3.ext hE35) (hA2.ext (hE3.trans hE35)) (EntsF.mod hE35 (fun _ _ _ h => h) hX3) (EntsF.mod (hE3.trans hE35) (fun _ _ _ h => h) hX2)) ?_)
  rintro v w6 ⟨rfl, hE6⟩
  refine ⟨fun _ h => by first | trivial | exact Mod.trans h (Ext.mod (by assumption)), ?_⟩
  rw [decide_eq_true (rfl : j3.xs = j3.xs)]
  (refine GX.pure rfl ?_; first | refine GO.move rfl rfl rfl rfl ?_ | refine GO.neq rfl rfl rfl rfl rfl ?_ | refine GO.pickT rfl rfl rfl rfl rfl ?_ | refine GO.pickF rfl rfl rfl rfl rfl ?_ | refine GO.not rfl rfl rfl rfl ?_ | refine GO.ptrEqlNil rfl rfl rfl rfl rfl ?_ | refine GO.strNeq rfl rfl rfl rfl rfl ?_ | refine GO.conv rfl rfl rfl rfl (wrapIn (by dsimp only [InK]; omega)) ?_ | refine GO.convStr rfl rfl rfl rfl ?_ | refine GO.skip (.inl rfl) rfl rfl ?_)
  (refine GX.pure rfl ?_; first | refine GO.move rfl rfl rfl rfl ?_ | refine GO.neq rfl rfl rfl rfl rfl ?_ | refine GO.pickT rfl rfl rfl rfl rfl ?_ | refine GO.pickF rfl rfl rfl rfl rfl ?_ | refine GO.not rfl rfl rfl rfl ?_ | refine GO.ptrEqlNil rfl rfl rfl rfl rfl ?_ | refine GO.strNeq rfl rfl rfl rfl rfl ?_ | refine GO.conv rfl rfl rfl rfl (wrapIn (by dsimp only [InK]; omega)) ?_ | refine GO.convStr rfl rfl rfl rfl ?_ | refine GO.skip (.inl rfl) rfl rfl ?_)
  (refine GX.pure rfl ?_; first | refine GO.move rfl rfl rfl rfl ?_ | refine GO.neq rfl rfl rfl rfl rfl ?_ | refine GO.pickT rfl rfl rfl rfl rfl ?_ | refine GO.pickF rfl rfl rfl rfl rfl ?_ | refine GO.not rfl rfl rfl rfl ?_ | refine GO.ptrEqlNil rfl rfl rfl rfl rfl ?_ | refine GO.strNeq rfl rfl rfl rfl rfl ?_ | refine GO.conv rfl rfl rfl rfl (wrapIn (by dsimp only [InK]; omega)) ?_ | refine GO.convStr rfl rfl rfl rfl ?_ | refine GO.skip (.inl rfl) rfl rfl ?_)
  refine GX.case 39 rfl (fun k2 => ?_) (fun k2 => ?_)
  · exact absurd k2 (by simp)
  (repeat (refine GX.pure rfl ?_; first | refine GO.move rfl rfl rfl rfl ?_ | refine GO.neq rfl rfl rfl rfl rfl ?_ | refine GO.pickT rfl rfl rfl rfl rfl ?_ | refine GO.pickF rfl rfl rfl rfl rfl ?_ | refine GO.not rfl rfl rfl rfl ?_ | refine GO.ptrEqlNil rfl rfl rfl rfl rfl ?_ | refine GO.strNeq rfl rfl rfl rfl rfl ?_ | refine GO.conv rfl rfl rfl rfl (wrapIn (by dsimp only [InK]; omega)) ?_ | refine GO.convStr rfl rfl rfl rfl ?_ | refine GO.skip (.inl rfl) rfl rfl ?_))
  refine GX.case 44 rfl (fun k3 => ?_) (fun k3 => ?_)
  · exact absurd (of_decide_eq_true k3) (by simp)
  (repeat (refine GX.pure rfl ?_; first | refine GO.move rfl rfl rfl rfl ?_ | refine GO.neq rfl rfl rfl rfl rfl ?_ | refine GO.pickT rfl rfl rfl rfl rfl ?_ | refine GO.pickF rfl rfl rfl rfl rfl ?_ | refine GO.not rfl rfl rfl rfl ?_ | refine GO.ptrEqlNil rfl rfl rfl rfl rfl ?_ | refine GO.strNeq rfl rfl rfl rfl rfl ?_ | refine GO.conv rfl rfl rfl rfl (wrapIn (by dsimp only [InK]; omega)) ?_ | refine GO.convStr rfl rfl rfl rfl ?_ | refine GO.skip (.inl rfl) rfl rfl ?_))
  refine GX.case 48 rfl (fun k4 => ?_) (fun k4 => ?_)
  · exact absurd k4 (by simp)
  (repeat (refine GX.pure rfl ?_; first | refine GO.move rfl rfl rfl rfl ?_ | refine GO.neq rfl rfl rfl rfl rfl ?_ | refine GO.pickT rfl rfl rfl rfl rfl ?_ | refine GO.pickF rfl rfl rfl rfl rfl ?_ | refine GO.not rfl rfl rfl rfl ?_ | refine GO.ptrEqlNil rfl rfl rfl rfl rfl ?_ | refine GO.strNeq rfl rfl rfl rfl rfl ?_ | refine GO.conv rfl rfl rfl rfl (wrapIn (by dsimp only [InK]; omega)) ?_ | refine GO.convStr rfl rfl rfl rfl ?_ | refine GO.skip (.inl rfl) rfl rfl ?_))
  refine GX.case 53 rfl (fun k5 => ?_) (fun k5 => ?_)
  · exact absurd (of_decide_eq_true k5) (by simp)
  (repeat (refine GX.pure rfl ?_; first | refine GO.move rfl rfl rfl rfl ?_ | refine GO.neq rfl rfl rfl rfl rfl ?_ | refine GO.pickT rfl rfl rfl rfl rfl ?_ | refine GO.pickF rfl rfl rfl rfl rfl ?_ | refine GO.not rfl rfl rfl rfl ?_ | refine GO.ptrEqlNil rfl rfl rfl rfl rfl ?_ | refine GO.strNeq rfl rfl rfl rfl rfl ?_ | refine GO.conv rfl rfl rfl rfl (wrapIn (by dsimp only [InK]; omega)) ?_ | refine GO.convStr rfl rfl rfl rfl ?_ | refine GO.skip (.inl rfl) rfl rfl ?_))
  have hJ6 := (hJ4.ext hE5).ext hE6
  (refine GX.eff rfl ?_; refine GO.callL rfl rfl rfl rfl rfl (listJ_ret F bj j3 w6 hJ6 (by omega) hxs) ?_)
  rintro v w7 ⟨a7, c7, cells7, rfl, hA7, hX7, hF7, hE7⟩
  refine ⟨fun _ h => by first | trivial | exact Mod.trans h (Ext.mod (by assumption)), ?_⟩
  (repeat (refine GX.pure rfl ?_; first | refine GO.move rfl rfl rfl rfl ?_ | refine GO.neq rfl rfl rfl rfl rfl ?_ | refine GO.pickT rfl rfl rfl rfl rfl ?_ | refine GO.pickF rfl rfl rfl rfl rfl ?_ | refine GO.not rfl rfl rfl rfl ?_ | refine GO.ptrEqlNil rfl rfl rfl rfl rfl ?_ | refine GO.strNeq rfl rfl rfl rfl rfl ?_ | refine GO.conv rfl rfl rfl rfl (wrapIn (by dsimp only [InK]; omega)) ?_ | refine GO.convStr rfl rfl rfl rfl ?_ | refine GO.skip (.inl rfl) rfl rfl ?_))
  have hE37 := (hE35.trans hE6).trans hE7
  (refine GX.eff rfl ?_; refine GO.callL rfl rfl rfl rfl rfl (equalL_ret _ _ j3.xs j3.xs _ _ rfl rfl (by omega) hxk cells7 cells2 a7 a2 c7 c2 w7 hA7 (hA2.ext (hE3.trans hE37)) hX7 (EntsF.mod (hE3.trans hE37) (fun _ _ _ h => h) hX2)) ?_)
  rintro v w8 ⟨rfl, hE8⟩
  refine ⟨fun _ h => by first | trivial | exact Mod.trans h (Ext.mod (by assumption)), ?_⟩
  rw [decide_eq_true (rfl : j3.xs = j3.xs)]
  (refine GX.pure rfl ?_; first | refine GO.move rfl rfl rfl rfl ?_ | refine GO.neq rfl rfl rfl rfl rfl ?_ | refine GO.pickT rfl rfl rfl rfl rfl ?_ | refine GO.pickF rfl rfl rfl rfl rfl ?_ | refine GO.not rfl rfl rfl rfl ?_ | refine GO.ptrEqlNil rfl rfl rfl rfl rfl ?_ | refine GO.strNeq rfl rfl rfl rfl rfl ?_ | refine GO.conv rfl rfl rfl rfl (wrapIn (by dsimp only [InK]; omega)) ?_ | refine GO.convStr rfl rfl rfl rfl ?_ | refine GO.skip (.inl rfl) rfl rfl ?_)
  (refine GX.pure rfl ?_; first | refine GO.move rfl rfl rfl rfl ?_ | refine GO.neq rfl rfl rfl rfl rfl ?_ | refine GO.pickT rfl rfl rfl rfl rfl ?_ | refine GO.pickF rfl rfl rfl rfl rfl ?_ | refine GO.not rfl rfl rfl rfl ?_ | refine GO.ptrEqlNil rfl rfl rfl rfl rfl ?_ | refine GO.strNeq rfl rfl rfl rfl rfl ?_ | refine GO.conv rfl rfl rfl rfl (wrapIn (by dsimp only [InK]; omega)) ?_ | refine GO.convStr rfl rfl rfl rfl ?_ | refine GO.skip (.inl rfl) rfl rfl ?_)
  (refine GX.pure rfl ?_; first | refine GO.move rfl rfl rfl rfl ?_ | refine GO.neq rfl rfl rfl rfl rfl ?_ | refine GO.pickT rfl rfl rfl rfl rfl ?_ | refine GO.pickF rfl rfl rfl rfl rfl ?_ | refine GO.not rfl rfl rfl rfl ?_ | refine GO.ptrEqlNil rfl rfl rfl rfl rfl ?_ | refine GO.strNeq rfl rfl rfl rfl rfl ?_ | refine GO.conv rfl rfl rfl rfl (wrapIn (by dsimp only [InK]; omega)) ?_ | refine GO.convStr rfl rfl rfl rfl ?_ | refine GO.skip (.inl rfl) rfl rfl ?_)
  refine GX.case 60 rfl (fun k6 => ?_) (fun k6 => ?_)
  · exact absurd k6 (by simp)
  (repeat (refine GX.pure rfl ?_; first | refine GO.move rfl rfl rfl rfl ?_ | refine GO.neq rfl rfl rfl rfl rfl ?_ | refine GO.pickT rfl rfl rfl rfl rfl ?_ | refine GO.pickF rfl rfl rfl rfl rfl ?_ | refine GO.not rfl rfl rfl rfl ?_ | refine GO.ptrEqlNil rfl rfl rfl rfl rfl ?_ | refine GO.strNeq rfl rfl rfl rfl rfl ?_ | refine GO.conv rfl rfl rfl rfl (wrapIn (by dsimp only [InK]; omega)) ?_ | refine GO.convStr rfl rfl rfl rfl ?_ | refine GO.skip (.inl rfl) rfl rfl ?_))
  refine GX.pure rfl ?_
  refine GO.sliceS rfl rfl rfl rfl (bounds_h (by omega) (by omega)) ⟨by simp, by simp; rfl, by simp⟩ ?_
  have e1 : ((j3.data.length : Nat) : Int).toNat = j3.data.length := by omega
  rw [e1]
  have hE4w := (((hE1.trans hE2).trans hE3).trans hE4)
  have hpart := (hA.ext hE4w).cells.bytes 0 c j3.data.length (by omega)
  rw [List.drop_zero, htk] at hpart
  refine GX.read rfl ?_
  refine GO.toStrR' (l := j3.data) (((hE5.trans hE6).trans hE7).trans hE8) (fun w' hw' => hpart.ext hw') rfl rfl rfl rfl ?_
  have hJ8 := (hJ6.ext hE7).ext hE8
  (refine GX.eff rfl ?_; refine GO.callL rfl rfl rfl rfl rfl (bytesJ_ret F bj j3 w8 hJ8 (by omega)) ?_)
  rintro v w9 ⟨⟨ob9, a9, c9, rfl, hO9, hF9, hG9⟩, hE9⟩
  refine ⟨fun _ h => by first | trivial | exact Mod.trans h (Ext.mod (by assumption)), ?_⟩
  refine GX.eff rfl ?_
  refine GO.toStr' (l := j3.data) hO9.sla rfl rfl rfl rfl ?_
  (repeat (refine GX.pure rfl ?_; first | refine GO.move rfl rfl rfl rfl ?_ | refine GO.neq rfl rfl rfl rfl rfl ?_ | refine GO.pickT rfl rfl rfl rfl rfl ?_ | refine GO.pickF rfl rfl rfl rfl rfl ?_ | refine GO.not rfl rfl rfl rfl ?_ | refine GO.ptrEqlNil rfl rfl rfl rfl rfl ?_ | refine GO.strNeq rfl rfl rfl rfl rfl ?_ | refine GO.conv rfl rfl rfl rfl (wrapIn (by dsimp only [InK]; omega)) ?_ | refine GO.convStr rfl rfl rfl rfl ?_ | refine GO.skip (.inl rfl) rfl rfl ?_))
  (repeat (first | refine GX.doneD ?_ | refine GX.done ?_ | refine GQ.goNormal ?_ | refine GC.seq ?_ | refine GC.skip ?_ | refine GC.block ?_ | refine GC.exit ?_ | refine GC.ret ?_ | refine GQ.goExit ?_ | refine GQ.goRet ?_ | refine GQ.inNormal ?_ | refine GQ.inExit ?_ | refine GQ.inExitNe rfl ?_ | refine GQ.inRet ?_ | refine GQ.loopExit ?_ | refine GQ.loopRet ?_ | refine GQ.cutExit ?_ | refine GQ.cutRet ?_))
  refine GC.cond rfl (fun k7 => ?_) (fun k7 => ?_)
  · exact absurd (of_decide_eq_true k7) (by simp)
  have hJ9 := hJ8.ext hE9
  have hE59 := ((hE6.trans hE7).trans hE8).trans hE9
  have hE19 := hE15.trans hE59
  have hO19 := hO1.ext hE19
  have s1 := hE1.size
  have s12 := hE2.size
  have s13 := hE3.size
  have s19 := hE19.size
  have hobF : ∀ k, F k → some k ≠ ob := fun k hk h => by
    have h1 := hF4 k hk
    have h2 : k < w1.heap.size := by subst h; exact hO1.block.2
    omega
  refine GC.pick [0, 3, 5, 8] rfl ?_
  (repeat (first | refine GX.doneD ?_ | refine GX.done ?_ | refine GQ.goNormal ?_ | refine GC.seq ?_ | refine GC.skip ?_ | refine GC.block ?_ | refine GC.exit ?_ | refine GC.ret ?_ | refine GQ.goExit ?_ | refine GQ.goRet ?_ | refine GQ.inNormal ?_ | refine GQ.inExit ?_ | refine GQ.inExitNe rfl ?_ | refine GQ.inRet ?_ | refine GQ.loopExit ?_ | refine GQ.loopRet ?_ | refine GQ.cutExit ?_ | refine GQ.cutRet ?_))
  refine GC.region (.pure 0 .done) rfl ?_
  (repeat (refine GX.pure rfl ?_; refine GO.assign rfl rfl rfl rfl ?_))
  refine GX.done ?_
  refine GQ.goNormal ?_
  refine GC.cut (X := Unit) (fun _ => [(0, .slice a l.length c), (5, .int .i64 j3.data.length), (8, .pointer (some ⟨bj, 0, none⟩))]) (fun _ w' => Mod (fun k => some k = ob) w9 w') ?_ ?_
  · (repeat (first | refine GX.doneD ?_ | refine GX.done ?_ | refine GQ.goNormal ?_ | refine GC.seq ?_ | refine GC.skip ?_ | refine GC.block ?_ | refine GC.exit ?_ | refine GC.ret ?_ | refine GQ.goExit ?_ | refine GQ.goRet ?_ | refine GQ.inNormal ?_ | refine GQ.inExit ?_ | refine GQ.inExitNe rfl ?_ | refine GQ.inRet ?_ | refine GQ.loopExit ?_ | refine GQ.loopRet ?_ | refine GQ.cutExit ?_ | refine GQ.cutRet ?_))
    by_cases h0 : l.length = 0
    · refine GC.loop (X := Unit) (fun _ => [(0, .slice a l.length c), (3, .slice a1 l.length c1), (5, .int .i64 j3.data.length), (8, .pointer (some ⟨bj, 0, none⟩)), (10, .int .i64 (0 : Nat))]) (fun _ w' => w9 = w') (fun _ => 0) () (sub_pick (l := [0, 3, 5, 8, 10]) rfl) rfl ?_
      rintro _ w' rfl
      (repeat (first | refine GX.doneD ?_ | refine GX.done ?_ | refine GQ.goNormal ?_ | refine GC.seq ?_ | refine GC.skip ?_ | refine GC.block ?_ | refine GC.exit ?_ | refine GC.ret ?_ | refine GQ.goExit ?_ | refine GQ.goRet ?_ | refine GQ.inNormal ?_ | refine GQ.inExit ?_ | refine GQ.inExitNe rfl ?_ | refine GQ.inRet ?_ | refine GQ.loopExit ?_ | refine GQ.loopRet ?_ | refine GQ.cutExit ?_ | refine GQ.cutRet ?_))
      refine GC.region (.pure 0 (.pure 1 (.pure 2 (.pure 3 .done)))) rfl ?_
      (repeat (refine GX.pure rfl ?_; first | refine GO.move rfl rfl rfl rfl ?_ | refine GO.lenSlice rfl rfl rfl rfl ?_ | refine GO.lss rfl rfl rfl rfl rfl ?_))
      (repeat (first | refine GX.doneD ?_ | refine GX.done ?_ | refine GQ.goNormal ?_ | refine GC.seq ?_ | refine GC.skip ?_ | refine GC.block ?_ | refine GC.exit ?_ | refine GC.ret ?_ | refine GQ.goExit ?_ | refine GQ.goRet ?_ | refine GQ.inNormal ?_ | refine GQ.inExit ?_ | refine GQ.inExitNe rfl ?_ | refine GQ.inRet ?_ | refine GQ.loopExit ?_ | refine GQ.loopRet ?_ | refine GQ.cutExit ?_ | refine GQ.cutRet ?_))
      refine GC.cond rfl (fun hc2 => ?_) (fun hc2 => ?_)
      · have := of_decide_eq_true hc2; omega
      (repeat (first | refine GX.doneD ?_ | refine GX.done ?_ | refine GQ.goNormal ?_ | refine GC.seq ?_ | refine GC.skip ?_ | refine GC.block ?_ | refine GC.exit ?_ | refine GC.ret ?_ | refine GQ.goExit ?_ | refine GQ.goRet ?_ | refine GQ.inNormal ?_ | refine GQ.inExit ?_ | refine GQ.inExitNe rfl ?_ | refine GQ.inRet ?_ | refine GQ.loopExit ?_ | refine GQ.loopRet ?_ | refine GQ.cutExit ?_ | refine GQ.cutRet ?_))
      exact GQ.cutNormal () (sub_pick (l := [0, 5, 8]) rfl) (Mod.refl _)
    obtain ⟨bm, ext, ha1, hob, hrow⟩ := hO19.here hG1' (by simp; omega)
    subst ha1
    subst hob
    refine GC.loop (X := Nat) (fun k => [(0, .slice a l.length c), (3, .slice (some ⟨bm, 0, none⟩) l.length c1), (5, .int .i64 j3.data.length), (8, .pointer (some ⟨bj, 0, none⟩)), (10, .int .i64 k)]) (fun k w' => k ≤ l.length ∧ Mod (fun k => some k = some bm) w9 w' ∧ ∃ m, m.length = l.length ∧ Blk w' bm (bytesV m ++ ext)) (fun k => l.length - k) 0 (sub_pick (l := [0, 3, 5, 8, 10]) rfl) ⟨Nat.zero_le _, Mod.refl _, l, rfl, hrow⟩ ?_
    rintro k w' ⟨hk, hM, m, hml, hbl⟩
    (repeat (first | refine GX.doneD ?_ | refine GX.done ?_ | refine GQ.goNormal ?_ | refine GC.seq ?_ | refine GC.skip ?_ | refine GC.block ?_ | refine GC.exit ?_ | refine GC.ret ?_ | refine GQ.goExit ?_ | refine GQ.goRet ?_ | refine GQ.inNormal ?_ | refine GQ.inExit ?_ | refine GQ.inExitNe rfl ?_ | refine GQ.inRet ?_ | refine GQ.loopExit ?_ | refine GQ.loopRet ?_ | refine GQ.cutExit ?_ | refine GQ.cutRet ?_))
    refine GC.region (.pure 0 (.pure 1 (.pure 2 (.pure 3 .done)))) rfl ?_
    (repeat (refine GX.pure rfl ?_; first | refine GO.move rfl rfl rfl rfl ?_ | refine GO.lenSlice rfl rfl rfl rfl ?_ | refine GO.lss rfl rfl rfl rfl rfl ?_))
    (repeat (first | refine GX.doneD ?_ | refine GX.done ?_ | refine GQ.goNormal ?_ | refine GC.seq ?_ | refine GC.skip ?_ | refine GC.block ?_ | refine GC.exit ?_ | refine GC.ret ?_ | refine GQ.goExit ?_ | refine GQ.goRet ?_ | refine GQ.inNormal ?_ | refine GQ.inExit ?_ | refine GQ.inExitNe rfl ?_ | refine GQ.inRet ?_ | refine GQ.loopExit ?_ | refine GQ.loopRet ?_ | refine GQ.cutExit ?_ | refine GQ.cutRet ?_))
    refine GC.cond rfl (fun hc2 => ?_) (fun hc2 => ?_)
    · have hlt : k < l.length := by have := of_decide_eq_true hc2; omega
      (repeat (first | refine GX.doneD ?_ | refine GX.done ?_ | refine GQ.goNormal ?_ | refine GC.seq ?_ | refine GC.skip ?_ | refine GC.block ?_ | refine GC.exit ?_ | refine GC.ret ?_ | refine GQ.goExit ?_ | refine GQ.goRet ?_ | refine GQ.inNormal ?_ | refine GQ.inExit ?_ | refine GQ.inExitNe rfl ?_ | refine GQ.inRet ?_ | refine GQ.loopExit ?_ | refine GQ.loopRet ?_ | refine GQ.cutExit ?_ | refine GQ.cutRet ?_))
      have hkm : k < m.length := by omega
      have hcell : At w' bm (0 + (k : Int).toNat * 1) [byteV m[k]] := by
        have := At.one (hbl.at.left) (bytes_get hkm)
        simpa using this
      refine GC.region (.pure 0 (.pure 1 (.pure 2 (.eff 3 (.pure 4 (.pure 5 (.eff 6 .done))))))) rfl ?_
      (repeat (refine GX.pure rfl ?_; first | refine GO.move rfl rfl rfl rfl ?_ | refine GO.add rfl rfl rfl rfl rfl (wrapIn (by dsimp only [InK]; omega)) ?_))
      refine GX.pure rfl (GO.indexAddr rfl rfl rfl rfl (by omega) (by omega) rfl ?_)
      (first | (refine GX.eff rfl ?_; first | refine GO.load1 (hcell) rfl rfl rfl ?_ | refine GO.loadN (hcell) rfl rfl rfl rfl ?_) | (refine GX.read rfl ?_; first | refine GO.load1R (by assumption) (fun _ hS_ => At.mod (hcell) hS_ (by simp)) rfl rfl rfl ?_ | refine GO.loadNR (by assumption) (fun _ hS_ => At.mod (hcell) hS_ (by simp)) rfl rfl rfl rfl ?_))
      refine GX.pure rfl (GO.add rfl rfl rfl rfl rfl (inc_u8 m[k]) ?_)
      refine GX.pure rfl (GO.indexAddr rfl rfl rfl rfl (by omega) (by omega) rfl ?_)
      have e2 : 0 + ((k : Nat) : Int).toNat * 1 = k := by omega
      rw [e2]
      refine GX.eff rfl ?_
      refine GO.store (vs := [byteV (m[k] + 1)]) (hbl.wr (by simp; omega)) rfl rfl (by simp [Value.oneCell', byteV]) rfl rfl rfl fun w2' hp => ⟨(by first | exact fun _ _ => trivial | exact late_abs (by kernel_rfl)), ?_⟩
      have hb2 : Blk w2' bm (bytesV (m.set k (m[k] + 1)) ++ ext) := by
        have := hp.blk hbl
        rw [← bytes_one m k _ ext hkm]
        exact this
      (repeat (first | refine GX.doneD ?_ | refine GX.done ?_ | refine GQ.goNormal ?_ | refine GC.seq ?_ | refine GC.skip ?_ | refine GC.block ?_ | refine GC.exit ?_ | refine GC.ret ?_ | refine GQ.goExit ?_ | refine GQ.goRet ?_ | refine GQ.inNormal ?_ | refine GQ.inExit ?_ | refine GQ.inExitNe rfl ?_ | refine GQ.inRet ?_ | refine GQ.loopExit ?_ | refine GQ.loopRet ?_ | refine GQ.cutExit ?_ | refine GQ.cutRet ?_))
      refine GC.region (.pure 0 (.pure 1 (.pure 2 .done))) rfl ?_
      (repeat (refine GX.pure rfl ?_; first | refine GO.move rfl rfl rfl rfl ?_ | refine GO.assign rfl rfl rfl rfl ?_ | refine GO.add rfl rfl rfl rfl rfl (wrapIn (by dsimp only [InK]; omega)) ?_))
      (repeat (first | refine GX.doneD ?_ | refine GX.done ?_ | refine GQ.goNormal ?_ | refine GC.seq ?_ | refine GC.skip ?_ | refine GC.block ?_ | refine GC.exit ?_ | refine GC.ret ?_ | refine GQ.goExit ?_ | refine GQ.goRet ?_ | refine GQ.inNormal ?_ | refine GQ.inExit ?_ | refine GQ.inExitNe rfl ?_ | refine GQ.inRet ?_ | refine GQ.loopExit ?_ | refine GQ.loopRet ?_ | refine GQ.cutExit ?_ | refine GQ.cutRet ?_))
      exact GQ.again (k + 1) (sub_pick (l := [0, 3, 5, 8, 10]) rfl) ⟨hlt, hM.trans (hp.mod.weaken fun i _ h => by rw [h]), _, by simp [hml], hb2⟩ (by omega)
    · (repeat (first | refine GX.doneD ?_ | refine GX.done ?_ | refine GQ.goNormal ?_ | refine GC.seq ?_ | refine GC.skip ?_ | refine GC.block ?_ | refine GC.exit ?_ | refine GC.ret ?_ | refine GQ.goExit ?_ | refine GQ.goRet ?_ | refine GQ.inNormal ?_ | refine GQ.inExit ?_ | refine GQ.inExitNe rfl ?_ | refine GQ.inRet ?_ | refine GQ.loopExit ?_ | refine GQ.loopRet ?_ | refine GQ.cutExit ?_ | refine GQ.cutRet ?_))
      exact GQ.cutNormal () (sub_pick (l := [0, 5, 8]) rfl) hM
  rintro _ w10 hM10
  (repeat (first | refine GX.doneD ?_ | refine GX.done ?_ | refine GQ.goNormal ?_ | refine GC.seq ?_ | refine GC.skip ?_ | refine GC.block ?_ | refine GC.exit ?_ | refine GC.ret ?_ | refine GQ.goExit ?_ | refine GQ.goRet ?_ | refine GQ.inNormal ?_ | refine GQ.inExit ?_ | refine GQ.inExitNe rfl ?_ | refine GQ.inRet ?_ | refine GQ.loopExit ?_ | refine GQ.loopRet ?_ | refine GQ.cutExit ?_ | refine GQ.cutRet ?_))
  refine GC.regionD (.pure 0 (.pure 3 (.pure 4 (.pure 5 (.read 6 (.eff 1 (.eff 2 (.pure 7 (.pure 8 .done))))))))) (fun _ => False) mixed (by kernel_rfl) (by kernel_rfl) ?_
  intro w11 _ hE11
  have hS : Mod (fun _ => False) w10 w11 := hE11
  (repeat (refine GX.pure rfl ?_; first | refine GO.move rfl rfl rfl rfl ?_ | refine GO.assign rfl rfl rfl rfl ?_ | refine GO.strEql rfl rfl rfl rfl rfl ?_ | refine GO.conv rfl rfl rfl rfl (wrapIn (by dsimp only [InK]; omega)) ?_ | refine GO.convStr rfl rfl rfl rfl ?_))
  have hE111 := hE1.trans hE19
  have hM111 : Ext w w10 := hE111.then hM10 (fun i hi h => by have := hF1' i h.symm; omega)
  refine GX.pure rfl ?_
  refine GO.sliceS rfl rfl rfl rfl (bounds_h (by omega) (by omega)) ⟨by simp, by simp; rfl, by simp⟩ ?_
  rw [e1]
  have hpart2 := (hA.ext hM111).cells.bytes 0 c j3.data.length (by omega)
  rw [List.drop_zero, htk] at hpart2
  refine GX.read rfl ?_
  refine GO.toStrR' (l := j3.data) (by assumption) (fun w' hw' => hpart2.ext hw') rfl rfl rfl rfl ?_
  have hJ10 : JAt w10 F bj j3 := hJ9.mod hM10 (fun k hk hF h => hobF k hF h)
  (refine GX.eff rfl ?_; refine GO.callL rfl rfl rfl rfl rfl (bytesJ_ret F bj j3 w11 (hJ10.ext hE11) (by omega)) ?_)
  rintro v w12 ⟨⟨ob12, a12, c12, rfl, hO12, hF12, hG12⟩, hE12⟩
  refine ⟨fun _ h => by first | trivial | exact Mod.trans h (Ext.mod (by assumption)), ?_⟩
  refine GX.eff rfl ?_
  refine GO.toStr' (l := j3.data) hO12.sla rfl rfl rfl rfl ?_
  (repeat (refine GX.pure rfl ?_; first | refine GO.move rfl rfl rfl rfl ?_ | refine GO.assign rfl rfl rfl rfl ?_ | refine GO.strEql rfl rfl rfl rfl rfl ?_ | refine GO.conv rfl rfl rfl rfl (wrapIn (by dsimp only [InK]; omega)) ?_ | refine GO.convStr rfl rfl rfl rfl ?_))
  (repeat (first | refine GX.doneD ?_ | refine GX.done ?_ | refine GQ.goNormal ?_ | refine GC.seq ?_ | refine GC.skip ?_ | refine GC.block ?_ | refine GC.exit ?_ | refine GC.ret ?_ | refine GQ.goExit ?_ | refine GQ.goRet ?_ | refine GQ.inNormal ?_ | refine GQ.inExit ?_ | refine GQ.inExitNe rfl ?_ | refine GQ.inRet ?_ | refine GQ.loopExit ?_ | refine GQ.loopRet ?_ | refine GQ.cutExit ?_ | refine GQ.cutRet ?_))
  refine GQ.ret1 (by first | exact .inl rfl | exact .inr rfl) rfl rfl ?_
  refine ⟨by congr 1; exact decide_eq_true rfl, (hM111.trans hE11).trans hE12⟩
end Go.Proofs.Ytahkglanddhncaa.V
