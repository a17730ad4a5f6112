/-
  What the law on spoilt journals computes. Conditions: the commands are well formed; the list is no longer than any slice may be.
-/
import Derived.Test.YtahkglanddhncaaYt
namespace Go.Proofs.Ytahkglanddhncaa.V
attribute [local irreducible] GX GO jx

theorem own_app {ob ob' : Option Nat} {a a' : Option Addr} (hG : ∀ x, a' = some x → ob' = some x.block ∨ (a = some x ∧ ob' = ob)) (h : ∀ x, a = some x → ob = some x.block) : ∀ x, a' = some x → ob' = some x.block := fun x hx => by
  rcases hG x hx with h1 | ⟨h1, h2⟩
  · exact h1
  · rw [h2]; exact h x h1

set_option maxHeartbeats 4000000 in
theorem spoiltLaw_ret (G : Nat → Prop) (xs : List (Nat × Cmd)) (hn : xs.length ≤ 9223372036854775807) (hwf : ∀ x ∈ xs, x.1 < 18446744073709551616 ∧ WfC x.2) (lcells : List Value) (a : Option Addr) (c : Nat) (at_ less : Nat) (hat : at_ < 65536) (hless : less < 65536)
    (m : List UInt8) (am : Option Addr) (cm : Nat) (w : World) (hA : SlA w a lcells) (hX : EntsF w G lcells xs) (hM : BytesAt w am cm m) :
    Ret Try.prog 4 [.slice a xs.length c, .int .u16 at_, .int .u16 less, .slice am m.length cm].toArray w fun v w' => v = .bool true ∧ Ext w w' := by
  
  refine Ret.enter Try.func4 rfl Try.ntmps4 rfl ?_
  (repeat (first | refine GX.doneD ?_ | refine GX.done ?_ | refine GQ.goNormal ?_ | refine GC.seq ?_ | refine GC.skip ?_ | refine GC.block ?_ | refine GC.exit ?_ | refine GC.ret ?_ | refine GQ.goExit ?_ | refine GQ.goRet ?_ | refine GQ.inNormal ?_ | refine GQ.inExit ?_ | refine GQ.inExitNe rfl ?_ | refine GQ.inRet ?_ | refine GQ.loopExit ?_ | refine GQ.loopRet ?_ | refine GQ.cutExit ?_ | refine GQ.cutRet ?_))
  refine GC.region (.pure 0 .done) rfl ?_
  (repeat (refine GX.pure rfl ?_; refine GO.assign rfl rfl rfl rfl ?_))
  (repeat (first | refine GX.doneD ?_ | refine GX.done ?_ | refine GQ.goNormal ?_ | refine GC.seq ?_ | refine GC.skip ?_ | refine GC.block ?_ | refine GC.exit ?_ | refine GC.ret ?_ | refine GQ.goExit ?_ | refine GQ.goRet ?_ | refine GQ.inNormal ?_ | refine GQ.inExit ?_ | refine GQ.inExitNe rfl ?_ | refine GQ.inRet ?_ | refine GQ.loopExit ?_ | refine GQ.loopRet ?_ | refine GQ.cutExit ?_ | refine GQ.cutRet ?_))
  refine GC.cut (X := Bool) (fun z => [(0, .slice a xs.length c), (1, .int .u16 at_), (2, .int .u16 less), (3, .slice am m.length cm), (22, .bool z)]) (fun z w' => Ext w w' ∧ (z = false → (xs.length ≤ 25 ∧ ∀ x ∈ xs, LightC x.2) ∧ m.length ≤ 100)) ?_ ?_
  · refine GC.region (.pure 0 (.eff 1 (.pure 2 (.pure 3 (.pure 4 (.pure 5 (.pure 6 (.pure 7 .done)))))))) rfl ?_
    (repeat (refine GX.pure rfl ?_; first | refine GO.move rfl rfl rfl rfl ?_ | refine GO.lenSlice rfl rfl rfl rfl ?_ | refine GO.gtr rfl rfl rfl rfl rfl ?_ | refine GO.pickT rfl rfl rfl rfl rfl ?_ | refine GO.pickF rfl rfl rfl rfl rfl ?_ | refine GO.not rfl rfl rfl rfl ?_ | refine GO.skip (.inl rfl) rfl rfl ?_))
    (refine GX.eff rfl ?_; refine GO.callL rfl rfl rfl rfl rfl (few_ret G xs hn 25 lcells a c w hA hX) ?_)
    rintro v w1 ⟨⟨y, rfl, hy⟩, hE1⟩
    refine ⟨fun _ h => by first | trivial | exact Mod.trans h (Ext.mod (by assumption)), ?_⟩
    (refine GX.pure rfl ?_; first | refine GO.move rfl rfl rfl rfl ?_ | refine GO.lenSlice rfl rfl rfl rfl ?_ | refine GO.gtr rfl rfl rfl rfl rfl ?_ | refine GO.pickT rfl rfl rfl rfl rfl ?_ | refine GO.pickF rfl rfl rfl rfl rfl ?_ | refine GO.not rfl rfl rfl rfl ?_ | refine GO.skip (.inl rfl) rfl rfl ?_)
    (refine GX.pure rfl ?_; first | refine GO.move rfl rfl rfl rfl ?_ | refine GO.lenSlice rfl rfl rfl rfl ?_ | refine GO.gtr rfl rfl rfl rfl rfl ?_ | refine GO.pickT rfl rfl rfl rfl rfl ?_ | refine GO.pickF rfl rfl rfl rfl rfl ?_ | refine GO.not rfl rfl rfl rfl ?_ | refine GO.skip (.inl rfl) rfl rfl ?_)
    refine GX.case 18 rfl (fun g1 => ?_) (fun g1 => ?_)
    · (repeat (first | (refine GX.pure rfl ?_; first | refine GO.move rfl rfl rfl rfl ?_ | refine GO.lenSlice rfl rfl rfl rfl ?_ | refine GO.gtr rfl rfl rfl rfl rfl ?_ | refine GO.pickT rfl rfl rfl rfl rfl ?_ | refine GO.pickF rfl rfl rfl rfl rfl ?_ | refine GO.not rfl rfl rfl rfl ?_ | refine GO.skip (.inl rfl) rfl rfl ?_) | (refine GX.eff rfl ?_; refine GO.skip (.inr rfl) rfl rfl ?_) | (refine GX.read rfl ?_; refine GO.skipRead (by assumption) rfl rfl ?_)))
      (repeat (first | refine GX.doneD ?_ | refine GX.done ?_ | refine GQ.goNormal ?_ | refine GC.seq ?_ | refine GC.skip ?_ | refine GC.block ?_ | refine GC.exit ?_ | refine GC.ret ?_ | refine GQ.goExit ?_ | refine GQ.goRet ?_ | refine GQ.inNormal ?_ | refine GQ.inExit ?_ | refine GQ.inExitNe rfl ?_ | refine GQ.inRet ?_ | refine GQ.loopExit ?_ | refine GQ.loopRet ?_ | refine GQ.cutExit ?_ | refine GQ.cutRet ?_))
      exact GQ.cutNormal true (sub_pick (l := [0, 1, 2, 3, 22]) rfl) ⟨hE1, by simp⟩
    have g1' : y = true := by simpa using g1
    (repeat (refine GX.pure rfl ?_; first | refine GO.move rfl rfl rfl rfl ?_ | refine GO.lenSlice rfl rfl rfl rfl ?_ | refine GO.gtr rfl rfl rfl rfl rfl ?_ | refine GO.pickT rfl rfl rfl rfl rfl ?_ | refine GO.pickF rfl rfl rfl rfl rfl ?_ | refine GO.not rfl rfl rfl rfl ?_ | refine GO.skip (.inl rfl) rfl rfl ?_))
    (repeat (first | refine GX.doneD ?_ | refine GX.done ?_ | refine GQ.goNormal ?_ | refine GC.seq ?_ | refine GC.skip ?_ | refine GC.block ?_ | refine GC.exit ?_ | refine GC.ret ?_ | refine GQ.goExit ?_ | refine GQ.goRet ?_ | refine GQ.inNormal ?_ | refine GQ.inExit ?_ | refine GQ.inExitNe rfl ?_ | refine GQ.inRet ?_ | refine GQ.loopExit ?_ | refine GQ.loopRet ?_ | refine GQ.cutExit ?_ | refine GQ.cutRet ?_))
    exact GQ.cutNormal (decide ((100 : Int) < m.length)) (sub_pick (l := [0, 1, 2, 3, 22]) rfl) ⟨hE1, fun h => ⟨hy g1', by have := of_decide_eq_false h; omega⟩⟩
  rintro z w1 ⟨hE1, hz⟩
  (repeat (first | refine GX.doneD ?_ | refine GX.done ?_ | refine GQ.goNormal ?_ | refine GC.seq ?_ | refine GC.skip ?_ | refine GC.block ?_ | refine GC.exit ?_ | refine GC.ret ?_ | refine GQ.goExit ?_ | refine GQ.goRet ?_ | refine GQ.inNormal ?_ | refine GQ.inExit ?_ | refine GQ.inExitNe rfl ?_ | refine GQ.inRet ?_ | refine GQ.loopExit ?_ | refine GQ.loopRet ?_ | refine GQ.cutExit ?_ | refine GQ.cutRet ?_))
  refine GC.cond rfl (fun hzz => ?_) (fun hzz => ?_)
  · (repeat (first | refine GX.doneD ?_ | refine GX.done ?_ | refine GQ.goNormal ?_ | refine GC.seq ?_ | refine GC.skip ?_ | refine GC.block ?_ | refine GC.exit ?_ | refine GC.ret ?_ | refine GQ.goExit ?_ | refine GQ.goRet ?_ | refine GQ.inNormal ?_ | refine GQ.inExit ?_ | refine GQ.inExitNe rfl ?_ | refine GQ.inRet ?_ | refine GQ.loopExit ?_ | refine GQ.loopRet ?_ | refine GQ.cutExit ?_ | refine GQ.cutRet ?_))
    refine GC.region (.eff 0 (.pure 1 .done)) rfl ?_
    (refine GX.eff rfl ?_; refine GO.callL rfl rfl rfl rfl rfl (known_ret w1) ?_)
    rintro v w2 ⟨rfl, hE2⟩
    refine ⟨fun _ h => by first | trivial | exact Mod.trans h (Ext.mod (by assumption)), ?_⟩
    (repeat (refine GX.pure rfl ?_; refine GO.assign rfl rfl rfl rfl ?_))
    (repeat (first | refine GX.doneD ?_ | refine GX.done ?_ | refine GQ.goNormal ?_ | refine GC.seq ?_ | refine GC.skip ?_ | refine GC.block ?_ | refine GC.exit ?_ | refine GC.ret ?_ | refine GQ.goExit ?_ | refine GQ.goRet ?_ | refine GQ.inNormal ?_ | refine GQ.inExit ?_ | refine GQ.inExitNe rfl ?_ | refine GQ.inRet ?_ | refine GQ.loopExit ?_ | refine GQ.loopRet ?_ | refine GQ.cutExit ?_ | refine GQ.cutRet ?_))
    refine GQ.ret1 (by first | exact .inl rfl | exact .inr rfl) rfl rfl ?_
    exact ⟨rfl, hE1.trans hE2⟩
  obtain ⟨⟨hx25, hlight⟩, hm100⟩ := hz hzz
  have hsm := jx_sm hlight xs.length (Nat.le_refl _)
  have hd1 := hsm.data
  (repeat (first | refine GX.doneD ?_ | refine GX.done ?_ | refine GQ.goNormal ?_ | refine GC.seq ?_ | refine GC.skip ?_ | refine GC.block ?_ | refine GC.exit ?_ | refine GC.ret ?_ | refine GQ.goExit ?_ | refine GQ.goRet ?_ | refine GQ.inNormal ?_ | refine GQ.inExit ?_ | refine GQ.inExitNe rfl ?_ | refine GQ.inRet ?_ | refine GQ.loopExit ?_ | refine GQ.loopRet ?_ | refine GQ.cutExit ?_ | refine GQ.cutRet ?_))
  refine GC.region (.pure 0 (.eff 1 (.pure 2 (.pure 3 (.pure 4 (.pure 5 (.pure 6 (.pure 7 (.pure 8 .done))))))))) rfl ?_
  (repeat (refine GX.pure rfl ?_; first | refine GO.move rfl rfl rfl rfl ?_ | refine GO.assign rfl rfl rfl rfl ?_ | refine GO.extract rfl rfl rfl rfl rfl ?_))
  (refine GX.eff rfl ?_; refine GO.callL rfl rfl rfl rfl rfl (filled_ret G xs hx25 hlight hwf lcells a c w1 (hA.ext hE1) (EntsF.mod hE1 (fun _ _ _ h => h) hX)) ?_)
  rintro v w2 ⟨bj, u1, u2, rfl, F, hJ, hF, hE2⟩
  refine ⟨fun _ h => by first | trivial | exact Mod.trans h (Ext.mod (by assumption)), ?_⟩
  generalize jx xs xs.length = j at *
  (repeat (refine GX.pure rfl ?_; first | refine GO.move rfl rfl rfl rfl ?_ | refine GO.assign rfl rfl rfl rfl ?_ | refine GO.extract rfl rfl rfl rfl rfl ?_))
  (repeat (first | refine GX.doneD ?_ | refine GX.done ?_ | refine GQ.goNormal ?_ | refine GC.seq ?_ | refine GC.skip ?_ | refine GC.block ?_ | refine GC.exit ?_ | refine GC.ret ?_ | refine GQ.goExit ?_ | refine GQ.goRet ?_ | refine GQ.inNormal ?_ | refine GQ.inExit ?_ | refine GQ.inExitNe rfl ?_ | refine GQ.inRet ?_ | refine GQ.loopExit ?_ | refine GQ.loopRet ?_ | refine GQ.cutExit ?_ | refine GQ.cutRet ?_))
  refine GC.region (.pure 0 (.pure 1 .done)) rfl ?_
  (repeat (refine GX.pure rfl ?_; first | refine GO.move rfl rfl rfl rfl ?_ | refine GO.ptrEqlNil rfl rfl rfl rfl rfl ?_))
  (repeat (first | refine GX.doneD ?_ | refine GX.done ?_ | refine GQ.goNormal ?_ | refine GC.seq ?_ | refine GC.skip ?_ | refine GC.block ?_ | refine GC.exit ?_ | refine GC.ret ?_ | refine GQ.goExit ?_ | refine GQ.goRet ?_ | refine GQ.inNormal ?_ | refine GQ.inExit ?_ | refine GQ.inExitNe rfl ?_ | refine GQ.inRet ?_ | refine GQ.loopExit ?_ | refine GQ.loopRet ?_ | refine GQ.cutExit ?_ | refine GQ.cutRet ?_))
  refine GC.cond rfl (fun h0 => ?_) (fun h0 => ?_)
  · cases h0
  (repeat (first | refine GX.doneD ?_ | refine GX.done ?_ | refine GQ.goNormal ?_ | refine GC.seq ?_ | refine GC.skip ?_ | refine GC.block ?_ | refine GC.exit ?_ | refine GC.ret ?_ | refine GQ.goExit ?_ | refine GQ.goRet ?_ | refine GQ.inNormal ?_ | refine GQ.inExit ?_ | refine GQ.inExitNe rfl ?_ | refine GQ.inRet ?_ | refine GQ.loopExit ?_ | refine GQ.loopRet ?_ | refine GQ.cutExit ?_ | refine GQ.cutRet ?_))
  refine GC.region (.pure 0 (.eff 1 (.pure 2 .done))) rfl ?_
  (repeat (refine GX.pure rfl ?_; first | refine GO.move rfl rfl rfl rfl ?_ | refine GO.assign rfl rfl rfl rfl ?_))
  (refine GX.eff rfl ?_; refine GO.callL rfl rfl rfl rfl rfl (bytesJ_ret F bj j w2 hJ (by omega)) ?_)
  rintro v w3 ⟨⟨ob3, a3, c3, rfl, hO3, hF3, hG3⟩, hE3⟩
  refine ⟨fun _ h => by first | trivial | exact Mod.trans h (Ext.mod (by assumption)), ?_⟩
  have hB3 := hO3.bytes hG3
  have hcap3 := hB3.cap
  (repeat (refine GX.pure rfl ?_; first | refine GO.move rfl rfl rfl rfl ?_ | refine GO.assign rfl rfl rfl rfl ?_))
  (repeat (first | refine GX.doneD ?_ | refine GX.done ?_ | refine GQ.goNormal ?_ | refine GC.seq ?_ | refine GC.skip ?_ | refine GC.block ?_ | refine GC.exit ?_ | refine GC.ret ?_ | refine GQ.goExit ?_ | refine GQ.goRet ?_ | refine GQ.inNormal ?_ | refine GQ.inExit ?_ | refine GQ.inExitNe rfl ?_ | refine GQ.inRet ?_ | refine GQ.loopExit ?_ | refine GQ.loopRet ?_ | refine GQ.cutExit ?_ | refine GQ.cutRet ?_))
  refine GC.pick [1, 2, 3, 12] rfl ?_
  refine GC.region (.pure 0 (.pure 1 (.pure 2 (.pure 3 (.pure 4 (.pure 5 (.pure 6 .done))))))) rfl ?_
  (repeat (refine GX.pure rfl ?_; first | refine GO.move rfl rfl rfl rfl ?_ | refine GO.assign rfl rfl rfl rfl ?_ | refine GO.lenSlice rfl rfl rfl rfl ?_ | refine GO.add rfl rfl rfl rfl rfl (wrapIn (by dsimp only [InK]; omega)) ?_ | refine GO.conv rfl rfl rfl rfl (wrapIn (by dsimp only [InK]; omega)) ?_ | refine GO.convStr rfl rfl rfl rfl ?_))
  have hrem : Int.tmod (at_ : Int) ((j.data.length : Int) + 1) = ((at_ % (j.data.length + 1) : Nat) : Int) := by
    have := Int.ofNat_tmod at_ (j.data.length + 1)
    rw [this]; congr 1
  refine GX.pure rfl (GO.rem rfl rfl rfl rfl rfl (by omega) hrem ?_)
  (repeat (refine GX.pure rfl ?_; first | refine GO.move rfl rfl rfl rfl ?_ | refine GO.assign rfl rfl rfl rfl ?_ | refine GO.lenSlice rfl rfl rfl rfl ?_ | refine GO.add rfl rfl rfl rfl rfl (wrapIn (by dsimp only [InK]; omega)) ?_ | refine GO.conv rfl rfl rfl rfl (wrapIn (by dsimp only [InK]; omega)) ?_ | refine GO.convStr rfl rfl rfl rfl ?_))
  (repeat (first | refine GX.doneD ?_ | refine GX.done ?_ | refine GQ.goNormal ?_ | refine GC.seq ?_ | refine GC.skip ?_ | refine GC.block ?_ | refine GC.exit ?_ | refine GC.ret ?_ | refine GQ.goExit ?_ | refine GQ.goRet ?_ | refine GQ.inNormal ?_ | refine GQ.inExit ?_ | refine GQ.inExitNe rfl ?_ | refine GQ.inRet ?_ | refine GQ.loopExit ?_ | refine GQ.loopRet ?_ | refine GQ.cutExit ?_ | refine GQ.cutRet ?_))
  have hfr : at_ % (j.data.length + 1) ≤ j.data.length := by have := Nat.mod_lt at_ (show 0 < j.data.length + 1 by omega); omega
  generalize at_ % (j.data.length + 1) = fr at *
  refine GC.region (.pure 0 (.pure 1 (.pure 2 (.pure 3 (.pure 4 (.pure 5 (.pure 6 (.pure 7 .done)))))))) rfl ?_
  (repeat (refine GX.pure rfl ?_; first | refine GO.move rfl rfl rfl rfl ?_ | refine GO.assign rfl rfl rfl rfl ?_ | refine GO.lenSlice rfl rfl rfl rfl ?_ | refine GO.add rfl rfl rfl rfl rfl (wrapIn (by dsimp only [InK]; omega)) ?_ | refine GO.conv rfl rfl rfl rfl (wrapIn (by dsimp only [InK]; omega)) ?_ | refine GO.convStr rfl rfl rfl rfl ?_))
  have hmin : (if ((fr : Int) + less) < (j.data.length : Int) then ((fr : Int) + less) else (j.data.length : Int)) = ((min j.data.length (fr + less) : Nat) : Int) := by split <;> omega
  refine GX.pure rfl (GO.min2 rfl rfl rfl rfl rfl hmin ?_)
  (repeat (refine GX.pure rfl ?_; first | refine GO.move rfl rfl rfl rfl ?_ | refine GO.assign rfl rfl rfl rfl ?_ | refine GO.lenSlice rfl rfl rfl rfl ?_ | refine GO.add rfl rfl rfl rfl rfl (wrapIn (by dsimp only [InK]; omega)) ?_ | refine GO.conv rfl rfl rfl rfl (wrapIn (by dsimp only [InK]; omega)) ?_ | refine GO.convStr rfl rfl rfl rfl ?_))
  (repeat (first | refine GX.doneD ?_ | refine GX.done ?_ | refine GQ.goNormal ?_ | refine GC.seq ?_ | refine GC.skip ?_ | refine GC.block ?_ | refine GC.exit ?_ | refine GC.ret ?_ | refine GQ.goExit ?_ | refine GQ.goRet ?_ | refine GQ.inNormal ?_ | refine GQ.inExit ?_ | refine GQ.inExitNe rfl ?_ | refine GQ.inRet ?_ | refine GQ.loopExit ?_ | refine GQ.loopRet ?_ | refine GQ.cutExit ?_ | refine GQ.cutRet ?_))
  have hto : min j.data.length (fr + less) ≤ j.data.length := Nat.min_le_left _ _
  generalize min j.data.length (fr + less) = tt at *
  refine GC.regionD (.pure 0 (.pure 1 (.pure 2 (.pure 4 (.pure 6 (.pure 7 (.pure 8 (.eff 3 (.eff 5 (.eff 9 (.eff 10 (.pure 11 (.eff 12 (.pure 13 (.pure 14 .done))))))))))))))) (fun _ => False) mixed (by kernel_rfl) (by kernel_rfl) ?_
  intro w4 _ hE4
  have hS : Mod (fun _ => False) w3 w4 := hE4
  (repeat (refine GX.pure rfl ?_; first | refine GO.move rfl rfl rfl rfl ?_ | refine GO.assign rfl rfl rfl rfl ?_ | refine GO.pickT rfl rfl rfl rfl rfl ?_ | refine GO.pickF rfl rfl rfl rfl rfl ?_ | refine GO.skip (.inl rfl) rfl rfl ?_))
  refine GX.pure rfl ?_
  refine GO.sliceS rfl rfl rfl rfl (bounds_h (by omega) (by omega)) ⟨by simp, by simp; rfl, by simp⟩ ?_
  (repeat (refine GX.pure rfl ?_; first | refine GO.move rfl rfl rfl rfl ?_ | refine GO.assign rfl rfl rfl rfl ?_ | refine GO.pickT rfl rfl rfl rfl rfl ?_ | refine GO.pickF rfl rfl rfl rfl rfl ?_ | refine GO.skip (.inl rfl) rfl rfl ?_))
  refine GX.pure rfl ?_
  refine GO.sliceS rfl rfl rfl rfl (bounds_l (by omega) (by omega)) ⟨by simp; rfl, by simp, by simp⟩ ?_
  have e1 : ((fr : Nat) : Int).toNat - 0 = fr := by omega
  have e2 : ((tt : Nat) : Int).toNat = tt := by omega
  rw [e1, e2]
  have hE34 := hE4
  have hB4 := hB3.ext hE4
  have hp1 := hB4.cells.bytes 0 c3 fr (by omega)
  rw [List.drop_zero] at hp1
  have hp2 := (hB4.from_ tt hto)
  have hl1 : (j.data.take fr).length = fr := by rw [List.length_take]; omega
  have hl2 : (j.data.drop tt).length = j.data.length - tt := by simp
  have hm4 : BytesAt w4 am cm m := (((hM.ext hE1).ext hE2).ext hE3).ext hE4
  refine GX.eff rfl ?_
  refine GO.append (m := fr) (OwnS.nil w4 5 1) hp1 (by rw [length_bytesV, hl1]; omega) (bytesV_one _) (by omega) (by omega) rfl rfl rfl rfl rfl fun o5 a5 c5 w5 hO5 hM5 hF5 hG5 => ?_
  have hE5 : Ext w4 w5 := hM5.weaken (fun k _ h => by cases h)
  refine ⟨fun _ h => by first | trivial | exact Mod.trans h (Ext.mod (by assumption)), ?_⟩
  rw [List.nil_append, Nat.zero_add] at hO5
  rw [Nat.zero_add fr]
  have gg5 : ∀ x, a5 = some x → o5 = some x.block := fun x hx => (hG5 x hx).resolve_right (by simp)
  have ff5 : ∀ x, o5 = some x → w4.heap.size ≤ x := fun x hx => (hF5 x hx).resolve_left (by simp)
  refine GX.eff rfl ?_
  refine GO.append (m := m.length) hO5 (hm4.ext hE5).cells (by simp) (bytesV_one m) (by omega) (by omega) rfl rfl rfl rfl rfl fun o6 a6 c6 w6 hO6 hM6 hF6 hG6 => ?_
  have gg6 := own_app hG6 gg5
  have hE46 : Ext w4 w6 := hE5.then hM6 (fun i hi h => by have := ff5 i h.symm; omega)
  refine ⟨fun _ _ => hE4.trans hE46, ?_⟩
  have ff6 : ∀ x, o6 = some x → w4.heap.size ≤ x := fun x hx => by
    rcases hF6 x hx with h | h
    · exact ff5 x h
    · have := hE5.size; omega
  refine GX.eff rfl ?_
  refine GO.append (m := j.data.length - tt) hO6 (hp2.ext hE46).cells (by rw [length_bytesV, hl2]; omega) (bytesV_one _) (by omega) (by omega) rfl rfl rfl rfl rfl fun o7 a7 c7 w7 hO7 hM7 hF7 hG7 => ?_
  have gg7 := own_app hG7 gg6
  have hE47 : Ext w4 w7 := hE46.then hM7 (fun i hi h => by have := ff6 i h.symm; omega)
  refine ⟨fun _ _ => hE4.trans hE47, ?_⟩
  have hbytes : bytesV (j.data.take fr) ++ bytesV m ++ bytesV (j.data.drop tt) = bytesV (j.data.take fr ++ m ++ j.data.drop tt) := by simp [bytesV_append]
  have hlen : (j.data.take fr ++ m ++ j.data.drop tt).length = fr + m.length + (j.data.length - tt) := by rw [List.length_append, List.length_append, hl1, hl2]
  rw [hbytes, ← hlen] at hO7
  rw [← hlen]
  (refine GX.eff rfl ?_; refine GO.callL rfl rfl rfl rfl rfl (right_ret (j.data.take fr ++ m ++ j.data.drop tt) _ rfl (by omega) a7 c7 w7 (hO7.bytes gg7)) ?_)
  rintro v w8 ⟨rfl, hE8⟩
  refine ⟨fun _ h => by first | trivial | exact Mod.trans h (Ext.mod (by assumption)), ?_⟩
  (repeat (refine GX.pure rfl ?_; first | refine GO.move rfl rfl rfl rfl ?_ | refine GO.assign rfl rfl rfl rfl ?_ | refine GO.pickT rfl rfl rfl rfl rfl ?_ | refine GO.pickF rfl rfl rfl rfl rfl ?_ | refine GO.skip (.inl rfl) rfl rfl ?_))
  (refine GX.eff rfl ?_; refine GO.callL rfl rfl rfl rfl rfl (known_ret w8) ?_)
  rintro v w9 ⟨rfl, hE9⟩
  refine ⟨fun _ h => by first | trivial | exact Mod.trans h (Ext.mod (by assumption)), ?_⟩
  (repeat (refine GX.pure rfl ?_; first | refine GO.move rfl rfl rfl rfl ?_ | refine GO.assign rfl rfl rfl rfl ?_ | refine GO.pickT rfl rfl rfl rfl rfl ?_ | refine GO.pickF rfl rfl rfl rfl rfl ?_ | refine GO.skip (.inl rfl) rfl rfl ?_))
  (repeat (first | refine GX.doneD ?_ | refine GX.done ?_ | refine GQ.goNormal ?_ | refine GC.seq ?_ | refine GC.skip ?_ | refine GC.block ?_ | refine GC.exit ?_ | refine GC.ret ?_ | refine GQ.goExit ?_ | refine GQ.goRet ?_ | refine GQ.inNormal ?_ | refine GQ.inExit ?_ | refine GQ.inExitNe rfl ?_ | refine GQ.inRet ?_ | refine GQ.loopExit ?_ | refine GQ.loopRet ?_ | refine GQ.cutExit ?_ | refine GQ.cutRet ?_))
  refine GQ.ret1 (by first | exact .inl rfl | exact .inr rfl) rfl rfl ?_
  exact ⟨rfl, (((((hE1.trans hE2).trans hE3).trans hE4).trans hE47).trans hE8).trans hE9⟩
end Go.Proofs.Ytahkglanddhncaa.V
