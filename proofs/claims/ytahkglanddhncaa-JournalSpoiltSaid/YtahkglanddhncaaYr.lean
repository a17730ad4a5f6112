/-
  What the law's functions that count light commands, copy a command and spoil it compute. Conditions: a command that is copied has parts shorter than 2^28; one that is spoilt has slices of its own.
-/
import Derived.Test.YtahkglanddhncaaYn
namespace Go.Proofs.Ytahkglanddhncaa.V
attribute [local irreducible] GX GO

set_option maxHeartbeats 1000000 in
theorem few_ret (F : Nat → Prop) (xs : List (Nat × Cmd)) (hs : xs.length ≤ 9223372036854775807) (most : Nat) (cells : List Value) (a : Option Addr) (c : Nat) (w : World) (hA : SlA w a cells) (hX : EntsF w F cells xs) :
    Ret Try.prog 9 [.slice a xs.length c, .int .i64 most].toArray w fun v w' => (∃ z, v = .bool z ∧ (z = true → xs.length ≤ most ∧ ∀ x ∈ xs, LightC x.2)) ∧ Ext w w' := by
  have hxl := EntsF.length hX
  
  refine Ret.enter Try.func9 rfl Try.ntmps9 rfl ?_
  (repeat (first | refine GX.doneD ?_ | refine GX.done ?_ | refine GQ.goNormal ?_ | refine GC.seq ?_ | refine GC.skip ?_ | refine GC.block ?_ | refine GC.exit ?_ | refine GC.ret ?_ | refine GQ.goExit ?_ | refine GQ.goRet ?_ | refine GQ.inNormal ?_ | refine GQ.inExit ?_ | refine GQ.inExitNe rfl ?_ | refine GQ.inRet ?_ | refine GQ.loopExit ?_ | refine GQ.loopRet ?_ | refine GQ.cutExit ?_ | refine GQ.cutRet ?_))
  refine GC.region (.pure 0 .done) rfl ?_
  (repeat (refine GX.pure rfl ?_; refine GO.assign rfl rfl rfl rfl ?_))
  (repeat (first | refine GX.doneD ?_ | refine GX.done ?_ | refine GQ.goNormal ?_ | refine GC.seq ?_ | refine GC.skip ?_ | refine GC.block ?_ | refine GC.exit ?_ | refine GC.ret ?_ | refine GQ.goExit ?_ | refine GQ.goRet ?_ | refine GQ.inNormal ?_ | refine GQ.inExit ?_ | refine GQ.inExitNe rfl ?_ | refine GQ.inRet ?_ | refine GQ.loopExit ?_ | refine GQ.loopRet ?_ | refine GQ.cutExit ?_ | refine GQ.cutRet ?_))
  refine GC.region (.pure 0 .done) rfl ?_
  (repeat (refine GX.pure rfl ?_; refine GO.assign rfl rfl rfl rfl ?_))
  (repeat (first | refine GX.doneD ?_ | refine GX.done ?_ | refine GQ.goNormal ?_ | refine GC.seq ?_ | refine GC.skip ?_ | refine GC.block ?_ | refine GC.exit ?_ | refine GC.ret ?_ | refine GQ.goExit ?_ | refine GQ.goRet ?_ | refine GQ.inNormal ?_ | refine GQ.inExit ?_ | refine GQ.inExitNe rfl ?_ | refine GQ.inRet ?_ | refine GQ.loopExit ?_ | refine GQ.loopRet ?_ | refine GQ.cutExit ?_ | refine GQ.cutRet ?_))
  refine GC.loop (X := Nat) (fun k => [(0, .slice a xs.length c), (1, .int .i64 most), (5, .int .i64 k)]) (fun k w' => k ≤ xs.length ∧ (∀ x ∈ xs.take k, LightC x.2) ∧ Ext w w') (fun k => xs.length - k) 0 (sub_pick (l := [0, 1, 5]) rfl) ⟨Nat.zero_le _, by simp, Mod.refl _⟩ ?_
  rintro k w1 ⟨hk, hpre, hE1⟩
  (repeat (first | refine GX.doneD ?_ | refine GX.done ?_ | refine GQ.goNormal ?_ | refine GC.seq ?_ | refine GC.skip ?_ | refine GC.block ?_ | refine GC.exit ?_ | refine GC.ret ?_ | refine GQ.goExit ?_ | refine GQ.goRet ?_ | refine GQ.inNormal ?_ | refine GQ.inExit ?_ | refine GQ.inExitNe rfl ?_ | refine GQ.inRet ?_ | refine GQ.loopExit ?_ | refine GQ.loopRet ?_ | refine GQ.cutExit ?_ | refine GQ.cutRet ?_))
  refine GC.cut (X := Bool) (fun z => [(0, .slice a xs.length c), (1, .int .i64 most), (5, .int .i64 k), (14, .bool z)]) (fun z w' => w1 = w' ∧ (z = true → k < xs.length) ∧ (z = false → k < xs.length → most ≤ k)) ?_ ?_
  · refine GC.region (.pure 0 (.pure 1 (.pure 2 (.pure 3 (.pure 4 (.pure 5 (.pure 6 (.pure 7 (.pure 8 .done))))))))) rfl ?_
    (refine GX.pure rfl ?_; first | refine GO.move rfl rfl rfl rfl ?_ | refine GO.lenSlice rfl rfl rfl rfl ?_ | refine GO.lss rfl rfl rfl rfl rfl ?_ | refine GO.pickT rfl rfl rfl rfl rfl ?_ | refine GO.pickF rfl rfl rfl rfl rfl ?_ | refine GO.skip (.inl rfl) rfl rfl ?_)
    (refine GX.pure rfl ?_; first | refine GO.move rfl rfl rfl rfl ?_ | refine GO.lenSlice rfl rfl rfl rfl ?_ | refine GO.lss rfl rfl rfl rfl rfl ?_ | refine GO.pickT rfl rfl rfl rfl rfl ?_ | refine GO.pickF rfl rfl rfl rfl rfl ?_ | refine GO.skip (.inl rfl) rfl rfl ?_)
    (refine GX.pure rfl ?_; first | refine GO.move rfl rfl rfl rfl ?_ | refine GO.lenSlice rfl rfl rfl rfl ?_ | refine GO.lss rfl rfl rfl rfl rfl ?_ | refine GO.pickT rfl rfl rfl rfl rfl ?_ | refine GO.pickF rfl rfl rfl rfl rfl ?_ | refine GO.skip (.inl rfl) rfl rfl ?_)
    (refine GX.pure rfl ?_; first | refine GO.move rfl rfl rfl rfl ?_ | refine GO.lenSlice rfl rfl rfl rfl ?_ | refine GO.lss rfl rfl rfl rfl rfl ?_ | refine GO.pickT rfl rfl rfl rfl rfl ?_ | refine GO.pickF rfl rfl rfl rfl rfl ?_ | refine GO.skip (.inl rfl) rfl rfl ?_)
    (refine GX.pure rfl ?_; first | refine GO.move rfl rfl rfl rfl ?_ | refine GO.lenSlice rfl rfl rfl rfl ?_ | refine GO.lss rfl rfl rfl rfl rfl ?_ | refine GO.pickT rfl rfl rfl rfl rfl ?_ | refine GO.pickF rfl rfl rfl rfl rfl ?_ | refine GO.skip (.inl rfl) rfl rfl ?_)
    refine GX.case 10 rfl (fun h1 => ?_) (fun h1 => ?_)
    rotate_left
    · have h1' := of_decide_eq_false h1
      (repeat (first | (refine GX.pure rfl ?_; first | refine GO.move rfl rfl rfl rfl ?_ | refine GO.lenSlice rfl rfl rfl rfl ?_ | refine GO.lss rfl rfl rfl rfl rfl ?_ | refine GO.pickT rfl rfl rfl rfl rfl ?_ | refine GO.pickF rfl rfl rfl rfl rfl ?_ | refine GO.skip (.inl rfl) rfl rfl ?_) | (refine GX.eff rfl ?_; refine GO.skip (.inr rfl) rfl rfl ?_) | (refine GX.read rfl ?_; refine GO.skipRead (by assumption) rfl rfl ?_)))
      (repeat (first | refine GX.doneD ?_ | refine GX.done ?_ | refine GQ.goNormal ?_ | refine GC.seq ?_ | refine GC.skip ?_ | refine GC.block ?_ | refine GC.exit ?_ | refine GC.ret ?_ | refine GQ.goExit ?_ | refine GQ.goRet ?_ | refine GQ.inNormal ?_ | refine GQ.inExit ?_ | refine GQ.inExitNe rfl ?_ | refine GQ.inRet ?_ | refine GQ.loopExit ?_ | refine GQ.loopRet ?_ | refine GQ.cutExit ?_ | refine GQ.cutRet ?_))
      exact GQ.cutNormal false (sub_pick (l := [0, 1, 5, 14]) rfl) ⟨rfl, by simp, fun _ h => by omega⟩
    have h1' := of_decide_eq_true h1
    (repeat (refine GX.pure rfl ?_; first | refine GO.move rfl rfl rfl rfl ?_ | refine GO.lenSlice rfl rfl rfl rfl ?_ | refine GO.lss rfl rfl rfl rfl rfl ?_ | refine GO.pickT rfl rfl rfl rfl rfl ?_ | refine GO.pickF rfl rfl rfl rfl rfl ?_ | refine GO.skip (.inl rfl) rfl rfl ?_))
    (repeat (first | refine GX.doneD ?_ | refine GX.done ?_ | refine GQ.goNormal ?_ | refine GC.seq ?_ | refine GC.skip ?_ | refine GC.block ?_ | refine GC.exit ?_ | refine GC.ret ?_ | refine GQ.goExit ?_ | refine GQ.goRet ?_ | refine GQ.inNormal ?_ | refine GQ.inExit ?_ | refine GQ.inExitNe rfl ?_ | refine GQ.inRet ?_ | refine GQ.loopExit ?_ | refine GQ.loopRet ?_ | refine GQ.cutExit ?_ | refine GQ.cutRet ?_))
    exact GQ.cutNormal (decide ((k : Int) < most)) (sub_pick (l := [0, 1, 5, 14]) rfl) ⟨rfl, fun _ => by omega, fun h _ => by have := of_decide_eq_false h; omega⟩
  rintro z _ ⟨rfl, hz1, hz2⟩
  (repeat (first | refine GX.doneD ?_ | refine GX.done ?_ | refine GQ.goNormal ?_ | refine GC.seq ?_ | refine GC.skip ?_ | refine GC.block ?_ | refine GC.exit ?_ | refine GC.ret ?_ | refine GQ.goExit ?_ | refine GQ.goRet ?_ | refine GQ.inNormal ?_ | refine GQ.inExit ?_ | refine GQ.inExitNe rfl ?_ | refine GQ.inRet ?_ | refine GQ.loopExit ?_ | refine GQ.loopRet ?_ | refine GQ.cutExit ?_ | refine GQ.cutRet ?_))
  refine GC.cond rfl (fun hz => ?_) (fun hz => ?_)
  · have hlt : k < xs.length := hz1 hz
    obtain ⟨ba, oa, rfl, hAt⟩ := hA.of_pos (by omega)
    have hX1 := EntsF.mod hE1 (fun _ _ _ h => h) hX
    obtain ⟨lx, hcx, hlx, hx1, hx2⟩ := hX1.at_ (hAt.ext hE1) hlt
    have e1 : ((k : Int)).toNat = k := by omega
    (repeat (first | refine GX.doneD ?_ | refine GX.done ?_ | refine GQ.goNormal ?_ | refine GC.seq ?_ | refine GC.skip ?_ | refine GC.block ?_ | refine GC.exit ?_ | refine GC.ret ?_ | refine GQ.goExit ?_ | refine GQ.goRet ?_ | refine GQ.inNormal ?_ | refine GQ.inExit ?_ | refine GQ.inExitNe rfl ?_ | refine GQ.inRet ?_ | refine GQ.loopExit ?_ | refine GQ.loopRet ?_ | refine GQ.cutExit ?_ | refine GQ.cutRet ?_))
    refine GC.region (.pure 0 (.pure 1 (.pure 2 (.pure 3 (.eff 4 (.eff 5 (.pure 6 .done))))))) rfl ?_
    (repeat (refine GX.pure rfl ?_; first | refine GO.move rfl rfl rfl rfl ?_ | refine GO.fieldAddr rfl rfl rfl rfl rfl ?_ | refine GO.not rfl rfl rfl rfl ?_))
    refine GX.pure rfl (GO.indexAddr rfl rfl rfl rfl (by omega) (by omega) rfl ?_)
    (repeat (refine GX.pure rfl ?_; first | refine GO.move rfl rfl rfl rfl ?_ | refine GO.fieldAddr rfl rfl rfl rfl rfl ?_ | refine GO.not rfl rfl rfl rfl ?_))
    rw [e1]
    refine GX.eff rfl ?_
    refine GO.loadN hx2 hlx rfl rfl rfl ?_
    (refine GX.eff rfl ?_; refine GO.callL rfl rfl rfl rfl rfl (light_ret xs[k].2 lx 0 w1 hcx.v) ?_)
    rintro v w2 ⟨⟨y, rfl, hy⟩, hE2⟩
    refine ⟨fun _ h => by first | trivial | exact Mod.trans h (Ext.mod (by assumption)), ?_⟩
    (repeat (refine GX.pure rfl ?_; first | refine GO.move rfl rfl rfl rfl ?_ | refine GO.fieldAddr rfl rfl rfl rfl rfl ?_ | refine GO.not rfl rfl rfl rfl ?_))
    (repeat (first | refine GX.doneD ?_ | refine GX.done ?_ | refine GQ.goNormal ?_ | refine GC.seq ?_ | refine GC.skip ?_ | refine GC.block ?_ | refine GC.exit ?_ | refine GC.ret ?_ | refine GQ.goExit ?_ | refine GQ.goRet ?_ | refine GQ.inNormal ?_ | refine GQ.inExit ?_ | refine GQ.inExitNe rfl ?_ | refine GQ.inRet ?_ | refine GQ.loopExit ?_ | refine GQ.loopRet ?_ | refine GQ.cutExit ?_ | refine GQ.cutRet ?_))
    refine GC.cond rfl (fun hq => ?_) (fun hq => ?_)
    · (repeat (first | refine GX.doneD ?_ | refine GX.done ?_ | refine GQ.goNormal ?_ | refine GC.seq ?_ | refine GC.skip ?_ | refine GC.block ?_ | refine GC.exit ?_ | refine GC.ret ?_ | refine GQ.goExit ?_ | refine GQ.goRet ?_ | refine GQ.inNormal ?_ | refine GQ.inExit ?_ | refine GQ.inExitNe rfl ?_ | refine GQ.inRet ?_ | refine GQ.loopExit ?_ | refine GQ.loopRet ?_ | refine GQ.cutExit ?_ | refine GQ.cutRet ?_))
      refine GC.region (.pure 0 .done) rfl ?_
      (repeat (refine GX.pure rfl ?_; refine GO.assign rfl rfl rfl rfl ?_))
      (repeat (first | refine GX.doneD ?_ | refine GX.done ?_ | refine GQ.goNormal ?_ | refine GC.seq ?_ | refine GC.skip ?_ | refine GC.block ?_ | refine GC.exit ?_ | refine GC.ret ?_ | refine GQ.goExit ?_ | refine GQ.goRet ?_ | refine GQ.inNormal ?_ | refine GQ.inExit ?_ | refine GQ.inExitNe rfl ?_ | refine GQ.inRet ?_ | refine GQ.loopExit ?_ | refine GQ.loopRet ?_ | refine GQ.cutExit ?_ | refine GQ.cutRet ?_))
      refine GQ.ret1 (by first | exact .inl rfl | exact .inr rfl) rfl rfl ?_
      exact ⟨⟨false, rfl, by simp⟩, hE1.trans hE2⟩
    have hy' : y = true := by simpa using hq
    (repeat (first | refine GX.doneD ?_ | refine GX.done ?_ | refine GQ.goNormal ?_ | refine GC.seq ?_ | refine GC.skip ?_ | refine GC.block ?_ | refine GC.exit ?_ | refine GC.ret ?_ | refine GQ.goExit ?_ | refine GQ.goRet ?_ | refine GQ.inNormal ?_ | refine GQ.inExit ?_ | refine GQ.inExitNe rfl ?_ | refine GQ.inRet ?_ | refine GQ.loopExit ?_ | refine GQ.loopRet ?_ | refine GQ.cutExit ?_ | refine GQ.cutRet ?_))
    refine GC.region (.pure 0 (.pure 1 (.pure 2 .done))) rfl ?_
    (repeat (refine GX.pure rfl ?_; first | refine GO.move rfl rfl rfl rfl ?_ | refine GO.assign rfl rfl rfl rfl ?_ | refine GO.add rfl rfl rfl rfl rfl (wrapIn (by dsimp only [InK]; omega)) ?_))
    (repeat (first | refine GX.doneD ?_ | refine GX.done ?_ | refine GQ.goNormal ?_ | refine GC.seq ?_ | refine GC.skip ?_ | refine GC.block ?_ | refine GC.exit ?_ | refine GC.ret ?_ | refine GQ.goExit ?_ | refine GQ.goRet ?_ | refine GQ.inNormal ?_ | refine GQ.inExit ?_ | refine GQ.inExitNe rfl ?_ | refine GQ.inRet ?_ | refine GQ.loopExit ?_ | refine GQ.loopRet ?_ | refine GQ.cutExit ?_ | refine GQ.cutRet ?_))
    refine GQ.again (k + 1) (sub_pick (l := [0, 1, 5]) rfl) ⟨hlt, fun x hx => ?_, hE1.trans hE2⟩ (by omega)
    rw [List.take_succ_eq_append_getElem hlt] at hx
    rcases List.mem_append.1 hx with hx | hx
    · exact hpre x hx
    · simp at hx; subst hx; exact hy.1 hy'
  · have hz' : z = false := hz
    (repeat (first | refine GX.doneD ?_ | refine GX.done ?_ | refine GQ.goNormal ?_ | refine GC.seq ?_ | refine GC.skip ?_ | refine GC.block ?_ | refine GC.exit ?_ | refine GC.ret ?_ | refine GQ.goExit ?_ | refine GQ.goRet ?_ | refine GQ.inNormal ?_ | refine GQ.inExit ?_ | refine GQ.inExitNe rfl ?_ | refine GQ.inRet ?_ | refine GQ.loopExit ?_ | refine GQ.loopRet ?_ | refine GQ.cutExit ?_ | refine GQ.cutRet ?_))
    refine GC.region (.pure 0 (.pure 1 (.pure 2 (.pure 3 (.pure 4 .done))))) rfl ?_
    (repeat (refine GX.pure rfl ?_; first | refine GO.move rfl rfl rfl rfl ?_ | refine GO.assign rfl rfl rfl rfl ?_ | refine GO.lenSlice rfl rfl rfl rfl ?_ | refine GO.leq rfl rfl rfl rfl rfl ?_))
    (repeat (first | refine GX.doneD ?_ | refine GX.done ?_ | refine GQ.goNormal ?_ | refine GC.seq ?_ | refine GC.skip ?_ | refine GC.block ?_ | refine GC.exit ?_ | refine GC.ret ?_ | refine GQ.goExit ?_ | refine GQ.goRet ?_ | refine GQ.inNormal ?_ | refine GQ.inExit ?_ | refine GQ.inExitNe rfl ?_ | refine GQ.inRet ?_ | refine GQ.loopExit ?_ | refine GQ.loopRet ?_ | refine GQ.cutExit ?_ | refine GQ.cutRet ?_))
    refine GQ.ret1 (by first | exact .inl rfl | exact .inr rfl) rfl rfl ?_
    refine ⟨⟨_, rfl, fun h => ?_⟩, hE1⟩
    have hle : xs.length ≤ most := by have := of_decide_eq_true h; omega
    have hke : k = xs.length := by
      rcases Nat.lt_or_ge k xs.length with h1 | h1
      · have := hz2 hz' h1; omega
      · omega
    subst hke
    rw [List.take_length] at hpre
    exact ⟨hle, hpre⟩

/-- The cells of a command whose slices are its own. -/
def OwnC (w : World) (lo : Nat) (l : List Value) (c : Cmd) (ko vo to : Option Nat) : Prop :=
  ∃ ka kc va vc ta tc, l = cmdCells c ka kc va vc ta tc ∧ Own w 9 1 ko ka c.keys.length kc (strsV c.keys) ∧ Own w 5 1 vo va c.value.length vc (bytesV c.value) ∧ Own w 9 1 to ta c.tags.length tc (strsV c.tags) ∧
    (∀ y, ko = some y → lo ≤ y ∧ vo ≠ some y ∧ to ≠ some y) ∧ (∀ y, vo = some y → lo ≤ y ∧ ko ≠ some y ∧ to ≠ some y) ∧ (∀ y, to = some y → lo ≤ y ∧ ko ≠ some y ∧ vo ≠ some y)
theorem Own.strs {w : World} {el : Nat} {ob : Option Nat} {a : Option Addr} {l : List (List UInt8)} {cap : Nat} (h : Own w el 1 ob a l.length cap (strsV l)) : StrsAt w a cap l := h.own.strs h.at_
theorem OwnC.f {w : World} {lo : Nat} {l : List Value} {c : Cmd} {ko vo to : Option Nat} (h : OwnC w lo l c ko vo to) : CmdF w (fun k => lo ≤ k ∧ k < w.heap.size) l c := by
  obtain ⟨ka, kc, va, vc, ta, tc, h1, h2, h3, h4, k1, k2, k3⟩ := h
  refine ⟨ka, kc, va, vc, ta, tc, h1, h2.strs, h3.bytes, h4.strs, ?_⟩
  rintro y (⟨h, _⟩ | ⟨h, _⟩ | ⟨h, _⟩)
  · have := h2.at_ y h; exact ⟨(k1 _ this).1, h2.lt _ this⟩
  · have := h3.at_ y h; exact ⟨(k2 _ this).1, h3.lt _ this⟩
  · have := h4.at_ y h; exact ⟨(k3 _ this).1, h4.lt _ this⟩
theorem OwnC.mod {S : Nat → Prop} {w w' : World} {lo : Nat} {l : List Value} {c : Cmd} {ko vo to : Option Nat} (h : OwnC w lo l c ko vo to) (hm : Mod S w w') (hs : ∀ k, lo ≤ k → k < w.heap.size → ¬ S k) : OwnC w' lo l c ko vo to := by
  obtain ⟨ka, kc, va, vc, ta, tc, h1, h2, h3, h4, k1, k2, k3⟩ := h
  exact ⟨ka, kc, va, vc, ta, tc, h1, h2.mod hm (fun y hy => hs y (k1 y hy).1 (h2.lt y hy)), h3.mod hm (fun y hy => hs y (k2 y hy).1 (h3.lt y hy)), h4.mod hm (fun y hy => hs y (k3 y hy).1 (h4.lt y hy)), k1, k2, k3⟩

set_option maxHeartbeats 2000000 in
theorem own_ret (c : Cmd) (hc : OkC c) (l : List Value) (B : Nat) (w : World) (hV : CmdV w B l c) :
    Ret Try.prog 27 [.agg l.toArray].toArray w fun v w' => ∃ l' ko vo to, v = .agg l'.toArray ∧ OwnC w' w.heap.size l' c ko vo to ∧ Ext w w' := by
  obtain ⟨ka, kc, va, vc, ta, tc, rfl, hK, hA, hT, hX⟩ := hV
  have hsm := hc.small
  have h1 := hsm.value
  have h2 := hc.keys
  have h3 := hc.tags
  
  refine Ret.enter Try.func27 rfl Try.ntmps27 rfl ?_
  (repeat (first | refine GX.doneD ?_ | refine GX.done ?_ | refine GQ.goNormal ?_ | refine GC.seq ?_ | refine GC.skip ?_ | refine GC.block ?_ | refine GC.exit ?_ | refine GC.ret ?_ | refine GQ.goExit ?_ | refine GQ.goRet ?_ | refine GQ.inNormal ?_ | refine GQ.inExit ?_ | refine GQ.inExitNe rfl ?_ | refine GQ.inRet ?_ | refine GQ.loopExit ?_ | refine GQ.loopRet ?_ | refine GQ.cutExit ?_ | refine GQ.cutRet ?_))
  refine GC.region (.eff 0 (.eff 1 .done)) rfl ?_
  refine GX.eff rfl ?_
  refine GO.box (l := cmdCells c ka kc va vc ta tc) rfl rfl rfl rfl fun b1 w1 hb1 hB1 hE1 => ?_
  refine ⟨fun _ h => by first | trivial | exact Mod.trans h (Ext.mod (by assumption)), ?_⟩
  refine GX.eff rfl ?_
  refine GO.alloc rfl rfl fun b2 w2 hb2 hB2 hE2 => ?_
  refine ⟨fun _ h => by first | trivial | exact Mod.trans h (Ext.mod (by assumption)), ?_⟩
  (repeat (first | refine GX.doneD ?_ | refine GX.done ?_ | refine GQ.goNormal ?_ | refine GC.seq ?_ | refine GC.skip ?_ | refine GC.block ?_ | refine GC.exit ?_ | refine GC.ret ?_ | refine GQ.goExit ?_ | refine GQ.goRet ?_ | refine GQ.inNormal ?_ | refine GQ.inExit ?_ | refine GQ.inExitNe rfl ?_ | refine GQ.inRet ?_ | refine GQ.loopExit ?_ | refine GQ.loopRet ?_ | refine GQ.cutExit ?_ | refine GQ.cutRet ?_))
  have hB1' := hB1.ext hE2
  have hE12 := hE1.trans hE2
  refine GC.regionD (.pure 0 (.pure 3 (.pure 6 (.read 1 (.read 4 (.read 7 (.eff 2 (.pure 9 (.eff 5 (.eff 8 (.eff 10 (.pure 11 (.eff 12 (.pure 13 (.eff 14 .done))))))))))))))) (fun _ => False) mixed (by kernel_rfl) (by kernel_rfl) ?_
  intro w3 _ hE3
  have hS : Mod (fun _ => False) w2 w3 := hE3
  have hE13 := hE12.trans hE3
  (repeat (refine GX.pure rfl ?_; refine GO.fieldAddr rfl rfl rfl rfl rfl ?_))
  (first | (refine GX.eff rfl ?_; first | refine GO.load1 (hB1'.get (o := 0 + 3) rfl) rfl rfl rfl ?_ | refine GO.loadN (hB1'.get (o := 0 + 3) rfl) rfl rfl rfl rfl ?_) | (refine GX.read rfl ?_; first | refine GO.load1R (by assumption) (fun _ hS_ => At.mod (hB1'.get (o := 0 + 3) rfl) hS_ (by simp)) rfl rfl rfl ?_ | refine GO.loadNR (by assumption) (fun _ hS_ => At.mod (hB1'.get (o := 0 + 3) rfl) hS_ (by simp)) rfl rfl rfl rfl ?_))
  (first | (refine GX.eff rfl ?_; first | refine GO.load1 (hB1'.get (o := 0 + 2) rfl) rfl rfl rfl ?_ | refine GO.loadN (hB1'.get (o := 0 + 2) rfl) rfl rfl rfl rfl ?_) | (refine GX.read rfl ?_; first | refine GO.load1R (by assumption) (fun _ hS_ => At.mod (hB1'.get (o := 0 + 2) rfl) hS_ (by simp)) rfl rfl rfl ?_ | refine GO.loadNR (by assumption) (fun _ hS_ => At.mod (hB1'.get (o := 0 + 2) rfl) hS_ (by simp)) rfl rfl rfl rfl ?_))
  (first | (refine GX.eff rfl ?_; first | refine GO.load1 (hB1'.get (o := 0 + 4) rfl) rfl rfl rfl ?_ | refine GO.loadN (hB1'.get (o := 0 + 4) rfl) rfl rfl rfl rfl ?_) | (refine GX.read rfl ?_; first | refine GO.load1R (by assumption) (fun _ hS_ => At.mod (hB1'.get (o := 0 + 4) rfl) hS_ (by simp)) rfl rfl rfl ?_ | refine GO.loadNR (by assumption) (fun _ hS_ => At.mod (hB1'.get (o := 0 + 4) rfl) hS_ (by simp)) rfl rfl rfl rfl ?_))
  refine GX.eff rfl ?_
  refine GO.append (m := c.value.length) (OwnS.nil w3 5 1) (hA.ext hE13).cells (by simp) (bytesV_one c.value) (by omega) (by omega) rfl rfl rfl rfl rfl fun vo a4 c4 w4 hO4 hM4 hF4 hG4 => ?_
  have hE4 : Ext w3 w4 := hM4.weaken (fun k _ h => by cases h)
  refine ⟨fun _ h => by first | trivial | exact Mod.trans h (Ext.mod (by assumption)), ?_⟩
  rw [List.nil_append, Nat.zero_add] at hO4
  rw [Nat.zero_add c.value.length]
  (repeat (refine GX.pure rfl ?_; refine GO.fieldAddr rfl rfl rfl rfl rfl ?_))
  refine GX.eff rfl ?_
  refine GO.append (m := c.keys.length) (OwnS.nil w4 9 1) ((hK.mod (hE13.trans hE4) (by simp))).cells (by simp) (strsV_one c.keys) (by omega) (by omega) rfl rfl rfl rfl rfl fun ko a5 c5 w5 hO5 hM5 hF5 hG5 => ?_
  have hE5 : Ext w4 w5 := hM5.weaken (fun k _ h => by cases h)
  refine ⟨fun _ h => by first | trivial | exact Mod.trans h (Ext.mod (by assumption)), ?_⟩
  rw [List.nil_append, Nat.zero_add] at hO5
  rw [Nat.zero_add c.keys.length]
  refine GX.eff rfl ?_
  refine GO.append (m := c.tags.length) (OwnS.nil w5 9 1) ((hT.mod ((hE13.trans hE4).trans hE5) (by simp))).cells (by simp) (strsV_one c.tags) (by omega) (by omega) rfl rfl rfl rfl rfl fun to a6 c6 w6 hO6 hM6 hF6 hG6 => ?_
  have hE6 : Ext w5 w6 := hM6.weaken (fun k _ h => by cases h)
  refine ⟨fun _ h => by first | trivial | exact Mod.trans h (Ext.mod (by assumption)), ?_⟩
  rw [List.nil_append, Nat.zero_add] at hO6
  rw [Nat.zero_add c.tags.length]
  have s1 := hE1.size
  have s2 := hE2.size
  have s3 := hE3.size
  have s4 := hE4.size
  have s5 := hE5.size
  have s6 := hE6.size
  have f4 : ∀ x, vo = some x → w3.heap.size ≤ x ∧ x < w4.heap.size := fun x hx => ⟨(hF4 x hx).resolve_left (by simp), by subst hx; exact hO4.block.2⟩
  have f5 : ∀ x, ko = some x → w4.heap.size ≤ x ∧ x < w5.heap.size := fun x hx => ⟨(hF5 x hx).resolve_left (by simp), by subst hx; exact hO5.block.2⟩
  have f6 : ∀ x, to = some x → w5.heap.size ≤ x ∧ x < w6.heap.size := fun x hx => ⟨(hF6 x hx).resolve_left (by simp), by subst hx; exact hO6.block.2⟩
  have g4 : ∀ x, a4 = some x → vo = some x.block := fun x hx => (hG4 x hx).resolve_right (by simp)
  have g5 : ∀ x, a5 = some x → ko = some x.block := fun x hx => (hG5 x hx).resolve_right (by simp)
  have g6 : ∀ x, a6 = some x → to = some x.block := fun x hx => (hG6 x hx).resolve_right (by simp)
  have hOC : OwnC w6 w2.heap.size (cmdCells c a5 c5 a4 c4 a6 c6) c ko vo to := by
    refine ⟨a5, c5, a4, c4, a6, c6, rfl, ⟨hO5.ext hE6, g5⟩, ⟨(hO4.ext hE5).ext hE6, g4⟩, ⟨hO6, g6⟩, fun y hy => ⟨?_, fun h => ?_, fun h => ?_⟩, fun y hy => ⟨?_, fun h => ?_, fun h => ?_⟩, fun y hy => ⟨?_, fun h => ?_, fun h => ?_⟩⟩
    · have := f5 y hy; omega
    · have := f5 y hy; have := f4 y h; omega
    · have := f5 y hy; have := f6 y h; omega
    · have := f4 y hy; omega
    · have := f4 y hy; have := f5 y h; omega
    · have := f4 y hy; have := f6 y h; omega
    · have := f6 y hy; omega
    · have := f6 y hy; have := f5 y h; omega
    · have := f6 y hy; have := f4 y h; omega
  have hB6 := (((hB1'.ext hE3).ext hE4).ext hE5).ext hE6
  have hb1l := hB1.lt
  have hb2l := hB2.lt
  refine GX.eff rfl ?_
  refine GO.store (vs := [.slice a4 c.value.length c4]) (hB6.wr (by simp [cmdCells])) rfl rfl (by simp [Value.oneCell']) rfl rfl rfl fun w7 hp7 => ⟨(by first | exact fun _ _ => trivial | exact late_abs (by kernel_rfl)), ?_⟩
  have hB7 : Blk w7 b1 (cmdCells c ka kc a4 c4 ta tc) := by have := hp7.blk hB6; simpa [cmdCells] using this
  (repeat (refine GX.pure rfl ?_; refine GO.fieldAddr rfl rfl rfl rfl rfl ?_))
  refine GX.eff rfl ?_
  refine GO.store (vs := [.slice a5 c.keys.length c5]) (hB7.wr (by simp [cmdCells])) rfl rfl (by simp [Value.oneCell']) rfl rfl rfl fun w8 hp8 => ⟨(by first | exact fun _ _ => trivial | exact late_abs (by kernel_rfl)), ?_⟩
  have hB8 : Blk w8 b1 (cmdCells c a5 c5 a4 c4 ta tc) := by have := hp8.blk hB7; simpa [cmdCells] using this
  (repeat (refine GX.pure rfl ?_; refine GO.fieldAddr rfl rfl rfl rfl rfl ?_))
  refine GX.eff rfl ?_
  refine GO.store (vs := [.slice a6 c.tags.length c6]) (hB8.wr (by simp [cmdCells])) rfl rfl (by simp [Value.oneCell']) rfl rfl rfl fun w9 hp9 => ⟨(by first | exact fun _ _ => trivial | exact late_abs (by kernel_rfl)), ?_⟩
  have hB9 : Blk w9 b1 (cmdCells c a5 c5 a4 c4 a6 c6) := by have := hp9.blk hB8; simpa [cmdCells] using this
  have hM69 : Mod (· = b1) w6 w9 := (hp7.mod.trans hp8.mod).trans hp9.mod
  have hB29 := ((((hB2.ext hE3).ext hE4).ext hE5).ext hE6).mod hM69 (by omega)
  have hOC9 := hOC.mod hM69 (fun k hk _ h => by omega)
  (repeat (first | refine GX.doneD ?_ | refine GX.done ?_ | refine GQ.goNormal ?_ | refine GC.seq ?_ | refine GC.skip ?_ | refine GC.block ?_ | refine GC.exit ?_ | refine GC.ret ?_ | refine GQ.goExit ?_ | refine GQ.goRet ?_ | refine GQ.inNormal ?_ | refine GQ.inExit ?_ | refine GQ.inExitNe rfl ?_ | refine GQ.inRet ?_ | refine GQ.loopExit ?_ | refine GQ.loopRet ?_ | refine GQ.cutExit ?_ | refine GQ.cutRet ?_))
  refine GC.region (.eff 0 (.eff 1 .done)) rfl ?_
  (first | (refine GX.eff rfl ?_; first | refine GO.load1 (hB9.at) rfl rfl rfl ?_ | refine GO.loadN (hB9.at) rfl rfl rfl rfl ?_) | (refine GX.read rfl ?_; first | refine GO.load1R (by assumption) (fun _ hS_ => At.mod (hB9.at) hS_ (by simp)) rfl rfl rfl ?_ | refine GO.loadNR (by assumption) (fun _ hS_ => At.mod (hB9.at) hS_ (by simp)) rfl rfl rfl rfl ?_))
  refine GX.eff rfl ?_
  refine GO.store (vs := cmdCells c a5 c5 a4 c4 a6 c6) (hB29.wr (by simp [cmdCells])) rfl rfl (by simp [Value.oneCell', cmdCells, str]) rfl rfl rfl fun w10 hp => ⟨(by first | exact fun _ _ => trivial | exact late_abs (by kernel_rfl)), ?_⟩
  (repeat (first | refine GX.doneD ?_ | refine GX.done ?_ | refine GQ.goNormal ?_ | refine GC.seq ?_ | refine GC.skip ?_ | refine GC.block ?_ | refine GC.exit ?_ | refine GC.ret ?_ | refine GQ.goExit ?_ | refine GQ.goRet ?_ | refine GQ.inNormal ?_ | refine GQ.inExit ?_ | refine GQ.inExitNe rfl ?_ | refine GQ.inRet ?_ | refine GQ.loopExit ?_ | refine GQ.loopRet ?_ | refine GQ.cutExit ?_ | refine GQ.cutRet ?_))
  have hb10 : Blk w10 b2 (cmdCells c a5 c5 a4 c4 a6 c6) := by have := hp.blk hB29; simpa [cmdCells] using this
  refine GQ.retC (l := cmdCells c a5 c5 a4 c4 a6 c6) (.inl rfl) rfl rfl hb10.at rfl ?_
  have hE6' : Ext w w6 := ((hE13.trans hE4).trans hE5).trans hE6
  obtain ⟨ka', kc', va', vc', ta', tc', q1, q2, q3, q4, r1, r2, r3⟩ := hOC9.mod hp.mod (fun k hk _ h => by omega)
  have hww : w.heap.size ≤ w2.heap.size := by omega
  exact ⟨_, ko, vo, to, rfl, ⟨ka', kc', va', vc', ta', tc', q1, q2, q3, q4, fun y hy => ⟨Nat.le_trans hww (r1 y hy).1, (r1 y hy).2⟩, fun y hy => ⟨Nat.le_trans hww (r2 y hy).1, (r2 y hy).2⟩, fun y hy => ⟨Nat.le_trans hww (r3 y hy).1, (r3 y hy).2⟩⟩, (hE6'.then hM69 fun i hi h => by omega).then hp.mod fun i hi h => by omega⟩
end Go.Proofs.Ytahkglanddhncaa.V
