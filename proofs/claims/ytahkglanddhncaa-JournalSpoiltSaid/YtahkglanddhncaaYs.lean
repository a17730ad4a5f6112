/-
  What the law's function that spoils a command does to memory. Conditions: the command's slices are its own, and short.
-/
import Derived.Test.YtahkglanddhncaaYr
namespace Go.Proofs.Ytahkglanddhncaa.V
attribute [local irreducible] GX GO

theorem vals_one (m : List Value) (k : Nat) (x : Value) (ext : List Value) (hk : k < m.length) : (m ++ ext).take k ++ [x] ++ (m ++ ext).drop (k + 1) = m.set k x ++ ext := by
  rw [List.take_append_of_le_length (by omega), List.drop_append_of_le_length (by omega)]
  rw [List.set_eq_take_append_cons_drop, if_pos (by omega)]
  simp

set_option maxHeartbeats 4000000 in
theorem spoil_ret (c : Cmd) (hc : OkC c) (lo : Nat) (l : List Value) (ko vo to : Option Nat) (w : World) (hO : OwnC w lo l c ko vo to) :
    Ret Try.prog 28 [.agg l.toArray].toArray w fun v w' => v = .tuple #[] ∧ Mod (fun k => some k = ko ∨ some k = vo ∨ some k = to) w w' := by
  obtain ⟨ka, kc, va, vc, ta, tc, rfl, hK, hV, hT, k1, k2, k3⟩ := hO
  have h1 := hc.small.value
  have h2 := hc.keys
  have h3 := hc.tags
  
  refine Ret.enter Try.func28 rfl Try.ntmps28 rfl ?_
  (repeat (first | refine GX.doneD ?_ | refine GX.done ?_ | refine GQ.goNormal ?_ | refine GC.seq ?_ | refine GC.skip ?_ | refine GC.block ?_ | refine GC.exit ?_ | refine GC.ret ?_ | refine GQ.goExit ?_ | refine GQ.goRet ?_ | refine GQ.inNormal ?_ | refine GQ.inExit ?_ | refine GQ.inExitNe rfl ?_ | refine GQ.inRet ?_ | refine GQ.loopExit ?_ | refine GQ.loopRet ?_ | refine GQ.cutExit ?_ | refine GQ.cutRet ?_))
  refine GC.region (.eff 0 .done) rfl ?_
  refine GX.eff rfl ?_
  refine GO.box (l := cmdCells c ka kc va vc ta tc) rfl rfl rfl rfl fun b1 w1 hb1 hB1 hE1 => ?_
  refine ⟨fun _ h => by first | trivial | exact Mod.trans h (Ext.mod (by assumption)), ?_⟩
  (repeat (first | refine GX.doneD ?_ | refine GX.done ?_ | refine GQ.goNormal ?_ | refine GC.seq ?_ | refine GC.skip ?_ | refine GC.block ?_ | refine GC.exit ?_ | refine GC.ret ?_ | refine GQ.goExit ?_ | refine GQ.goRet ?_ | refine GQ.inNormal ?_ | refine GQ.inExit ?_ | refine GQ.inExitNe rfl ?_ | refine GQ.inRet ?_ | refine GQ.loopExit ?_ | refine GQ.loopRet ?_ | refine GQ.cutExit ?_ | refine GQ.cutRet ?_))
  have hS1 : ∀ k, (some k = ko ∨ some k = vo ∨ some k = to) → k < b1 := by
    rintro k (h | h | h)
    · have := hK.lt k h.symm; omega
    · have := hV.lt k h.symm; omega
    · have := hT.lt k h.symm; omega
  have hbb : ¬ (some b1 = ko ∨ some b1 = vo ∨ some b1 = to) := fun h => by have := hS1 b1 h; omega
  refine GC.region (.pure 0 .done) rfl ?_
  (repeat (refine GX.pure rfl ?_; refine GO.assign rfl rfl rfl rfl ?_))
  (repeat (first | refine GX.doneD ?_ | refine GX.done ?_ | refine GQ.goNormal ?_ | refine GC.seq ?_ | refine GC.skip ?_ | refine GC.block ?_ | refine GC.exit ?_ | refine GC.ret ?_ | refine GQ.goExit ?_ | refine GQ.goRet ?_ | refine GQ.inNormal ?_ | refine GQ.inExit ?_ | refine GQ.inExitNe rfl ?_ | refine GQ.inRet ?_ | refine GQ.loopExit ?_ | refine GQ.loopRet ?_ | refine GQ.cutExit ?_ | refine GQ.cutRet ?_))
  refine GC.loop (X := Nat) (fun k => [(1, .pointer (some ⟨b1, 0, none⟩)), (2, .int .i64 k)]) (fun k w' => k ≤ c.value.length ∧ Mod (fun k => some k = ko ∨ some k = vo ∨ some k = to) w1 w' ∧ (∀ b, vo = some b → ∃ m ext, m.length = c.value.length ∧ Blk w' b (bytesV m ++ ext)) ∧ (∀ b, ko = some b → ∃ m ext, m.length = c.keys.length ∧ Blk w' b (m ++ ext)) ∧ (∀ b, to = some b → ∃ m ext, m.length = c.tags.length ∧ Blk w' b (m ++ ext))) (fun k => c.value.length - k) 0 (sub_pick (l := [1, 2]) rfl) ?_ ?_
  · refine ⟨Nat.zero_le _, Mod.refl _, fun b hb => ?_, fun b hb => ?_, fun b hb => ?_⟩
    · subst hb
      obtain ⟨ext, hr⟩ := (hV.ext hE1).own.row
      exact ⟨_, ext, rfl, hr⟩
    · subst hb
      obtain ⟨ext, hr⟩ := (hK.ext hE1).own.row
      exact ⟨_, ext, by simp [strsV], hr⟩
    · subst hb
      obtain ⟨ext, hr⟩ := (hT.ext hE1).own.row
      exact ⟨_, ext, by simp [strsV], hr⟩
  rintro k w2 ⟨hk, hM, hrv, hrk, hrt⟩
  have hB2 := hB1.mod hM hbb
  (repeat (first | refine GX.doneD ?_ | refine GX.done ?_ | refine GQ.goNormal ?_ | refine GC.seq ?_ | refine GC.skip ?_ | refine GC.block ?_ | refine GC.exit ?_ | refine GC.ret ?_ | refine GQ.goExit ?_ | refine GQ.goRet ?_ | refine GQ.inNormal ?_ | refine GQ.inExit ?_ | refine GQ.inExitNe rfl ?_ | refine GQ.inRet ?_ | refine GQ.loopExit ?_ | refine GQ.loopRet ?_ | refine GQ.cutExit ?_ | refine GQ.cutRet ?_))
  refine GC.region (.pure 0 (.pure 1 (.eff 2 (.pure 3 (.pure 4 .done))))) rfl ?_
  (repeat (refine GX.pure rfl ?_; first | refine GO.move rfl rfl rfl rfl ?_ | refine GO.fieldAddr rfl rfl rfl rfl rfl ?_ | refine GO.lenSlice rfl rfl rfl rfl ?_ | refine GO.lss rfl rfl rfl rfl rfl ?_))
  (first | (refine GX.eff rfl ?_; first | refine GO.load1 (hB2.get (o := 0 + 3) rfl) rfl rfl rfl ?_ | refine GO.loadN (hB2.get (o := 0 + 3) rfl) rfl rfl rfl rfl ?_) | (refine GX.read rfl ?_; first | refine GO.load1R (by assumption) (fun _ hS_ => At.mod (hB2.get (o := 0 + 3) rfl) hS_ (by simp)) rfl rfl rfl ?_ | refine GO.loadNR (by assumption) (fun _ hS_ => At.mod (hB2.get (o := 0 + 3) rfl) hS_ (by simp)) rfl rfl rfl rfl ?_))
  (repeat (refine GX.pure rfl ?_; first | refine GO.move rfl rfl rfl rfl ?_ | refine GO.fieldAddr rfl rfl rfl rfl rfl ?_ | refine GO.lenSlice rfl rfl rfl rfl ?_ | refine GO.lss rfl rfl rfl rfl rfl ?_))
  (repeat (first | refine GX.doneD ?_ | refine GX.done ?_ | refine GQ.goNormal ?_ | refine GC.seq ?_ | refine GC.skip ?_ | refine GC.block ?_ | refine GC.exit ?_ | refine GC.ret ?_ | refine GQ.goExit ?_ | refine GQ.goRet ?_ | refine GQ.inNormal ?_ | refine GQ.inExit ?_ | refine GQ.inExitNe rfl ?_ | refine GQ.inRet ?_ | refine GQ.loopExit ?_ | refine GQ.loopRet ?_ | refine GQ.cutExit ?_ | refine GQ.cutRet ?_))
  refine GC.cond rfl (fun hq => ?_) (fun hq => ?_)
  · have hlt : k < c.value.length := by have := of_decide_eq_true hq; omega
    obtain ⟨b, ext0, ha, hob, _⟩ := hV.own.here hV.at_ (by simp; omega)
    obtain ⟨m, ext, hml, hrow⟩ := hrv b hob
    have hkm : k < m.length := by omega
    have e2 : 0 + ((k : Nat) : Int).toNat * 1 = k := by omega
    (repeat (first | refine GX.doneD ?_ | refine GX.done ?_ | refine GQ.goNormal ?_ | refine GC.seq ?_ | refine GC.skip ?_ | refine GC.block ?_ | refine GC.exit ?_ | refine GC.ret ?_ | refine GQ.goExit ?_ | refine GQ.goRet ?_ | refine GQ.inNormal ?_ | refine GQ.inExit ?_ | refine GQ.inExitNe rfl ?_ | refine GQ.inRet ?_ | refine GQ.loopExit ?_ | refine GQ.loopRet ?_ | refine GQ.cutExit ?_ | refine GQ.cutRet ?_))
    refine GC.region (.pure 0 (.eff 1 (.pure 2 (.pure 3 (.eff 4 (.pure 5 (.pure 6 (.eff 7 .done)))))))) rfl ?_
    (repeat (refine GX.pure rfl ?_; first | refine GO.move rfl rfl rfl rfl ?_ | refine GO.fieldAddr rfl rfl rfl rfl rfl ?_ | refine GO.add rfl rfl rfl rfl rfl (wrapIn (by dsimp only [InK]; omega)) ?_))
    (first | (refine GX.eff rfl ?_; first | refine GO.load1 (hB2.get (o := 0 + 3) rfl) rfl rfl rfl ?_ | refine GO.loadN (hB2.get (o := 0 + 3) rfl) rfl rfl rfl rfl ?_) | (refine GX.read rfl ?_; first | refine GO.load1R (by assumption) (fun _ hS_ => At.mod (hB2.get (o := 0 + 3) rfl) hS_ (by simp)) rfl rfl rfl ?_ | refine GO.loadNR (by assumption) (fun _ hS_ => At.mod (hB2.get (o := 0 + 3) rfl) hS_ (by simp)) rfl rfl rfl rfl ?_))
    rw [ha]
    (repeat (refine GX.pure rfl ?_; first | refine GO.move rfl rfl rfl rfl ?_ | refine GO.fieldAddr rfl rfl rfl rfl rfl ?_ | refine GO.add rfl rfl rfl rfl rfl (wrapIn (by dsimp only [InK]; omega)) ?_))
    refine GX.pure rfl (GO.indexAddr rfl rfl rfl rfl (by omega) (by omega) rfl ?_)
    have hcell : At w2 b (0 + (k : Int).toNat * 1) [byteV m[k]] := by
      have := At.one (hrow.at.left) (bytes_get hkm)
      simpa using this
    (first | (refine GX.eff rfl ?_; first | refine GO.load1 (hcell) rfl rfl rfl ?_ | refine GO.loadN (hcell) rfl rfl rfl rfl ?_) | (refine GX.read rfl ?_; first | refine GO.load1R (by assumption) (fun _ hS_ => At.mod (hcell) hS_ (by simp)) rfl rfl rfl ?_ | refine GO.loadNR (by assumption) (fun _ hS_ => At.mod (hcell) hS_ (by simp)) rfl rfl rfl rfl ?_))
    refine GX.pure rfl (GO.add rfl rfl rfl rfl rfl (inc_u8 m[k]) ?_)
    refine GX.pure rfl (GO.indexAddr rfl rfl rfl rfl (by omega) (by omega) rfl ?_)
    rw [e2]
    refine GX.eff rfl ?_
    refine GO.store (vs := [byteV (m[k] + 1)]) (hrow.wr (by simp; omega)) rfl rfl (by simp [Value.oneCell', byteV]) rfl rfl rfl fun w3 hp => ⟨(by first | exact fun _ _ => trivial | exact late_abs (by kernel_rfl)), ?_⟩
    have hb3 : Blk w3 b (bytesV (m.set k (m[k] + 1)) ++ ext) := by
      have := hp.blk hrow
      rw [← bytes_one m k _ ext hkm]
      exact this
    have hml3 : (m.set k (m[k] + 1)).length = c.value.length := by simp [hml]
    have hM3 : Mod (fun k => some k = ko ∨ some k = vo ∨ some k = to) w1 w3 := hM.trans (hp.mod.weaken fun i _ h => .inr (.inl (by rw [h, hob])))
    have keepo : ∀ (o : Option Nat) (n : Nat), (∀ y, o = some y → vo ≠ some y) → (∀ y, o = some y → ∃ m ext, m.length = n ∧ Blk w2 y (m ++ ext)) → ∀ y, o = some y → ∃ m ext, m.length = n ∧ Blk w3 y (m ++ ext) := fun o n hd h y hy => by
      obtain ⟨m', ext', hm', hr'⟩ := h y hy
      exact ⟨m', ext', hm', hr'.mod hp.mod (fun h => hd y hy (by rw [hob, h]))⟩
    (repeat (first | refine GX.doneD ?_ | refine GX.done ?_ | refine GQ.goNormal ?_ | refine GC.seq ?_ | refine GC.skip ?_ | refine GC.block ?_ | refine GC.exit ?_ | refine GC.ret ?_ | refine GQ.goExit ?_ | refine GQ.goRet ?_ | refine GQ.inNormal ?_ | refine GQ.inExit ?_ | refine GQ.inExitNe rfl ?_ | refine GQ.inRet ?_ | refine GQ.loopExit ?_ | refine GQ.loopRet ?_ | refine GQ.cutExit ?_ | refine GQ.cutRet ?_))
    refine GC.region (.pure 0 (.pure 1 (.pure 2 .done))) rfl ?_
    (repeat (refine GX.pure rfl ?_; first | refine GO.move rfl rfl rfl rfl ?_ | refine GO.assign rfl rfl rfl rfl ?_ | refine GO.add rfl rfl rfl rfl rfl (wrapIn (by dsimp only [InK]; omega)) ?_))
    (repeat (first | refine GX.doneD ?_ | refine GX.done ?_ | refine GQ.goNormal ?_ | refine GC.seq ?_ | refine GC.skip ?_ | refine GC.block ?_ | refine GC.exit ?_ | refine GC.ret ?_ | refine GQ.goExit ?_ | refine GQ.goRet ?_ | refine GQ.inNormal ?_ | refine GQ.inExit ?_ | refine GQ.inExitNe rfl ?_ | refine GQ.inRet ?_ | refine GQ.loopExit ?_ | refine GQ.loopRet ?_ | refine GQ.cutExit ?_ | refine GQ.cutRet ?_))
    exact GQ.again (k + 1) (sub_pick (l := [1, 2]) rfl) ⟨hlt, hM3, fun y hy => by rw [hob] at hy; cases hy; exact ⟨_, ext, hml3, hb3⟩, keepo ko _ (fun y hy => (k1 y hy).2.1) hrk, keepo to _ (fun y hy => (k3 y hy).2.2) hrt⟩ (by omega)
  clear hk hq
  (repeat (first | refine GX.doneD ?_ | refine GX.done ?_ | refine GQ.goNormal ?_ | refine GC.seq ?_ | refine GC.skip ?_ | refine GC.block ?_ | refine GC.exit ?_ | refine GC.ret ?_ | refine GQ.goExit ?_ | refine GQ.goRet ?_ | refine GQ.inNormal ?_ | refine GQ.inExit ?_ | refine GQ.inExitNe rfl ?_ | refine GQ.inRet ?_ | refine GQ.loopExit ?_ | refine GQ.loopRet ?_ | refine GQ.cutExit ?_ | refine GQ.cutRet ?_))
  refine GC.region (.pure 0 .done) rfl ?_
  (repeat (refine GX.pure rfl ?_; refine GO.assign rfl rfl rfl rfl ?_))
  (repeat (first | refine GX.doneD ?_ | refine GX.done ?_ | refine GQ.goNormal ?_ | refine GC.seq ?_ | refine GC.skip ?_ | refine GC.block ?_ | refine GC.exit ?_ | refine GC.ret ?_ | refine GQ.goExit ?_ | refine GQ.goRet ?_ | refine GQ.inNormal ?_ | refine GQ.inExit ?_ | refine GQ.inExitNe rfl ?_ | refine GQ.inRet ?_ | refine GQ.loopExit ?_ | refine GQ.loopRet ?_ | refine GQ.cutExit ?_ | refine GQ.cutRet ?_))
  refine GC.loop (X := Nat) (fun k => [(1, .pointer (some ⟨b1, 0, none⟩)), (3, .int .i64 k)]) (fun k w' => k ≤ c.keys.length ∧ Mod (fun k => some k = ko ∨ some k = vo ∨ some k = to) w1 w' ∧ (∀ b, ko = some b → ∃ m ext, m.length = c.keys.length ∧ Blk w' b (m ++ ext)) ∧ (∀ b, to = some b → ∃ m ext, m.length = c.tags.length ∧ Blk w' b (m ++ ext))) (fun k => c.keys.length - k) 0 (sub_pick (l := [1, 3]) rfl) ?_ ?_
  · exact ⟨Nat.zero_le _, hM, hrk, hrt⟩
  rintro k w2 ⟨hk, hM, hrk, hrt⟩
  have hB2 := hB1.mod hM hbb
  (repeat (first | refine GX.doneD ?_ | refine GX.done ?_ | refine GQ.goNormal ?_ | refine GC.seq ?_ | refine GC.skip ?_ | refine GC.block ?_ | refine GC.exit ?_ | refine GC.ret ?_ | refine GQ.goExit ?_ | refine GQ.goRet ?_ | refine GQ.inNormal ?_ | refine GQ.inExit ?_ | refine GQ.inExitNe rfl ?_ | refine GQ.inRet ?_ | refine GQ.loopExit ?_ | refine GQ.loopRet ?_ | refine GQ.cutExit ?_ | refine GQ.cutRet ?_))
  refine GC.region (.pure 0 (.pure 1 (.eff 2 (.pure 3 (.pure 4 .done))))) rfl ?_
  (repeat (refine GX.pure rfl ?_; first | refine GO.move rfl rfl rfl rfl ?_ | refine GO.fieldAddr rfl rfl rfl rfl rfl ?_ | refine GO.lenSlice rfl rfl rfl rfl ?_ | refine GO.lss rfl rfl rfl rfl rfl ?_))
  (first | (refine GX.eff rfl ?_; first | refine GO.load1 (hB2.get (o := 0 + 2) rfl) rfl rfl rfl ?_ | refine GO.loadN (hB2.get (o := 0 + 2) rfl) rfl rfl rfl rfl ?_) | (refine GX.read rfl ?_; first | refine GO.load1R (by assumption) (fun _ hS_ => At.mod (hB2.get (o := 0 + 2) rfl) hS_ (by simp)) rfl rfl rfl ?_ | refine GO.loadNR (by assumption) (fun _ hS_ => At.mod (hB2.get (o := 0 + 2) rfl) hS_ (by simp)) rfl rfl rfl rfl ?_))
  (repeat (refine GX.pure rfl ?_; first | refine GO.move rfl rfl rfl rfl ?_ | refine GO.fieldAddr rfl rfl rfl rfl rfl ?_ | refine GO.lenSlice rfl rfl rfl rfl ?_ | refine GO.lss rfl rfl rfl rfl rfl ?_))
  (repeat (first | refine GX.doneD ?_ | refine GX.done ?_ | refine GQ.goNormal ?_ | refine GC.seq ?_ | refine GC.skip ?_ | refine GC.block ?_ | refine GC.exit ?_ | refine GC.ret ?_ | refine GQ.goExit ?_ | refine GQ.goRet ?_ | refine GQ.inNormal ?_ | refine GQ.inExit ?_ | refine GQ.inExitNe rfl ?_ | refine GQ.inRet ?_ | refine GQ.loopExit ?_ | refine GQ.loopRet ?_ | refine GQ.cutExit ?_ | refine GQ.cutRet ?_))
  refine GC.cond rfl (fun hq => ?_) (fun hq => ?_)
  · have hlt : k < c.keys.length := by have := of_decide_eq_true hq; omega
    obtain ⟨b, ext0, ha, hob, _⟩ := hK.own.here hK.at_ (by simp [strsV]; omega)
    obtain ⟨m, ext, hml, hrow⟩ := hrk b hob
    have hkm : k < m.length := by omega
    have e2 : 0 + ((k : Nat) : Int).toNat * 1 = k := by omega
    (repeat (first | refine GX.doneD ?_ | refine GX.done ?_ | refine GQ.goNormal ?_ | refine GC.seq ?_ | refine GC.skip ?_ | refine GC.block ?_ | refine GC.exit ?_ | refine GC.ret ?_ | refine GQ.goExit ?_ | refine GQ.goRet ?_ | refine GQ.inNormal ?_ | refine GQ.inExit ?_ | refine GQ.inExitNe rfl ?_ | refine GQ.inRet ?_ | refine GQ.loopExit ?_ | refine GQ.loopRet ?_ | refine GQ.cutExit ?_ | refine GQ.cutRet ?_))
    refine GC.region (.pure 0 (.eff 1 (.pure 2 (.pure 3 (.eff 4 .done))))) rfl ?_
    (repeat (refine GX.pure rfl ?_; first | refine GO.move rfl rfl rfl rfl ?_ | refine GO.fieldAddr rfl rfl rfl rfl rfl ?_))
    (first | (refine GX.eff rfl ?_; first | refine GO.load1 (hB2.get (o := 0 + 2) rfl) rfl rfl rfl ?_ | refine GO.loadN (hB2.get (o := 0 + 2) rfl) rfl rfl rfl rfl ?_) | (refine GX.read rfl ?_; first | refine GO.load1R (by assumption) (fun _ hS_ => At.mod (hB2.get (o := 0 + 2) rfl) hS_ (by simp)) rfl rfl rfl ?_ | refine GO.loadNR (by assumption) (fun _ hS_ => At.mod (hB2.get (o := 0 + 2) rfl) hS_ (by simp)) rfl rfl rfl rfl ?_))
    rw [ha]
    (repeat (refine GX.pure rfl ?_; first | refine GO.move rfl rfl rfl rfl ?_ | refine GO.fieldAddr rfl rfl rfl rfl rfl ?_))
    refine GX.pure rfl (GO.indexAddr rfl rfl rfl rfl (by omega) (by omega) rfl ?_)
    rw [e2]
    refine GX.eff rfl ?_
    refine GO.store (vs := [str [99, 104, 97, 110, 103, 101, 100]]) (hrow.wr (by simp; omega)) rfl rfl (by simp [Value.oneCell', str]) rfl rfl rfl fun w3 hp => ⟨(by first | exact fun _ _ => trivial | exact late_abs (by kernel_rfl)), ?_⟩
    have hb3 : Blk w3 b (m.set k (str [99, 104, 97, 110, 103, 101, 100]) ++ ext) := by
      have := hp.blk hrow
      rw [← vals_one m k _ ext hkm]
      exact this
    have hml3 : (m.set k (str [99, 104, 97, 110, 103, 101, 100])).length = c.keys.length := by simp [hml]
    have hM3 : Mod (fun k => some k = ko ∨ some k = vo ∨ some k = to) w1 w3 := hM.trans (hp.mod.weaken fun i _ h => .inl (by rw [h, hob]))
    have keepo : ∀ (o : Option Nat) (n : Nat), (∀ y, o = some y → ko ≠ some y) → (∀ y, o = some y → ∃ m ext, m.length = n ∧ Blk w2 y (m ++ ext)) → ∀ y, o = some y → ∃ m ext, m.length = n ∧ Blk w3 y (m ++ ext) := fun o n hd h y hy => by
      obtain ⟨m', ext', hm', hr'⟩ := h y hy
      exact ⟨m', ext', hm', hr'.mod hp.mod (fun h => hd y hy (by rw [hob, h]))⟩
    (repeat (first | refine GX.doneD ?_ | refine GX.done ?_ | refine GQ.goNormal ?_ | refine GC.seq ?_ | refine GC.skip ?_ | refine GC.block ?_ | refine GC.exit ?_ | refine GC.ret ?_ | refine GQ.goExit ?_ | refine GQ.goRet ?_ | refine GQ.inNormal ?_ | refine GQ.inExit ?_ | refine GQ.inExitNe rfl ?_ | refine GQ.inRet ?_ | refine GQ.loopExit ?_ | refine GQ.loopRet ?_ | refine GQ.cutExit ?_ | refine GQ.cutRet ?_))
    refine GC.region (.pure 0 (.pure 1 (.pure 2 .done))) rfl ?_
    (repeat (refine GX.pure rfl ?_; first | refine GO.move rfl rfl rfl rfl ?_ | refine GO.assign rfl rfl rfl rfl ?_ | refine GO.add rfl rfl rfl rfl rfl (wrapIn (by dsimp only [InK]; omega)) ?_))
    (repeat (first | refine GX.doneD ?_ | refine GX.done ?_ | refine GQ.goNormal ?_ | refine GC.seq ?_ | refine GC.skip ?_ | refine GC.block ?_ | refine GC.exit ?_ | refine GC.ret ?_ | refine GQ.goExit ?_ | refine GQ.goRet ?_ | refine GQ.inNormal ?_ | refine GQ.inExit ?_ | refine GQ.inExitNe rfl ?_ | refine GQ.inRet ?_ | refine GQ.loopExit ?_ | refine GQ.loopRet ?_ | refine GQ.cutExit ?_ | refine GQ.cutRet ?_))
    exact GQ.again (k + 1) (sub_pick (l := [1, 3]) rfl) ⟨hlt, hM3, fun y hy => by rw [hob] at hy; cases hy; exact ⟨_, ext, hml3, hb3⟩, keepo to _ (fun y hy => (k3 y hy).2.1) hrt⟩ (by omega)
  clear hk hq
  (repeat (first | refine GX.doneD ?_ | refine GX.done ?_ | refine GQ.goNormal ?_ | refine GC.seq ?_ | refine GC.skip ?_ | refine GC.block ?_ | refine GC.exit ?_ | refine GC.ret ?_ | refine GQ.goExit ?_ | refine GQ.goRet ?_ | refine GQ.inNormal ?_ | refine GQ.inExit ?_ | refine GQ.inExitNe rfl ?_ | refine GQ.inRet ?_ | refine GQ.loopExit ?_ | refine GQ.loopRet ?_ | refine GQ.cutExit ?_ | refine GQ.cutRet ?_))
  refine GC.region (.pure 0 .done) rfl ?_
  (repeat (refine GX.pure rfl ?_; refine GO.assign rfl rfl rfl rfl ?_))
  (repeat (first | refine GX.doneD ?_ | refine GX.done ?_ | refine GQ.goNormal ?_ | refine GC.seq ?_ | refine GC.skip ?_ | refine GC.block ?_ | refine GC.exit ?_ | refine GC.ret ?_ | refine GQ.goExit ?_ | refine GQ.goRet ?_ | refine GQ.inNormal ?_ | refine GQ.inExit ?_ | refine GQ.inExitNe rfl ?_ | refine GQ.inRet ?_ | refine GQ.loopExit ?_ | refine GQ.loopRet ?_ | refine GQ.cutExit ?_ | refine GQ.cutRet ?_))
  refine GC.loop (X := Nat) (fun k => [(1, .pointer (some ⟨b1, 0, none⟩)), (4, .int .i64 k)]) (fun k w' => k ≤ c.tags.length ∧ Mod (fun k => some k = ko ∨ some k = vo ∨ some k = to) w1 w' ∧ (∀ b, to = some b → ∃ m ext, m.length = c.tags.length ∧ Blk w' b (m ++ ext))) (fun k => c.tags.length - k) 0 (sub_pick (l := [1, 4]) rfl) ?_ ?_
  · exact ⟨Nat.zero_le _, hM, hrt⟩
  rintro k w2 ⟨hk, hM, hrt⟩
  have hB2 := hB1.mod hM hbb
  (repeat (first | refine GX.doneD ?_ | refine GX.done ?_ | refine GQ.goNormal ?_ | refine GC.seq ?_ | refine GC.skip ?_ | refine GC.block ?_ | refine GC.exit ?_ | refine GC.ret ?_ | refine GQ.goExit ?_ | refine GQ.goRet ?_ | refine GQ.inNormal ?_ | refine GQ.inExit ?_ | refine GQ.inExitNe rfl ?_ | refine GQ.inRet ?_ | refine GQ.loopExit ?_ | refine GQ.loopRet ?_ | refine GQ.cutExit ?_ | refine GQ.cutRet ?_))
  refine GC.region (.pure 0 (.pure 1 (.eff 2 (.pure 3 (.pure 4 .done))))) rfl ?_
  (repeat (refine GX.pure rfl ?_; first | refine GO.move rfl rfl rfl rfl ?_ | refine GO.fieldAddr rfl rfl rfl rfl rfl ?_ | refine GO.lenSlice rfl rfl rfl rfl ?_ | refine GO.lss rfl rfl rfl rfl rfl ?_))
  (first | (refine GX.eff rfl ?_; first | refine GO.load1 (hB2.get (o := 0 + 4) rfl) rfl rfl rfl ?_ | refine GO.loadN (hB2.get (o := 0 + 4) rfl) rfl rfl rfl rfl ?_) | (refine GX.read rfl ?_; first | refine GO.load1R (by assumption) (fun _ hS_ => At.mod (hB2.get (o := 0 + 4) rfl) hS_ (by simp)) rfl rfl rfl ?_ | refine GO.loadNR (by assumption) (fun _ hS_ => At.mod (hB2.get (o := 0 + 4) rfl) hS_ (by simp)) rfl rfl rfl rfl ?_))
  (repeat (refine GX.pure rfl ?_; first | refine GO.move rfl rfl rfl rfl ?_ | refine GO.fieldAddr rfl rfl rfl rfl rfl ?_ | refine GO.lenSlice rfl rfl rfl rfl ?_ | refine GO.lss rfl rfl rfl rfl rfl ?_))
  (repeat (first | refine GX.doneD ?_ | refine GX.done ?_ | refine GQ.goNormal ?_ | refine GC.seq ?_ | refine GC.skip ?_ | refine GC.block ?_ | refine GC.exit ?_ | refine GC.ret ?_ | refine GQ.goExit ?_ | refine GQ.goRet ?_ | refine GQ.inNormal ?_ | refine GQ.inExit ?_ | refine GQ.inExitNe rfl ?_ | refine GQ.inRet ?_ | refine GQ.loopExit ?_ | refine GQ.loopRet ?_ | refine GQ.cutExit ?_ | refine GQ.cutRet ?_))
  refine GC.cond rfl (fun hq => ?_) (fun hq => ?_)
  · have hlt : k < c.tags.length := by have := of_decide_eq_true hq; omega
    obtain ⟨b, ext0, ha, hob, _⟩ := hT.own.here hT.at_ (by simp [strsV]; omega)
    obtain ⟨m, ext, hml, hrow⟩ := hrt b hob
    have hkm : k < m.length := by omega
    have e2 : 0 + ((k : Nat) : Int).toNat * 1 = k := by omega
    (repeat (first | refine GX.doneD ?_ | refine GX.done ?_ | refine GQ.goNormal ?_ | refine GC.seq ?_ | refine GC.skip ?_ | refine GC.block ?_ | refine GC.exit ?_ | refine GC.ret ?_ | refine GQ.goExit ?_ | refine GQ.goRet ?_ | refine GQ.inNormal ?_ | refine GQ.inExit ?_ | refine GQ.inExitNe rfl ?_ | refine GQ.inRet ?_ | refine GQ.loopExit ?_ | refine GQ.loopRet ?_ | refine GQ.cutExit ?_ | refine GQ.cutRet ?_))
    refine GC.region (.pure 0 (.eff 1 (.pure 2 (.pure 3 (.eff 4 .done))))) rfl ?_
    (repeat (refine GX.pure rfl ?_; first | refine GO.move rfl rfl rfl rfl ?_ | refine GO.fieldAddr rfl rfl rfl rfl rfl ?_))
    (first | (refine GX.eff rfl ?_; first | refine GO.load1 (hB2.get (o := 0 + 4) rfl) rfl rfl rfl ?_ | refine GO.loadN (hB2.get (o := 0 + 4) rfl) rfl rfl rfl rfl ?_) | (refine GX.read rfl ?_; first | refine GO.load1R (by assumption) (fun _ hS_ => At.mod (hB2.get (o := 0 + 4) rfl) hS_ (by simp)) rfl rfl rfl ?_ | refine GO.loadNR (by assumption) (fun _ hS_ => At.mod (hB2.get (o := 0 + 4) rfl) hS_ (by simp)) rfl rfl rfl rfl ?_))
    rw [ha]
    (repeat (refine GX.pure rfl ?_; first | refine GO.move rfl rfl rfl rfl ?_ | refine GO.fieldAddr rfl rfl rfl rfl rfl ?_))
    refine GX.pure rfl (GO.indexAddr rfl rfl rfl rfl (by omega) (by omega) rfl ?_)
    rw [e2]
    refine GX.eff rfl ?_
    refine GO.store (vs := [str [99, 104, 97, 110, 103, 101, 100]]) (hrow.wr (by simp; omega)) rfl rfl (by simp [Value.oneCell', str]) rfl rfl rfl fun w3 hp => ⟨(by first | exact fun _ _ => trivial | exact late_abs (by kernel_rfl)), ?_⟩
    have hb3 : Blk w3 b (m.set k (str [99, 104, 97, 110, 103, 101, 100]) ++ ext) := by
      have := hp.blk hrow
      rw [← vals_one m k _ ext hkm]
      exact this
    have hml3 : (m.set k (str [99, 104, 97, 110, 103, 101, 100])).length = c.tags.length := by simp [hml]
    have hM3 : Mod (fun k => some k = ko ∨ some k = vo ∨ some k = to) w1 w3 := hM.trans (hp.mod.weaken fun i _ h => .inr (.inr (by rw [h, hob])))
    have keepo : ∀ (o : Option Nat) (n : Nat), (∀ y, o = some y → to ≠ some y) → (∀ y, o = some y → ∃ m ext, m.length = n ∧ Blk w2 y (m ++ ext)) → ∀ y, o = some y → ∃ m ext, m.length = n ∧ Blk w3 y (m ++ ext) := fun o n hd h y hy => by
      obtain ⟨m', ext', hm', hr'⟩ := h y hy
      exact ⟨m', ext', hm', hr'.mod hp.mod (fun h => hd y hy (by rw [hob, h]))⟩
    (repeat (first | refine GX.doneD ?_ | refine GX.done ?_ | refine GQ.goNormal ?_ | refine GC.seq ?_ | refine GC.skip ?_ | refine GC.block ?_ | refine GC.exit ?_ | refine GC.ret ?_ | refine GQ.goExit ?_ | refine GQ.goRet ?_ | refine GQ.inNormal ?_ | refine GQ.inExit ?_ | refine GQ.inExitNe rfl ?_ | refine GQ.inRet ?_ | refine GQ.loopExit ?_ | refine GQ.loopRet ?_ | refine GQ.cutExit ?_ | refine GQ.cutRet ?_))
    refine GC.region (.pure 0 (.pure 1 (.pure 2 .done))) rfl ?_
    (repeat (refine GX.pure rfl ?_; first | refine GO.move rfl rfl rfl rfl ?_ | refine GO.assign rfl rfl rfl rfl ?_ | refine GO.add rfl rfl rfl rfl rfl (wrapIn (by dsimp only [InK]; omega)) ?_))
    (repeat (first | refine GX.doneD ?_ | refine GX.done ?_ | refine GQ.goNormal ?_ | refine GC.seq ?_ | refine GC.skip ?_ | refine GC.block ?_ | refine GC.exit ?_ | refine GC.ret ?_ | refine GQ.goExit ?_ | refine GQ.goRet ?_ | refine GQ.inNormal ?_ | refine GQ.inExit ?_ | refine GQ.inExitNe rfl ?_ | refine GQ.inRet ?_ | refine GQ.loopExit ?_ | refine GQ.loopRet ?_ | refine GQ.cutExit ?_ | refine GQ.cutRet ?_))
    exact GQ.again (k + 1) (sub_pick (l := [1, 4]) rfl) ⟨hlt, hM3, fun y hy => by rw [hob] at hy; cases hy; exact ⟨_, ext, hml3, hb3⟩⟩ (by omega)
  clear hk hq
  (repeat (first | refine GX.doneD ?_ | refine GX.done ?_ | refine GQ.goNormal ?_ | refine GC.seq ?_ | refine GC.skip ?_ | refine GC.block ?_ | refine GC.exit ?_ | refine GC.ret ?_ | refine GQ.goExit ?_ | refine GQ.goRet ?_ | refine GQ.inNormal ?_ | refine GQ.inExit ?_ | refine GQ.inExitNe rfl ?_ | refine GQ.inRet ?_ | refine GQ.loopExit ?_ | refine GQ.loopRet ?_ | refine GQ.cutExit ?_ | refine GQ.cutRet ?_))
  refine GQ.ret0 (by first | exact .inl rfl | exact .inr rfl) rfl ?_
  exact ⟨rfl, (Ext.mod hE1).trans hM⟩
end Go.Proofs.Ytahkglanddhncaa.V
