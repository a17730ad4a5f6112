/-
  What the function that recovers a journal from bytes computes (package journal). Conditions: there are fewer than 2^21 bytes.
-/
import Derived.Test.YtahkglanddhncaaYc
namespace Go.Proofs.Ytahkglanddhncaa.V
attribute [local irreducible] GX GO

/-! ### The plain law -/

def OpP (p : St × Cmd → St × Cmd) : Prop := ∀ x, (p x).2.op = x.2.op
theorem doParts_op : OpP doParts := by
  have k0 : OpP pKey := fun x => rfl
  have k1 : OpP pValue := fun x => rfl
  have k2 : OpP pTags := pTags_op
  have k3 : OpP pLife := fun x => rfl
  have k4 : OpP pVersion := fun x => rfl
  have k5 : OpP pKeys := fun x => by unfold pKeys; dsimp only; split <;> rfl
  have k6 : OpP pTag := fun x => rfl
  have k7 : OpP pPre := fun x => rfl
  have k8 : OpP pChild := fun x => rfl
  intro x
  unfold doParts
  repeat' split
  all_goals first | rfl | simp only [k0 _, k1 _, k2 _, k3 _, k4 _, k5 _, k6 _, k7 _, k8 _]
theorem readC_op (code : Nat) (l : List UInt8) (h : code < 256) : 0 ≤ (readC code l).1.op ∧ (readC code l).1.op < 256 := by
  unfold readC
  split
  · decide
  · have := doParts_op (⟨true, l, false⟩, bare code)
    have h2 : (bare code).op = code := rfl
    have h3 : (doParts (⟨true, l, false⟩, bare code)).2.op = code := this.trans h2
    show 0 ≤ (doParts (⟨true, l, false⟩, bare code)).2.op ∧ (doParts (⟨true, l, false⟩, bare code)).2.op < 256
    rw [h3]
    omega
/-- What a command that was read with its time keeps to. -/
structure RdE (x : Nat × Cmd) : Prop where
  at_ : x.1 < 18446744073709551616
  cmd : RdC x.2
  op : 0 ≤ x.2.op ∧ x.2.op < 256
theorem RdE.ok {x : Nat × Cmd} (h : RdE x) : OkC x.2 := h.cmd.okc (by have := h.op; omega)
theorem nextJ_ok {l : List UInt8} {x : Nat × Cmd} (h : nextJ l = some x) : RdE x := by
  unfold nextJ at h
  split at h
  · cases h
  split at h
  · cases h
  split at h
  · cases h
  · cases h
    exact ⟨getN_lt l, readC_r _ _, readC_op _ _ (readF_code _)⟩

/-- The journal with the next command of the bytes, if there is one. -/
def stepJ (l : List UInt8) (j : JS) : Option JS :=
  match nextJ (l.drop j.data.length) with
  | none => none
  | some x => if errJ j x = 0 ∧ recJ (sumOf j.data) x <+: l.drop j.data.length then some (plusJ j x) else none
inductive Steps (l : List UInt8) : JS → JS → Prop where
  | refl (j : JS) : Steps l j j
  | step {i j k : JS} : Steps l i j → stepJ l j = some k → Steps l i k
/-- What the journals on the way keep to. -/
structure JOk (l : List UInt8) (j : JS) : Prop where
  data : j.data <+: l
  four : j.data.length = 0 ∨ 4 ≤ j.data.length
  ends : j.ends.length = j.xs.length
  few : j.xs.length ≤ 4096
  size : j.data.length ≤ 4194304
  xs : ∀ x ∈ j.xs, RdE x
def zeroJ : JS := ⟨[], [], []⟩
theorem zeroJ_ok (l : List UInt8) : JOk l zeroJ := ⟨List.nil_prefix, .inl rfl, rfl, by decide, by decide, by simp [zeroJ]⟩
theorem errJ_zero {j : JS} {x : Nat × Cmd} (h : errJ j x = 0) : (recJ (sumOf j.data) x).length ≠ 0 ∧ ¬ fullJ j (recJ (sumOf j.data) x) := by
  unfold errJ at h
  split at h
  · cases h
  · split at h
    · cases h
    · rename_i h1 h2; exact ⟨h1, h2⟩
theorem recJ_four (s : Nat) (x : Nat × Cmd) : (recJ s x).length = 0 ∨ 4 ≤ (recJ s x).length := by
  unfold recJ
  split
  · right; simp [sumB]
  · left; rfl
theorem plusJ_ok {l : List UInt8} {j : JS} {x : Nat × Cmd} (h : JOk l j) (hx : RdE x) (he : errJ j x = 0) (hp : recJ (sumOf j.data) x <+: l.drop j.data.length) : JOk l (plusJ j x) := by
  obtain ⟨h1, h2⟩ := errJ_zero he
  have h4 := recJ_four (sumOf j.data) x
  unfold fullJ at h2
  have h5 := h.ends
  have h6 := h.few
  generalize hr : recJ (sumOf j.data) x = r at *
  have hpl : plusJ j x = ⟨j.data ++ r, j.ends ++ [j.data.length + r.length], j.xs ++ [x]⟩ := by unfold plusJ; rw [hr]
  rw [hpl]
  refine ⟨?_, ?_, ?_, ?_, ?_, ?_⟩
  · obtain ⟨u, hu⟩ := h.data
    obtain ⟨v, hv⟩ := hp
    refine ⟨v, ?_⟩
    rw [List.append_assoc, hv, ← hu]
    simp
  · right; simp; omega
  · simp [h5]
  · simp; omega
  · simp; omega
  · intro y hy
    rcases List.mem_append.1 hy with hy | hy
    · exact h.xs y hy
    · simp at hy; subst hy; exact hx
theorem stepJ_ok {l : List UInt8} {j k : JS} (h : JOk l j) (hs : stepJ l j = some k) : JOk l k ∧ j.data.length < k.data.length := by
  unfold stepJ at hs
  split at hs
  · cases hs
  · rename_i x hx
    split at hs
    · rename_i hc
      cases hs
      refine ⟨plusJ_ok h (nextJ_ok hx) hc.1 hc.2, ?_⟩
      have := (errJ_zero hc.1).1
      simp [plusJ]
      omega
    · cases hs
/-- Both ways to the end are the same. -/
theorem Steps.head {l : List UInt8} {i k : JS} (h : Steps l i k) : i = k ∨ ∃ j, stepJ l i = some j ∧ Steps l j k := by
  induction h with
  | refl => exact .inl rfl
  | step h1 h2 ih =>
    right
    rcases ih with rfl | ⟨m, h3, h4⟩
    · exact ⟨_, h2, .refl _⟩
    · exact ⟨m, h3, .step h4 h2⟩
theorem Steps.same {l : List UInt8} : ∀ (n : Nat) {i j k : JS}, JOk l i → l.length - i.data.length ≤ n → Steps l i j → Steps l i k → stepJ l j = none → stepJ l k = none → j = k
  | n, i, j, k, hi, hn, h1, h2, h3, h4 => by
    rcases h1.head with rfl | ⟨m, hm, hm'⟩
    · rcases h2.head with rfl | ⟨m, hm, _⟩
      · rfl
      · rw [h3] at hm; cases hm
    · rcases h2.head with rfl | ⟨m', hm2, hm2'⟩
      · rw [h4] at hm; cases hm
      · rw [hm] at hm2
        cases hm2
        obtain ⟨ho, hlt⟩ := stepJ_ok hi hm
        have hle := ho.data.length_le
        match n with
        | 0 => omega
        | n + 1 => exact Steps.same n ho (by omega) hm' hm2' h3 h4

/-- The journal in block bj, all of it in blocks that are new since w. -/
def NewJ (w : World) (bj : Nat) (j : JS) (w' : World) : Prop :=
  ∃ F, JAt w' F bj j ∧ (∀ k, F k → w.heap.size ≤ k ∧ k < w'.heap.size) ∧ Ext w w'

set_option maxHeartbeats 8000000 in
theorem recover_ret (l : List UInt8) (n : Nat) (hn : l.length = n) (hl : l.length < 2 ^ 21) (a : Option Addr) (c : Nat) (w : World) (hA : BytesAt w a c l) :
    Ret Try.prog 26 [.slice a n c].toArray w
      fun v w' => ∃ bj j, v = .tuple #[.pointer (some ⟨bj, 0, none⟩), .int .i64 j.data.length] ∧ NewJ w bj j w' ∧ JOk l j ∧ Steps l zeroJ j ∧ stepJ l j = none := by
  subst hn
  have hcap := hA.cap
  
  refine Ret.enter Try.func26 rfl Try.ntmps26 rfl ?_
  (repeat (first | refine GX.doneD ?_ | refine GX.done ?_ | refine GQ.goNormal ?_ | refine GC.seq ?_ | refine GC.skip ?_ | refine GC.block ?_ | refine GC.exit ?_ | refine GC.ret ?_ | refine GQ.goExit ?_ | refine GQ.goRet ?_ | refine GQ.inNormal ?_ | refine GQ.inExit ?_ | refine GQ.inExitNe rfl ?_ | refine GQ.inRet ?_ | refine GQ.loopExit ?_ | refine GQ.loopRet ?_ | refine GQ.cutExit ?_ | refine GQ.cutRet ?_))
  refine GC.region (.pure 0 (.pure 1 .done)) rfl ?_
  (repeat (refine GX.pure rfl ?_; refine GO.assign rfl rfl rfl rfl ?_))
  (repeat (first | refine GX.doneD ?_ | refine GX.done ?_ | refine GQ.goNormal ?_ | refine GC.seq ?_ | refine GC.skip ?_ | refine GC.block ?_ | refine GC.exit ?_ | refine GC.ret ?_ | refine GQ.goExit ?_ | refine GQ.goRet ?_ | refine GQ.inNormal ?_ | refine GQ.inExit ?_ | refine GQ.inExitNe rfl ?_ | refine GQ.inRet ?_ | refine GQ.loopExit ?_ | refine GQ.loopRet ?_ | refine GQ.cutExit ?_ | refine GQ.cutRet ?_))
  refine GC.region (.pure 0 (.eff 1 (.pure 2 .done))) rfl ?_
  refine GX.pure rfl ?_
  refine GO.build (out := [.slice none 0 0, .slice none 0 0, .slice none 0 0]) rfl (by kernel_rfl) (by kernel_rfl) rfl rfl rfl rfl ?_
  refine GX.eff rfl ?_
  refine GO.box (l := [.slice none 0 0, .slice none 0 0, .slice none 0 0]) rfl rfl rfl rfl fun bj w1 hbj hBj hE1 => ?_
  refine ⟨fun _ h => by first | trivial | exact Mod.trans h (Ext.mod (by assumption)), ?_⟩
  (repeat (refine GX.pure rfl ?_; refine GO.assign rfl rfl rfl rfl ?_))
  (repeat (first | refine GX.doneD ?_ | refine GX.done ?_ | refine GQ.goNormal ?_ | refine GC.seq ?_ | refine GC.skip ?_ | refine GC.block ?_ | refine GC.exit ?_ | refine GC.ret ?_ | refine GQ.goExit ?_ | refine GQ.goRet ?_ | refine GQ.inNormal ?_ | refine GQ.inExit ?_ | refine GQ.inExitNe rfl ?_ | refine GQ.inRet ?_ | refine GQ.loopExit ?_ | refine GQ.loopRet ?_ | refine GQ.cutExit ?_ | refine GQ.cutRet ?_))
  have hbl := hBj.lt
  refine GC.loop (X := JS) (fun j => [(0, .slice a l.length c), (4, .pointer (some ⟨bj, 0, none⟩))]) (fun j w' => NewJ w bj j w' ∧ JOk l j ∧ Steps l zeroJ j) (fun j => l.length - j.data.length) zeroJ (sub_pick (l := [0, 4]) rfl)
    ⟨⟨fun k => k = bj, ⟨none, none, 0, none, none, 0, none, none, 0, [], hBj, Own.nil _ _ _, Own.nil _ _ _, Own.nil _ _ _, rfl, rfl, by simp, by simp, by simp⟩, fun k hk => by omega, hE1⟩, zeroJ_ok l, .refl _⟩ ?_
  rintro j w2 ⟨⟨F, hJ, hF, hE2⟩, hok, hst⟩
  have hJ0 := hJ
  obtain ⟨od, da, dc, oe, ea, ec, ol, la, lc, cells, hb, q1, q2, q3, q4, hFj, k1, k2, k3⟩ := hJ0
  have hdl := hok.data.length_le
  have hfew := hok.few
  have hends := hok.ends
  have hsize := hok.size
  (repeat (first | refine GX.doneD ?_ | refine GX.done ?_ | refine GQ.goNormal ?_ | refine GC.seq ?_ | refine GC.skip ?_ | refine GC.block ?_ | refine GC.exit ?_ | refine GC.ret ?_ | refine GQ.goExit ?_ | refine GQ.goRet ?_ | refine GQ.inNormal ?_ | refine GQ.inExit ?_ | refine GQ.inExitNe rfl ?_ | refine GQ.inRet ?_ | refine GQ.loopExit ?_ | refine GQ.loopRet ?_ | refine GQ.cutExit ?_ | refine GQ.cutRet ?_))
  refine GC.region (.pure 0 (.pure 1 (.pure 2 (.pure 3 (.eff 4 (.pure 5 (.pure 6 (.pure 7 .done)))))))) rfl ?_
  (repeat (refine GX.pure rfl ?_; first | refine GO.move rfl rfl rfl rfl ?_ | refine GO.assign rfl rfl rfl rfl ?_ | refine GO.nilCheck rfl rfl rfl rfl ?_ | refine GO.fieldAddr rfl rfl rfl rfl rfl ?_ | refine GO.lenSlice rfl rfl rfl rfl ?_ | refine GO.nilCheckF rfl rfl rfl rfl ?_))
  (first | (refine GX.eff rfl ?_; first | refine GO.load1 (hb.get (o := 0 + 0) rfl) rfl rfl rfl ?_ | refine GO.loadN (hb.get (o := 0 + 0) rfl) rfl rfl rfl rfl ?_) | (refine GX.read rfl ?_; first | refine GO.load1R (by assumption) (fun _ hS_ => At.mod (hb.get (o := 0 + 0) rfl) hS_ (by simp)) rfl rfl rfl ?_ | refine GO.loadNR (by assumption) (fun _ hS_ => At.mod (hb.get (o := 0 + 0) rfl) hS_ (by simp)) rfl rfl rfl rfl ?_))
  (repeat (refine GX.pure rfl ?_; first | refine GO.move rfl rfl rfl rfl ?_ | refine GO.assign rfl rfl rfl rfl ?_ | refine GO.nilCheck rfl rfl rfl rfl ?_ | refine GO.fieldAddr rfl rfl rfl rfl rfl ?_ | refine GO.lenSlice rfl rfl rfl rfl ?_ | refine GO.nilCheckF rfl rfl rfl rfl ?_))
  refine GX.pure rfl ?_
  refine GO.sliceS rfl rfl rfl rfl (bounds_l (by omega) (by omega)) ⟨by simp; rfl, by simp, by simp⟩ ?_
  have e1 : ((j.data.length : Nat) : Int).toNat = j.data.length := by omega
  rw [e1]
  have hsl := (hA.ext hE2).from_ j.data.length hdl
  have hrl : (l.drop j.data.length).length = l.length - j.data.length := by simp
  have hstep : stepJ l j = match nextJ (l.drop j.data.length) with
    | none => none
    | some x => if errJ j x = 0 ∧ recJ (sumOf j.data) x <+: l.drop j.data.length then some (plusJ j x) else none := rfl
  rw [← hrl]
  have hnok := fun x => nextJ_ok (l := l.drop j.data.length) (x := x)
  generalize hrest : l.drop j.data.length = rest at *
  generalize sliced' a j.data.length c 1 = ra at *
  generalize c - j.data.length = rc at *
  (repeat (refine GX.pure rfl ?_; first | refine GO.move rfl rfl rfl rfl ?_ | refine GO.assign rfl rfl rfl rfl ?_ | refine GO.nilCheck rfl rfl rfl rfl ?_ | refine GO.fieldAddr rfl rfl rfl rfl rfl ?_ | refine GO.lenSlice rfl rfl rfl rfl ?_ | refine GO.nilCheckF rfl rfl rfl rfl ?_))
  (repeat (first | refine GX.doneD ?_ | refine GX.done ?_ | refine GQ.goNormal ?_ | refine GC.seq ?_ | refine GC.skip ?_ | refine GC.block ?_ | refine GC.exit ?_ | refine GC.ret ?_ | refine GQ.goExit ?_ | refine GQ.goRet ?_ | refine GQ.inNormal ?_ | refine GQ.inExit ?_ | refine GQ.inExitNe rfl ?_ | refine GQ.inRet ?_ | refine GQ.loopExit ?_ | refine GQ.loopRet ?_ | refine GQ.cutExit ?_ | refine GQ.cutRet ?_))
  refine GC.region (.pure 0 (.eff 1 (.pure 2 (.pure 3 (.pure 4 (.eff 5 (.eff 6 (.pure 7 .done)))))))) rfl ?_
  (repeat (refine GX.pure rfl ?_; first | refine GO.move rfl rfl rfl rfl ?_ | refine GO.assign rfl rfl rfl rfl ?_ | refine GO.extract rfl rfl rfl rfl rfl ?_))
  (refine GX.eff rfl ?_; refine GO.callL rfl rfl rfl rfl rfl (next_ret rest _ rfl (by omega) ra rc w2 hsl) ?_)
  rintro v w3 ⟨cs, x, rfl, hX3, hnx, hE3⟩
  refine ⟨fun _ h => by first | trivial | exact Mod.trans h (Ext.mod (by assumption)), ?_⟩
  (repeat (refine GX.pure rfl ?_; first | refine GO.move rfl rfl rfl rfl ?_ | refine GO.assign rfl rfl rfl rfl ?_ | refine GO.extract rfl rfl rfl rfl rfl ?_))
  refine GX.eff rfl ?_
  refine GO.alloc rfl rfl fun b6 w4 hb6 hB6 hE4 => ?_
  refine ⟨fun _ h => by first | trivial | exact Mod.trans h (Ext.mod (by assumption)), ?_⟩
  refine GX.eff rfl ?_
  refine GO.store (vs := cs) (hB6.wr (by simp)) rfl hX3.length hX3.one rfl rfl rfl fun w5 hp5 => ⟨(by first | exact fun _ _ => trivial | exact late_abs (by kernel_rfl)), ?_⟩
  have hE5 : Ext w3 w5 := hE4.then hp5.mod fun i hi h => by omega
  have hB65 : Blk w5 b6 cs := by have := hp5.blk hB6; simpa [hX3.length] using this
  have hE25 : Ext w2 w5 := hE3.trans hE5
  have s25 := hE25.size
  have hJ5 := hJ.ext hE25
  have hb5 := hb.ext hE25
  have hnew5 : NewJ w bj j w5 := ⟨F, hJ5, fun k hk => by have := hF k hk; omega, hE2.trans hE25⟩
  (repeat (refine GX.pure rfl ?_; first | refine GO.move rfl rfl rfl rfl ?_ | refine GO.assign rfl rfl rfl rfl ?_ | refine GO.extract rfl rfl rfl rfl rfl ?_))
  (repeat (first | refine GX.doneD ?_ | refine GX.done ?_ | refine GQ.goNormal ?_ | refine GC.seq ?_ | refine GC.skip ?_ | refine GC.block ?_ | refine GC.exit ?_ | refine GC.ret ?_ | refine GQ.goExit ?_ | refine GQ.goRet ?_ | refine GQ.inNormal ?_ | refine GQ.inExit ?_ | refine GQ.inExitNe rfl ?_ | refine GQ.inRet ?_ | refine GQ.loopExit ?_ | refine GQ.loopRet ?_ | refine GQ.cutExit ?_ | refine GQ.cutRet ?_))
  refine GC.region (.pure 0 (.pure 1 .done)) rfl ?_
  (repeat (refine GX.pure rfl ?_; first | refine GO.move rfl rfl rfl rfl ?_ | refine GO.not rfl rfl rfl rfl ?_))
  (repeat (first | refine GX.doneD ?_ | refine GX.done ?_ | refine GQ.goNormal ?_ | refine GC.seq ?_ | refine GC.skip ?_ | refine GC.block ?_ | refine GC.exit ?_ | refine GC.ret ?_ | refine GQ.goExit ?_ | refine GQ.goRet ?_ | refine GQ.inNormal ?_ | refine GQ.inExit ?_ | refine GQ.inExitNe rfl ?_ | refine GQ.inRet ?_ | refine GQ.loopExit ?_ | refine GQ.loopRet ?_ | refine GQ.cutExit ?_ | refine GQ.cutRet ?_))
  refine GC.cond rfl (fun hc1 => ?_) (fun hc1 => ?_)
  · have hnone : nextJ rest = none := by
      cases h : nextJ rest with
      | none => rfl
      | some y => rw [h] at hc1; cases hc1
    (repeat (first | refine GX.doneD ?_ | refine GX.done ?_ | refine GQ.goNormal ?_ | refine GC.seq ?_ | refine GC.skip ?_ | refine GC.block ?_ | refine GC.exit ?_ | refine GC.ret ?_ | refine GQ.goExit ?_ | refine GQ.goRet ?_ | refine GQ.inNormal ?_ | refine GQ.inExit ?_ | refine GQ.inExitNe rfl ?_ | refine GQ.inRet ?_ | refine GQ.loopExit ?_ | refine GQ.loopRet ?_ | refine GQ.cutExit ?_ | refine GQ.cutRet ?_))
    refine GC.regionD (.pure 0 (.pure 1 (.pure 2 (.pure 3 (.pure 6 (.read 4 (.pure 5 (.pure 7 .done)))))))) (fun _ => False) mixed (by kernel_rfl) (by kernel_rfl) ?_
    intro w6 _ hE6
    have hS6 : Mod (fun _ => False) w5 w6 := hE6
    (repeat (refine GX.pure rfl ?_; first | refine GO.move rfl rfl rfl rfl ?_ | refine GO.assign rfl rfl rfl rfl ?_ | refine GO.nilCheck rfl rfl rfl rfl ?_ | refine GO.fieldAddr rfl rfl rfl rfl rfl ?_ | refine GO.lenSlice rfl rfl rfl rfl ?_ | refine GO.nilCheckF rfl rfl rfl rfl ?_))
    (first | (refine GX.eff rfl ?_; first | refine GO.load1 (hb5.get (o := 0 + 0) rfl) rfl rfl rfl ?_ | refine GO.loadN (hb5.get (o := 0 + 0) rfl) rfl rfl rfl rfl ?_) | (refine GX.read rfl ?_; first | refine GO.load1R (by assumption) (fun _ hS_ => At.mod (hb5.get (o := 0 + 0) rfl) hS_ (by simp)) rfl rfl rfl ?_ | refine GO.loadNR (by assumption) (fun _ hS_ => At.mod (hb5.get (o := 0 + 0) rfl) hS_ (by simp)) rfl rfl rfl rfl ?_))
    (repeat (refine GX.pure rfl ?_; first | refine GO.move rfl rfl rfl rfl ?_ | refine GO.assign rfl rfl rfl rfl ?_ | refine GO.nilCheck rfl rfl rfl rfl ?_ | refine GO.fieldAddr rfl rfl rfl rfl rfl ?_ | refine GO.lenSlice rfl rfl rfl rfl ?_ | refine GO.nilCheckF rfl rfl rfl rfl ?_))
    (repeat (first | refine GX.doneD ?_ | refine GX.done ?_ | refine GQ.goNormal ?_ | refine GC.seq ?_ | refine GC.skip ?_ | refine GC.block ?_ | refine GC.exit ?_ | refine GC.ret ?_ | refine GQ.goExit ?_ | refine GQ.goRet ?_ | refine GQ.inNormal ?_ | refine GQ.inExit ?_ | refine GQ.inExitNe rfl ?_ | refine GQ.inRet ?_ | refine GQ.loopExit ?_ | refine GQ.loopRet ?_ | refine GQ.cutExit ?_ | refine GQ.cutRet ?_))
    refine GQ.ret2 (by first | exact .inl rfl | exact .inr rfl) rfl rfl rfl ?_
    have s6 := hE6.size
    refine ⟨bj, j, rfl, ⟨F, hJ5.ext hE6, fun k hk => by have := hF k hk; omega, (hE2.trans hE25).trans hE6⟩, hok, hst, ?_⟩
    rw [hstep, hnone]
  obtain ⟨y, hy⟩ : ∃ y, nextJ rest = some y := by
    cases h : nextJ rest with
    | none => rw [h] at hc1; cases hc1
    | some y => exact ⟨y, rfl⟩
  have hyx := hnx y hy
  subst hyx
  have hrd := hnok y hy
  rw [hy] at hstep
  dsimp only at hstep
  obtain ⟨t, cm⟩ := y
  have hok2 := hrd.ok
  have hX5 : EntV w5 w2.heap.size cs (t, cm) := hX3.mod hE5 (fun _ h => h.elim)
  obtain ⟨lx, rfl, hV5⟩ := hX5
  have hlx := hV5.length
  (repeat (first | refine GX.doneD ?_ | refine GX.done ?_ | refine GQ.goNormal ?_ | refine GC.seq ?_ | refine GC.skip ?_ | refine GC.block ?_ | refine GC.exit ?_ | refine GC.ret ?_ | refine GQ.goExit ?_ | refine GQ.goRet ?_ | refine GQ.inNormal ?_ | refine GQ.inExit ?_ | refine GQ.inExitNe rfl ?_ | refine GQ.inRet ?_ | refine GQ.loopExit ?_ | refine GQ.loopRet ?_ | refine GQ.cutExit ?_ | refine GQ.cutRet ?_))
  refine GC.regionD (.pure 0 (.pure 2 (.pure 4 (.read 3 (.read 5 (.eff 1 (.eff 6 (.pure 7 .done)))))))) (fun _ => False) mixed (by kernel_rfl) (by kernel_rfl) ?_
  intro w6 _ hE6
  have hS6 : Mod (fun _ => False) w5 w6 := hE6
  (repeat (refine GX.pure rfl ?_; first | refine GO.move rfl rfl rfl rfl ?_ | refine GO.assign rfl rfl rfl rfl ?_ | refine GO.fieldAddr rfl rfl rfl rfl rfl ?_))
  (first | (refine GX.eff rfl ?_; first | refine GO.load1 (hB65.get (o := 0 + 0) rfl) rfl rfl rfl ?_ | refine GO.loadN (hB65.get (o := 0 + 0) rfl) rfl rfl rfl rfl ?_) | (refine GX.read rfl ?_; first | refine GO.load1R (by assumption) (fun _ hS_ => At.mod (hB65.get (o := 0 + 0) rfl) hS_ (by simp)) rfl rfl rfl ?_ | refine GO.loadNR (by assumption) (fun _ hS_ => At.mod (hB65.get (o := 0 + 0) rfl) hS_ (by simp)) rfl rfl rfl rfl ?_))
  refine GX.read rfl ?_
  refine GO.loadNR (by assumption) (fun _ hS_ => At.mod (hB65.get (o := 0 + 1) rfl) hS_ (by simp)) hlx rfl rfl rfl ?_
  (refine GX.eff rfl ?_; refine GO.callL rfl rfl rfl rfl rfl (sumJ_ret F bj j w6 (hJ5.ext hE6) (by omega) hok.four) ?_)
  rintro v w7 ⟨rfl, hE7⟩
  refine ⟨fun _ h => by first | trivial | exact Mod.trans h (Ext.mod (by assumption)), ?_⟩
  have hE67 := hE6.trans hE7
  (refine GX.eff rfl ?_; refine GO.callL rfl rfl rfl rfl rfl (record_ret (sumOf j.data) (sumOf_lt _) (t, cm) hrd.at_ hok2 lx _ w7 (hV5.ext hE67)) ?_)
  rintro v w8 ⟨⟨or_, rra, rrc, rfl, hO8, hF8, hG8⟩, hE8⟩
  refine ⟨fun _ h => by first | trivial | exact Mod.trans h (Ext.mod (by assumption)), ?_⟩
  have hE58 := hE67.trans hE8
  have hB8 := hO8.bytes hG8
  have herr : errJ j (t, cm) = if (recJ (sumOf j.data) (t, cm)).length = 0 then 2 else if fullJ j (recJ (sumOf j.data) (t, cm)) then 7 else 0 := rfl
  have hadd : addJ j (t, cm) = if errJ j (t, cm) = 0 then plusJ j (t, cm) else j := rfl
  have hpok := fun he hp => plusJ_ok (l := l) (j := j) (x := (t, cm)) hok hrd he hp
  have hstok := fun h => stepJ_ok (l := l) (j := j) (k := plusJ j (t, cm)) hok h
  rw [hrest] at hpok
  generalize recJ (sumOf j.data) (t, cm) = r at *
  have s58 := hE58.size
  have hJ8 := hJ5.ext hE58
  (repeat (refine GX.pure rfl ?_; first | refine GO.move rfl rfl rfl rfl ?_ | refine GO.assign rfl rfl rfl rfl ?_ | refine GO.fieldAddr rfl rfl rfl rfl rfl ?_))
  (repeat (first | refine GX.doneD ?_ | refine GX.done ?_ | refine GQ.goNormal ?_ | refine GC.seq ?_ | refine GC.skip ?_ | refine GC.block ?_ | refine GC.exit ?_ | refine GC.ret ?_ | refine GQ.goExit ?_ | refine GQ.goRet ?_ | refine GQ.inNormal ?_ | refine GQ.inExit ?_ | refine GQ.inExitNe rfl ?_ | refine GQ.inRet ?_ | refine GQ.loopExit ?_ | refine GQ.loopRet ?_ | refine GQ.cutExit ?_ | refine GQ.cutRet ?_))
  refine GC.cut (X := Bool) (fun z => [(0, .slice a l.length c), (4, .pointer (some ⟨bj, 0, none⟩)), (55, .bool z)]) (fun z w' => if z then NewJ w bj j w' ∧ stepJ l j = none else NewJ w bj (plusJ j (t, cm)) w' ∧ stepJ l j = some (plusJ j (t, cm))) ?_ ?_
  · refine GC.region (.pure 0 (.pure 1 (.pure 2 (.pure 3 (.pure 4 (.pure 5 (.eff 6 (.pure 7 (.pure 8 (.pure 9 (.pure 10 (.pure 11 (.eff 12 (.pure 13 (.eff 14 (.eff 15 (.pure 16 (.pure 17 .done)))))))))))))))))) rfl ?_
    (repeat (refine GX.pure rfl ?_; first | refine GO.move rfl rfl rfl rfl ?_ | refine GO.fieldAddr rfl rfl rfl rfl rfl ?_ | refine GO.lenSlice rfl rfl rfl rfl ?_ | refine GO.eql rfl rfl rfl rfl rfl ?_ | refine GO.neq rfl rfl rfl rfl rfl ?_ | refine GO.pickT rfl rfl rfl rfl rfl ?_ | refine GO.pickF rfl rfl rfl rfl rfl ?_ | refine GO.not rfl rfl rfl rfl ?_ | refine GO.skip (.inl rfl) rfl rfl ?_))
    refine GX.case 41 rfl (fun h0 => ?_) (fun h0 => ?_)
    · have h0' : r.length = 0 := by have := of_decide_eq_true h0; omega
      (repeat (first | (refine GX.pure rfl ?_; first | refine GO.move rfl rfl rfl rfl ?_ | refine GO.fieldAddr rfl rfl rfl rfl rfl ?_ | refine GO.lenSlice rfl rfl rfl rfl ?_ | refine GO.eql rfl rfl rfl rfl rfl ?_ | refine GO.neq rfl rfl rfl rfl rfl ?_ | refine GO.pickT rfl rfl rfl rfl rfl ?_ | refine GO.pickF rfl rfl rfl rfl rfl ?_ | refine GO.not rfl rfl rfl rfl ?_ | refine GO.skip (.inl rfl) rfl rfl ?_) | (refine GX.eff rfl ?_; refine GO.skip (.inr rfl) rfl rfl ?_) | (refine GX.read rfl ?_; refine GO.skipRead (by assumption) rfl rfl ?_)))
      (repeat (first | refine GX.doneD ?_ | refine GX.done ?_ | refine GQ.goNormal ?_ | refine GC.seq ?_ | refine GC.skip ?_ | refine GC.block ?_ | refine GC.exit ?_ | refine GC.ret ?_ | refine GQ.goExit ?_ | refine GQ.goRet ?_ | refine GQ.inNormal ?_ | refine GQ.inExit ?_ | refine GQ.inExitNe rfl ?_ | refine GQ.inRet ?_ | refine GQ.loopExit ?_ | refine GQ.loopRet ?_ | refine GQ.cutExit ?_ | refine GQ.cutRet ?_))
      refine GQ.cutNormal true (sub_pick (l := [0, 4, 55]) rfl) ⟨⟨F, hJ8, fun k hk => by have := hF k hk; omega, (hE2.trans hE25).trans hE58⟩, ?_⟩
      rw [hstep, if_neg]
      rintro ⟨h, _⟩
      rw [herr, if_pos h0'] at h
      cases h
    have h0' : ¬ r.length = 0 := by have := of_decide_eq_false h0; omega
    (repeat (refine GX.pure rfl ?_; first | refine GO.move rfl rfl rfl rfl ?_ | refine GO.fieldAddr rfl rfl rfl rfl rfl ?_ | refine GO.lenSlice rfl rfl rfl rfl ?_ | refine GO.eql rfl rfl rfl rfl rfl ?_ | refine GO.neq rfl rfl rfl rfl rfl ?_ | refine GO.pickT rfl rfl rfl rfl rfl ?_ | refine GO.pickF rfl rfl rfl rfl rfl ?_ | refine GO.not rfl rfl rfl rfl ?_ | refine GO.skip (.inl rfl) rfl rfl ?_))
    (refine GX.eff rfl ?_; refine GO.callL rfl rfl rfl rfl rfl (hasPrefix_ret rest r _ _ rfl rfl ra rra rc rrc w8 ((hsl.ext hE25).ext hE58).cells hB8.cells hsl.cap) ?_)
    rintro v w9 ⟨rfl, rfl⟩
    refine ⟨fun _ h => by first | trivial | exact Mod.trans h (Ext.mod (by assumption)), ?_⟩
    (repeat (refine GX.pure rfl ?_; first | refine GO.move rfl rfl rfl rfl ?_ | refine GO.fieldAddr rfl rfl rfl rfl rfl ?_ | refine GO.lenSlice rfl rfl rfl rfl ?_ | refine GO.eql rfl rfl rfl rfl rfl ?_ | refine GO.neq rfl rfl rfl rfl rfl ?_ | refine GO.pickT rfl rfl rfl rfl rfl ?_ | refine GO.pickF rfl rfl rfl rfl rfl ?_ | refine GO.not rfl rfl rfl rfl ?_ | refine GO.skip (.inl rfl) rfl rfl ?_))
    refine GX.case 47 rfl (fun hp => ?_) (fun hp => ?_)
    · have hp' : ¬ r <+: rest := by simpa using hp
      (repeat (first | (refine GX.pure rfl ?_; first | refine GO.move rfl rfl rfl rfl ?_ | refine GO.fieldAddr rfl rfl rfl rfl rfl ?_ | refine GO.lenSlice rfl rfl rfl rfl ?_ | refine GO.eql rfl rfl rfl rfl rfl ?_ | refine GO.neq rfl rfl rfl rfl rfl ?_ | refine GO.pickT rfl rfl rfl rfl rfl ?_ | refine GO.pickF rfl rfl rfl rfl rfl ?_ | refine GO.not rfl rfl rfl rfl ?_ | refine GO.skip (.inl rfl) rfl rfl ?_) | (refine GX.eff rfl ?_; refine GO.skip (.inr rfl) rfl rfl ?_) | (refine GX.read rfl ?_; refine GO.skipRead (by assumption) rfl rfl ?_)))
      (repeat (first | refine GX.doneD ?_ | refine GX.done ?_ | refine GQ.goNormal ?_ | refine GC.seq ?_ | refine GC.skip ?_ | refine GC.block ?_ | refine GC.exit ?_ | refine GC.ret ?_ | refine GQ.goExit ?_ | refine GQ.goRet ?_ | refine GQ.inNormal ?_ | refine GQ.inExit ?_ | refine GQ.inExitNe rfl ?_ | refine GQ.inRet ?_ | refine GQ.loopExit ?_ | refine GQ.loopRet ?_ | refine GQ.cutExit ?_ | refine GQ.cutRet ?_))
      refine GQ.cutNormal true (sub_pick (l := [0, 4, 55]) rfl) ⟨⟨F, hJ8, fun k hk => by have := hF k hk; omega, (hE2.trans hE25).trans hE58⟩, ?_⟩
      rw [hstep, if_neg (fun h => hp' h.2)]
    have hp' : r <+: rest := by simpa using hp
    (repeat (refine GX.pure rfl ?_; first | refine GO.move rfl rfl rfl rfl ?_ | refine GO.fieldAddr rfl rfl rfl rfl rfl ?_ | refine GO.lenSlice rfl rfl rfl rfl ?_ | refine GO.eql rfl rfl rfl rfl rfl ?_ | refine GO.neq rfl rfl rfl rfl rfl ?_ | refine GO.pickT rfl rfl rfl rfl rfl ?_ | refine GO.pickF rfl rfl rfl rfl rfl ?_ | refine GO.not rfl rfl rfl rfl ?_ | refine GO.skip (.inl rfl) rfl rfl ?_))
    (first | (refine GX.eff rfl ?_; first | refine GO.load1 ((hB65.ext hE58).get (o := 0 + 0) rfl) rfl rfl rfl ?_ | refine GO.loadN ((hB65.ext hE58).get (o := 0 + 0) rfl) rfl rfl rfl rfl ?_) | (refine GX.read rfl ?_; first | refine GO.load1R (by assumption) (fun _ hS_ => At.mod ((hB65.ext hE58).get (o := 0 + 0) rfl) hS_ (by simp)) rfl rfl rfl ?_ | refine GO.loadNR (by assumption) (fun _ hS_ => At.mod ((hB65.ext hE58).get (o := 0 + 0) rfl) hS_ (by simp)) rfl rfl rfl rfl ?_))
    (repeat (refine GX.pure rfl ?_; first | refine GO.move rfl rfl rfl rfl ?_ | refine GO.fieldAddr rfl rfl rfl rfl rfl ?_ | refine GO.lenSlice rfl rfl rfl rfl ?_ | refine GO.eql rfl rfl rfl rfl rfl ?_ | refine GO.neq rfl rfl rfl rfl rfl ?_ | refine GO.pickT rfl rfl rfl rfl rfl ?_ | refine GO.pickF rfl rfl rfl rfl rfl ?_ | refine GO.not rfl rfl rfl rfl ?_ | refine GO.skip (.inl rfl) rfl rfl ?_))
    refine GX.eff rfl ?_
    refine GO.loadN ((hB65.ext hE58).get (o := 0 + 1) rfl) hlx rfl rfl rfl ?_
    (refine GX.eff rfl ?_; refine GO.callL rfl rfl rfl rfl rfl (append_ret F bj j t cm hrd.at_ hok2 lx w9 hJ8 ((hV5.ext hE58).f.mono (fun k hk hk' hf => by have := hF k hf; omega)) (by omega) hok.four (by omega) (by omega)) ?_)
    rintro v w10 ⟨rfl, hJ10, hM10⟩
    refine ⟨fun _ h => by first | trivial | exact Mod.trans h (Ext.mod (by assumption)), ?_⟩
    have s10 := hM10.size
    have hnew : NewJ w bj (addJ j (t, cm)) w10 := ⟨fun k => (F k ∨ w9.heap.size ≤ k) ∧ k < w10.heap.size, hJ10.mono (fun k hk h => ⟨h, hk⟩), fun k hk => by
      have s1 := hE2.size
      rcases hk.1 with h | h
      · have := hF k h; omega
      · omega, ((hE2.trans hE25).trans hE58).then hM10 (fun i hi h => by have := hF i h; omega)⟩
    (repeat (refine GX.pure rfl ?_; first | refine GO.move rfl rfl rfl rfl ?_ | refine GO.fieldAddr rfl rfl rfl rfl rfl ?_ | refine GO.lenSlice rfl rfl rfl rfl ?_ | refine GO.eql rfl rfl rfl rfl rfl ?_ | refine GO.neq rfl rfl rfl rfl rfl ?_ | refine GO.pickT rfl rfl rfl rfl rfl ?_ | refine GO.pickF rfl rfl rfl rfl rfl ?_ | refine GO.not rfl rfl rfl rfl ?_ | refine GO.skip (.inl rfl) rfl rfl ?_))
    (repeat (first | refine GX.doneD ?_ | refine GX.done ?_ | refine GQ.goNormal ?_ | refine GC.seq ?_ | refine GC.skip ?_ | refine GC.block ?_ | refine GC.exit ?_ | refine GC.ret ?_ | refine GQ.goExit ?_ | refine GQ.goRet ?_ | refine GQ.inNormal ?_ | refine GQ.inExit ?_ | refine GQ.inExitNe rfl ?_ | refine GQ.inRet ?_ | refine GQ.loopExit ?_ | refine GQ.loopRet ?_ | refine GQ.cutExit ?_ | refine GQ.cutRet ?_))
    by_cases he : errJ j (t, cm) = 0
    · rw [hadd, if_pos he] at hnew
      refine GQ.cutNormal false (sub_pick (l := [0, 4, 55]) (by rw [he]; rfl)) ⟨hnew, by rw [hstep, if_pos ⟨he, hp'⟩]⟩
    · rw [hadd, if_neg he] at hnew
      refine GQ.cutNormal true (sub_pick (l := [0, 4, 55]) (by rw [show decide (errJ j (t, cm) ≠ 0) = true from decide_eq_true he]; rfl)) ⟨hnew, by rw [hstep, if_neg (fun h => he h.1)]⟩
  rintro z w11 hz
  (repeat (first | refine GX.doneD ?_ | refine GX.done ?_ | refine GQ.goNormal ?_ | refine GC.seq ?_ | refine GC.skip ?_ | refine GC.block ?_ | refine GC.exit ?_ | refine GC.ret ?_ | refine GQ.goExit ?_ | refine GQ.goRet ?_ | refine GQ.inNormal ?_ | refine GQ.inExit ?_ | refine GQ.inExitNe rfl ?_ | refine GQ.inRet ?_ | refine GQ.loopExit ?_ | refine GQ.loopRet ?_ | refine GQ.cutExit ?_ | refine GQ.cutRet ?_))
  refine GC.cond rfl (fun hzz => ?_) (fun hzz => ?_)
  · have hz2 : z = true := hzz
    subst hz2
    obtain ⟨⟨F', hJ', hF', hE'⟩, hno⟩ : NewJ w bj j w11 ∧ stepJ l j = none := hz
    have hJ'' := hJ'
    obtain ⟨od, da, dc, oe, ea, ec, ol, la, lc, cells, hb, _⟩ := hJ''
    (repeat (first | refine GX.doneD ?_ | refine GX.done ?_ | refine GQ.goNormal ?_ | refine GC.seq ?_ | refine GC.skip ?_ | refine GC.block ?_ | refine GC.exit ?_ | refine GC.ret ?_ | refine GQ.goExit ?_ | refine GQ.goRet ?_ | refine GQ.inNormal ?_ | refine GQ.inExit ?_ | refine GQ.inExitNe rfl ?_ | refine GQ.inRet ?_ | refine GQ.loopExit ?_ | refine GQ.loopRet ?_ | refine GQ.cutExit ?_ | refine GQ.cutRet ?_))
    refine GC.regionD (.pure 0 (.pure 1 (.pure 2 (.pure 3 (.pure 6 (.read 4 (.pure 5 (.pure 7 .done)))))))) (fun _ => False) mixed (by kernel_rfl) (by kernel_rfl) ?_
    intro w12 _ hE12
    have hS12 : Mod (fun _ => False) w11 w12 := hE12
    (repeat (refine GX.pure rfl ?_; first | refine GO.move rfl rfl rfl rfl ?_ | refine GO.assign rfl rfl rfl rfl ?_ | refine GO.nilCheck rfl rfl rfl rfl ?_ | refine GO.fieldAddr rfl rfl rfl rfl rfl ?_ | refine GO.lenSlice rfl rfl rfl rfl ?_ | refine GO.nilCheckF rfl rfl rfl rfl ?_))
    (first | (refine GX.eff rfl ?_; first | refine GO.load1 (hb.get (o := 0 + 0) rfl) rfl rfl rfl ?_ | refine GO.loadN (hb.get (o := 0 + 0) rfl) rfl rfl rfl rfl ?_) | (refine GX.read rfl ?_; first | refine GO.load1R (by assumption) (fun _ hS_ => At.mod (hb.get (o := 0 + 0) rfl) hS_ (by simp)) rfl rfl rfl ?_ | refine GO.loadNR (by assumption) (fun _ hS_ => At.mod (hb.get (o := 0 + 0) rfl) hS_ (by simp)) rfl rfl rfl rfl ?_))
    (repeat (refine GX.pure rfl ?_; first | refine GO.move rfl rfl rfl rfl ?_ | refine GO.assign rfl rfl rfl rfl ?_ | refine GO.nilCheck rfl rfl rfl rfl ?_ | refine GO.fieldAddr rfl rfl rfl rfl rfl ?_ | refine GO.lenSlice rfl rfl rfl rfl ?_ | refine GO.nilCheckF rfl rfl rfl rfl ?_))
    (repeat (first | refine GX.doneD ?_ | refine GX.done ?_ | refine GQ.goNormal ?_ | refine GC.seq ?_ | refine GC.skip ?_ | refine GC.block ?_ | refine GC.exit ?_ | refine GC.ret ?_ | refine GQ.goExit ?_ | refine GQ.goRet ?_ | refine GQ.inNormal ?_ | refine GQ.inExit ?_ | refine GQ.inExitNe rfl ?_ | refine GQ.inRet ?_ | refine GQ.loopExit ?_ | refine GQ.loopRet ?_ | refine GQ.cutExit ?_ | refine GQ.cutRet ?_))
    refine GQ.ret2 (by first | exact .inl rfl | exact .inr rfl) rfl rfl rfl ?_
    have s12 := hE12.size
    exact ⟨bj, j, rfl, ⟨F', hJ'.ext hE12, fun k hk => by have := hF' k hk; omega, hE'.trans hE12⟩, hok, hst, hno⟩
  · have hz2 : z = false := hzz
    subst hz2
    obtain ⟨hnew, hsome⟩ : NewJ w bj (plusJ j (t, cm)) w11 ∧ stepJ l j = some (plusJ j (t, cm)) := hz
    (repeat (first | refine GX.doneD ?_ | refine GX.done ?_ | refine GQ.goNormal ?_ | refine GC.seq ?_ | refine GC.skip ?_ | refine GC.block ?_ | refine GC.exit ?_ | refine GC.ret ?_ | refine GQ.goExit ?_ | refine GQ.goRet ?_ | refine GQ.inNormal ?_ | refine GQ.inExit ?_ | refine GQ.inExitNe rfl ?_ | refine GQ.inRet ?_ | refine GQ.loopExit ?_ | refine GQ.loopRet ?_ | refine GQ.cutExit ?_ | refine GQ.cutRet ?_))
    obtain ⟨h1, h2⟩ := hstok hsome
    exact GQ.again (plusJ j (t, cm)) (sub_pick (l := [0, 4]) rfl) ⟨hnew, h1, .step hst hsome⟩ (by have := h1.data.length_le; omega)
end Go.Proofs.Ytahkglanddhncaa.V
