/-
  What the law's sorted computes: the strings in order. Conditions: fewer than 2^30 strings.
-/
import Derived.Test.YtfoabgljfikklaaGreatDoorYar
set_option linter.unusedVariables false
set_option linter.unusedSimpArgs false
namespace Go.Proofs.YtfoabgljfikklaaGreatDoor.V.Ky
attribute [local irreducible] GX GO
theorem tw_take {α : Type} {p : α → Bool} : ∀ {out : List α} {k : Nat}, (∀ y ∈ out.take k, p y = true) → (∀ h : k < out.length, p out[k] = false) → k ≤ out.length → out.takeWhile p = out.take k ∧ out.dropWhile p = out.drop k
  | [], k, _, _, _ => by simp
  | x :: r, 0, _, h2, _ => by
    have := h2 (by simp)
    simp at this
    simp [this]
  | x :: r, k + 1, h1, h2, h3 => by
    have hx : p x = true := h1 x (by simp)
    have := tw_take (out := r) (k := k) (fun y hy => h1 y (by simp [hy])) (fun h => by have := h2 (by simpa using h); simpa using this) (by simpa using h3)
    simp [hx, this.1, this.2]
theorem insF_at {x : Bs} {out : List Bs} {k : Nat} (h1 : ∀ y ∈ out.take k, y < x) (h2 : ∀ h : k < out.length, ¬ out[k] < x) (h3 : k ≤ out.length) : insF x out = out.take k ++ x :: out.drop k := by
  have := tw_take (p := fun y => decide (y < x)) (out := out) (k := k) (fun y hy => decide_eq_true (h1 y hy)) (fun h => decide_eq_false (h2 h)) h3
  rw [insF, this.1, this.2]
theorem sortF_take {l : List Bs} {i : Nat} (h : i < l.length) : sortF (l.take (i + 1)) = insF l[i] (sortF (l.take i)) := by
  unfold sortF
  rw [List.take_succ_eq_append_getElem h, List.foldl_append]
  rfl
theorem sortF_length (l : List Bs) : (sortF l).length = l.length := (sortF_perm l).length_eq
theorem strs_drop {w : World} {a : Option Addr} {c : Nat} {l : List Bs} (h : StrsAt w a c l) (k : Nat) : SlA w (sliced' a k c 1) (strsV (l.drop k)) := by
  have := h.cells.sliced k c 1 (l.length - k) (fun e => by have := h.cap; omega)
  have e : ((strsV l).drop (k * 1)).take ((l.length - k) * 1) = strsV (l.drop k) := by
    simp only [strsV, Nat.mul_one]
    rw [← List.map_drop, List.take_of_length_le (by simp)]
  rwa [e] at this
theorem strs_take {w : World} {a : Option Addr} {c : Nat} {l : List Bs} (h : StrsAt w a c l) (k : Nat) (hk : k ≤ l.length) : SlA w (sliced' a 0 c 1) (strsV (l.take k)) := by
  have := h.cells.sliced 0 c 1 k (fun e => by have := h.cap; omega)
  have e : ((strsV l).drop (0 * 1)).take (k * 1) = strsV (l.take k) := by
    simp [strsV]
  rwa [e] at this
theorem strsV_oneC (l : List Bs) : ∀ u ∈ strsV l, u.oneCell' = true := by
  intro u hu
  simp only [strsV, List.mem_map] at hu
  obtain ⟨x, _, rfl⟩ := hu
  rfl
theorem cons_oneC (x : Bs) (l : List Bs) : ∀ u ∈ [str x] ++ strsV l, u.oneCell' = true := fun u hu => strsV_oneC (x :: l) u hu
set_option maxHeartbeats 4000000 in
theorem sorted_ret (l : List Bs) (a : Option Addr) (c : Nat) (w : World) (hN : StrsAt w a c l) (hn : l.length < 2 ^ 30) :
    Ret Tryz.prog 37 [.slice a l.length c].toArray w fun v w' => ∃ sa sc, v = .slice sa l.length sc ∧ StrsAt w' sa sc (sortF l) ∧ Ext w w' := by
  refine Ret.enter Tryz.func37 rfl Tryz.ntmps37 rfl ?_
  (repeat (first | refine GX.doneD ?_ | refine GX.done ?_ | refine GQ.goNormal ?_ | refine GC.seq ?_ | refine GC.skip ?_ | refine GC.block ?_ | refine GC.exit ?_ | refine GC.ret ?_ | refine GQ.goExit ?_ | refine GQ.goRet ?_ | refine GQ.inNormal ?_ | refine GQ.inExit ?_ | refine GQ.inExitNe rfl ?_ | refine GQ.inRet ?_ | refine GQ.loopExit ?_ | refine GQ.loopRet ?_ | refine GQ.cutExit ?_ | refine GQ.cutRet ?_))
  refine GC.region (.pure 0 .done) rfl ?_
  (repeat (refine GX.pure rfl ?_; refine GO.assign rfl rfl rfl rfl ?_))
  (repeat (first | refine GX.doneD ?_ | refine GX.done ?_ | refine GQ.goNormal ?_ | refine GC.seq ?_ | refine GC.skip ?_ | refine GC.block ?_ | refine GC.exit ?_ | refine GC.ret ?_ | refine GQ.goExit ?_ | refine GQ.goRet ?_ | refine GQ.inNormal ?_ | refine GQ.inExit ?_ | refine GQ.inExitNe rfl ?_ | refine GQ.inRet ?_ | refine GQ.loopExit ?_ | refine GQ.loopRet ?_ | refine GQ.cutExit ?_ | refine GQ.cutRet ?_))
  refine GC.region (.pure 0 .done) rfl ?_
  (repeat (refine GX.pure rfl ?_; refine GO.assign rfl rfl rfl rfl ?_))
  (repeat (first | refine GX.doneD ?_ | refine GX.done ?_ | refine GQ.goNormal ?_ | refine GC.seq ?_ | refine GC.skip ?_ | refine GC.block ?_ | refine GC.exit ?_ | refine GC.ret ?_ | refine GQ.goExit ?_ | refine GQ.goRet ?_ | refine GQ.inNormal ?_ | refine GQ.inExit ?_ | refine GQ.inExitNe rfl ?_ | refine GQ.inRet ?_ | refine GQ.loopExit ?_ | refine GQ.loopRet ?_ | refine GQ.cutExit ?_ | refine GQ.cutRet ?_))
  refine GC.region (.pure 0 .done) rfl ?_
  (repeat (refine GX.pure rfl ?_; refine GO.assign rfl rfl rfl rfl ?_))
  (repeat (first | refine GX.doneD ?_ | refine GX.done ?_ | refine GQ.goNormal ?_ | refine GC.seq ?_ | refine GC.skip ?_ | refine GC.block ?_ | refine GC.exit ?_ | refine GC.ret ?_ | refine GQ.goExit ?_ | refine GQ.goRet ?_ | refine GQ.inNormal ?_ | refine GQ.inExit ?_ | refine GQ.inExitNe rfl ?_ | refine GQ.inRet ?_ | refine GQ.loopExit ?_ | refine GQ.loopRet ?_ | refine GQ.cutExit ?_ | refine GQ.cutRet ?_))
  refine GC.loop (X := Nat × Option Addr × Nat) (fun x => [(0, .slice a l.length c), (3, .slice x.2.1 x.1 x.2.2), (4, .int .i64 x.1)])
    (fun x w' => x.1 ≤ l.length ∧ Ext w w' ∧ StrsAt w' x.2.1 x.2.2 (sortF (l.take x.1))) (fun x => l.length - x.1) (0, none, 0) (sub_pick (l := [0, 3, 4]) rfl) ⟨Nat.zero_le _, Mod.refl _, StrsAt.none _⟩ ?_
  rintro ⟨i, oa, oc⟩ w1 ⟨hi, hE, hO⟩
  dsimp only at hi hO ⊢
  obtain ⟨out, hout⟩ : ∃ o, o = sortF (l.take i) := ⟨_, rfl⟩
  rw [← hout] at hO
  have hlen : out.length = i := by rw [hout, sortF_length, List.length_take]; omega
  have hN1 := hN.ext hE
  (repeat (first | refine GX.doneD ?_ | refine GX.done ?_ | refine GQ.goNormal ?_ | refine GC.seq ?_ | refine GC.skip ?_ | refine GC.block ?_ | refine GC.exit ?_ | refine GC.ret ?_ | refine GQ.goExit ?_ | refine GQ.goRet ?_ | refine GQ.inNormal ?_ | refine GQ.inExit ?_ | refine GQ.inExitNe rfl ?_ | refine GQ.inRet ?_ | refine GQ.loopExit ?_ | refine GQ.loopRet ?_ | refine GQ.cutExit ?_ | refine GQ.cutRet ?_))
  refine GC.region (.pure 0 (.pure 1 (.pure 2 (.pure 3 .done)))) rfl ?_
  (repeat (refine GX.pure rfl ?_; first | refine GO.move rfl rfl rfl rfl ?_ | refine GO.lenSlice rfl rfl rfl rfl ?_ | refine GO.lss rfl rfl rfl rfl rfl ?_))
  (repeat (first | refine GX.doneD ?_ | refine GX.done ?_ | refine GQ.goNormal ?_ | refine GC.seq ?_ | refine GC.skip ?_ | refine GC.block ?_ | refine GC.exit ?_ | refine GC.ret ?_ | refine GQ.goExit ?_ | refine GQ.goRet ?_ | refine GQ.inNormal ?_ | refine GQ.inExit ?_ | refine GQ.inExitNe rfl ?_ | refine GQ.inRet ?_ | refine GQ.loopExit ?_ | refine GQ.loopRet ?_ | refine GQ.cutExit ?_ | refine GQ.cutRet ?_))
  refine GC.cond rfl (fun hc => ?_) (fun hc => ?_)
  · have hlt : i < l.length := by have := of_decide_eq_true hc; omega
    obtain ⟨x, hx⟩ : ∃ x, x = l[i] := ⟨_, rfl⟩
    (repeat (first | refine GX.doneD ?_ | refine GX.done ?_ | refine GQ.goNormal ?_ | refine GC.seq ?_ | refine GC.skip ?_ | refine GC.block ?_ | refine GC.exit ?_ | refine GC.ret ?_ | refine GQ.goExit ?_ | refine GQ.goRet ?_ | refine GQ.inNormal ?_ | refine GQ.inExit ?_ | refine GQ.inExitNe rfl ?_ | refine GQ.inRet ?_ | refine GQ.loopExit ?_ | refine GQ.loopRet ?_ | refine GQ.cutExit ?_ | refine GQ.cutRet ?_))
    refine GC.region (.pure 0 .done) rfl ?_
    (repeat (refine GX.pure rfl ?_; refine GO.assign rfl rfl rfl rfl ?_))
    refine GX.done ?_
    refine GQ.goNormal ?_
    refine GC.seq ?_
    refine GC.cut (X := Nat) (fun k => [(0, .slice a l.length c), (3, .slice oa i oc), (4, .int .i64 i), (5, .int .i64 k)]) (fun k w' => k ≤ i ∧ insF x out = out.take k ++ x :: out.drop k ∧ Ext w1 w') ?_ ?_
    · (repeat (first | refine GX.doneD ?_ | refine GX.done ?_ | refine GQ.goNormal ?_ | refine GC.seq ?_ | refine GC.skip ?_ | refine GC.block ?_ | refine GC.exit ?_ | refine GC.ret ?_ | refine GQ.goExit ?_ | refine GQ.goRet ?_ | refine GQ.inNormal ?_ | refine GQ.inExit ?_ | refine GQ.inExitNe rfl ?_ | refine GQ.inRet ?_ | refine GQ.loopExit ?_ | refine GQ.loopRet ?_ | refine GQ.cutExit ?_ | refine GQ.cutRet ?_))
      refine GC.loop (X := Nat) (fun k => [(0, .slice a l.length c), (3, .slice oa i oc), (4, .int .i64 i), (5, .int .i64 k)]) (fun k w' => k ≤ i ∧ (∀ y ∈ out.take k, y < x) ∧ Ext w1 w') (fun k => i - k) 0 (sub_pick (l := [0, 3, 4, 5]) rfl) ⟨Nat.zero_le _, by simp, Mod.refl _⟩ ?_
      rintro k w2 ⟨hk, hpre, hE2⟩
      have hN2 := hN1.ext hE2
      have hO2 := hO.ext hE2
      (repeat (first | refine GX.doneD ?_ | refine GX.done ?_ | refine GQ.goNormal ?_ | refine GC.seq ?_ | refine GC.skip ?_ | refine GC.block ?_ | refine GC.exit ?_ | refine GC.ret ?_ | refine GQ.goExit ?_ | refine GQ.goRet ?_ | refine GQ.inNormal ?_ | refine GQ.inExit ?_ | refine GQ.inExitNe rfl ?_ | refine GQ.inRet ?_ | refine GQ.loopExit ?_ | refine GQ.loopRet ?_ | refine GQ.cutExit ?_ | refine GQ.cutRet ?_))
      refine GC.regionD (.pure 0 (.pure 1 (.pure 2 (.pure 3 (.pure 4 (.pure 5 (.pure 6 (.pure 7 (.pure 9 (.pure 10 (.pure 11 (.read 8 (.read 12 (.pure 13 (.pure 14 .done))))))))))))))) (fun _ => False) mixed (by kernel_rfl) (by kernel_rfl) ?_
      intro w3 _ hE3
      have hS : Mod (fun _ => False) w2 w3 := hE3
      (repeat (refine GX.pure rfl ?_; first | refine GO.move rfl rfl rfl rfl ?_ | refine GO.lenSlice rfl rfl rfl rfl ?_ | refine GO.lss rfl rfl rfl rfl rfl ?_ | refine GO.pickT rfl rfl rfl rfl rfl ?_ | refine GO.pickF rfl rfl rfl rfl rfl ?_ | refine GO.skip (.inl rfl) rfl rfl ?_))
      refine GX.case 17 rfl (fun h1 => ?_) (fun h1 => ?_)
      · have hk1 : k < i := by have := of_decide_eq_true h1; omega
        have hk2 : k < out.length := by omega
        obtain ⟨b, o, rfl, hAt⟩ := strs_at hN2 hlt
        obtain ⟨b2, o2, rfl, hAt2⟩ := strs_at hO2 hk2
        rw [← hx] at hAt
        (repeat (first | (refine GX.pure rfl ?_; first | refine GO.move rfl rfl rfl rfl ?_ | refine GO.lenSlice rfl rfl rfl rfl ?_ | refine GO.lss rfl rfl rfl rfl rfl ?_ | refine GO.pickT rfl rfl rfl rfl rfl ?_ | refine GO.pickF rfl rfl rfl rfl rfl ?_ | refine GO.skip (.inl rfl) rfl rfl ?_) | (refine GX.pure rfl (GO.indexAddr rfl rfl rfl rfl (by omega) (by omega) rfl ?_))))
        (first | (refine GX.eff rfl ?_; first | refine GO.load1 (hAt2 (k : Int) (by omega)) rfl rfl rfl ?_ | refine GO.loadN (hAt2 (k : Int) (by omega)) rfl rfl rfl rfl ?_) | (refine GX.read rfl ?_; first | refine GO.load1R (by assumption) (fun _ hS_ => At.mod (hAt2 (k : Int) (by omega)) hS_ (by simp)) rfl rfl rfl ?_ | refine GO.loadNR (by assumption) (fun _ hS_ => At.mod (hAt2 (k : Int) (by omega)) hS_ (by simp)) rfl rfl rfl rfl ?_))
        (repeat (first | (refine GX.pure rfl ?_; first | refine GO.move rfl rfl rfl rfl ?_ | refine GO.lenSlice rfl rfl rfl rfl ?_ | refine GO.lss rfl rfl rfl rfl rfl ?_ | refine GO.pickT rfl rfl rfl rfl rfl ?_ | refine GO.pickF rfl rfl rfl rfl rfl ?_ | refine GO.skip (.inl rfl) rfl rfl ?_) | (refine GX.pure rfl (GO.indexAddr rfl rfl rfl rfl (by omega) (by omega) rfl ?_))))
        (first | (refine GX.eff rfl ?_; first | refine GO.load1 (hAt (i : Int) (by omega)) rfl rfl rfl ?_ | refine GO.loadN (hAt (i : Int) (by omega)) rfl rfl rfl rfl ?_) | (refine GX.read rfl ?_; first | refine GO.load1R (by assumption) (fun _ hS_ => At.mod (hAt (i : Int) (by omega)) hS_ (by simp)) rfl rfl rfl ?_ | refine GO.loadNR (by assumption) (fun _ hS_ => At.mod (hAt (i : Int) (by omega)) hS_ (by simp)) rfl rfl rfl rfl ?_))
        refine GX.pure rfl (strLss out[k] x rfl rfl rfl rfl rfl ?_)
        (repeat (refine GX.pure rfl ?_; first | refine GO.move rfl rfl rfl rfl ?_ | refine GO.lenSlice rfl rfl rfl rfl ?_ | refine GO.lss rfl rfl rfl rfl rfl ?_ | refine GO.pickT rfl rfl rfl rfl rfl ?_ | refine GO.pickF rfl rfl rfl rfl rfl ?_ | refine GO.skip (.inl rfl) rfl rfl ?_))
        (repeat (first | refine GX.doneD ?_ | refine GX.done ?_ | refine GQ.goNormal ?_ | refine GC.seq ?_ | refine GC.skip ?_ | refine GC.block ?_ | refine GC.exit ?_ | refine GC.ret ?_ | refine GQ.goExit ?_ | refine GQ.goRet ?_ | refine GQ.inNormal ?_ | refine GQ.inExit ?_ | refine GQ.inExitNe rfl ?_ | refine GQ.inRet ?_ | refine GQ.loopExit ?_ | refine GQ.loopRet ?_ | refine GQ.cutExit ?_ | refine GQ.cutRet ?_))
        refine GC.cond rfl (fun hq => ?_) (fun hq => ?_)
        · have hq' : out[k] < x := of_decide_eq_true hq
          (repeat (first | refine GX.doneD ?_ | refine GX.done ?_ | refine GQ.goNormal ?_ | refine GC.seq ?_ | refine GC.skip ?_ | refine GC.block ?_ | refine GC.exit ?_ | refine GC.ret ?_ | refine GQ.goExit ?_ | refine GQ.goRet ?_ | refine GQ.inNormal ?_ | refine GQ.inExit ?_ | refine GQ.inExitNe rfl ?_ | refine GQ.inRet ?_ | refine GQ.loopExit ?_ | refine GQ.loopRet ?_ | refine GQ.cutExit ?_ | refine GQ.cutRet ?_))
          refine GC.region (.pure 0 (.pure 1 (.pure 2 .done))) rfl ?_
          (repeat (refine GX.pure rfl ?_; first | refine GO.move rfl rfl rfl rfl ?_ | refine GO.assign rfl rfl rfl rfl ?_ | refine GO.add rfl rfl rfl rfl rfl (wrapIn (by dsimp only [InK]; omega)) ?_))
          (repeat (first | refine GX.doneD ?_ | refine GX.done ?_ | refine GQ.goNormal ?_ | refine GC.seq ?_ | refine GC.skip ?_ | refine GC.block ?_ | refine GC.exit ?_ | refine GC.ret ?_ | refine GQ.goExit ?_ | refine GQ.goRet ?_ | refine GQ.inNormal ?_ | refine GQ.inExit ?_ | refine GQ.inExitNe rfl ?_ | refine GQ.inRet ?_ | refine GQ.loopExit ?_ | refine GQ.loopRet ?_ | refine GQ.cutExit ?_ | refine GQ.cutRet ?_))
          refine GQ.again (k + 1) (sub_pick (l := [0, 3, 4, 5]) rfl) ⟨hk1, fun y hy => ?_, hE2.trans hE3⟩ (by omega)
          rw [List.take_succ_eq_append_getElem hk2] at hy
          rcases List.mem_append.1 hy with hy | hy
          · exact hpre y hy
          · simp at hy; subst hy; exact hq'
        · have hq' : ¬ out[k] < x := of_decide_eq_false hq
          (repeat (first | refine GX.doneD ?_ | refine GX.done ?_ | refine GQ.goNormal ?_ | refine GC.seq ?_ | refine GC.skip ?_ | refine GC.block ?_ | refine GC.exit ?_ | refine GC.ret ?_ | refine GQ.goExit ?_ | refine GQ.goRet ?_ | refine GQ.inNormal ?_ | refine GQ.inExit ?_ | refine GQ.inExitNe rfl ?_ | refine GQ.inRet ?_ | refine GQ.loopExit ?_ | refine GQ.loopRet ?_ | refine GQ.cutExit ?_ | refine GQ.cutRet ?_))
          exact GQ.cutNormal k (sub_pick (l := [0, 3, 4, 5]) rfl) ⟨hk, insF_at hpre (fun _ => hq') (by omega), hE2.trans hE3⟩
      · have hk1 : k = i := by have := of_decide_eq_false h1; omega
        (repeat (first | (refine GX.pure rfl ?_; first | refine GO.move rfl rfl rfl rfl ?_ | refine GO.lenSlice rfl rfl rfl rfl ?_ | refine GO.lss rfl rfl rfl rfl rfl ?_ | refine GO.pickT rfl rfl rfl rfl rfl ?_ | refine GO.pickF rfl rfl rfl rfl rfl ?_ | refine GO.skip (.inl rfl) rfl rfl ?_) | (refine GX.eff rfl ?_; refine GO.skip (.inr rfl) rfl rfl ?_) | (refine GX.read rfl ?_; refine GO.skipRead (by assumption) rfl rfl ?_)))
        (repeat (first | refine GX.doneD ?_ | refine GX.done ?_ | refine GQ.goNormal ?_ | refine GC.seq ?_ | refine GC.skip ?_ | refine GC.block ?_ | refine GC.exit ?_ | refine GC.ret ?_ | refine GQ.goExit ?_ | refine GQ.goRet ?_ | refine GQ.inNormal ?_ | refine GQ.inExit ?_ | refine GQ.inExitNe rfl ?_ | refine GQ.inRet ?_ | refine GQ.loopExit ?_ | refine GQ.loopRet ?_ | refine GQ.cutExit ?_ | refine GQ.cutRet ?_))
        refine GC.cond rfl (fun hq => ?_) (fun hq => ?_)
        · cases hq
        (repeat (first | refine GX.doneD ?_ | refine GX.done ?_ | refine GQ.goNormal ?_ | refine GC.seq ?_ | refine GC.skip ?_ | refine GC.block ?_ | refine GC.exit ?_ | refine GC.ret ?_ | refine GQ.goExit ?_ | refine GQ.goRet ?_ | refine GQ.inNormal ?_ | refine GQ.inExit ?_ | refine GQ.inExitNe rfl ?_ | refine GQ.inRet ?_ | refine GQ.loopExit ?_ | refine GQ.loopRet ?_ | refine GQ.cutExit ?_ | refine GQ.cutRet ?_))
        exact GQ.cutNormal k (sub_pick (l := [0, 3, 4, 5]) rfl) ⟨hk, insF_at hpre (fun h => absurd h (by omega)) (by omega), hE2.trans hE3⟩
    rintro k w2 ⟨hk, hins, hE2⟩
    have hN2 := hN1.ext hE2
    have hO2 := hO.ext hE2
    obtain ⟨b, o, rfl, hAt⟩ := strs_at hN2 hlt
    rw [← hx] at hAt
    have hcap := hO2.cap
    (repeat (first | refine GX.doneD ?_ | refine GX.done ?_ | refine GQ.goNormal ?_ | refine GC.seq ?_ | refine GC.skip ?_ | refine GC.block ?_ | refine GC.exit ?_ | refine GC.ret ?_ | refine GQ.goExit ?_ | refine GQ.goRet ?_ | refine GQ.inNormal ?_ | refine GQ.inExit ?_ | refine GQ.inExitNe rfl ?_ | refine GQ.inRet ?_ | refine GQ.loopExit ?_ | refine GQ.loopRet ?_ | refine GQ.cutExit ?_ | refine GQ.cutRet ?_))
    refine GC.regionD (.pure 0 (.pure 1 (.pure 2 (.pure 5 (.pure 6 (.pure 7 (.read 3 (.eff 4 (.eff 8 (.pure 9 .done)))))))))) (fun _ => False) mixed (by kernel_rfl) (by kernel_rfl) ?_
    intro w3 _ hE3
    have hS : Mod (fun _ => False) w2 w3 := hE3
    (repeat (first | (refine GX.pure rfl ?_; first | refine GO.move rfl rfl rfl rfl ?_ | refine GO.assign rfl rfl rfl rfl ?_) | (refine GX.pure rfl (GO.indexAddr rfl rfl rfl rfl (by omega) (by omega) rfl ?_)) | (refine GX.pure rfl (GO.sliceS rfl rfl rfl rfl (bounds_l (by omega) (by omega)) ⟨by simp; rfl, by simp, by simp⟩ ?_))))
    (first | (refine GX.eff rfl ?_; first | refine GO.load1 (hAt (i : Int) (by omega)) rfl rfl rfl ?_ | refine GO.loadN (hAt (i : Int) (by omega)) rfl rfl rfl rfl ?_) | (refine GX.read rfl ?_; first | refine GO.load1R (by assumption) (fun _ hS_ => At.mod (hAt (i : Int) (by omega)) hS_ (by simp)) rfl rfl rfl ?_ | refine GO.loadNR (by assumption) (fun _ hS_ => At.mod (hAt (i : Int) (by omega)) hS_ (by simp)) rfl rfl rfl rfl ?_))
    (repeat (first | (refine GX.pure rfl ?_; first | refine GO.move rfl rfl rfl rfl ?_ | refine GO.assign rfl rfl rfl rfl ?_) | (refine GX.pure rfl (GO.sliceS rfl rfl rfl rfl (bounds_l (by omega) (by omega)) ⟨by simp; rfl, by simp, by simp⟩ ?_))))
    refine GX.eff rfl ?_
    refine GO.buildSlice (out := [str x]) (by kernel_rfl) ⟨by omega, by unfold maxLen; omega⟩ rfl rfl rfl rfl rfl fun b4 w4 hb4 hO4 hE4 => ?_
    refine ⟨fun _ h => by first | trivial | exact Mod.trans h (Ext.mod (by assumption)), ?_⟩
    (repeat (first | (refine GX.pure rfl ?_; first | refine GO.move rfl rfl rfl rfl ?_ | refine GO.assign rfl rfl rfl rfl ?_) | (refine GX.pure rfl (GO.sliceS rfl rfl rfl rfl (bounds_l (by omega) (by omega)) ⟨by simp; rfl, by simp, by simp⟩ ?_))))
    have hO3 := (hO2.ext hE3).ext hE4
    have hdl : (strsV (out.drop (k : Int).toNat)).length = (i - (k : Int).toNat) * 1 := by simp [strsV, hlen]
    refine GX.eff rfl ?_
    refine GO.append hO4 (strs_drop hO3 (k : Int).toNat) hdl (strsV_oneC _) (by omega) (by omega) rfl rfl rfl rfl rfl fun ro ra rc w5 hR5 hM5 hB5 hA5 => ?_
    refine ⟨fun _ h => h.then hM5 (fun j hj e => by cases e; have := hE3.size; omega), ?_⟩
    (repeat (refine GX.pure rfl ?_; first | refine GO.move rfl rfl rfl rfl ?_ | refine GO.assign rfl rfl rfl rfl ?_))
    (repeat (first | refine GX.doneD ?_ | refine GX.done ?_ | refine GQ.goNormal ?_ | refine GC.seq ?_ | refine GC.skip ?_ | refine GC.block ?_ | refine GC.exit ?_ | refine GC.ret ?_ | refine GQ.goExit ?_ | refine GQ.goRet ?_ | refine GQ.inNormal ?_ | refine GQ.inExit ?_ | refine GQ.inExitNe rfl ?_ | refine GQ.inRet ?_ | refine GQ.loopExit ?_ | refine GQ.loopRet ?_ | refine GQ.cutExit ?_ | refine GQ.cutRet ?_))
    have hE5 : Ext w1 w5 := ((hE2.trans hE3).trans hE4).then hM5 (fun j hj e => by cases e; have := (hE2.trans hE3).size; omega)
    have hk0 : (k : Int).toNat = k := by omega
    rw [hk0] at hR5
    have hO5 := hO.ext hE5
    refine GC.region (.pure 0 (.pure 1 (.pure 2 (.eff 3 (.pure 4 (.eff 5 (.pure 6 .done))))))) rfl ?_
    (repeat (refine GX.pure rfl ?_; first | refine GO.move rfl rfl rfl rfl ?_ | refine GO.assign rfl rfl rfl rfl ?_))
    refine GX.pure rfl (GO.sliceS rfl rfl rfl rfl (bounds_h (by omega) (by omega)) ⟨by simp, by simp; rfl, by simp⟩ ?_)
    (repeat (refine GX.pure rfl ?_; first | refine GO.move rfl rfl rfl rfl ?_ | refine GO.assign rfl rfl rfl rfl ?_))
    have htl : (strsV (out.take (k : Int).toNat)).length = ((k : Int).toNat - 0) * 1 := by simp [strsV]; omega
    refine GX.eff rfl ?_
    refine GO.append (OwnS.nil w5 9 1) (strs_take hO5 (k : Int).toNat (by omega)) htl (strsV_oneC _) (by omega) (by omega) rfl rfl rfl rfl rfl fun fo fa fc w6 hF6 hM6 hB6 hA6 => ?_
    refine ⟨fun _ h => by first | trivial | exact Mod.trans h (Ext.mod (by assumption)), ?_⟩
    (repeat (refine GX.pure rfl ?_; first | refine GO.move rfl rfl rfl rfl ?_ | refine GO.assign rfl rfl rfl rfl ?_))
    have hE56 : Ext w5 w6 := (Mod.refl w5 : Ext w5 w5).then hM6 (fun j hj e => by cases e)
    refine GX.eff rfl ?_
    refine GO.append hF6 (hR5.sla.ext hE56) (by simp [strsV, hlen]; omega) (cons_oneC _ _) (by omega) (by omega) rfl rfl rfl rfl rfl fun go ga gc w7 hG7 hM7 hB7 hA7 => ?_
    refine ⟨fun _ h => by first | trivial | exact Mod.trans h (Ext.mod (by assumption)), ?_⟩
    (repeat (refine GX.pure rfl ?_; first | refine GO.move rfl rfl rfl rfl ?_ | refine GO.assign rfl rfl rfl rfl ?_))
    (repeat (first | refine GX.doneD ?_ | refine GX.done ?_ | refine GQ.goNormal ?_ | refine GC.seq ?_ | refine GC.skip ?_ | refine GC.block ?_ | refine GC.exit ?_ | refine GC.ret ?_ | refine GQ.goExit ?_ | refine GQ.goRet ?_ | refine GQ.inNormal ?_ | refine GQ.inExit ?_ | refine GQ.inExitNe rfl ?_ | refine GQ.inRet ?_ | refine GQ.loopExit ?_ | refine GQ.loopRet ?_ | refine GQ.cutExit ?_ | refine GQ.cutRet ?_))
    refine GC.region (.pure 0 (.pure 1 (.pure 2 .done))) rfl ?_
    (repeat (refine GX.pure rfl ?_; first | refine GO.move rfl rfl rfl rfl ?_ | refine GO.assign rfl rfl rfl rfl ?_ | refine GO.add rfl rfl rfl rfl rfl (wrapIn (by dsimp only [InK]; omega)) ?_))
    (repeat (first | refine GX.doneD ?_ | refine GX.done ?_ | refine GQ.goNormal ?_ | refine GC.seq ?_ | refine GC.skip ?_ | refine GC.block ?_ | refine GC.exit ?_ | refine GC.ret ?_ | refine GQ.goExit ?_ | refine GQ.goRet ?_ | refine GQ.inNormal ?_ | refine GQ.inExit ?_ | refine GQ.inExitNe rfl ?_ | refine GQ.inRet ?_ | refine GQ.loopExit ?_ | refine GQ.loopRet ?_ | refine GQ.cutExit ?_ | refine GQ.cutRet ?_))
    have hfo : ∀ y, fo = some y → w5.heap.size ≤ y := fun y hy => by
      rcases hB6 y hy with h | h
      · cases h
      · exact h
    have hE7 : Ext w5 w7 := hE56.then hM7 (fun j hj e => by have := hfo j e.symm; omega)
    have hlen7 : 0 + ((k : Int).toNat - 0) + (1 + (i - (k : Int).toNat)) = i + 1 := by omega
    refine GQ.again (i + 1, ga, gc) (sub_pick (l := [0, 3, 4]) (by rw [show ((0 + ((k : Int).toNat - 0) + (1 + (i - (k : Int).toNat)) : Nat)) = i + 1 from hlen7]; rfl)) ⟨hlt, hE.trans (hE5.trans hE7), ?_⟩ (by dsimp only; omega)
    dsimp only
    rw [hlen7] at hG7
    have hcs : [] ++ strsV (out.take (k : Int).toNat) ++ ([str x] ++ strsV (out.drop k)) = strsV (sortF (l.take (i + 1))) := by
      rw [sortF_take hlt, ← hout, ← hx, hins, hk0]
      simp [strsV]
    rw [hcs] at hG7
    refine ⟨hG7.sla, ?_, fun h => hG7.cap0 h, fun y hy hne => ?_⟩
    · rw [sortF_length, List.length_take]
      have := hG7.len_le
      omega
    · rcases hA7 y hy with h | ⟨h, h'⟩
      · subst h; exact hG7.block.2
      · rcases hA6 y h with h2 | ⟨h2, _⟩
        · rw [h2] at h'
          rw [h'] at hG7
          exact hG7.block.2
        · cases h2
  have hge : i = l.length := by have := of_decide_eq_false hc; omega
  subst hge
  rw [List.take_length] at hout
  subst hout
  (repeat (first | refine GX.doneD ?_ | refine GX.done ?_ | refine GQ.goNormal ?_ | refine GC.seq ?_ | refine GC.skip ?_ | refine GC.block ?_ | refine GC.exit ?_ | refine GC.ret ?_ | refine GQ.goExit ?_ | refine GQ.goRet ?_ | refine GQ.inNormal ?_ | refine GQ.inExit ?_ | refine GQ.inExitNe rfl ?_ | refine GQ.inRet ?_ | refine GQ.loopExit ?_ | refine GQ.loopRet ?_ | refine GQ.cutExit ?_ | refine GQ.cutRet ?_))
  refine GC.region (.pure 0 (.pure 1 .done)) rfl ?_
  (repeat (refine GX.pure rfl ?_; first | refine GO.move rfl rfl rfl rfl ?_ | refine GO.assign rfl rfl rfl rfl ?_))
  (repeat (first | refine GX.doneD ?_ | refine GX.done ?_ | refine GQ.goNormal ?_ | refine GC.seq ?_ | refine GC.skip ?_ | refine GC.block ?_ | refine GC.exit ?_ | refine GC.ret ?_ | refine GQ.goExit ?_ | refine GQ.goRet ?_ | refine GQ.inNormal ?_ | refine GQ.inExit ?_ | refine GQ.inExitNe rfl ?_ | refine GQ.inRet ?_ | refine GQ.loopExit ?_ | refine GQ.loopRet ?_ | refine GQ.cutExit ?_ | refine GQ.cutRet ?_))
  refine GQ.ret1 (by first | exact .inl rfl | exact .inr rfl) rfl rfl ?_
  exact ⟨oa, oc, rfl, hO, hE⟩
end Go.Proofs.YtfoabgljfikklaaGreatDoor.V.Ky
