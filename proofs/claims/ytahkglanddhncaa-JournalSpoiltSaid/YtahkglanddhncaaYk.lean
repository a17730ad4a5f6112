/-
  What the law's function for the chapter's examples computes. No condition.
-/
import Derived.Test.YtahkglanddhncaaYj
namespace Go.Proofs.Ytahkglanddhncaa.V
attribute [local irreducible] GX GO exJ1 exJ2

def noS (c : Cmd) : List Value := cmdCells c none 0 none 0 none 0
theorem noS_f (w : World) (F : Nat → Prop) (c : Cmd) (h1 : c.keys = []) (h2 : c.value = []) (h3 : c.tags = []) : CmdF w F (noS c) c := by
  refine ⟨none, 0, none, 0, none, 0, rfl, ?_, ?_, ?_, by simp⟩
  · rw [h1]; exact StrsAt.none _
  · rw [h2]; exact BytesAt.none _
  · rw [h3]; exact StrsAt.none _
theorem okC_bare (op : Int) (h : -9223372036854775808 ≤ op ∧ op < 9223372036854775808) : OkC (bare op) := ⟨h, by simp [csize, bare, tot], by simp [bare], by simp [bare], by simp [bare], by simp [bare]⟩
theorem okC_get : OkC getC := ⟨by decide, by decide, by decide, by decide, by decide, by decide⟩

theorem ReadV.is {w w' : World} {l : List UInt8} {v : Value} {k : JS} (h : ReadV w l v w') (hs : Steps l zeroJ k) (hn : (stepJ l k).isNone = true) : ∃ u, v = .tuple #[u, .int .i64 k.data.length] ∧ ListV w k.xs u w' := by
  obtain ⟨j, u, h1, h2, h3, h4, h5⟩ := h
  have : j = k := Steps.same l.length (zeroJ_ok l) (Nat.sub_le _ _) h4 hs h5 (Option.isNone_iff_eq_none.1 hn)
  subst this
  exact ⟨u, h1, h2⟩

set_option maxHeartbeats 8000000 in
theorem known_ret (w : World) : Ret Try.prog 7 [].toArray w fun v w' => v = .bool true ∧ Ext w w' := by
  
  refine Ret.enter Try.func7 rfl Try.ntmps7 rfl ?_
  (repeat (first | refine GX.doneD ?_ | refine GX.done ?_ | refine GQ.goNormal ?_ | refine GC.seq ?_ | refine GC.skip ?_ | refine GC.block ?_ | refine GC.exit ?_ | refine GC.ret ?_ | refine GQ.goExit ?_ | refine GQ.goRet ?_ | refine GQ.inNormal ?_ | refine GQ.inExit ?_ | refine GQ.inExitNe rfl ?_ | refine GQ.inRet ?_ | refine GQ.loopExit ?_ | refine GQ.loopRet ?_ | refine GQ.cutExit ?_ | refine GQ.cutRet ?_))
  refine GC.region (.pure 0 .done) rfl ?_
  (repeat (refine GX.pure rfl ?_; refine GO.assign rfl rfl rfl rfl ?_))
  (repeat (first | refine GX.doneD ?_ | refine GX.done ?_ | refine GQ.goNormal ?_ | refine GC.seq ?_ | refine GC.skip ?_ | refine GC.block ?_ | refine GC.exit ?_ | refine GC.ret ?_ | refine GQ.goExit ?_ | refine GQ.goRet ?_ | refine GQ.inNormal ?_ | refine GQ.inExit ?_ | refine GQ.inExitNe rfl ?_ | refine GQ.inRet ?_ | refine GQ.loopExit ?_ | refine GQ.loopRet ?_ | refine GQ.cutExit ?_ | refine GQ.cutRet ?_))
  refine GC.region (.pure 0 (.eff 1 (.pure 2 .done))) rfl ?_
  refine GX.pure rfl ?_
  refine GO.build (out := [.slice none 0 0, .slice none 0 0, .slice none 0 0]) rfl (by kernel_rfl) (by kernel_rfl) rfl rfl rfl rfl ?_
  refine GX.eff rfl ?_
  refine GO.box (l := [.slice none 0 0, .slice none 0 0, .slice none 0 0]) rfl rfl rfl rfl fun bj w1 hbj hBj hE1 => ?_
  refine ⟨fun _ h => by first | trivial | exact Mod.trans h (Ext.mod (by assumption)), ?_⟩
  (repeat (refine GX.pure rfl ?_; refine GO.assign rfl rfl rfl rfl ?_))
  (repeat (first | refine GX.doneD ?_ | refine GX.done ?_ | refine GQ.goNormal ?_ | refine GC.seq ?_ | refine GC.skip ?_ | refine GC.block ?_ | refine GC.exit ?_ | refine GC.ret ?_ | refine GQ.goExit ?_ | refine GQ.goRet ?_ | refine GQ.inNormal ?_ | refine GQ.inExit ?_ | refine GQ.inExitNe rfl ?_ | refine GQ.inRet ?_ | refine GQ.loopExit ?_ | refine GQ.loopRet ?_ | refine GQ.cutExit ?_ | refine GQ.cutRet ?_))
  have hbl := hBj.lt
  have hJ1 : JAt w1 (fun k => k = bj) bj zeroJ := ⟨none, none, 0, none, none, 0, none, none, 0, [], hBj, Own.nil _ _ _, Own.nil _ _ _, Own.nil _ _ _, rfl, rfl, by simp, by simp, by simp⟩
  refine GC.region (.eff 0 (.pure 1 (.eff 2 (.pure 3 (.eff 4 (.pure 5 .done)))))) rfl ?_
  (refine GX.eff rfl ?_; refine GO.callL rfl rfl rfl rfl rfl (getL_ret w1) ?_)
  rintro v w2 ⟨rfl, hE2⟩
  refine ⟨fun _ h => by first | trivial | exact Mod.trans h (Ext.mod (by assumption)), ?_⟩
  refine GX.pure rfl ?_
  refine GO.build (out := .int .u64 5 :: noS getC) rfl (by kernel_rfl) (by kernel_rfl) rfl rfl rfl rfl ?_
  (refine GX.eff rfl ?_; refine GO.callL rfl rfl rfl rfl rfl (flushL_ret w2) ?_)
  rintro v w3 ⟨rfl, hE3⟩
  refine ⟨fun _ h => by first | trivial | exact Mod.trans h (Ext.mod (by assumption)), ?_⟩
  refine GX.pure rfl ?_
  refine GO.build (out := .int .u64 300 :: noS flushC) rfl (by kernel_rfl) (by kernel_rfl) rfl rfl rfl rfl ?_
  refine GX.eff rfl ?_
  refine GO.buildSlice (out := (.int .u64 5 :: noS getC) ++ (.int .u64 300 :: noS flushC)) (by kernel_rfl) (by decide) rfl rfl rfl (by simp [noS, cmdCells]) rfl fun bw w4 hbw hOw hE4 => ?_
  refine ⟨fun _ h => by first | trivial | exact Mod.trans h (Ext.mod (by assumption)), ?_⟩
  (repeat (refine GX.pure rfl ?_; refine GO.assign rfl rfl rfl rfl ?_))
  (repeat (first | refine GX.doneD ?_ | refine GX.done ?_ | refine GQ.goNormal ?_ | refine GC.seq ?_ | refine GC.skip ?_ | refine GC.block ?_ | refine GC.exit ?_ | refine GC.ret ?_ | refine GQ.goExit ?_ | refine GQ.goRet ?_ | refine GQ.inNormal ?_ | refine GQ.inExit ?_ | refine GQ.inExitNe rfl ?_ | refine GQ.inRet ?_ | refine GQ.loopExit ?_ | refine GQ.loopRet ?_ | refine GQ.cutExit ?_ | refine GQ.cutRet ?_))
  have s1 := hE1.size
  have s2 := hE2.size
  have s3 := hE3.size
  have s4 := hE4.size
  have hwl := hOw.block.2
  have hJ4 : JAt w4 (fun k => k = bj ∨ bw < k) bj zeroJ := (((hJ1.ext hE2).ext hE3).ext hE4).mono (fun k hk h => .inl h)
  have hbjw : bj ≠ bw := by omega
  have hE04 := ((hE1.trans hE2).trans hE3).trans hE4
  refine GC.region (.pure 0 (.eff 1 (.pure 2 (.pure 3 (.pure 4 (.eff 5 (.eff 6 (.pure 7 (.pure 8 (.pure 9 (.pure 10 (.pure 11 (.eff 12 (.pure 13 (.pure 14 (.pure 15 (.pure 16 (.eff 17 (.eff 18 (.pure 19 (.pure 20 (.pure 21 (.pure 22 (.eff 23 (.pure 24 (.pure 25 (.pure 26 (.pure 27 (.eff 28 (.pure 29 (.eff 30 (.pure 31 (.pure 32 .done))))))))))))))))))))))))))))))))) rfl ?_
  (repeat (refine GX.pure rfl ?_; first | refine GO.move rfl rfl rfl rfl ?_ | refine GO.neq rfl rfl rfl rfl rfl ?_ | refine GO.pickT rfl rfl rfl rfl rfl ?_ | refine GO.pickF rfl rfl rfl rfl rfl ?_ | refine GO.not rfl rfl rfl rfl ?_ | refine GO.skip (.inl rfl) rfl rfl ?_))
  (refine GX.eff rfl ?_; refine GO.callL rfl rfl rfl rfl rfl (sumJ_ret _ bj zeroJ w4 hJ4 (by decide) (.inl rfl)) ?_)
  rintro v w5 ⟨rfl, hE5⟩
  refine ⟨fun _ h => by first | trivial | exact Mod.trans h (Ext.mod (by assumption)), ?_⟩
  have hJ5 := hJ4.ext hE5
  (repeat (refine GX.pure rfl ?_; first | refine GO.move rfl rfl rfl rfl ?_ | refine GO.neq rfl rfl rfl rfl rfl ?_ | refine GO.pickT rfl rfl rfl rfl rfl ?_ | refine GO.pickF rfl rfl rfl rfl rfl ?_ | refine GO.not rfl rfl rfl rfl ?_ | refine GO.skip (.inl rfl) rfl rfl ?_))
  refine GX.case 24 rfl (fun h1 => ?_) (fun h1 => ?_)
  · exact absurd (of_decide_eq_true h1) (by decide)
  (repeat (refine GX.pure rfl ?_; first | refine GO.move rfl rfl rfl rfl ?_ | refine GO.neq rfl rfl rfl rfl rfl ?_ | refine GO.pickT rfl rfl rfl rfl rfl ?_ | refine GO.pickF rfl rfl rfl rfl rfl ?_ | refine GO.not rfl rfl rfl rfl ?_ | refine GO.skip (.inl rfl) rfl rfl ?_))
  (refine GX.eff rfl ?_; refine GO.callL rfl rfl rfl rfl rfl (getL_ret w5) ?_)
  rintro v w6 ⟨rfl, hE6⟩
  refine ⟨fun _ h => by first | trivial | exact Mod.trans h (Ext.mod (by assumption)), ?_⟩
  (refine GX.eff rfl ?_; refine GO.callL rfl rfl rfl rfl rfl (append_ret _ bj zeroJ 5 getC (by decide) okC_get (noS getC) w6 (hJ5.ext hE6) (noS_f _ _ _ rfl rfl rfl) (by decide) (.inl rfl) (by decide) (by decide)) ?_)
  rintro v w7 ⟨rfl, hJ7, hM7⟩
  refine ⟨fun _ h => by first | trivial | exact Mod.trans h (Ext.mod (by assumption)), ?_⟩
  have s5 := hE5.size
  have s6 := hE6.size
  rw [ex_a1] at hJ7
  rw [ex_e1]
  replace hJ7 : JAt w7 (fun k => k = bj ∨ bw < k) bj exJ1 := hJ7.mono (fun k hk h => by omega)
  have hM47 : Mod (fun k => k = bj ∨ bw < k) w4 w7 := (Ext.mod (hE5.trans hE6)).trans hM7
  (repeat (refine GX.pure rfl ?_; first | refine GO.move rfl rfl rfl rfl ?_ | refine GO.neq rfl rfl rfl rfl rfl ?_ | refine GO.pickT rfl rfl rfl rfl rfl ?_ | refine GO.pickF rfl rfl rfl rfl rfl ?_ | refine GO.not rfl rfl rfl rfl ?_ | refine GO.skip (.inl rfl) rfl rfl ?_))
  refine GX.case 30 rfl (fun h2 => ?_) (fun h2 => ?_)
  · exact absurd (of_decide_eq_true h2) (by decide)
  (repeat (refine GX.pure rfl ?_; first | refine GO.move rfl rfl rfl rfl ?_ | refine GO.neq rfl rfl rfl rfl rfl ?_ | refine GO.pickT rfl rfl rfl rfl rfl ?_ | refine GO.pickF rfl rfl rfl rfl rfl ?_ | refine GO.not rfl rfl rfl rfl ?_ | refine GO.skip (.inl rfl) rfl rfl ?_))
  refine GX.pure rfl ?_
  refine GO.build (out := noS (bare 0)) rfl (by kernel_rfl) (by kernel_rfl) rfl rfl rfl rfl ?_
  (refine GX.eff rfl ?_; refine GO.callL rfl rfl rfl rfl rfl (append_ret _ bj exJ1 5 (bare 0) (by decide) (okC_bare 0 (by decide)) (noS (bare 0)) w7 hJ7 (noS_f _ _ _ rfl rfl rfl) (by rw [ex_len1]; decide) (by rw [ex_len1]; decide) (by rw [ex_ends1]; decide) (by rw [ex_xs1]; decide)) ?_)
  rintro v w8 ⟨rfl, hJ8, hM8⟩
  refine ⟨fun _ h => by first | trivial | exact Mod.trans h (Ext.mod (by assumption)), ?_⟩
  have s7 := hM7.size
  rw [ex_a2] at hJ8
  rw [ex_e2]
  replace hJ8 : JAt w8 (fun k => k = bj ∨ bw < k) bj exJ1 := hJ8.mono (fun k hk h => by omega)
  have hM48 := hM47.trans hM8
  (repeat (refine GX.pure rfl ?_; first | refine GO.move rfl rfl rfl rfl ?_ | refine GO.neq rfl rfl rfl rfl rfl ?_ | refine GO.pickT rfl rfl rfl rfl rfl ?_ | refine GO.pickF rfl rfl rfl rfl rfl ?_ | refine GO.not rfl rfl rfl rfl ?_ | refine GO.skip (.inl rfl) rfl rfl ?_))
  refine GX.case 36 rfl (fun h3 => ?_) (fun h3 => ?_)
  · exact absurd (of_decide_eq_true h3) (by decide)
  (repeat (refine GX.pure rfl ?_; first | refine GO.move rfl rfl rfl rfl ?_ | refine GO.neq rfl rfl rfl rfl rfl ?_ | refine GO.pickT rfl rfl rfl rfl rfl ?_ | refine GO.pickF rfl rfl rfl rfl rfl ?_ | refine GO.not rfl rfl rfl rfl ?_ | refine GO.skip (.inl rfl) rfl rfl ?_))
  (refine GX.eff rfl ?_; refine GO.callL rfl rfl rfl rfl rfl (flushL_ret w8) ?_)
  rintro v w9 ⟨rfl, hE9⟩
  refine ⟨fun _ h => by first | trivial | exact Mod.trans h (Ext.mod (by assumption)), ?_⟩
  (refine GX.eff rfl ?_; refine GO.callL rfl rfl rfl rfl rfl (append_ret _ bj exJ1 300 flushC (by decide) (okC_bare 14 (by decide)) (noS flushC) w9 (hJ8.ext hE9) (noS_f _ _ _ rfl rfl rfl) (by rw [ex_len1]; decide) (by rw [ex_len1]; decide) (by rw [ex_ends1]; decide) (by rw [ex_xs1]; decide)) ?_)
  rintro v w10 ⟨rfl, hJ10, hM10⟩
  refine ⟨fun _ h => by first | trivial | exact Mod.trans h (Ext.mod (by assumption)), ?_⟩
  have s8 := hM8.size
  have s9 := hE9.size
  rw [ex_a3] at hJ10
  rw [ex_e3]
  replace hJ10 : JAt w10 (fun k => k = bj ∨ bw < k) bj exJ2 := hJ10.mono (fun k hk h => by omega)
  have hM410 := (hM48.trans (Ext.mod hE9)).trans hM10
  (repeat (refine GX.pure rfl ?_; first | refine GO.move rfl rfl rfl rfl ?_ | refine GO.neq rfl rfl rfl rfl rfl ?_ | refine GO.pickT rfl rfl rfl rfl rfl ?_ | refine GO.pickF rfl rfl rfl rfl rfl ?_ | refine GO.not rfl rfl rfl rfl ?_ | refine GO.skip (.inl rfl) rfl rfl ?_))
  refine GX.case 42 rfl (fun h4 => ?_) (fun h4 => ?_)
  · exact absurd (of_decide_eq_true h4) (by decide)
  (repeat (refine GX.pure rfl ?_; first | refine GO.move rfl rfl rfl rfl ?_ | refine GO.neq rfl rfl rfl rfl rfl ?_ | refine GO.pickT rfl rfl rfl rfl rfl ?_ | refine GO.pickF rfl rfl rfl rfl rfl ?_ | refine GO.not rfl rfl rfl rfl ?_ | refine GO.skip (.inl rfl) rfl rfl ?_))
  (refine GX.eff rfl ?_; refine GO.callL rfl rfl rfl rfl rfl (len_ret _ bj exJ2 w10 hJ10) ?_)
  rintro v w11 ⟨rfl, rfl⟩
  refine ⟨fun _ h => by first | trivial | exact Mod.trans h (Ext.mod (by assumption)), ?_⟩
  rw [ex_ends]
  (repeat (refine GX.pure rfl ?_; first | refine GO.move rfl rfl rfl rfl ?_ | refine GO.neq rfl rfl rfl rfl rfl ?_ | refine GO.pickT rfl rfl rfl rfl rfl ?_ | refine GO.pickF rfl rfl rfl rfl rfl ?_ | refine GO.not rfl rfl rfl rfl ?_ | refine GO.skip (.inl rfl) rfl rfl ?_))
  refine GX.case 47 rfl (fun h5 => ?_) (fun h5 => ?_)
  · exact absurd (of_decide_eq_true h5) (by decide)
  (repeat (refine GX.pure rfl ?_; first | refine GO.move rfl rfl rfl rfl ?_ | refine GO.neq rfl rfl rfl rfl rfl ?_ | refine GO.pickT rfl rfl rfl rfl rfl ?_ | refine GO.pickF rfl rfl rfl rfl rfl ?_ | refine GO.not rfl rfl rfl rfl ?_ | refine GO.skip (.inl rfl) rfl rfl ?_))
  (refine GX.eff rfl ?_; refine GO.callL rfl rfl rfl rfl rfl (listJ_ret _ bj exJ2 w11 hJ10 (by rw [ex_xs]; decide) ex_ok) ?_)
  rintro v w12 ⟨a12, c12, cells12, rfl, hA12, hX12, hF12, hE12⟩
  refine ⟨fun _ h => by first | trivial | exact Mod.trans h (Ext.mod (by assumption)), ?_⟩
  (repeat (refine GX.pure rfl ?_; first | refine GO.move rfl rfl rfl rfl ?_ | refine GO.neq rfl rfl rfl rfl rfl ?_ | refine GO.pickT rfl rfl rfl rfl rfl ?_ | refine GO.pickF rfl rfl rfl rfl rfl ?_ | refine GO.not rfl rfl rfl rfl ?_ | refine GO.skip (.inl rfl) rfl rfl ?_))
  have hO12 : OwnS w12 _ 11 (some bw) (some ⟨bw, 0, none⟩) 2 2 _ := (hOw.mod hM410 (by simp; omega)).ext hE12
  have hW12 : ∀ w, EntsF w (fun _ => False) ((.int .u64 5 :: noS getC) ++ (.int .u64 300 :: noS flushC)) wantL := fun w =>
    ⟨.int .u64 5 :: noS getC, .int .u64 300 :: noS flushC, rfl, ⟨_, rfl, noS_f _ _ _ rfl rfl rfl⟩, .int .u64 300 :: noS flushC, [], by simp, ⟨_, rfl, noS_f _ _ _ rfl rfl rfl⟩, rfl⟩
  (refine GX.eff rfl ?_; refine GO.callL rfl rfl rfl rfl rfl (equalL_ret _ _ exJ2.xs wantL _ 2 rfl rfl (by rw [ex_xs]; decide) (by rw [ex_xs]; decide) cells12 _ a12 (some ⟨bw, 0, none⟩) c12 2 w12 hA12 hO12.sla hX12 (hW12 w12)) ?_)
  rintro v w13 ⟨rfl, hE13⟩
  refine ⟨fun _ h => by first | trivial | exact Mod.trans h (Ext.mod (by assumption)), ?_⟩
  rw [ex_xs, decide_eq_true (rfl : wantL = wantL)]
  (repeat (refine GX.pure rfl ?_; first | refine GO.move rfl rfl rfl rfl ?_ | refine GO.neq rfl rfl rfl rfl rfl ?_ | refine GO.pickT rfl rfl rfl rfl rfl ?_ | refine GO.pickF rfl rfl rfl rfl rfl ?_ | refine GO.not rfl rfl rfl rfl ?_ | refine GO.skip (.inl rfl) rfl rfl ?_))
  (repeat (first | refine GX.doneD ?_ | refine GX.done ?_ | refine GQ.goNormal ?_ | refine GC.seq ?_ | refine GC.skip ?_ | refine GC.block ?_ | refine GC.exit ?_ | refine GC.ret ?_ | refine GQ.goExit ?_ | refine GQ.goRet ?_ | refine GQ.inNormal ?_ | refine GQ.inExit ?_ | refine GQ.inExitNe rfl ?_ | refine GQ.inRet ?_ | refine GQ.loopExit ?_ | refine GQ.loopRet ?_ | refine GQ.cutExit ?_ | refine GQ.cutRet ?_))
  refine GC.cond rfl (fun hq => ?_) (fun hq => ?_)
  · cases hq
  have hJ13 := (hJ10.ext hE12).ext hE13
  have hO13 := hO12.ext hE13
  refine GC.pick [1, 2] rfl ?_
  have s10 := hM10.size
  have s12 := hE12.size
  have s13 := hE13.size
  have hM413 := hM410.trans (Ext.mod (hE12.trans hE13))
  clear hJ4 hJ5 hJ7 hJ8 hM47 hM48 hM10 hM8 hM7 hM410 hJ10 hJ1 hX12 hA12 hF12 hOw hO12
  (repeat (first | refine GX.doneD ?_ | refine GX.done ?_ | refine GQ.goNormal ?_ | refine GC.seq ?_ | refine GC.skip ?_ | refine GC.block ?_ | refine GC.exit ?_ | refine GC.ret ?_ | refine GQ.goExit ?_ | refine GQ.goRet ?_ | refine GQ.inNormal ?_ | refine GQ.inExit ?_ | refine GQ.inExitNe rfl ?_ | refine GQ.inRet ?_ | refine GQ.loopExit ?_ | refine GQ.loopRet ?_ | refine GQ.cutExit ?_ | refine GQ.cutRet ?_))
  refine GC.region (.pure 0 (.eff 1 (.pure 2 .done))) rfl ?_
  (repeat (refine GX.pure rfl ?_; first | refine GO.move rfl rfl rfl rfl ?_ | refine GO.assign rfl rfl rfl rfl ?_))
  (refine GX.eff rfl ?_; refine GO.callL rfl rfl rfl rfl rfl (bytesJ_ret _ bj exJ2 w13 hJ13 (by rw [ex_len]; decide)) ?_)
  rintro v w14 ⟨⟨ob14, a14, c14, rfl, hO14, hF14, hG14⟩, hE14⟩
  refine ⟨fun _ h => by first | trivial | exact Mod.trans h (Ext.mod (by assumption)), ?_⟩
  have hB14 := hO14.bytes hG14
  (repeat (refine GX.pure rfl ?_; first | refine GO.move rfl rfl rfl rfl ?_ | refine GO.assign rfl rfl rfl rfl ?_))
  (repeat (first | refine GX.doneD ?_ | refine GX.done ?_ | refine GQ.goNormal ?_ | refine GC.seq ?_ | refine GC.skip ?_ | refine GC.block ?_ | refine GC.exit ?_ | refine GC.ret ?_ | refine GQ.goExit ?_ | refine GQ.goRet ?_ | refine GQ.inNormal ?_ | refine GQ.inExit ?_ | refine GQ.inExitNe rfl ?_ | refine GQ.inRet ?_ | refine GQ.loopExit ?_ | refine GQ.loopRet ?_ | refine GQ.cutExit ?_ | refine GQ.cutRet ?_))
  refine GC.region (.pure 0 (.eff 1 (.pure 2 (.pure 3 (.pure 4 (.pure 5 (.pure 6 .done))))))) rfl ?_
  (repeat (refine GX.pure rfl ?_; first | refine GO.move rfl rfl rfl rfl ?_ | refine GO.assign rfl rfl rfl rfl ?_ | refine GO.extract rfl rfl rfl rfl rfl ?_))
  (refine GX.eff rfl ?_; refine GO.callL rfl rfl rfl rfl rfl (recordJ_ret _ bj exJ2 0 w14 (hJ13.ext hE14) (by rw [ex_len]; decide) (by decide) (by rw [ex_ends, ex_len]; decide)) ?_)
  rintro v w15 hR15
  rw [if_pos (by rw [ex_ends]; decide)] at hR15
  obtain ⟨u, rfl, ⟨ob15, a15, c15, rfl, hO15, hF15, hG15⟩, hE15⟩ := hR15
  refine ⟨fun _ h => by first | trivial | exact Mod.trans h (Ext.mod (by assumption)), ?_⟩
  have hB15 := hO15.bytes hG15
  (repeat (refine GX.pure rfl ?_; first | refine GO.move rfl rfl rfl rfl ?_ | refine GO.assign rfl rfl rfl rfl ?_ | refine GO.extract rfl rfl rfl rfl rfl ?_))
  (repeat (first | refine GX.doneD ?_ | refine GX.done ?_ | refine GQ.goNormal ?_ | refine GC.seq ?_ | refine GC.skip ?_ | refine GC.block ?_ | refine GC.exit ?_ | refine GC.ret ?_ | refine GQ.goExit ?_ | refine GQ.goRet ?_ | refine GQ.inNormal ?_ | refine GQ.inExit ?_ | refine GQ.inExitNe rfl ?_ | refine GQ.inRet ?_ | refine GQ.loopExit ?_ | refine GQ.loopRet ?_ | refine GQ.cutExit ?_ | refine GQ.cutRet ?_))
  refine GC.region (.pure 0 (.eff 1 (.pure 2 (.pure 3 (.pure 4 (.pure 5 (.pure 6 .done))))))) rfl ?_
  (repeat (refine GX.pure rfl ?_; first | refine GO.move rfl rfl rfl rfl ?_ | refine GO.assign rfl rfl rfl rfl ?_ | refine GO.extract rfl rfl rfl rfl rfl ?_))
  (refine GX.eff rfl ?_; refine GO.callL rfl rfl rfl rfl rfl (recordJ_ret _ bj exJ2 2 w15 ((hJ13.ext hE14).ext hE15) (by rw [ex_len]; decide) (by decide) (by rw [ex_ends, ex_len]; decide)) ?_)
  rintro v w16 hR16
  rw [if_neg (by rw [ex_ends]; decide)] at hR16
  obtain ⟨rfl, hE16⟩ := hR16
  refine ⟨fun _ h => by first | trivial | exact Mod.trans h (Ext.mod (by assumption)), ?_⟩
  (repeat (refine GX.pure rfl ?_; first | refine GO.move rfl rfl rfl rfl ?_ | refine GO.assign rfl rfl rfl rfl ?_ | refine GO.extract rfl rfl rfl rfl rfl ?_))
  (repeat (first | refine GX.doneD ?_ | refine GX.done ?_ | refine GQ.goNormal ?_ | refine GC.seq ?_ | refine GC.skip ?_ | refine GC.block ?_ | refine GC.exit ?_ | refine GC.ret ?_ | refine GQ.goExit ?_ | refine GQ.goRet ?_ | refine GQ.inNormal ?_ | refine GQ.inExit ?_ | refine GQ.inExitNe rfl ?_ | refine GQ.inRet ?_ | refine GQ.loopExit ?_ | refine GQ.loopRet ?_ | refine GQ.cutExit ?_ | refine GQ.cutRet ?_))
  refine GC.pick [1, 2, 3, 4, 5, 7] rfl ?_
  refine GC.regionD (.pure 0 (.pure 1 (.pure 2 (.pure 3 (.pure 4 (.pure 5 (.pure 6 (.pure 7 (.pure 8 (.pure 9 (.pure 10 (.pure 11 (.pure 12 (.pure 13 (.pure 14 (.read 15 (.eff 16 (.eff 17 (.pure 18 (.pure 19 (.pure 20 (.pure 21 (.pure 22 (.pure 23 .done)))))))))))))))))))))))) (fun _ => False) mixed (by kernel_rfl) (by kernel_rfl) ?_
  intro w17 _ hE17
  have hS : Mod (fun _ => False) w16 w17 := hE17
  (repeat (refine GX.pure rfl ?_; first | refine GO.move rfl rfl rfl rfl ?_ | refine GO.lenSlice rfl rfl rfl rfl ?_ | refine GO.eql rfl rfl rfl rfl rfl ?_ | refine GO.neq rfl rfl rfl rfl rfl ?_ | refine GO.pickT rfl rfl rfl rfl rfl ?_ | refine GO.pickF rfl rfl rfl rfl rfl ?_ | refine GO.strNeq rfl rfl rfl rfl rfl ?_ | refine GO.conv rfl rfl rfl rfl (wrapIn (by dsimp only [InK]; omega)) ?_ | refine GO.convStr rfl rfl rfl rfl ?_ | refine GO.skip (.inl rfl) rfl rfl ?_))
  rw [ex_len]
  refine GX.case 69 rfl (fun g1 => ?_) (fun g1 => ?_)
  · exact absurd (of_decide_eq_true g1) (by decide)
  (repeat (refine GX.pure rfl ?_; first | refine GO.move rfl rfl rfl rfl ?_ | refine GO.lenSlice rfl rfl rfl rfl ?_ | refine GO.eql rfl rfl rfl rfl rfl ?_ | refine GO.neq rfl rfl rfl rfl rfl ?_ | refine GO.pickT rfl rfl rfl rfl rfl ?_ | refine GO.pickF rfl rfl rfl rfl rfl ?_ | refine GO.strNeq rfl rfl rfl rfl rfl ?_ | refine GO.conv rfl rfl rfl rfl (wrapIn (by dsimp only [InK]; omega)) ?_ | refine GO.convStr rfl rfl rfl rfl ?_ | refine GO.skip (.inl rfl) rfl rfl ?_))
  refine GX.case 73 rfl (fun g2 => ?_) (fun g2 => ?_)
  · exact absurd (of_decide_eq_true g2) (by decide)
  (repeat (refine GX.pure rfl ?_; first | refine GO.move rfl rfl rfl rfl ?_ | refine GO.lenSlice rfl rfl rfl rfl ?_ | refine GO.eql rfl rfl rfl rfl rfl ?_ | refine GO.neq rfl rfl rfl rfl rfl ?_ | refine GO.pickT rfl rfl rfl rfl rfl ?_ | refine GO.pickF rfl rfl rfl rfl rfl ?_ | refine GO.strNeq rfl rfl rfl rfl rfl ?_ | refine GO.conv rfl rfl rfl rfl (wrapIn (by dsimp only [InK]; omega)) ?_ | refine GO.convStr rfl rfl rfl rfl ?_ | refine GO.skip (.inl rfl) rfl rfl ?_))
  rw [ex_rec.1]
  refine GX.case 78 rfl (fun g3 => ?_) (fun g3 => ?_)
  · exact absurd (of_decide_eq_true g3) (by decide)
  (repeat (refine GX.pure rfl ?_; first | refine GO.move rfl rfl rfl rfl ?_ | refine GO.lenSlice rfl rfl rfl rfl ?_ | refine GO.eql rfl rfl rfl rfl rfl ?_ | refine GO.neq rfl rfl rfl rfl rfl ?_ | refine GO.pickT rfl rfl rfl rfl rfl ?_ | refine GO.pickF rfl rfl rfl rfl rfl ?_ | refine GO.strNeq rfl rfl rfl rfl rfl ?_ | refine GO.conv rfl rfl rfl rfl (wrapIn (by dsimp only [InK]; omega)) ?_ | refine GO.convStr rfl rfl rfl rfl ?_ | refine GO.skip (.inl rfl) rfl rfl ?_))
  have hcap15 := hB15.cap
  rw [ex_rec.1] at hcap15
  refine GX.pure rfl ?_
  refine GO.sliceS rfl rfl rfl rfl (bounds_h (by omega) (by omega)) ⟨by simp, by simp; rfl, by simp⟩ ?_
  have hsl15 : SlA w16 (sliced' a15 0 c15 1) (bytesV [5, 3, 4, 1, 97]) := by
    have := ((hB15.ext hE16).cells).bytes 0 c15 5 (by omega)
    rwa [List.drop_zero, ex_rec.2] at this
  refine GX.read rfl ?_
  refine GO.toStrR' (l := [5, 3, 4, 1, 97]) (by assumption) (fun w' hw' => hsl15.ext hw') rfl rfl rfl rfl ?_
  refine GX.eff rfl ?_
  refine GO.buildSlice (out := bytesV [5, 3, 4, 1, 97]) (by kernel_rfl) (by decide) rfl rfl rfl (by simp [bytesV, byteV]) rfl fun b18 w18 hb18 hO18 hE18 => ?_
  refine ⟨fun _ h => by first | trivial | exact Mod.trans h (Ext.mod (by assumption)), ?_⟩
  refine GX.eff rfl ?_
  refine GO.toStr' (l := [5, 3, 4, 1, 97]) hO18.sla rfl rfl rfl rfl ?_
  (repeat (refine GX.pure rfl ?_; first | refine GO.move rfl rfl rfl rfl ?_ | refine GO.lenSlice rfl rfl rfl rfl ?_ | refine GO.eql rfl rfl rfl rfl rfl ?_ | refine GO.neq rfl rfl rfl rfl rfl ?_ | refine GO.pickT rfl rfl rfl rfl rfl ?_ | refine GO.pickF rfl rfl rfl rfl rfl ?_ | refine GO.strNeq rfl rfl rfl rfl rfl ?_ | refine GO.conv rfl rfl rfl rfl (wrapIn (by dsimp only [InK]; omega)) ?_ | refine GO.convStr rfl rfl rfl rfl ?_ | refine GO.skip (.inl rfl) rfl rfl ?_))
  refine GX.case 86 rfl (fun g4 => ?_) (fun g4 => ?_)
  · exact absurd (of_decide_eq_true g4) (by simp)
  (repeat (refine GX.pure rfl ?_; first | refine GO.move rfl rfl rfl rfl ?_ | refine GO.lenSlice rfl rfl rfl rfl ?_ | refine GO.eql rfl rfl rfl rfl rfl ?_ | refine GO.neq rfl rfl rfl rfl rfl ?_ | refine GO.pickT rfl rfl rfl rfl rfl ?_ | refine GO.pickF rfl rfl rfl rfl rfl ?_ | refine GO.strNeq rfl rfl rfl rfl rfl ?_ | refine GO.conv rfl rfl rfl rfl (wrapIn (by dsimp only [InK]; omega)) ?_ | refine GO.convStr rfl rfl rfl rfl ?_ | refine GO.skip (.inl rfl) rfl rfl ?_))
  (repeat (first | refine GX.doneD ?_ | refine GX.done ?_ | refine GQ.goNormal ?_ | refine GC.seq ?_ | refine GC.skip ?_ | refine GC.block ?_ | refine GC.exit ?_ | refine GC.ret ?_ | refine GQ.goExit ?_ | refine GQ.goRet ?_ | refine GQ.inNormal ?_ | refine GQ.inExit ?_ | refine GQ.inExitNe rfl ?_ | refine GQ.inRet ?_ | refine GQ.loopExit ?_ | refine GQ.loopRet ?_ | refine GQ.cutExit ?_ | refine GQ.cutRet ?_))
  refine GC.cond rfl (fun g5 => ?_) (fun g5 => ?_)
  · exact absurd (of_decide_eq_true g5) (by decide)
  have hE1518 := (hE16.trans hE17).trans hE18
  have hB18 := (hB14.ext hE15).ext hE1518
  refine GC.pick [1, 2, 3, 4] rfl ?_
  (repeat (first | refine GX.doneD ?_ | refine GX.done ?_ | refine GQ.goNormal ?_ | refine GC.seq ?_ | refine GC.skip ?_ | refine GC.block ?_ | refine GC.exit ?_ | refine GC.ret ?_ | refine GQ.goExit ?_ | refine GQ.goRet ?_ | refine GQ.inNormal ?_ | refine GQ.inExit ?_ | refine GQ.inExitNe rfl ?_ | refine GQ.inRet ?_ | refine GQ.loopExit ?_ | refine GQ.loopRet ?_ | refine GQ.cutExit ?_ | refine GQ.cutRet ?_))
  refine GC.region (.pure 0 (.eff 1 (.pure 2 (.pure 3 (.pure 4 (.pure 5 (.pure 6 .done))))))) rfl ?_
  (repeat (refine GX.pure rfl ?_; first | refine GO.move rfl rfl rfl rfl ?_ | refine GO.assign rfl rfl rfl rfl ?_ | refine GO.extract rfl rfl rfl rfl rfl ?_))
  (refine GX.eff rfl ?_; refine GO.callL rfl rfl rfl rfl rfl (read_ret exJ2.data 17 ex_len (by rw [ex_len]; decide) a14 c14 w18 hB18) ?_)
  rintro v w19 hR19
  obtain ⟨u19, rfl, a19, c19, cells19, rfl, hA19, hX19, hF19, hE19⟩ := hR19.is (.step (.step (.refl _) ex_s1) ex_s2) ex_s3
  refine ⟨fun _ h => by first | trivial | exact Mod.trans h (Ext.mod (by assumption)), ?_⟩
  rw [ex_len]
  (repeat (refine GX.pure rfl ?_; first | refine GO.move rfl rfl rfl rfl ?_ | refine GO.assign rfl rfl rfl rfl ?_ | refine GO.extract rfl rfl rfl rfl rfl ?_))
  (repeat (first | refine GX.doneD ?_ | refine GX.done ?_ | refine GQ.goNormal ?_ | refine GC.seq ?_ | refine GC.skip ?_ | refine GC.block ?_ | refine GC.exit ?_ | refine GC.ret ?_ | refine GQ.goExit ?_ | refine GQ.goRet ?_ | refine GQ.inNormal ?_ | refine GQ.inExit ?_ | refine GQ.inExitNe rfl ?_ | refine GQ.inRet ?_ | refine GQ.loopExit ?_ | refine GQ.loopRet ?_ | refine GQ.cutExit ?_ | refine GQ.cutRet ?_))
  refine GC.region (.pure 0 (.pure 1 (.pure 2 (.pure 3 (.pure 4 (.eff 5 (.pure 6 (.pure 7 (.pure 8 (.pure 9 (.pure 10 .done))))))))))) rfl ?_
  (repeat (refine GX.pure rfl ?_; first | refine GO.move rfl rfl rfl rfl ?_ | refine GO.assign rfl rfl rfl rfl ?_ | refine GO.extract rfl rfl rfl rfl rfl ?_ | refine GO.lenSlice rfl rfl rfl rfl ?_ | refine GO.sub rfl rfl rfl rfl rfl (wrapIn (by dsimp only [InK]; omega)) ?_))
  have hcap14 := hB14.cap
  rw [ex_len] at hcap14
  refine GX.pure rfl ?_
  refine GO.sliceS rfl rfl rfl rfl (bounds_h (by omega) (by omega)) ⟨by simp, by simp; rfl, by simp⟩ ?_
  have hsl19 : BytesAt w19 (sliced' a14 0 c14 1) (c14 - 0) (exJ2.data.take 16) := by
    have := (hB18.ext hE19).slice 0 c14 16 (by omega) (Nat.le_refl _) (by rw [ex_len]; decide)
    rwa [List.drop_zero] at this
  (refine GX.eff rfl ?_; refine GO.callL rfl rfl rfl rfl rfl (read_ret (exJ2.data.take 16) _ (by rw [List.length_take, ex_len]; rfl) (by rw [List.length_take, ex_len]; decide) _ _ w19 hsl19) ?_)
  rintro v w20 hR20
  obtain ⟨u20, rfl, a20, c20, cells20, rfl, hA20, hX20, hF20, hE20⟩ := hR20.is (.step (.refl _) ex_t1) ex_t2
  refine ⟨fun _ h => by first | trivial | exact Mod.trans h (Ext.mod (by assumption)), ?_⟩
  rw [ex_len1]
  (repeat (refine GX.pure rfl ?_; first | refine GO.move rfl rfl rfl rfl ?_ | refine GO.assign rfl rfl rfl rfl ?_ | refine GO.extract rfl rfl rfl rfl rfl ?_ | refine GO.lenSlice rfl rfl rfl rfl ?_ | refine GO.sub rfl rfl rfl rfl rfl (wrapIn (by dsimp only [InK]; omega)) ?_))
  (repeat (first | refine GX.doneD ?_ | refine GX.done ?_ | refine GQ.goNormal ?_ | refine GC.seq ?_ | refine GC.skip ?_ | refine GC.block ?_ | refine GC.exit ?_ | refine GC.ret ?_ | refine GQ.goExit ?_ | refine GQ.goRet ?_ | refine GQ.inNormal ?_ | refine GQ.inExit ?_ | refine GQ.inExitNe rfl ?_ | refine GQ.inRet ?_ | refine GQ.loopExit ?_ | refine GQ.loopRet ?_ | refine GQ.cutExit ?_ | refine GQ.cutRet ?_))
  refine GC.region (.eff 0 (.pure 1 (.pure 2 (.pure 3 (.pure 4 (.pure 5 .done)))))) rfl ?_
  (refine GX.eff rfl ?_; refine GO.callL rfl rfl rfl rfl rfl (read_ret [] 0 rfl (by decide) none 0 w20 (BytesAt.none _)) ?_)
  rintro v w21 hR21
  obtain ⟨u21, rfl, a21, c21, cells21, rfl, hA21, hX21, hF21, hE21⟩ := hR21.is (.refl _) ex_n
  refine ⟨fun _ h => by first | trivial | exact Mod.trans h (Ext.mod (by assumption)), ?_⟩
  (repeat (refine GX.pure rfl ?_; first | refine GO.move rfl rfl rfl rfl ?_ | refine GO.assign rfl rfl rfl rfl ?_ | refine GO.extract rfl rfl rfl rfl rfl ?_))
  (repeat (first | refine GX.doneD ?_ | refine GX.done ?_ | refine GQ.goNormal ?_ | refine GC.seq ?_ | refine GC.skip ?_ | refine GC.block ?_ | refine GC.exit ?_ | refine GC.ret ?_ | refine GQ.goExit ?_ | refine GQ.goRet ?_ | refine GQ.inNormal ?_ | refine GQ.inExit ?_ | refine GQ.inExitNe rfl ?_ | refine GQ.inRet ?_ | refine GQ.loopExit ?_ | refine GQ.loopRet ?_ | refine GQ.cutExit ?_ | refine GQ.cutRet ?_))
  refine GC.region (.pure 0 (.pure 1 (.eff 2 (.pure 3 (.pure 4 (.pure 5 (.pure 6 (.pure 7 (.pure 8 (.pure 9 (.pure 10 (.pure 11 (.pure 12 (.eff 13 (.pure 14 (.pure 15 (.pure 16 (.pure 17 (.pure 18 (.pure 19 (.pure 20 (.pure 21 (.pure 22 (.pure 23 (.pure 24 (.pure 25 (.pure 26 (.pure 27 (.pure 28 (.pure 29 (.pure 30 .done))))))))))))))))))))))))))))))) rfl ?_
  (repeat (refine GX.pure rfl ?_; first | refine GO.move rfl rfl rfl rfl ?_ | refine GO.assign rfl rfl rfl rfl ?_ | refine GO.lenSlice rfl rfl rfl rfl ?_ | refine GO.eql rfl rfl rfl rfl rfl ?_ | refine GO.pickT rfl rfl rfl rfl rfl ?_ | refine GO.pickF rfl rfl rfl rfl rfl ?_ | refine GO.skip (.inl rfl) rfl rfl ?_))
  have hE1321 := (((((hE14.trans hE15).trans hE1518).trans hE19).trans hE20).trans hE21)
  have hO21 := hO13.ext hE1321
  (refine GX.eff rfl ?_; refine GO.callL rfl rfl rfl rfl rfl (equalL_ret _ _ exJ2.xs wantL _ 2 rfl rfl (by rw [ex_xs]; decide) (by rw [ex_xs]; decide) cells19 _ a19 (some ⟨bw, 0, none⟩) c19 2 w21 ((hA19.ext hE20).ext hE21) hO21.sla (EntsF.mod (hE20.trans hE21) (fun _ _ _ h => h) hX19) (hW12 w21)) ?_)
  rintro v w22 ⟨rfl, hE22⟩
  refine ⟨fun _ h => by first | trivial | exact Mod.trans h (Ext.mod (by assumption)), ?_⟩
  rw [ex_xs, decide_eq_true (rfl : wantL = wantL)]
  (repeat (refine GX.pure rfl ?_; first | refine GO.move rfl rfl rfl rfl ?_ | refine GO.assign rfl rfl rfl rfl ?_ | refine GO.lenSlice rfl rfl rfl rfl ?_ | refine GO.eql rfl rfl rfl rfl rfl ?_ | refine GO.pickT rfl rfl rfl rfl rfl ?_ | refine GO.pickF rfl rfl rfl rfl rfl ?_ | refine GO.skip (.inl rfl) rfl rfl ?_))
  refine GX.case 117 rfl (fun k1 => ?_) (fun k1 => ?_)
  rotate_left
  · exact absurd (of_decide_eq_false k1) (by decide)
  (repeat (refine GX.pure rfl ?_; first | refine GO.move rfl rfl rfl rfl ?_ | refine GO.assign rfl rfl rfl rfl ?_ | refine GO.lenSlice rfl rfl rfl rfl ?_ | refine GO.eql rfl rfl rfl rfl rfl ?_ | refine GO.pickT rfl rfl rfl rfl rfl ?_ | refine GO.pickF rfl rfl rfl rfl rfl ?_ | refine GO.skip (.inl rfl) rfl rfl ?_))
  refine GX.pure rfl ?_
  refine GO.sliceS rfl rfl rfl rfl (bounds_h (by decide) (by decide)) ⟨by simp, by simp; rfl, by simp⟩ ?_
  have hsl22 : SlA w22 (sliced' (some ⟨bw, 0, none⟩) 0 2 11) (.int .u64 5 :: noS getC) := by
    have := (hO21.ext hE22).sla.sliced 0 2 11 1 (by decide)
    simpa [noS, cmdCells] using this
  have hE2022 := (hE21.trans hE22)
  (refine GX.eff rfl ?_; refine GO.callL rfl rfl rfl rfl rfl (equalL_ret _ _ exJ1.xs [(5, getC)] _ 1 rfl rfl (by rw [ex_xs1]; decide) (by rw [ex_xs1]; decide) cells20 (.int .u64 5 :: noS getC) a20 _ c20 2 w22 (hA20.ext hE2022) hsl22 (EntsF.mod hE2022 (fun _ _ _ h => h) hX20) (show EntsF w22 (fun _ => False) (.int .u64 5 :: noS getC) [(5, getC)] from ⟨.int .u64 5 :: noS getC, [], by simp, ⟨_, rfl, noS_f _ _ _ rfl rfl rfl⟩, rfl⟩)) ?_)
  rintro v w23 ⟨rfl, hE23⟩
  refine ⟨fun _ h => by first | trivial | exact Mod.trans h (Ext.mod (by assumption)), ?_⟩
  rw [ex_xs1, decide_eq_true (rfl : [(5, getC)] = [(5, getC)])]
  (repeat (refine GX.pure rfl ?_; first | refine GO.move rfl rfl rfl rfl ?_ | refine GO.assign rfl rfl rfl rfl ?_ | refine GO.lenSlice rfl rfl rfl rfl ?_ | refine GO.eql rfl rfl rfl rfl rfl ?_ | refine GO.pickT rfl rfl rfl rfl rfl ?_ | refine GO.pickF rfl rfl rfl rfl rfl ?_ | refine GO.skip (.inl rfl) rfl rfl ?_))
  refine GX.case 129 rfl (fun k2 => ?_) (fun k2 => ?_)
  rotate_left
  · exact absurd (of_decide_eq_false k2) (by decide)
  (repeat (refine GX.pure rfl ?_; first | refine GO.move rfl rfl rfl rfl ?_ | refine GO.assign rfl rfl rfl rfl ?_ | refine GO.lenSlice rfl rfl rfl rfl ?_ | refine GO.eql rfl rfl rfl rfl rfl ?_ | refine GO.pickT rfl rfl rfl rfl rfl ?_ | refine GO.pickF rfl rfl rfl rfl rfl ?_ | refine GO.skip (.inl rfl) rfl rfl ?_))
  refine GX.case 134 rfl (fun k3 => ?_) (fun k3 => ?_)
  rotate_left
  · exact absurd (of_decide_eq_false k3) (by decide)
  (repeat (refine GX.pure rfl ?_; first | refine GO.move rfl rfl rfl rfl ?_ | refine GO.assign rfl rfl rfl rfl ?_ | refine GO.lenSlice rfl rfl rfl rfl ?_ | refine GO.eql rfl rfl rfl rfl rfl ?_ | refine GO.pickT rfl rfl rfl rfl rfl ?_ | refine GO.pickF rfl rfl rfl rfl rfl ?_ | refine GO.skip (.inl rfl) rfl rfl ?_))
  (repeat (first | refine GX.doneD ?_ | refine GX.done ?_ | refine GQ.goNormal ?_ | refine GC.seq ?_ | refine GC.skip ?_ | refine GC.block ?_ | refine GC.exit ?_ | refine GC.ret ?_ | refine GQ.goExit ?_ | refine GQ.goRet ?_ | refine GQ.inNormal ?_ | refine GQ.inExit ?_ | refine GQ.inExitNe rfl ?_ | refine GQ.inRet ?_ | refine GQ.loopExit ?_ | refine GQ.loopRet ?_ | refine GQ.cutExit ?_ | refine GQ.cutRet ?_))
  refine GQ.ret1 (by first | exact .inl rfl | exact .inr rfl) rfl rfl ?_
  have hE1323 := (hE1321.trans hE22).trans hE23
  refine ⟨by congr 1, ((hE04.then hM413 (fun i hi h => by omega)).trans hE1323)⟩
end Go.Proofs.Ytahkglanddhncaa.V
