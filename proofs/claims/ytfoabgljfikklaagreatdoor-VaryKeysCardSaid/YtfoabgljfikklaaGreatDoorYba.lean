/-
  The law VaryKeys, while the law's known is true. Conditions: the key is short; and what follows from it.
-/
import Derived.Test.YtfoabgljfikklaaGreatDoorYay
import Derived.Test.YtfoabgljfikklaaGreatDoorYap
import Derived.Test.YtfoabgljfikklaaGreatDoorRows
import Derived.WalkKit
import Derived.ProofKit
import Derived.OpenShut
import Derived.ShutString
import Derived.ChangeOld
import Derived.Below
import Derived.SliceStrings
import Derived.Deep.Slices
set_option linter.unusedVariables false
set_option linter.unusedSimpArgs false
namespace Go.Proofs.YtfoabgljfikklaaGreatDoor.V.Ky
attribute [local irreducible] GX GO
theorem own_strs {w : World} {ob : Option Nat} {a : Option Addr} {c : Nat} {l : List Bs} (h : OwnS w 9 1 ob a l.length c (strsV l)) (hb : ∀ x, a = some x → ob = some x.block) : StrsAt w a c l :=
  ⟨h.sla, h.len_le, h.cap0, fun x hx _ => by have := hb x hx; subst this; exact h.block.2⟩
set_option maxHeartbeats 4000000 in
theorem law_ret (hkn : ∀ w, Ret Tryz.prog 6 #[] w fun v w' => v = .bool true ∧ Ext w w')
    (key : Bs) (names : List Bs) (l : List Attr) (a a2 : Option Addr) (c c2 : Nat) (w : World) (hN : StrsAt w a c names) (hA : AttrsAt w a2 c2 l) :
    Ret Tryz.prog 3 [str key, .slice a names.length c, .slice a2 l.length c2].toArray w fun v w' => v = .bool true ∧ Ext w w' := by
  have hks := size_strL key
  refine Ret.enter Tryz.func3 rfl Tryz.ntmps3 rfl ?_
  (repeat (first | refine GX.doneD ?_ | refine GX.done ?_ | refine GQ.goNormal ?_ | refine GC.seq ?_ | refine GC.skip ?_ | refine GC.block ?_ | refine GC.exit ?_ | refine GC.ret ?_ | refine GQ.goExit ?_ | refine GQ.goRet ?_ | refine GQ.inNormal ?_ | refine GQ.inExit ?_ | refine GQ.inExitNe rfl ?_ | refine GQ.inRet ?_ | refine GQ.loopExit ?_ | refine GQ.loopRet ?_ | refine GQ.cutExit ?_ | refine GQ.cutRet ?_))
  refine GC.region (.pure 0 .done) rfl ?_
  (repeat (refine GX.pure rfl ?_; refine GO.assign rfl rfl rfl rfl ?_))
  (repeat (first | refine GX.doneD ?_ | refine GX.done ?_ | refine GQ.goNormal ?_ | refine GC.seq ?_ | refine GC.skip ?_ | refine GC.block ?_ | refine GC.exit ?_ | refine GC.ret ?_ | refine GQ.goExit ?_ | refine GQ.goRet ?_ | refine GQ.inNormal ?_ | refine GQ.inExit ?_ | refine GQ.inExitNe rfl ?_ | refine GQ.inRet ?_ | refine GQ.loopExit ?_ | refine GQ.loopRet ?_ | refine GQ.cutExit ?_ | refine GQ.cutRet ?_))
  refine GC.pick [0, 1, 2] rfl ?_
  refine GC.cut (X := Bool) (fun x => [(0, str key), (1, .slice a names.length c), (2, .slice a2 l.length c2), (21, .bool x)]) (fun x w' => (x = false → key.length ≤ 300 ∧ FewP names l) ∧ w = w') ?_ ?_
  · refine GC.region (.pure 0 (.pure 1 (.pure 2 (.pure 3 (.pure 4 (.pure 5 (.eff 6 (.pure 7 (.pure 8 .done))))))))) rfl ?_
    (repeat (refine GX.pure rfl ?_; first | refine GO.move rfl rfl rfl rfl ?_ | refine GO.lenStr rfl rfl rfl rfl ?_ | refine GO.gtr rfl rfl rfl rfl rfl ?_ | refine GO.pickT rfl rfl rfl rfl rfl ?_ | refine GO.pickF rfl rfl rfl rfl rfl ?_ | refine GO.not rfl rfl rfl rfl ?_ | refine GO.skip (.inl rfl) rfl rfl ?_))
    refine GX.case 16 rfl (fun h1 => ?_) (fun h1 => ?_)
    · (repeat (first | (refine GX.pure rfl ?_; first | refine GO.move rfl rfl rfl rfl ?_ | refine GO.lenStr rfl rfl rfl rfl ?_ | refine GO.gtr rfl rfl rfl rfl rfl ?_ | refine GO.pickT rfl rfl rfl rfl rfl ?_ | refine GO.pickF rfl rfl rfl rfl rfl ?_ | refine GO.not rfl rfl rfl rfl ?_ | refine GO.skip (.inl rfl) rfl rfl ?_) | (refine GX.eff rfl ?_; refine GO.skip (.inr rfl) rfl rfl ?_) | (refine GX.read rfl ?_; refine GO.skipRead (by assumption) rfl rfl ?_)))
      (repeat (first | refine GX.doneD ?_ | refine GX.done ?_ | refine GQ.goNormal ?_ | refine GC.seq ?_ | refine GC.skip ?_ | refine GC.block ?_ | refine GC.exit ?_ | refine GC.ret ?_ | refine GQ.goExit ?_ | refine GQ.goRet ?_ | refine GQ.inNormal ?_ | refine GQ.inExit ?_ | refine GQ.inExitNe rfl ?_ | refine GQ.inRet ?_ | refine GQ.loopExit ?_ | refine GQ.loopRet ?_ | refine GQ.cutExit ?_ | refine GQ.cutRet ?_))
      exact GQ.cutNormal true (sub_pick (l := [0, 1, 2, 21]) rfl) ⟨fun h => (by cases h), rfl⟩
    · (repeat (refine GX.pure rfl ?_; first | refine GO.move rfl rfl rfl rfl ?_ | refine GO.lenStr rfl rfl rfl rfl ?_ | refine GO.gtr rfl rfl rfl rfl rfl ?_ | refine GO.pickT rfl rfl rfl rfl rfl ?_ | refine GO.pickF rfl rfl rfl rfl rfl ?_ | refine GO.not rfl rfl rfl rfl ?_ | refine GO.skip (.inl rfl) rfl rfl ?_))
      (refine GX.eff rfl ?_; refine GO.callL rfl rfl rfl rfl rfl (few_ret names l a a2 c c2 _ hN hA) ?_)
      rintro v w1 ⟨⟨b, rfl, hb⟩, rfl⟩
      refine ⟨fun _ h => by first | trivial | exact Mod.trans h (Ext.mod (by assumption)), ?_⟩
      (repeat (refine GX.pure rfl ?_; first | refine GO.move rfl rfl rfl rfl ?_ | refine GO.lenStr rfl rfl rfl rfl ?_ | refine GO.gtr rfl rfl rfl rfl rfl ?_ | refine GO.pickT rfl rfl rfl rfl rfl ?_ | refine GO.pickF rfl rfl rfl rfl rfl ?_ | refine GO.not rfl rfl rfl rfl ?_ | refine GO.skip (.inl rfl) rfl rfl ?_))
      (repeat (first | refine GX.doneD ?_ | refine GX.done ?_ | refine GQ.goNormal ?_ | refine GC.seq ?_ | refine GC.skip ?_ | refine GC.block ?_ | refine GC.exit ?_ | refine GC.ret ?_ | refine GQ.goExit ?_ | refine GQ.goRet ?_ | refine GQ.inNormal ?_ | refine GQ.inExit ?_ | refine GQ.inExitNe rfl ?_ | refine GQ.inRet ?_ | refine GQ.loopExit ?_ | refine GQ.loopRet ?_ | refine GQ.cutExit ?_ | refine GQ.cutRet ?_))
      exact GQ.cutNormal (!b) (sub_pick (l := [0, 1, 2, 21]) rfl) ⟨fun h => ⟨by have := of_decide_eq_false h1; omega, hb (by simpa using h)⟩, rfl⟩
  rintro x w1 ⟨hx, rfl⟩
  (repeat (first | refine GX.doneD ?_ | refine GX.done ?_ | refine GQ.goNormal ?_ | refine GC.seq ?_ | refine GC.skip ?_ | refine GC.block ?_ | refine GC.exit ?_ | refine GC.ret ?_ | refine GQ.goExit ?_ | refine GQ.goRet ?_ | refine GQ.inNormal ?_ | refine GQ.inExit ?_ | refine GQ.inExitNe rfl ?_ | refine GQ.inRet ?_ | refine GQ.loopExit ?_ | refine GQ.loopRet ?_ | refine GQ.cutExit ?_ | refine GQ.cutRet ?_))
  refine GC.cond rfl (fun hq => ?_) (fun hq => ?_)
  · (repeat (first | refine GX.doneD ?_ | refine GX.done ?_ | refine GQ.goNormal ?_ | refine GC.seq ?_ | refine GC.skip ?_ | refine GC.block ?_ | refine GC.exit ?_ | refine GC.ret ?_ | refine GQ.goExit ?_ | refine GQ.goRet ?_ | refine GQ.inNormal ?_ | refine GQ.inExit ?_ | refine GQ.inExitNe rfl ?_ | refine GQ.inRet ?_ | refine GQ.loopExit ?_ | refine GQ.loopRet ?_ | refine GQ.cutExit ?_ | refine GQ.cutRet ?_))
    refine GC.region (.eff 0 (.pure 1 .done)) rfl ?_
    (refine GX.eff rfl ?_; refine GO.callL rfl rfl rfl rfl rfl (hkn _) ?_)
    rintro v w2 ⟨rfl, hE⟩
    refine ⟨fun _ h => by first | trivial | exact Mod.trans h (Ext.mod (by assumption)), ?_⟩
    (repeat (refine GX.pure rfl ?_; refine GO.assign rfl rfl rfl rfl ?_))
    (repeat (first | refine GX.doneD ?_ | refine GX.done ?_ | refine GQ.goNormal ?_ | refine GC.seq ?_ | refine GC.skip ?_ | refine GC.block ?_ | refine GC.exit ?_ | refine GC.ret ?_ | refine GQ.goExit ?_ | refine GQ.goRet ?_ | refine GQ.inNormal ?_ | refine GQ.inExit ?_ | refine GQ.inExitNe rfl ?_ | refine GQ.inRet ?_ | refine GQ.loopExit ?_ | refine GQ.loopRet ?_ | refine GQ.cutExit ?_ | refine GQ.cutRet ?_))
    refine GQ.ret1 (by first | exact .inl rfl | exact .inr rfl) rfl rfl ?_
    exact ⟨rfl, hE⟩
  obtain ⟨hkl, hF⟩ := hx hq
  have hFn := hF.n
  have hFm := hF.m
  have hsl : (strsV names).length = names.length * 1 := by simp
  (repeat (first | refine GX.doneD ?_ | refine GX.done ?_ | refine GQ.goNormal ?_ | refine GC.seq ?_ | refine GC.skip ?_ | refine GC.block ?_ | refine GC.exit ?_ | refine GC.ret ?_ | refine GQ.goExit ?_ | refine GQ.goRet ?_ | refine GQ.inNormal ?_ | refine GQ.inExit ?_ | refine GQ.inExitNe rfl ?_ | refine GQ.inRet ?_ | refine GQ.loopExit ?_ | refine GQ.loopRet ?_ | refine GQ.cutExit ?_ | refine GQ.cutRet ?_))
  refine GC.region (.pure 0 (.eff 1 (.pure 2 .done))) rfl ?_
  (repeat (refine GX.pure rfl ?_; first | refine GO.move rfl rfl rfl rfl ?_ | refine GO.assign rfl rfl rfl rfl ?_))
  refine GX.eff rfl ?_
  refine GO.append (OwnS.nil w 9 1) hN.cells hsl (strsV_oneC _) (by omega) (by omega) rfl rfl rfl rfl rfl fun oo oa oc w2 hO hM hB hA2 => ?_
  rw [Nat.zero_add] at hO ⊢
  rw [List.nil_append] at hO
  refine ⟨fun _ h => by first | trivial | exact Mod.trans h (Ext.mod (by assumption)), ?_⟩
  (repeat (refine GX.pure rfl ?_; first | refine GO.move rfl rfl rfl rfl ?_ | refine GO.assign rfl rfl rfl rfl ?_))
  (repeat (first | refine GX.doneD ?_ | refine GX.done ?_ | refine GQ.goNormal ?_ | refine GC.seq ?_ | refine GC.skip ?_ | refine GC.block ?_ | refine GC.exit ?_ | refine GC.ret ?_ | refine GQ.goExit ?_ | refine GQ.goRet ?_ | refine GQ.inNormal ?_ | refine GQ.inExit ?_ | refine GQ.inExitNe rfl ?_ | refine GQ.inRet ?_ | refine GQ.loopExit ?_ | refine GQ.loopRet ?_ | refine GQ.cutExit ?_ | refine GQ.cutRet ?_))
  have hE2 : Ext w w2 := (Mod.refl w : Ext w w).then hM (fun i hi e => by cases e)
  have hOw : StrsAt w2 oa oc names := own_strs hO (fun x hx => by
    rcases hA2 x hx with h | ⟨h, _⟩
    · exact h
    · cases h)
  refine GC.region (.pure 0 (.pure 1 (.pure 2 (.eff 3 (.pure 4 (.pure 5 (.pure 6 (.pure 7 (.pure 8 .done))))))))) rfl ?_
  (repeat (refine GX.pure rfl ?_; first | refine GO.move rfl rfl rfl rfl ?_ | refine GO.assign rfl rfl rfl rfl ?_ | refine GO.extract rfl rfl rfl rfl rfl ?_))
  (refine GX.eff rfl ?_; refine GO.callL rfl rfl rfl rfl rfl (key_ret key names l oa a2 oc c2 _ hOw (hA.ext hE2) (by omega) (fun s hs => by have := hF.ns s hs; omega) (by omega) (fun x hx => by have := hF.az x hx; omega)) ?_)
  rintro v w3 ⟨rfl, hE3⟩
  obtain ⟨r, hr⟩ : ∃ r, keyF key names l = r := ⟨_, rfl⟩
  rw [hr]
  refine ⟨fun _ h => by first | trivial | exact Mod.trans h (Ext.mod (by assumption)), ?_⟩
  (repeat (refine GX.pure rfl ?_; first | refine GO.move rfl rfl rfl rfl ?_ | refine GO.assign rfl rfl rfl rfl ?_ | refine GO.extract rfl rfl rfl rfl rfl ?_))
  (repeat (first | refine GX.doneD ?_ | refine GX.done ?_ | refine GQ.goNormal ?_ | refine GC.seq ?_ | refine GC.skip ?_ | refine GC.block ?_ | refine GC.exit ?_ | refine GC.ret ?_ | refine GQ.goExit ?_ | refine GQ.goRet ?_ | refine GQ.inNormal ?_ | refine GQ.inExit ?_ | refine GQ.inExitNe rfl ?_ | refine GQ.inRet ?_ | refine GQ.loopExit ?_ | refine GQ.loopRet ?_ | refine GQ.cutExit ?_ | refine GQ.cutRet ?_))
  refine GC.region (.pure 0 .done) rfl ?_
  (repeat (refine GX.pure rfl ?_; refine GO.assign rfl rfl rfl rfl ?_))
  (repeat (first | refine GX.doneD ?_ | refine GX.done ?_ | refine GQ.goNormal ?_ | refine GC.seq ?_ | refine GC.skip ?_ | refine GC.block ?_ | refine GC.exit ?_ | refine GC.ret ?_ | refine GQ.goExit ?_ | refine GQ.goRet ?_ | refine GQ.inNormal ?_ | refine GQ.inExit ?_ | refine GQ.inExitNe rfl ?_ | refine GQ.inRet ?_ | refine GQ.loopExit ?_ | refine GQ.loopRet ?_ | refine GQ.cutExit ?_ | refine GQ.cutRet ?_))
  refine GC.loop (X := Nat) (fun k => [(0, str key), (1, .slice a names.length c), (2, .slice a2 l.length c2), (7, .slice oa names.length oc), (8, str r.1), (9, .int .i64 r.2), (10, .int .i64 k)]) (fun k w' => k ≤ names.length ∧ Ext w2 w') (fun k => names.length - k) 0 (sub_pick (l := [0, 1, 2, 7, 8, 9, 10]) rfl) ⟨Nat.zero_le _, hE3⟩ ?_
  rintro k w4 ⟨hk, hE4⟩
  have hN4 := (hN.ext hE2).ext hE4
  have hO4 := hOw.ext hE4
  (repeat (first | refine GX.doneD ?_ | refine GX.done ?_ | refine GQ.goNormal ?_ | refine GC.seq ?_ | refine GC.skip ?_ | refine GC.block ?_ | refine GC.exit ?_ | refine GC.ret ?_ | refine GQ.goExit ?_ | refine GQ.goRet ?_ | refine GQ.inNormal ?_ | refine GQ.inExit ?_ | refine GQ.inExitNe rfl ?_ | refine GQ.inRet ?_ | refine GQ.loopExit ?_ | refine GQ.loopRet ?_ | refine GQ.cutExit ?_ | refine GQ.cutRet ?_))
  refine GC.region (.pure 0 (.pure 1 (.pure 2 (.pure 3 .done)))) rfl ?_
  (repeat (refine GX.pure rfl ?_; first | refine GO.move rfl rfl rfl rfl ?_ | refine GO.lenSlice rfl rfl rfl rfl ?_ | refine GO.lss rfl rfl rfl rfl rfl ?_))
  (repeat (first | refine GX.doneD ?_ | refine GX.done ?_ | refine GQ.goNormal ?_ | refine GC.seq ?_ | refine GC.skip ?_ | refine GC.block ?_ | refine GC.exit ?_ | refine GC.ret ?_ | refine GQ.goExit ?_ | refine GQ.goRet ?_ | refine GQ.inNormal ?_ | refine GQ.inExit ?_ | refine GQ.inExitNe rfl ?_ | refine GQ.inRet ?_ | refine GQ.loopExit ?_ | refine GQ.loopRet ?_ | refine GQ.cutExit ?_ | refine GQ.cutRet ?_))
  refine GC.cond rfl (fun hc => ?_) (fun hc => ?_)
  · have hlt : k < names.length := by have := of_decide_eq_true hc; omega
    obtain ⟨b1, o1, rfl, hAt1⟩ := strs_at hN4 hlt
    obtain ⟨b2, o2, rfl, hAt2⟩ := strs_at hO4 hlt
    (repeat (first | refine GX.doneD ?_ | refine GX.done ?_ | refine GQ.goNormal ?_ | refine GC.seq ?_ | refine GC.skip ?_ | refine GC.block ?_ | refine GC.exit ?_ | refine GC.ret ?_ | refine GQ.goExit ?_ | refine GQ.goRet ?_ | refine GQ.inNormal ?_ | refine GQ.inExit ?_ | refine GQ.inExitNe rfl ?_ | refine GQ.inRet ?_ | refine GQ.loopExit ?_ | refine GQ.loopRet ?_ | refine GQ.cutExit ?_ | refine GQ.cutRet ?_))
    refine GC.regionD (.pure 0 (.pure 1 (.pure 2 (.pure 4 (.pure 5 (.pure 6 (.read 3 (.read 7 (.pure 8 .done))))))))) (fun _ => False) mixed (by kernel_rfl) (by kernel_rfl) ?_
    intro w5 _ hE5
    have hS : Mod (fun _ => False) w4 w5 := hE5
    (repeat (first | (refine GX.pure rfl ?_; first | refine GO.move rfl rfl rfl rfl ?_ | refine GO.strNeq rfl rfl rfl rfl rfl ?_) | (refine GX.pure rfl (GO.indexAddr rfl rfl rfl rfl (by omega) (by omega) rfl ?_))))
    (first | (refine GX.eff rfl ?_; first | refine GO.load1 (hAt2 (k : Int) (by omega)) rfl rfl rfl ?_ | refine GO.loadN (hAt2 (k : Int) (by omega)) rfl rfl rfl rfl ?_) | (refine GX.read rfl ?_; first | refine GO.load1R (by assumption) (fun _ hS_ => At.mod (hAt2 (k : Int) (by omega)) hS_ (by simp)) rfl rfl rfl ?_ | refine GO.loadNR (by assumption) (fun _ hS_ => At.mod (hAt2 (k : Int) (by omega)) hS_ (by simp)) rfl rfl rfl rfl ?_))
    (repeat (first | (refine GX.pure rfl ?_; first | refine GO.move rfl rfl rfl rfl ?_ | refine GO.strNeq rfl rfl rfl rfl rfl ?_) | (refine GX.pure rfl (GO.indexAddr rfl rfl rfl rfl (by omega) (by omega) rfl ?_))))
    (first | (refine GX.eff rfl ?_; first | refine GO.load1 (hAt1 (k : Int) (by omega)) rfl rfl rfl ?_ | refine GO.loadN (hAt1 (k : Int) (by omega)) rfl rfl rfl rfl ?_) | (refine GX.read rfl ?_; first | refine GO.load1R (by assumption) (fun _ hS_ => At.mod (hAt1 (k : Int) (by omega)) hS_ (by simp)) rfl rfl rfl ?_ | refine GO.loadNR (by assumption) (fun _ hS_ => At.mod (hAt1 (k : Int) (by omega)) hS_ (by simp)) rfl rfl rfl rfl ?_))
    refine GX.pure rfl (strNe names[k] names[k] rfl rfl rfl rfl rfl ?_)
    (repeat (refine GX.pure rfl ?_; first | refine GO.move rfl rfl rfl rfl ?_ | refine GO.strNeq rfl rfl rfl rfl rfl ?_))
    (repeat (first | refine GX.doneD ?_ | refine GX.done ?_ | refine GQ.goNormal ?_ | refine GC.seq ?_ | refine GC.skip ?_ | refine GC.block ?_ | refine GC.exit ?_ | refine GC.ret ?_ | refine GQ.goExit ?_ | refine GQ.goRet ?_ | refine GQ.inNormal ?_ | refine GQ.inExit ?_ | refine GQ.inExitNe rfl ?_ | refine GQ.inRet ?_ | refine GQ.loopExit ?_ | refine GQ.loopRet ?_ | refine GQ.cutExit ?_ | refine GQ.cutRet ?_))
    refine GC.cond rfl (fun hne => ?_) (fun hne => ?_)
    · simp at hne
    · (repeat (first | refine GX.doneD ?_ | refine GX.done ?_ | refine GQ.goNormal ?_ | refine GC.seq ?_ | refine GC.skip ?_ | refine GC.block ?_ | refine GC.exit ?_ | refine GC.ret ?_ | refine GQ.goExit ?_ | refine GQ.goRet ?_ | refine GQ.inNormal ?_ | refine GQ.inExit ?_ | refine GQ.inExitNe rfl ?_ | refine GQ.inRet ?_ | refine GQ.loopExit ?_ | refine GQ.loopRet ?_ | refine GQ.cutExit ?_ | refine GQ.cutRet ?_))
      refine GC.region (.pure 0 (.pure 1 (.pure 2 .done))) rfl ?_
      (repeat (refine GX.pure rfl ?_; first | refine GO.move rfl rfl rfl rfl ?_ | refine GO.assign rfl rfl rfl rfl ?_ | refine GO.add rfl rfl rfl rfl rfl (wrapIn (by dsimp only [InK]; omega)) ?_))
      (repeat (first | refine GX.doneD ?_ | refine GX.done ?_ | refine GQ.goNormal ?_ | refine GC.seq ?_ | refine GC.skip ?_ | refine GC.block ?_ | refine GC.exit ?_ | refine GC.ret ?_ | refine GQ.goExit ?_ | refine GQ.goRet ?_ | refine GQ.inNormal ?_ | refine GQ.inExit ?_ | refine GQ.inExitNe rfl ?_ | refine GQ.inRet ?_ | refine GQ.loopExit ?_ | refine GQ.loopRet ?_ | refine GQ.cutExit ?_ | refine GQ.cutRet ?_))
      exact GQ.again (k + 1) (sub_pick (l := [0, 1, 2, 7, 8, 9, 10]) rfl) ⟨hlt, hE4.trans hE5⟩ (by omega)
  · (repeat (first | refine GX.doneD ?_ | refine GX.done ?_ | refine GQ.goNormal ?_ | refine GC.seq ?_ | refine GC.skip ?_ | refine GC.block ?_ | refine GC.exit ?_ | refine GC.ret ?_ | refine GQ.goExit ?_ | refine GQ.goRet ?_ | refine GQ.inNormal ?_ | refine GQ.inExit ?_ | refine GQ.inExitNe rfl ?_ | refine GQ.inRet ?_ | refine GQ.loopExit ?_ | refine GQ.loopRet ?_ | refine GQ.cutExit ?_ | refine GQ.cutRet ?_))
    refine GC.region (.pure 0 (.pure 1 (.pure 2 (.eff 3 (.pure 4 (.pure 5 (.pure 6 (.pure 7 (.pure 8 .done))))))))) rfl ?_
    (repeat (refine GX.pure rfl ?_; first | refine GO.move rfl rfl rfl rfl ?_ | refine GO.assign rfl rfl rfl rfl ?_ | refine GO.extract rfl rfl rfl rfl rfl ?_))
    (refine GX.eff rfl ?_; refine GO.callL rfl rfl rfl rfl rfl (variant_ret key names l a a2 c c2 _ hN4 ((hA.ext hE2).ext hE4) hkl hF) ?_)
    rintro v w5 ⟨rfl, hE5⟩
    rw [hr]
    refine ⟨fun _ h => by first | trivial | exact Mod.trans h (Ext.mod (by assumption)), ?_⟩
    (repeat (refine GX.pure rfl ?_; first | refine GO.move rfl rfl rfl rfl ?_ | refine GO.assign rfl rfl rfl rfl ?_ | refine GO.extract rfl rfl rfl rfl rfl ?_))
    (repeat (first | refine GX.doneD ?_ | refine GX.done ?_ | refine GQ.goNormal ?_ | refine GC.seq ?_ | refine GC.skip ?_ | refine GC.block ?_ | refine GC.exit ?_ | refine GC.ret ?_ | refine GQ.goExit ?_ | refine GQ.goRet ?_ | refine GQ.inNormal ?_ | refine GQ.inExit ?_ | refine GQ.inExitNe rfl ?_ | refine GQ.inRet ?_ | refine GQ.loopExit ?_ | refine GQ.loopRet ?_ | refine GQ.cutExit ?_ | refine GQ.cutRet ?_))
    refine GC.region (.pure 0 (.pure 1 (.pure 2 (.pure 3 (.pure 4 (.pure 5 (.pure 6 (.pure 7 (.pure 8 (.eff 9 (.pure 10 (.pure 11 .done)))))))))))) rfl ?_
    (repeat (refine GX.pure rfl ?_; first | refine GO.move rfl rfl rfl rfl ?_ | refine GO.assign rfl rfl rfl rfl ?_ | refine GO.eql rfl rfl rfl rfl rfl ?_ | refine GO.pickT rfl rfl rfl rfl rfl ?_ | refine GO.pickF rfl rfl rfl rfl rfl ?_ | refine GO.strEql rfl rfl rfl rfl rfl ?_ | refine GO.skip (.inl rfl) rfl rfl ?_))
    (repeat (refine GX.pure rfl ?_; first | refine GO.move rfl rfl rfl rfl ?_ | refine GO.assign rfl rfl rfl rfl ?_ | refine GO.eql rfl rfl rfl rfl rfl ?_ | refine GO.pickT rfl rfl rfl rfl rfl ?_ | refine GO.pickF rfl rfl rfl rfl rfl ?_ | refine GO.strEql rfl rfl rfl rfl rfl ?_ | refine GO.skip (.inl rfl) rfl rfl ?_))
    refine GX.case 57 rfl (fun h1 => ?_) (fun h1 => ?_)
    · (repeat (refine GX.pure rfl ?_; first | refine GO.move rfl rfl rfl rfl ?_ | refine GO.assign rfl rfl rfl rfl ?_ | refine GO.eql rfl rfl rfl rfl rfl ?_ | refine GO.pickT rfl rfl rfl rfl rfl ?_ | refine GO.pickF rfl rfl rfl rfl rfl ?_ | refine GO.strEql rfl rfl rfl rfl rfl ?_ | refine GO.skip (.inl rfl) rfl rfl ?_))
      refine GX.case 62 rfl (fun h2 => ?_) (fun h2 => ?_)
      · (repeat (refine GX.pure rfl ?_; first | refine GO.move rfl rfl rfl rfl ?_ | refine GO.assign rfl rfl rfl rfl ?_ | refine GO.eql rfl rfl rfl rfl rfl ?_ | refine GO.pickT rfl rfl rfl rfl rfl ?_ | refine GO.pickF rfl rfl rfl rfl rfl ?_ | refine GO.strEql rfl rfl rfl rfl rfl ?_ | refine GO.skip (.inl rfl) rfl rfl ?_))
        (refine GX.eff rfl ?_; refine GO.callL rfl rfl rfl rfl rfl (hkn _) ?_)
        rintro v w6 ⟨rfl, hE6⟩
        refine ⟨fun _ h => by first | trivial | exact Mod.trans h (Ext.mod (by assumption)), ?_⟩
        (repeat (refine GX.pure rfl ?_; first | refine GO.move rfl rfl rfl rfl ?_ | refine GO.assign rfl rfl rfl rfl ?_ | refine GO.eql rfl rfl rfl rfl rfl ?_ | refine GO.pickT rfl rfl rfl rfl rfl ?_ | refine GO.pickF rfl rfl rfl rfl rfl ?_ | refine GO.strEql rfl rfl rfl rfl rfl ?_ | refine GO.skip (.inl rfl) rfl rfl ?_))
        (repeat (first | refine GX.doneD ?_ | refine GX.done ?_ | refine GQ.goNormal ?_ | refine GC.seq ?_ | refine GC.skip ?_ | refine GC.block ?_ | refine GC.exit ?_ | refine GC.ret ?_ | refine GQ.goExit ?_ | refine GQ.goRet ?_ | refine GQ.inNormal ?_ | refine GQ.inExit ?_ | refine GQ.inExitNe rfl ?_ | refine GQ.inRet ?_ | refine GQ.loopExit ?_ | refine GQ.loopRet ?_ | refine GQ.cutExit ?_ | refine GQ.cutRet ?_))
        refine GQ.ret1 (by first | exact .inl rfl | exact .inr rfl) rfl rfl ?_
        exact ⟨rfl, ((hE2.trans hE4).trans hE5).trans hE6⟩
      · simp at h2
    · simp at h1
end Go.Proofs.YtfoabgljfikklaaGreatDoor.V.Ky
namespace Go.Proofs.YtfoabgljfikklaaGreatDoor.V
open Go.ChangeShapes Go.WideShapes Go.ChangeAt Go.RowKit
section
variable {H : Type} {enc : TypeId × Value → H} {P : Program} {W : World} {fuel : Nat}
abbrev Rd (enc : TypeId × Value → H) (P : Program) (W : World) (fuel : Nat) (t : TypeId) (cs : List Value) : Option (DataW H × List MemPlace) := DataW.trod enc P W 0 (fun _ => true) true fuel t cs
def fieldOf (P : Program) (t i : Nat) : Option Field := match P.underlying t with | some (.struct fs) => fs[i]? | _ => none
def fieldCell (P : Program) (t i : Nat) : Option (Nat × TypeDesc) :=
  match fieldOf P t i with
  | some f => if P.cellsOf f.type = 1 then (P.underlying f.type).map (f.offset, ·) else none
  | none => none
theorem fieldOf_struct {t i : Nat} {f : Field} (h : fieldOf P t i = some f) : ∃ fs, P.underlying t = some (.struct fs) ∧ fs[i]? = some f := by
  unfold fieldOf at h
  split at h
  · rename_i fs hfs; exact ⟨fs, hfs, h⟩
  · cases h
theorem trod_field {t i : Nat} {f : Field} {cs : List Value} {x : DataW H × List MemPlace} (hf : fieldOf P t i = some f) (h : Rd enc P W fuel t cs = some x) :
    ∃ n y, Rd enc P W n f.type ((cs.drop f.offset).take (P.cellsOf f.type)) = some y := by
  obtain ⟨fs, h1, h2⟩ := fieldOf_struct hf
  obtain ⟨xs, n, _, _, _, hl, hx⟩ := DataW.trod_struct h1 h
  have hi : i < xs.length := by rw [hl]; exact (Array.getElem?_eq_some_iff.1 h2).1
  exact ⟨n, xs[i], (hx i f h2).trans (List.getElem?_eq_getElem hi)⟩
theorem trod_cell {t i o : Nat} {d : TypeDesc} {cs : List Value} {x : DataW H × List MemPlace} (hf : fieldCell P t i = some (o, d)) (h : Rd enc P W fuel t cs = some x) :
    ∃ n y ty, P.underlying ty = some d ∧ Rd enc P W n ty ((cs.drop o).take 1) = some y := by
  unfold fieldCell at hf
  split at hf
  · rename_i f hf1
    split at hf
    · rename_i hc
      obtain ⟨n, y, hy⟩ := trod_field hf1 h
      cases hu : P.underlying f.type with
      | none => rw [hu] at hf; cases hf
      | some d' =>
        rw [hu] at hf
        simp at hf
        obtain ⟨h1, h2⟩ := hf
        subst h1 h2
        rw [hc] at hy
        exact ⟨n, y, f.type, hu, hy⟩
    · cases hf
  · cases hf
theorem cell_spot {w : World} {a : Addr} {v : Value} (h : w.cell? a = some v) : a.spot = none := by
  unfold World.cell? at h
  split at h
  · split at h
    · cases h
    · rename_i hs; simpa using hs
  · cases h
theorem sla_of {w : World} {a : Addr} {cs : List Value} (h : ∀ i v, cs[i]? = some v → w.cell? (a.add i) = some v) : SlA w (some a) cs ∧ (cs ≠ [] → a.block < w.heap.size) := by
  cases cs with
  | nil => exact ⟨SlA.empty _ _, fun h => absurd rfl h⟩
  | cons c r =>
    have h0 := h 0 c rfl
    have e0 : a.add 0 = a := by simp [Addr.add]
    rw [e0] at h0
    have hsp := cell_spot h0
    obtain ⟨b, o, sp⟩ := a
    dsimp only at hsp
    subst hsp
    exact ⟨fun i v hv => by have := h i v hv; rwa [add_none] at this, fun _ => block_lt_of_cell h0⟩
theorem str_of (s : ByteArray) : str s.data.toList = .string s := by
  cases s; rfl
theorem open_strsAt {t e : TypeId} {v : Value} {x : DataW H × List MemPlace} (ht : P.underlying t = some (.slice e)) (he : P.underlying e = some .string) (hc : P.cellsOf e = 1)
    (h : Rd enc P W fuel t [v] = some x) : ∃ a c l, v = .slice a l.length c ∧ StrsAt W a c l := by
  rcases open_strings ht he hc h with ⟨hv, _⟩ | ⟨a, len, cap, ss, hv, _, hl, hm, hz, _, hcell, hws⟩
  · simp at hv
    subst hv
    exact ⟨none, 0, [], rfl, StrsAt.none _⟩
  · simp at hv
    subst hv
    simp at hz
    have key := sla_of (w := W) (a := a) (cs := strsV ((ss.take len).map fun s => s.data.toList)) (fun i v hv => by
      simp only [strsV, List.map_map, List.getElem?_map, Option.map_eq_some_iff] at hv
      obtain ⟨n, hn, rfl⟩ := hv
      rw [List.getElem?_take] at hn
      split at hn
      · have hi := (List.getElem?_eq_some_iff.1 hn).1
        rw [hcell i hi, Function.comp, str_of]
        simp [List.getD, hn]
      · cases hn)
    refine ⟨some a, cap, (ss.take len).map fun s => s.data.toList, by simp [hz, Nat.min_eq_left hl], ⟨key.1, by simp; omega, by simp, fun y hy hne => by cases hy; exact key.2 (fun h => hne (by simpa [strsV] using h))⟩⟩
theorem open_strAt {t : TypeId} {v : Value} {x : DataW H × List MemPlace} (ht : P.underlying t = some .string) (h : Rd enc P W fuel t [v] = some x) : ∃ l, v = str l := by
  obtain ⟨s, hv, _, _⟩ := DataW.trod_string ht h
  simp at hv
  subst hv
  exact ⟨s.data.toList, (str_of s).symm⟩
end
end Go.Proofs.YtfoabgljfikklaaGreatDoor.V
namespace Go.Proofs.YtfoabgljfikklaaGreatDoor.V.Ky
open Go.ChangeShapes Go.WideShapes Go.ChangeAt Go.RowKit
theorem open_attr {H : Type} {enc : TypeId × Value → H} {W : World} {fuel : Nat} {cs : List Value} {x : DataW H × List MemPlace} (h : Rd enc Tryz.prog W fuel 63 cs = some x) (hl : cs.length = 2) : ∃ y : Attr, cs = attrV y := by
  match cs, hl with
  | [a, b], _ =>
    obtain ⟨_, _, _, u0, r0⟩ := trod_cell (i := 0) (o := 0) (d := .string) (by kernel_rfl) h
    obtain ⟨_, _, _, u1, r1⟩ := trod_cell (i := 1) (o := 1) (d := .string) (by kernel_rfl) h
    obtain ⟨k, rfl⟩ := open_strAt u0 r0
    obtain ⟨nm, rfl⟩ := open_strAt u1 r1
    exact ⟨(k, nm), rfl⟩
theorem mapM_len {α β : Type} {f : α → Option β} : ∀ {l : List α} {r : List β}, l.mapM f = some r → r.length = l.length
  | [], r, h => by simp at h; subst h; rfl
  | x :: l, r, h => by
    rw [List.mapM_cons] at h
    simp only [Option.bind_eq_bind, Option.bind_eq_some_iff, Option.pure_def, Option.some.injEq] at h
    obtain ⟨y, _, ys, hys, rfl⟩ := h
    simp [mapM_len hys]
theorem cells_get {w : World} {base : Nat} {a : Addr} {n : Nat} {cs : List Value} (h : w.cells? base a n = some cs) : cs.length = n ∧ ∀ i v, cs[i]? = some v → w.cell? (a.add i) = some v := by
  unfold World.cells? at h
  split at h
  · have hm := fun i (hi : i < n) => mapM_some_get h i i (by simp [hi])
    have hl : cs.length = n := by
      have := mapM_len h
      simpa using this
    refine ⟨hl, fun i v hv => ?_⟩
    have hi : i < n := by have := (List.getElem?_eq_some_iff.1 hv).1; omega
    rw [hm i hi, hv]
  · cases h
theorem attrsV_len (l : List Attr) : (attrsV l).length = l.length * 2 := by
  induction l with
  | nil => rfl
  | cons x l ih => simp only [attrsV, List.flatMap_cons, List.length_append, List.length_cons] at ih ⊢; rw [ih]; simp [attrV]; omega
theorem attrsV_app (l m : List Attr) : attrsV (l ++ m) = attrsV l ++ attrsV m := by simp [attrsV]
theorem open_attrs {H : Type} {enc : TypeId × Value → H} {W : World} {fuel : Nat} {v : Value} {x : DataW H × List MemPlace} (ht : Tryz.prog.underlying 23 = some (.slice 63))
    (h : Rd enc Tryz.prog W fuel 23 [v] = some x) : ∃ a c l, v = .slice a l.length c ∧ AttrsAt W a c l := by
  rcases Go.Deep.open_slice ht h with ⟨hv, _⟩ | ⟨a, len, cap, m, n, D, Pl, hv, _, hl, hc, hm, _, hx⟩
  · simp at hv
    subst hv
    exact ⟨none, 0, [], rfl, ⟨rfl, Nat.le_refl _, fun _ => rfl, fun _ h => by cases h⟩⟩
  · simp at hv
    subst hv
    simp at hm
    have hco : Tryz.prog.cellsOf 63 = 2 := by kernel_rfl
    rw [hco] at hx
    have key : ∀ k, k ≤ len → ∃ l : List Attr, l.length = k ∧ (∀ i v, (attrsV l)[i]? = some v → W.cell? (a.add i) = some v) := by
      intro k
      induction k with
      | zero => intro _; exact ⟨[], rfl, by simp [attrsV]⟩
      | succ k ih =>
        intro hk
        obtain ⟨l, h1, h3⟩ := ih (by omega)
        obtain ⟨cs, hcs, hrd⟩ := hx k (by omega)
        obtain ⟨q1, q2⟩ := cells_get hcs
        obtain ⟨y, rfl⟩ := open_attr hrd q1
        have hcl := attrsV_len l
        refine ⟨l ++ [y], by simp [h1], fun i v hv => ?_⟩
        rw [attrsV_app] at hv
        by_cases hi : i < (attrsV l).length
        · rw [List.getElem?_append_left hi] at hv; exact h3 i v hv
        · rw [List.getElem?_append_right (by omega)] at hv
          have hv' : (attrV y)[i - (attrsV l).length]? = some v := by
            have e : attrsV [y] = attrV y := by simp [attrsV]
            rwa [e] at hv
          have := q2 _ v hv'
          rw [Go.Deep.add_add] at this
          rwa [show k * 2 + (i - (attrsV l).length) = i by omega] at this
    obtain ⟨l, h1, h3⟩ := key len (Nat.le_refl _)
    have hs := sla_of h3
    refine ⟨some a, cap, l, by rw [h1], ⟨hs.1, by omega, by simp, fun y hy hne => ?_⟩⟩
    cases hy
    refine hs.2 fun e => hne ?_
    have h0 : (attrsV l).length = 0 := by rw [e]; rfl
    rw [attrsV_len] at h0
    exact List.eq_nil_of_length_eq_zero (by omega)
end Go.Proofs.YtfoabgljfikklaaGreatDoor.V.Ky
namespace Go.Proofs.YtfoabgljfikklaaGreatDoor.V.Ky
open Go.RowKit
attribute [local irreducible] GX GO
def bl (l : List Nat) : Bs := l.map UInt8.ofNat
structure KE where
  name : List Nat
  ns : List (List Nat)
  l : List (List Nat × List Nat)
  out : List Nat
  no : Int
def atb (p : List Nat × List Nat) : Attr := (bl p.1, bl p.2)
def KE.ok (e : KE) : Bool := decide (keyF (bl e.name) (e.ns.map bl) (e.l.map atb) = (bl e.out, e.no)) && e.out.all (fun x => decide (x < 256)) && decide (e.ns.length < 1000) && e.ns.all (fun x => decide (x.length < 1000)) && decide (e.l.length < 1000) && e.l.all (fun p => decide (p.1.length < 1000) && decide (p.2.length < 1000))
def strsOf : List AV → Option (List (List Nat))
  | [] => some []
  | .s l :: r => match strsOf r with
    | some m => some (l :: m)
    | none => none
  | _ => none
def pairsOf : List AV → Option (List (List Nat × List Nat))
  | [] => some []
  | .s a :: .s b :: r => match pairsOf r with
    | some m => some ((a, b) :: m)
    | none => none
  | _ => none
def readS (H : Tr AB) : AV → Option (List (List Nat))
  | .sl0 => some []
  | .sl b o _ n _ => match atH H b o n with
    | some cs => strsOf cs
    | none => none
  | _ => none
def readP (H : Tr AB) : AV → Option (List (List Nat × List Nat))
  | .sl0 => some []
  | .sl b o _ n _ => match atH H b o (n * 2) with
    | some cs => pairsOf cs
    | none => none
  | _ => none
def findK (name : List Nat) (ns : List (List Nat)) (l : List (List Nat × List Nat)) : List KE → Option KE
  | [] => none
  | e :: r => match e.name == name && e.ns == ns && e.l == l with
    | true => some e
    | false => findK name ns l r
def extKey (tbl : List KE) : CallA := fun g args st => match Nat.beq g 7, args with
  | true, [.s name, nm, at'] => match readS st.H nm, readP st.H at' with
    | some ns, some l => match findK name ns l tbl with
      | some e => some (.t [.s e.out, .i .i64 e.no], st)
      | none => none
    | _, _ => none
  | _, _ => none
theorem findK_spec {name : List Nat} {ns : List (List Nat)} {l : List (List Nat × List Nat)} {e : KE} : ∀ {tbl : List KE}, findK name ns l tbl = some e → e ∈ tbl ∧ e.name = name ∧ e.ns = ns ∧ e.l = l
  | [], h => by cases h
  | x :: r, h => by
    unfold findK at h
    split at h
    · rename_i hb
      cases h
      simp only [Bool.and_eq_true, beq_iff_eq] at hb
      exact ⟨List.mem_cons_self, hb.1.1, hb.1.2, hb.2⟩
    · obtain ⟨h1, h2⟩ := findK_spec h
      exact ⟨List.mem_cons_of_mem _ h1, h2⟩
theorem strsOf_spec [Sig] {r : Rho} : ∀ {cs : List AV} {L : List Value} {ns : List (List Nat)}, RelL r cs L → strsOf cs = some ns → L = strsV (ns.map bl)
  | [], L, ns, hL, h => by
    cases h
    have hL : L = [] := hL
    subst hL
    rfl
  | a :: cs, L, ns, hL, h => by
    obtain ⟨A, M, rfl, hA, hM⟩ := hL.of_cons
    unfold strsOf at h
    split at h
    · contradiction
    · rename_i heq
      cases heq
      split at h
      · rename_i m hm
        cases h
        unfold Rel at hA
        rw [hA.1, strsOf_spec hM hm]
        rfl
      · cases h
    · cases h
theorem pairsOf_spec [Sig] {r : Rho} : ∀ {cs : List AV} {L : List Value} {l : List (List Nat × List Nat)}, RelL r cs L → pairsOf cs = some l → L = attrsV (l.map atb)
  | [], L, l, hL, h => by
    cases h
    have hL : L = [] := hL
    subst hL
    rfl
  | [a], L, l, hL, h => by
    unfold pairsOf at h
    split at h
    · contradiction
    · rename_i heq; cases heq
    · cases h
  | a :: b :: cs, L, l, hL, h => by
    obtain ⟨A, M1, rfl, hA, hM1⟩ := hL.of_cons
    obtain ⟨B, M2, rfl, hB, hM2⟩ := hM1.of_cons
    unfold pairsOf at h
    split at h
    · contradiction
    · rename_i heq
      cases heq
      split at h
      · rename_i m hm
        cases h
        unfold Rel at hA hB
        rw [hA.1, hB.1, pairsOf_spec hM2 hm]
        rfl
      · cases h
    · cases h
theorem readS_spec [Sig] {r : Rho} {lo : Nat} {H : Tr AB} {w : World} (hs : Sat lo r H w) {v : AV} {V : Value} (hv : Rel r v V) {ns : List (List Nat)} (h : readS H v = some ns) : ∃ a c, V = .slice a (ns.map bl).length c ∧ StrsAt w a c (ns.map bl) := by
  unfold readS at h
  split at h
  · cases h
    unfold Rel at hv
    exact ⟨none, 0, hv, ⟨rfl, Nat.le_refl _, fun _ => rfl, fun _ h => by cases h⟩⟩
  · split at h
    · rename_i b o e n c _ cs hcs
      unfold Rel at hv
      obtain ⟨B, K, hr, rfl, hle⟩ := hv
      obtain ⟨hlen, L, hL, hAt, hLl⟩ := atH_sound hs hcs hr
      have := strsOf_spec hL h
      subst this
      have hn : (ns.map bl).length = n := by simpa [strsV] using hLl
      refine ⟨some ⟨B, o, none⟩, c.getD (K - e), by rw [hn], ⟨hAt, by rw [hn]; exact hle, fun h => (by cases h), fun x hx hne => ?_⟩⟩
      cases hx
      obtain ⟨y, m, hy⟩ : ∃ y m, ns.map bl = y :: m := by
        cases hq : ns.map bl with
        | nil => exact absurd hq hne
        | cons y m => exact ⟨y, m, rfl⟩
      exact block_lt_of_cell (hAt 0 (str y) (by rw [hy]; rfl))
    · cases h
  · cases h
theorem attrsV_length (l : List Attr) : (attrsV l).length = l.length * 2 := by
  induction l with
  | nil => rfl
  | cons x l ih => simp only [attrsV, List.flatMap_cons, List.length_append, List.length_cons] at ih ⊢; rw [ih]; simp [attrV]; omega
theorem readP_spec [Sig] {r : Rho} {lo : Nat} {H : Tr AB} {w : World} (hs : Sat lo r H w) {v : AV} {V : Value} (hv : Rel r v V) {l : List (List Nat × List Nat)} (h : readP H v = some l) : ∃ a c, V = .slice a (l.map atb).length c ∧ AttrsAt w a c (l.map atb) := by
  unfold readP at h
  split at h
  · cases h
    unfold Rel at hv
    exact ⟨none, 0, hv, ⟨rfl, Nat.le_refl _, fun _ => rfl, fun _ h => by cases h⟩⟩
  · split at h
    · rename_i b o e n c _ cs hcs
      unfold Rel at hv
      obtain ⟨B, K, hr, rfl, hle⟩ := hv
      obtain ⟨hlen, L, hL, hAt, hLl⟩ := atH_sound hs hcs hr
      have := pairsOf_spec hL h
      subst this
      have hn : (l.map atb).length = n := by rw [attrsV_length] at hLl; omega
      refine ⟨some ⟨B, o, none⟩, c.getD (K - e), by rw [hn], ⟨hAt, by rw [hn]; exact hle, fun h => (by cases h), fun x hx hne => ?_⟩⟩
      cases hx
      obtain ⟨y, m, hy⟩ : ∃ y m, l.map atb = y :: m := by
        cases hq : l.map atb with
        | nil => exact absurd hq hne
        | cons y m => exact ⟨y, m, rfl⟩
      exact block_lt_of_cell (hAt 0 (str y.1) (by rw [hy]; rfl))
    · cases h
  · cases h
theorem extKey_ok [Sig] (tbl : List KE) (ht : tbl.all KE.ok = true) (lo : Nat) : CallOK Tryz.prog lo (extKey tbl) := by
  intro g args st v st' h r w Args hArgs hs
  unfold extKey at h
  split at h
  · rename_i name nm at' hg
    have hg := Nat.eq_of_beq_eq_true hg
    subst hg
    obtain ⟨A, M, rfl, hA, hM⟩ := hArgs.of_cons
    obtain ⟨B, M, rfl, hB, hM⟩ := hM.of_cons
    obtain ⟨C, M, rfl, hC, hM⟩ := hM.of_cons
    have := hM.of_nil
    subst this
    split at h
    · rename_i ns l hns hl
      split at h
      · rename_i e he
        cases h
        obtain ⟨he1, rfl, rfl, rfl⟩ := findK_spec he
        have hok := List.all_eq_true.1 ht e he1
        simp only [KE.ok, Bool.and_eq_true, decide_eq_true_eq, List.all_eq_true] at hok
        obtain ⟨⟨⟨⟨⟨hk, ho⟩, h1⟩, h2⟩, h3⟩, h4⟩ := hok
        unfold Rel at hA
        obtain ⟨a, c, rfl, hN⟩ := readS_spec hs hB hns
        obtain ⟨a2, c2, rfl, hA2⟩ := readP_spec hs hC hl
        rw [hA.1]
        refine (key_ret (bl e.name) (e.ns.map bl) (e.l.map atb) a a2 c c2 w hN hA2 (by simp; omega) (fun s hs => ?_) (by simp; omega) (fun x hx => ?_)).mono ?_
        · obtain ⟨y, hy, rfl⟩ := List.mem_map.1 hs
          have := h2 y hy
          simp only [bl, List.length_map]
          omega
        · obtain ⟨y, hy, rfl⟩ := List.mem_map.1 hx
          have := h4 y hy
          simp only [atb, bl, List.length_map]
          omega
        · rintro V w' ⟨rfl, hx⟩
          rw [hk]
          refine ⟨r, Rho.le.refl r, ?_, hs.ext hx, modLo hx⟩
          unfold Rel
          refine ⟨_, rfl, RelL.cons ?_ (RelL.cons ?_ (RelL.nil r))⟩
          · unfold Rel
            exact ⟨rfl, fun x hx => ho x hx⟩
          · unfold Rel
            rfl
      · cases h
    · cases h
  · cases h
end Go.Proofs.YtfoabgljfikklaaGreatDoor.V.Ky
