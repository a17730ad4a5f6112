/-
  What a codec's function for a part computes, in both modes (package request). Conditions: the lengths of what is read and made stay below 2^38; the blocks of the codec, the command, the reader and the variables are different ones.
-/
import Derived.Test.YtahkglanddhncaaWh
namespace Go.Proofs.Ytahkglanddhncaa.V
attribute [local irreducible] GX GO

/-- A function that tells of a string whether it is allowed, and changes nothing. -/
def Tells (f : FuncId) (ok : List UInt8 → Bool) : Prop := ∀ (s : List UInt8) (w : World), Ret Try.prog f [str s].toArray w fun v w' => v = .bool (ok s) ∧ Ext w w'

set_option maxHeartbeats 1000000 in
theorem partW_ret (f : FuncId) [CaF Try.prog f] (ok : List UInt8 → Bool) (hf : Tells f ok) (bx bc br : Nat) (ba : Option Nat) (st : St) (hrd : st.read = false) (s : List UInt8) (bs os : Nat) (w : World) (hC : Cx w bx bc br ba st) (hA : At w bs os [str s]) (hl : st.data.length < 2 ^ 38) (hs : s.length < 2 ^ 38) (hbs : bs ≠ bx) :
    Ret Try.prog 54 [.pointer (some ⟨bx, 0, none⟩), .pointer (some ⟨bs, os, none⟩), .func (.func f) #[] #[]].toArray w
      fun v w' => v = .tuple #[] ∧ Cx w' bx bc br ba (doPart ok st s).1 ∧ Upd w w' bs os [str (doPart ok st s).2] ∧ Mod (fun k => Fp bx br k ∨ (st.read = true ∧ k = bs)) w w' := by
  obtain ⟨rd, data, bad⟩ := st
  dsimp only at hrd hl
  subst hrd
  obtain ⟨hG, oa, oc, hb, hB, hx⟩ := hC
  have hlt := hG.c
  have hbx := hb.lt
  
  refine Ret.enter Try.func54 rfl Try.ntmps54 rfl ?_
  (repeat (first | refine GX.doneD ?_ | refine GX.done ?_ | refine GQ.goNormal ?_ | refine GC.seq ?_ | refine GC.skip ?_ | refine GC.block ?_ | refine GC.exit ?_ | refine GC.ret ?_ | refine GQ.goExit ?_ | refine GQ.goRet ?_ | refine GQ.inNormal ?_ | refine GQ.inExit ?_ | refine GQ.inExitNe rfl ?_ | refine GQ.inRet ?_ | refine GQ.loopExit ?_ | refine GQ.loopRet ?_ | refine GQ.cutExit ?_ | refine GQ.cutRet ?_))
  refine GC.region (.pure 0 (.pure 1 (.pure 2 (.eff 3 (.pure 4 .done))))) rfl ?_
  (repeat (refine GX.pure rfl ?_; first | refine GO.move rfl rfl rfl rfl ?_ | refine GO.nilCheck rfl rfl rfl rfl ?_ | refine GO.fieldAddr rfl rfl rfl rfl rfl ?_ | refine GO.ptrEqlNil rfl rfl rfl rfl rfl ?_ | refine GO.nilCheckF rfl rfl rfl rfl ?_))
  (first | (refine GX.eff rfl ?_; first | refine GO.load1 (hb.get (o := 0 + 1) rfl) rfl rfl rfl ?_ | refine GO.loadN (hb.get (o := 0 + 1) rfl) rfl rfl rfl rfl ?_) | (refine GX.read rfl ?_; first | refine GO.load1R (by assumption) (fun _ hS_ => At.mod (hb.get (o := 0 + 1) rfl) hS_ (by simp)) rfl rfl rfl ?_ | refine GO.loadNR (by assumption) (fun _ hS_ => At.mod (hb.get (o := 0 + 1) rfl) hS_ (by simp)) rfl rfl rfl rfl ?_))
  (repeat (refine GX.pure rfl ?_; first | refine GO.move rfl rfl rfl rfl ?_ | refine GO.nilCheck rfl rfl rfl rfl ?_ | refine GO.fieldAddr rfl rfl rfl rfl rfl ?_ | refine GO.ptrEqlNil rfl rfl rfl rfl rfl ?_ | refine GO.nilCheckF rfl rfl rfl rfl ?_))
  (repeat (first | refine GX.doneD ?_ | refine GX.done ?_ | refine GQ.goNormal ?_ | refine GC.seq ?_ | refine GC.skip ?_ | refine GC.block ?_ | refine GC.exit ?_ | refine GC.ret ?_ | refine GQ.goExit ?_ | refine GQ.goRet ?_ | refine GQ.inNormal ?_ | refine GQ.inExit ?_ | refine GQ.inExitNe rfl ?_ | refine GQ.inRet ?_ | refine GQ.loopExit ?_ | refine GQ.loopRet ?_ | refine GQ.cutExit ?_ | refine GQ.cutRet ?_))
  refine GC.cond rfl (fun hc => ?_) (fun hc => ?_)
  · (repeat (first | refine GX.doneD ?_ | refine GX.done ?_ | refine GQ.goNormal ?_ | refine GC.seq ?_ | refine GC.skip ?_ | refine GC.block ?_ | refine GC.exit ?_ | refine GC.ret ?_ | refine GQ.goExit ?_ | refine GQ.goRet ?_ | refine GQ.inNormal ?_ | refine GQ.inExit ?_ | refine GQ.inExitNe rfl ?_ | refine GQ.inRet ?_ | refine GQ.loopExit ?_ | refine GQ.loopRet ?_ | refine GQ.cutExit ?_ | refine GQ.cutRet ?_))
    -- the part is written
    refine GC.cut (X := World × Option Addr × Nat) (fun _ => [(0, .pointer (some ⟨bx, 0, none⟩)), (1, .pointer (some ⟨bs, os, none⟩)), (2, .func (.func f) #[] #[])])
      (fun x w' => x.1 = w' ∧ Blk w' bx [.pointer (some ⟨bc, 0, none⟩), .pointer none, .slice x.2.1 (data ++ putN s.length ++ s).length x.2.2, .bool bad] ∧ BytesAt w' x.2.1 x.2.2 (data ++ putN s.length ++ s) ∧ (∀ y, x.2.1 = some y → w.heap.size ≤ y.block) ∧ Mod (· = bx) w w') ?_ ?_
    · refine GC.regionD (.pure 0 (.pure 1 (.pure 2 (.pure 3 (.pure 5 (.pure 6 (.read 4 (.read 7 (.eff 8 (.eff 9 (.pure 10 (.pure 11 (.eff 12 .done))))))))))))) (fun _ => False) mixed (by kernel_rfl) (by kernel_rfl) ?_
      intro w1 _ hE1
      have hS : Mod (fun _ => False) w w1 := hE1
      (repeat (refine GX.pure rfl ?_; first | refine GO.move rfl rfl rfl rfl ?_ | refine GO.nilCheck rfl rfl rfl rfl ?_ | refine GO.fieldAddr rfl rfl rfl rfl rfl ?_ | refine GO.conv rfl rfl rfl rfl (wrapIn (by dsimp only [InK]; omega)) ?_ | refine GO.convStr rfl rfl rfl rfl ?_ | refine GO.nilCheckF rfl rfl rfl rfl ?_))
      (first | (refine GX.eff rfl ?_; first | refine GO.load1 (hb.get (o := 0 + 2) rfl) rfl rfl rfl ?_ | refine GO.loadN (hb.get (o := 0 + 2) rfl) rfl rfl rfl rfl ?_) | (refine GX.read rfl ?_; first | refine GO.load1R (by assumption) (fun _ hS_ => At.mod (hb.get (o := 0 + 2) rfl) hS_ (by simp)) rfl rfl rfl ?_ | refine GO.loadNR (by assumption) (fun _ hS_ => At.mod (hb.get (o := 0 + 2) rfl) hS_ (by simp)) rfl rfl rfl rfl ?_))
      (first | (refine GX.eff rfl ?_; first | refine GO.load1 (hA) rfl rfl rfl ?_ | refine GO.loadN (hA) rfl rfl rfl rfl ?_) | (refine GX.read rfl ?_; first | refine GO.load1R (by assumption) (fun _ hS_ => At.mod (hA) hS_ (by simp)) rfl rfl rfl ?_ | refine GO.loadNR (by assumption) (fun _ hS_ => At.mod (hA) hS_ (by simp)) rfl rfl rfl rfl ?_))
      (repeat (refine GX.pure rfl ?_; first | refine GO.move rfl rfl rfl rfl ?_ | refine GO.nilCheck rfl rfl rfl rfl ?_ | refine GO.fieldAddr rfl rfl rfl rfl rfl ?_ | refine GO.conv rfl rfl rfl rfl (wrapIn (by dsimp only [InK]; omega)) ?_ | refine GO.convStr rfl rfl rfl rfl ?_ | refine GO.nilCheckF rfl rfl rfl rfl ?_))
      refine GX.eff rfl ?_
      refine GO.toBytes rfl rfl rfl fun b c w2 hb2 _ hAt hE2 => ?_
      refine ⟨fun _ h => by first | trivial | exact Mod.trans h (Ext.mod (by assumption)), ?_⟩
      (refine GX.eff rfl ?_; refine GO.callL rfl rfl rfl rfl rfl (putBytes_ret data s _ _ rfl rfl (by omega) (by omega) oa _ oc c w2 ((hB.ext hE1).ext hE2) hAt) ?_)
      rintro v w3 ⟨⟨ob, a1, c1, rfl, hO, hF1, hF2⟩, hE3⟩
      refine ⟨fun _ h => by first | trivial | exact Mod.trans h (Ext.mod (by assumption)), ?_⟩
      (repeat (refine GX.pure rfl ?_; first | refine GO.move rfl rfl rfl rfl ?_ | refine GO.nilCheck rfl rfl rfl rfl ?_ | refine GO.fieldAddr rfl rfl rfl rfl rfl ?_ | refine GO.conv rfl rfl rfl rfl (wrapIn (by dsimp only [InK]; omega)) ?_ | refine GO.convStr rfl rfl rfl rfl ?_ | refine GO.nilCheckF rfl rfl rfl rfl ?_))
      have hE : Ext w w3 := (hE1.trans hE2).trans hE3
      have hb3 := hb.ext hE
      refine GX.eff rfl ?_
      refine GO.store (vs := [.slice a1 (data ++ putN s.length ++ s).length c1]) (hb3.wr (by simp)) rfl rfl (by simp [Value.oneCell']) rfl rfl rfl fun w4 hp => ⟨(by first | exact fun _ _ => trivial | exact late_abs (by kernel_rfl)), ?_⟩
      (repeat (first | refine GX.doneD ?_ | refine GX.done ?_ | refine GQ.goNormal ?_ | refine GC.seq ?_ | refine GC.skip ?_ | refine GC.block ?_ | refine GC.exit ?_ | refine GC.ret ?_ | refine GQ.goExit ?_ | refine GQ.goRet ?_ | refine GQ.inNormal ?_ | refine GQ.inExit ?_ | refine GQ.inExitNe rfl ?_ | refine GQ.inRet ?_ | refine GQ.loopExit ?_ | refine GQ.loopRet ?_ | refine GQ.cutExit ?_ | refine GQ.cutRet ?_))
      have hfr : ∀ y, a1 = some y → w.heap.size ≤ y.block := fun y hy => Nat.le_trans (hE1.trans hE2).size (hF1 _ (hF2 y hy))
      refine GQ.cutNormal (w4, a1, c1) (sub_pick (l := [0, 1, 2]) rfl) ⟨rfl, ?_, (hO.bytes hF2).mod hp.mod (fun y hy h => ?_), hfr, (Ext.mod hE).trans hp.mod⟩
      · have := hp.blk hb3
        simpa using this
      · have := hfr y hy; omega
    rintro ⟨w4, a1, c1⟩ _ ⟨rfl, hb4, hB4, hfr, hM4⟩
    dsimp only at hb4 hB4 hfr hM4
    have hA4 := hA.mod hM4 hbs
    (repeat (first | refine GX.doneD ?_ | refine GX.done ?_ | refine GQ.goNormal ?_ | refine GC.seq ?_ | refine GC.skip ?_ | refine GC.block ?_ | refine GC.exit ?_ | refine GC.ret ?_ | refine GQ.goExit ?_ | refine GQ.goRet ?_ | refine GQ.inNormal ?_ | refine GQ.inExit ?_ | refine GQ.inExitNe rfl ?_ | refine GQ.inRet ?_ | refine GQ.loopExit ?_ | refine GQ.loopRet ?_ | refine GQ.cutExit ?_ | refine GQ.cutRet ?_))
    -- is it allowed
    refine GC.region (.pure 0 (.pure 1 (.pure 2 (.pure 3 (.eff 4 (.pure 5 (.pure 6 (.pure 7 (.pure 8 (.eff 9 (.eff 10 (.pure 11 (.pure 12 (.pure 13 (.pure 14 (.eff 15 .done)))))))))))))))) rfl ?_
    (repeat (refine GX.pure rfl ?_; first | refine GO.move rfl rfl rfl rfl ?_ | refine GO.nilCheck rfl rfl rfl rfl ?_ | refine GO.fieldAddr rfl rfl rfl rfl rfl ?_ | refine GO.pickT rfl rfl rfl rfl rfl ?_ | refine GO.pickF rfl rfl rfl rfl rfl ?_ | refine GO.not rfl rfl rfl rfl ?_ | refine GO.nilCheckF rfl rfl rfl rfl ?_ | refine GO.skip (.inl rfl) rfl rfl ?_))
    (first | (refine GX.eff rfl ?_; first | refine GO.load1 (hb4.get (o := 0 + 3) rfl) rfl rfl rfl ?_ | refine GO.loadN (hb4.get (o := 0 + 3) rfl) rfl rfl rfl rfl ?_) | (refine GX.read rfl ?_; first | refine GO.load1R (by assumption) (fun _ hS_ => At.mod (hb4.get (o := 0 + 3) rfl) hS_ (by simp)) rfl rfl rfl ?_ | refine GO.loadNR (by assumption) (fun _ hS_ => At.mod (hb4.get (o := 0 + 3) rfl) hS_ (by simp)) rfl rfl rfl rfl ?_))
    (repeat (refine GX.pure rfl ?_; first | refine GO.move rfl rfl rfl rfl ?_ | refine GO.nilCheck rfl rfl rfl rfl ?_ | refine GO.fieldAddr rfl rfl rfl rfl rfl ?_ | refine GO.pickT rfl rfl rfl rfl rfl ?_ | refine GO.pickF rfl rfl rfl rfl rfl ?_ | refine GO.not rfl rfl rfl rfl ?_ | refine GO.nilCheckF rfl rfl rfl rfl ?_ | refine GO.skip (.inl rfl) rfl rfl ?_))
    have fin : ∀ w5, Ext w4 w5 → ∀ w6, Put w5 w6 bx 3 [.bool (bad || !ok s)] →
        Cx w6 bx bc br ba (doPart ok ⟨false, data, bad⟩ s).1 ∧ Upd w w6 bs os [str (doPart ok ⟨false, data, bad⟩ s).2] ∧ Mod (fun k => Fp bx br k ∨ (false = true ∧ k = bs)) w w6 := by
      intro w5 hE5 w6 hp
      have hb5 := hb4.ext hE5
      refine ⟨⟨hG.le ?_, a1, c1, ?_, (hB4.ext hE5).mod hp.mod (fun y hy h => ?_), fun y hy => ?_⟩, ?_, ?_⟩
      · rw [hp.size]; have := hM4.size; have := hE5.size; omega
      · have := hp.blk hb5
        simpa [doPart] using this
      · have := hfr y hy; omega
      · have := hfr y hy; omega
      · exact (((upd_same hA).post hM4 hbs).post hE5 id).post hp.mod hbs
      · exact ((hM4.of fun k hk => .inl (.inl hk)).trans (Ext.mod hE5)).trans (hp.mod.of fun k hk => .inl (.inl hk))
    refine GX.case 53 rfl (fun hbad => ?_) (fun hbad => ?_)
    · subst hbad
      (repeat (refine GX.pure rfl ?_; first | refine GO.move rfl rfl rfl rfl ?_ | refine GO.nilCheck rfl rfl rfl rfl ?_ | refine GO.fieldAddr rfl rfl rfl rfl rfl ?_ | refine GO.pickT rfl rfl rfl rfl rfl ?_ | refine GO.pickF rfl rfl rfl rfl rfl ?_ | refine GO.not rfl rfl rfl rfl ?_ | refine GO.nilCheckF rfl rfl rfl rfl ?_ | refine GO.skip (.inl rfl) rfl rfl ?_))
      refine GX.eff rfl ?_
      refine GO.skip (.inr rfl) rfl rfl ?_
      refine GX.eff rfl ?_
      refine GO.skip (.inr rfl) rfl rfl ?_
      (repeat (refine GX.pure rfl ?_; first | refine GO.move rfl rfl rfl rfl ?_ | refine GO.nilCheck rfl rfl rfl rfl ?_ | refine GO.fieldAddr rfl rfl rfl rfl rfl ?_ | refine GO.pickT rfl rfl rfl rfl rfl ?_ | refine GO.pickF rfl rfl rfl rfl rfl ?_ | refine GO.not rfl rfl rfl rfl ?_ | refine GO.nilCheckF rfl rfl rfl rfl ?_ | refine GO.skip (.inl rfl) rfl rfl ?_))
      refine GX.eff rfl ?_
      refine GO.store (vs := [.bool true]) (hb4.wr (by simp)) rfl rfl (by simp [Value.oneCell']) rfl rfl rfl fun w6 hp => ⟨(by first | exact fun _ _ => trivial | exact late_abs (by kernel_rfl)), ?_⟩
      (repeat (first | refine GX.doneD ?_ | refine GX.done ?_ | refine GQ.goNormal ?_ | refine GC.seq ?_ | refine GC.skip ?_ | refine GC.block ?_ | refine GC.exit ?_ | refine GC.ret ?_ | refine GQ.goExit ?_ | refine GQ.goRet ?_ | refine GQ.inNormal ?_ | refine GQ.inExit ?_ | refine GQ.inExitNe rfl ?_ | refine GQ.inRet ?_ | refine GQ.loopExit ?_ | refine GQ.loopRet ?_ | refine GQ.cutExit ?_ | refine GQ.cutRet ?_))
      refine GQ.ret0 (by first | exact .inl rfl | exact .inr rfl) rfl ?_
      exact ⟨rfl, fin w4 (Mod.refl _) w6 (by simpa using hp)⟩
    · subst hbad
      (repeat (refine GX.pure rfl ?_; first | refine GO.move rfl rfl rfl rfl ?_ | refine GO.nilCheck rfl rfl rfl rfl ?_ | refine GO.fieldAddr rfl rfl rfl rfl rfl ?_ | refine GO.pickT rfl rfl rfl rfl rfl ?_ | refine GO.pickF rfl rfl rfl rfl rfl ?_ | refine GO.not rfl rfl rfl rfl ?_ | refine GO.nilCheckF rfl rfl rfl rfl ?_ | refine GO.skip (.inl rfl) rfl rfl ?_))
      (first | (refine GX.eff rfl ?_; first | refine GO.load1 (hA4) rfl rfl rfl ?_ | refine GO.loadN (hA4) rfl rfl rfl rfl ?_) | (refine GX.read rfl ?_; first | refine GO.load1R (by assumption) (fun _ hS_ => At.mod (hA4) hS_ (by simp)) rfl rfl rfl ?_ | refine GO.loadNR (by assumption) (fun _ hS_ => At.mod (hA4) hS_ (by simp)) rfl rfl rfl rfl ?_))
      (refine GX.eff rfl ?_; refine GO.callL rfl rfl rfl rfl rfl (hf s w4) ?_)
      rintro v w5 ⟨rfl, hE5⟩
      refine ⟨fun _ h => by first | trivial | exact Mod.trans h (Ext.mod (by assumption)), ?_⟩
      (repeat (refine GX.pure rfl ?_; first | refine GO.move rfl rfl rfl rfl ?_ | refine GO.nilCheck rfl rfl rfl rfl ?_ | refine GO.fieldAddr rfl rfl rfl rfl rfl ?_ | refine GO.pickT rfl rfl rfl rfl rfl ?_ | refine GO.pickF rfl rfl rfl rfl rfl ?_ | refine GO.not rfl rfl rfl rfl ?_ | refine GO.nilCheckF rfl rfl rfl rfl ?_ | refine GO.skip (.inl rfl) rfl rfl ?_))
      have hb5 := hb4.ext hE5
      refine GX.eff rfl ?_
      refine GO.store (vs := [.bool (!ok s)]) (hb5.wr (by simp)) rfl rfl (by simp [Value.oneCell']) rfl rfl rfl fun w6 hp => ⟨(by first | exact fun _ _ => trivial | exact late_abs (by kernel_rfl)), ?_⟩
      (repeat (first | refine GX.doneD ?_ | refine GX.done ?_ | refine GQ.goNormal ?_ | refine GC.seq ?_ | refine GC.skip ?_ | refine GC.block ?_ | refine GC.exit ?_ | refine GC.ret ?_ | refine GQ.goExit ?_ | refine GQ.goRet ?_ | refine GQ.inNormal ?_ | refine GQ.inExit ?_ | refine GQ.inExitNe rfl ?_ | refine GQ.inRet ?_ | refine GQ.loopExit ?_ | refine GQ.loopRet ?_ | refine GQ.cutExit ?_ | refine GQ.cutRet ?_))
      refine GQ.ret0 (by first | exact .inl rfl | exact .inr rfl) rfl ?_
      exact ⟨rfl, fin w5 hE5 w6 (by simpa using hp)⟩
  · cases hc

set_option maxHeartbeats 1000000 in
theorem partR_ret (f : FuncId) [CaF Try.prog f] (ok : List UInt8 → Bool) (hf : Tells f ok) (bx bc br : Nat) (ba : Option Nat) (st : St) (hrd : st.read = true) (s : List UInt8) (bs os : Nat) (w : World) (hC : Cx w bx bc br ba st) (hW : Wr w bs os 1) (hl : st.data.length < 2 ^ 38) (hbs : bs ≠ bx) (hbr : bs ≠ br) (hbb : ba ≠ some bs) :
    Ret Try.prog 54 [.pointer (some ⟨bx, 0, none⟩), .pointer (some ⟨bs, os, none⟩), .func (.func f) #[] #[]].toArray w
      fun v w' => v = .tuple #[] ∧ Cx w' bx bc br ba (doPart ok st s).1 ∧ Upd w w' bs os [str (doPart ok st s).2] ∧ Mod (fun k => Fp bx br k ∨ (st.read = true ∧ k = bs)) w w' := by
  obtain ⟨rd, data, bad⟩ := st
  dsimp only at hrd hl
  subst hrd
  obtain ⟨hG, hb, hR, h3, h5⟩ := hC
  have hbx := hb.lt
  have hbslt : bs < w.heap.size := by obtain ⟨c, t, fr, h, _⟩ := hW; exact (Array.getElem?_eq_some_iff.1 h).1
  have hdp : doPart ok ⟨true, data, bad⟩ s = (⟨true, (rdBytes data 65536).2.1, (bad || decide ((rdBytes data 65536).2.2 ≠ 0)) || !ok (rdBytes data 65536).1⟩, (rdBytes data 65536).1) := rfl
  rw [hdp]
  generalize hx : rdBytes data 65536 = x at *
  obtain ⟨got, rest, er⟩ := x
  dsimp only
  
  refine Ret.enter Try.func54 rfl Try.ntmps54 rfl ?_
  (repeat (first | refine GX.doneD ?_ | refine GX.done ?_ | refine GQ.goNormal ?_ | refine GC.seq ?_ | refine GC.skip ?_ | refine GC.block ?_ | refine GC.exit ?_ | refine GC.ret ?_ | refine GQ.goExit ?_ | refine GQ.goRet ?_ | refine GQ.inNormal ?_ | refine GQ.inExit ?_ | refine GQ.inExitNe rfl ?_ | refine GQ.inRet ?_ | refine GQ.loopExit ?_ | refine GQ.loopRet ?_ | refine GQ.cutExit ?_ | refine GQ.cutRet ?_))
  refine GC.region (.pure 0 (.pure 1 (.pure 2 (.eff 3 (.pure 4 .done))))) rfl ?_
  (repeat (refine GX.pure rfl ?_; first | refine GO.move rfl rfl rfl rfl ?_ | refine GO.nilCheck rfl rfl rfl rfl ?_ | refine GO.fieldAddr rfl rfl rfl rfl rfl ?_ | refine GO.ptrEqlNil rfl rfl rfl rfl rfl ?_ | refine GO.nilCheckF rfl rfl rfl rfl ?_))
  (first | (refine GX.eff rfl ?_; first | refine GO.load1 (hb.get (o := 0 + 1) rfl) rfl rfl rfl ?_ | refine GO.loadN (hb.get (o := 0 + 1) rfl) rfl rfl rfl rfl ?_) | (refine GX.read rfl ?_; first | refine GO.load1R (by assumption) (fun _ hS_ => At.mod (hb.get (o := 0 + 1) rfl) hS_ (by simp)) rfl rfl rfl ?_ | refine GO.loadNR (by assumption) (fun _ hS_ => At.mod (hb.get (o := 0 + 1) rfl) hS_ (by simp)) rfl rfl rfl rfl ?_))
  (repeat (refine GX.pure rfl ?_; first | refine GO.move rfl rfl rfl rfl ?_ | refine GO.nilCheck rfl rfl rfl rfl ?_ | refine GO.fieldAddr rfl rfl rfl rfl rfl ?_ | refine GO.ptrEqlNil rfl rfl rfl rfl rfl ?_ | refine GO.nilCheckF rfl rfl rfl rfl ?_))
  (repeat (first | refine GX.doneD ?_ | refine GX.done ?_ | refine GQ.goNormal ?_ | refine GC.seq ?_ | refine GC.skip ?_ | refine GC.block ?_ | refine GC.exit ?_ | refine GC.ret ?_ | refine GQ.goExit ?_ | refine GQ.goRet ?_ | refine GQ.inNormal ?_ | refine GQ.inExit ?_ | refine GQ.inExitNe rfl ?_ | refine GQ.inRet ?_ | refine GQ.loopExit ?_ | refine GQ.loopRet ?_ | refine GQ.cutExit ?_ | refine GQ.cutRet ?_))
  refine GC.cond rfl (fun hc => ?_) (fun hc => ?_)
  · cases hc
  · refine GC.cut (X := Bool × World) (fun _ => [(0, .pointer (some ⟨bx, 0, none⟩)), (1, .pointer (some ⟨bs, os, none⟩)), (2, .func (.func f) #[] #[])])
      (fun x w' => x.2 = w' ∧ x.1 = (bad || decide (er ≠ 0)) ∧ Blk w' bx [.pointer (some ⟨bc, 0, none⟩), .pointer (some ⟨br, 0, none⟩), .slice none 0 0, .bool x.1] ∧ RdAt w' br ba rest ∧ Upd w w' bs os [str got] ∧ Mod (fun k => Fp bx br k ∨ (true = true ∧ k = bs)) w w') ?_ ?_
    · (repeat (first | refine GX.doneD ?_ | refine GX.done ?_ | refine GQ.goNormal ?_ | refine GC.seq ?_ | refine GC.skip ?_ | refine GC.block ?_ | refine GC.exit ?_ | refine GC.ret ?_ | refine GQ.goExit ?_ | refine GQ.goRet ?_ | refine GQ.inNormal ?_ | refine GQ.inExit ?_ | refine GQ.inExitNe rfl ?_ | refine GQ.inRet ?_ | refine GQ.loopExit ?_ | refine GQ.loopRet ?_ | refine GQ.cutExit ?_ | refine GQ.cutRet ?_))
      refine GC.region (.pure 0 (.pure 1 (.pure 2 (.eff 3 (.eff 4 (.pure 5 (.pure 6 (.pure 7 (.pure 8 (.pure 9 .done)))))))))) rfl ?_
      (repeat (refine GX.pure rfl ?_; first | refine GO.move rfl rfl rfl rfl ?_ | refine GO.assign rfl rfl rfl rfl ?_ | refine GO.nilCheck rfl rfl rfl rfl ?_ | refine GO.fieldAddr rfl rfl rfl rfl rfl ?_ | refine GO.extract rfl rfl rfl rfl rfl ?_ | refine GO.nilCheckF rfl rfl rfl rfl ?_))
      (first | (refine GX.eff rfl ?_; first | refine GO.load1 (hb.get (o := 0 + 1) rfl) rfl rfl rfl ?_ | refine GO.loadN (hb.get (o := 0 + 1) rfl) rfl rfl rfl rfl ?_) | (refine GX.read rfl ?_; first | refine GO.load1R (by assumption) (fun _ hS_ => At.mod (hb.get (o := 0 + 1) rfl) hS_ (by simp)) rfl rfl rfl ?_ | refine GO.loadNR (by assumption) (fun _ hS_ => At.mod (hb.get (o := 0 + 1) rfl) hS_ (by simp)) rfl rfl rfl rfl ?_))
      (refine GX.eff rfl ?_; refine GO.callL rfl rfl rfl rfl rfl (bytes_ret br ba data (by omega) 65536 (by omega) w hR hG.a) ?_)
      rw [hx]
      dsimp only
      rintro v w1 ⟨⟨a1, c1, rfl, hB1, hF⟩, hR1, hM1⟩
      refine ⟨fun _ h => by first | trivial | exact Mod.trans h (Ext.mod (by assumption)), ?_⟩
      (repeat (refine GX.pure rfl ?_; first | refine GO.move rfl rfl rfl rfl ?_ | refine GO.assign rfl rfl rfl rfl ?_ | refine GO.nilCheck rfl rfl rfl rfl ?_ | refine GO.fieldAddr rfl rfl rfl rfl rfl ?_ | refine GO.extract rfl rfl rfl rfl rfl ?_ | refine GO.nilCheckF rfl rfl rfl rfl ?_))
      have hb1 := hb.mod hM1 h3
      have hW1 := hW.mod hM1 hbr
      (repeat (first | refine GX.doneD ?_ | refine GX.done ?_ | refine GQ.goNormal ?_ | refine GC.seq ?_ | refine GC.skip ?_ | refine GC.block ?_ | refine GC.exit ?_ | refine GC.ret ?_ | refine GQ.goExit ?_ | refine GQ.goRet ?_ | refine GQ.inNormal ?_ | refine GQ.inExit ?_ | refine GQ.inExitNe rfl ?_ | refine GQ.inRet ?_ | refine GQ.loopExit ?_ | refine GQ.loopRet ?_ | refine GQ.cutExit ?_ | refine GQ.cutRet ?_))
      refine GC.cut (X := World) (fun _ => [(0, .pointer (some ⟨bx, 0, none⟩)), (1, .pointer (some ⟨bs, os, none⟩)), (2, .func (.func f) #[] #[]), (6, .slice a1 got.length c1)]) (fun w2 w' => w2 = w' ∧ Put w1 w' bx 3 [.bool (bad || decide (er ≠ 0))]) ?_ ?_
      · refine GC.region (.pure 0 (.pure 1 (.pure 2 (.pure 3 (.eff 4 (.pure 5 (.pure 6 (.pure 7 (.pure 8 (.pure 9 (.pure 10 (.eff 11 .done)))))))))))) rfl ?_
        (repeat (refine GX.pure rfl ?_; first | refine GO.move rfl rfl rfl rfl ?_ | refine GO.nilCheck rfl rfl rfl rfl ?_ | refine GO.fieldAddr rfl rfl rfl rfl rfl ?_ | refine GO.neq rfl rfl rfl rfl rfl ?_ | refine GO.pickT rfl rfl rfl rfl rfl ?_ | refine GO.pickF rfl rfl rfl rfl rfl ?_ | refine GO.nilCheckF rfl rfl rfl rfl ?_ | refine GO.skip (.inl rfl) rfl rfl ?_))
        (first | (refine GX.eff rfl ?_; first | refine GO.load1 (hb1.get (o := 0 + 3) rfl) rfl rfl rfl ?_ | refine GO.loadN (hb1.get (o := 0 + 3) rfl) rfl rfl rfl rfl ?_) | (refine GX.read rfl ?_; first | refine GO.load1R (by assumption) (fun _ hS_ => At.mod (hb1.get (o := 0 + 3) rfl) hS_ (by simp)) rfl rfl rfl ?_ | refine GO.loadNR (by assumption) (fun _ hS_ => At.mod (hb1.get (o := 0 + 3) rfl) hS_ (by simp)) rfl rfl rfl rfl ?_))
        (repeat (refine GX.pure rfl ?_; first | refine GO.move rfl rfl rfl rfl ?_ | refine GO.nilCheck rfl rfl rfl rfl ?_ | refine GO.fieldAddr rfl rfl rfl rfl rfl ?_ | refine GO.neq rfl rfl rfl rfl rfl ?_ | refine GO.pickT rfl rfl rfl rfl rfl ?_ | refine GO.pickF rfl rfl rfl rfl rfl ?_ | refine GO.nilCheckF rfl rfl rfl rfl ?_ | refine GO.skip (.inl rfl) rfl rfl ?_))
        refine GX.case 38 rfl (fun hbad => ?_) (fun hbad => ?_)
        · subst hbad
          (repeat (refine GX.pure rfl ?_; first | refine GO.move rfl rfl rfl rfl ?_ | refine GO.nilCheck rfl rfl rfl rfl ?_ | refine GO.fieldAddr rfl rfl rfl rfl rfl ?_ | refine GO.neq rfl rfl rfl rfl rfl ?_ | refine GO.pickT rfl rfl rfl rfl rfl ?_ | refine GO.pickF rfl rfl rfl rfl rfl ?_ | refine GO.nilCheckF rfl rfl rfl rfl ?_ | refine GO.skip (.inl rfl) rfl rfl ?_))
          refine GX.eff rfl ?_
          refine GO.store (vs := [.bool true]) (hb1.wr (by simp)) rfl rfl (by simp [Value.oneCell']) rfl rfl rfl fun w3 hp => ⟨(by first | exact fun _ _ => trivial | exact late_abs (by kernel_rfl)), ?_⟩
          (repeat (first | refine GX.doneD ?_ | refine GX.done ?_ | refine GQ.goNormal ?_ | refine GC.seq ?_ | refine GC.skip ?_ | refine GC.block ?_ | refine GC.exit ?_ | refine GC.ret ?_ | refine GQ.goExit ?_ | refine GQ.goRet ?_ | refine GQ.inNormal ?_ | refine GQ.inExit ?_ | refine GQ.inExitNe rfl ?_ | refine GQ.inRet ?_ | refine GQ.loopExit ?_ | refine GQ.loopRet ?_ | refine GQ.cutExit ?_ | refine GQ.cutRet ?_))
          exact GQ.cutNormal w3 (sub_pick (l := [0, 1, 2, 6]) rfl) ⟨rfl, by simpa using hp⟩
        · subst hbad
          (repeat (refine GX.pure rfl ?_; first | refine GO.move rfl rfl rfl rfl ?_ | refine GO.nilCheck rfl rfl rfl rfl ?_ | refine GO.fieldAddr rfl rfl rfl rfl rfl ?_ | refine GO.neq rfl rfl rfl rfl rfl ?_ | refine GO.pickT rfl rfl rfl rfl rfl ?_ | refine GO.pickF rfl rfl rfl rfl rfl ?_ | refine GO.nilCheckF rfl rfl rfl rfl ?_ | refine GO.skip (.inl rfl) rfl rfl ?_))
          refine GX.eff rfl ?_
          refine GO.store (vs := [.bool (decide (er ≠ 0))]) (hb1.wr (by simp)) rfl rfl (by simp [Value.oneCell']) rfl rfl rfl fun w3 hp => ⟨(by first | exact fun _ _ => trivial | exact late_abs (by kernel_rfl)), ?_⟩
          (repeat (first | refine GX.doneD ?_ | refine GX.done ?_ | refine GQ.goNormal ?_ | refine GC.seq ?_ | refine GC.skip ?_ | refine GC.block ?_ | refine GC.exit ?_ | refine GC.ret ?_ | refine GQ.goExit ?_ | refine GQ.goRet ?_ | refine GQ.inNormal ?_ | refine GQ.inExit ?_ | refine GQ.inExitNe rfl ?_ | refine GQ.inRet ?_ | refine GQ.loopExit ?_ | refine GQ.loopRet ?_ | refine GQ.cutExit ?_ | refine GQ.cutRet ?_))
          exact GQ.cutNormal w3 (sub_pick (l := [0, 1, 2, 6]) rfl) ⟨rfl, by simpa using hp⟩
      rintro w2 _ ⟨rfl, hp⟩
      (repeat (first | refine GX.doneD ?_ | refine GX.done ?_ | refine GQ.goNormal ?_ | refine GC.seq ?_ | refine GC.skip ?_ | refine GC.block ?_ | refine GC.exit ?_ | refine GC.ret ?_ | refine GQ.goExit ?_ | refine GQ.goRet ?_ | refine GQ.inNormal ?_ | refine GQ.inExit ?_ | refine GQ.inExitNe rfl ?_ | refine GQ.inRet ?_ | refine GQ.loopExit ?_ | refine GQ.loopRet ?_ | refine GQ.cutExit ?_ | refine GQ.cutRet ?_))
      refine GC.region (.pure 0 (.pure 1 (.eff 2 (.pure 3 (.eff 4 .done))))) rfl ?_
      (repeat (refine GX.pure rfl ?_; first | refine GO.move rfl rfl rfl rfl ?_ | refine GO.nilCheck rfl rfl rfl rfl ?_ | refine GO.conv rfl rfl rfl rfl (wrapIn (by dsimp only [InK]; omega)) ?_ | refine GO.convStr rfl rfl rfl rfl ?_ | refine GO.nilCheckF rfl rfl rfl rfl ?_))
      have hW2 := hW1.mod hp.mod hbs
      have hB2 : BytesAt w2 a1 c1 got := hB1.mod hp.mod fun y hy h => by have := hF y hy; omega
      refine GX.eff rfl ?_
      refine GO.toStr' hB2.cells rfl rfl rfl rfl ?_
      (repeat (refine GX.pure rfl ?_; first | refine GO.move rfl rfl rfl rfl ?_ | refine GO.nilCheck rfl rfl rfl rfl ?_ | refine GO.conv rfl rfl rfl rfl (wrapIn (by dsimp only [InK]; omega)) ?_ | refine GO.convStr rfl rfl rfl rfl ?_ | refine GO.nilCheckF rfl rfl rfl rfl ?_))
      refine GX.eff rfl ?_
      refine GO.store (vs := [str got]) hW2 rfl rfl (by simp [Value.oneCell', str]) rfl rfl rfl fun w3 hp3 => ⟨(by first | exact fun _ _ => trivial | exact late_abs (by kernel_rfl)), ?_⟩
      (repeat (first | refine GX.doneD ?_ | refine GX.done ?_ | refine GQ.goNormal ?_ | refine GC.seq ?_ | refine GC.skip ?_ | refine GC.block ?_ | refine GC.exit ?_ | refine GC.ret ?_ | refine GQ.goExit ?_ | refine GQ.goRet ?_ | refine GQ.inNormal ?_ | refine GQ.inExit ?_ | refine GQ.inExitNe rfl ?_ | refine GQ.inRet ?_ | refine GQ.loopExit ?_ | refine GQ.loopRet ?_ | refine GQ.cutExit ?_ | refine GQ.cutRet ?_))
      refine GQ.cutNormal (bad || decide (er ≠ 0), w3) (sub_pick (l := [0, 1, 2]) rfl) ⟨rfl, rfl, ?_, ?_, (hp3.upd.pre hp.mod hbs).pre hM1 hbr, ((hM1.of fun k hk => .inl (.inr hk)).trans (hp.mod.of fun k hk => .inl (.inl hk))).trans (hp3.mod.of fun k hk => .inr ⟨rfl, hk⟩)⟩
      · have : Blk w2 bx _ := hp.blk hb1
        have := this.mod hp3.mod (fun h => hbs h.symm)
        simpa using this
      · exact (hR1.mod hp.mod (fun h => h3 h.symm) (fun b hb h => h5 (by rw [hb, h]))).mod hp3.mod (fun h => hbr h.symm) (fun b hb h => hbb (by rw [hb, h]))
    rintro ⟨bad2, w4⟩ _ ⟨rfl, hbad2, hb4, hR4, hU4, hM4⟩
    dsimp only at hbad2 hb4 hR4 hU4 hM4
    have hA4 : At w4 bs os [str got] := hU4.at hW
    rw [← hbad2]
    (repeat (first | refine GX.doneD ?_ | refine GX.done ?_ | refine GQ.goNormal ?_ | refine GC.seq ?_ | refine GC.skip ?_ | refine GC.block ?_ | refine GC.exit ?_ | refine GC.ret ?_ | refine GQ.goExit ?_ | refine GQ.goRet ?_ | refine GQ.inNormal ?_ | refine GQ.inExit ?_ | refine GQ.inExitNe rfl ?_ | refine GQ.inRet ?_ | refine GQ.loopExit ?_ | refine GQ.loopRet ?_ | refine GQ.cutExit ?_ | refine GQ.cutRet ?_))
    refine GC.region (.pure 0 (.pure 1 (.pure 2 (.pure 3 (.eff 4 (.pure 5 (.pure 6 (.pure 7 (.pure 8 (.eff 9 (.eff 10 (.pure 11 (.pure 12 (.pure 13 (.pure 14 (.eff 15 .done)))))))))))))))) rfl ?_
    (repeat (refine GX.pure rfl ?_; first | refine GO.move rfl rfl rfl rfl ?_ | refine GO.nilCheck rfl rfl rfl rfl ?_ | refine GO.fieldAddr rfl rfl rfl rfl rfl ?_ | refine GO.pickT rfl rfl rfl rfl rfl ?_ | refine GO.pickF rfl rfl rfl rfl rfl ?_ | refine GO.not rfl rfl rfl rfl ?_ | refine GO.nilCheckF rfl rfl rfl rfl ?_ | refine GO.skip (.inl rfl) rfl rfl ?_))
    (first | (refine GX.eff rfl ?_; first | refine GO.load1 (hb4.get (o := 0 + 3) rfl) rfl rfl rfl ?_ | refine GO.loadN (hb4.get (o := 0 + 3) rfl) rfl rfl rfl rfl ?_) | (refine GX.read rfl ?_; first | refine GO.load1R (by assumption) (fun _ hS_ => At.mod (hb4.get (o := 0 + 3) rfl) hS_ (by simp)) rfl rfl rfl ?_ | refine GO.loadNR (by assumption) (fun _ hS_ => At.mod (hb4.get (o := 0 + 3) rfl) hS_ (by simp)) rfl rfl rfl rfl ?_))
    (repeat (refine GX.pure rfl ?_; first | refine GO.move rfl rfl rfl rfl ?_ | refine GO.nilCheck rfl rfl rfl rfl ?_ | refine GO.fieldAddr rfl rfl rfl rfl rfl ?_ | refine GO.pickT rfl rfl rfl rfl rfl ?_ | refine GO.pickF rfl rfl rfl rfl rfl ?_ | refine GO.not rfl rfl rfl rfl ?_ | refine GO.nilCheckF rfl rfl rfl rfl ?_ | refine GO.skip (.inl rfl) rfl rfl ?_))
    have fin : ∀ w5, Ext w4 w5 → ∀ w6, Put w5 w6 bx 3 [.bool (bad2 || !ok got)] →
        Cx w6 bx bc br ba ⟨true, rest, bad2 || !ok got⟩ ∧ Upd w w6 bs os [str got] ∧ Mod (fun k => Fp bx br k ∨ (true = true ∧ k = bs)) w w6 := by
      intro w5 hE5 w6 hp
      have hb5 := hb4.ext hE5
      refine ⟨⟨hG.le ?_, ?_, (hR4.mod hE5 id (fun _ _ => id)).mod hp.mod (fun h => h3 h.symm) (fun b hb h => h5 (by rw [hb, h])), h3, h5⟩, ?_, ?_⟩
      · rw [hp.size]; have := hM4.size; have := hE5.size; omega
      · have := hp.blk hb5
        simpa using this
      · exact (hU4.post hE5 id).post hp.mod hbs
      · exact (hM4.trans (Ext.mod hE5)).trans (hp.mod.of fun k hk => .inl (.inl hk))
    clear hbad2
    refine GX.case 53 rfl (fun hbad => ?_) (fun hbad => ?_)
    · subst hbad
      (repeat (refine GX.pure rfl ?_; first | refine GO.move rfl rfl rfl rfl ?_ | refine GO.nilCheck rfl rfl rfl rfl ?_ | refine GO.fieldAddr rfl rfl rfl rfl rfl ?_ | refine GO.pickT rfl rfl rfl rfl rfl ?_ | refine GO.pickF rfl rfl rfl rfl rfl ?_ | refine GO.not rfl rfl rfl rfl ?_ | refine GO.nilCheckF rfl rfl rfl rfl ?_ | refine GO.skip (.inl rfl) rfl rfl ?_))
      refine GX.eff rfl ?_
      refine GO.skip (.inr rfl) rfl rfl ?_
      refine GX.eff rfl ?_
      refine GO.skip (.inr rfl) rfl rfl ?_
      (repeat (refine GX.pure rfl ?_; first | refine GO.move rfl rfl rfl rfl ?_ | refine GO.nilCheck rfl rfl rfl rfl ?_ | refine GO.fieldAddr rfl rfl rfl rfl rfl ?_ | refine GO.pickT rfl rfl rfl rfl rfl ?_ | refine GO.pickF rfl rfl rfl rfl rfl ?_ | refine GO.not rfl rfl rfl rfl ?_ | refine GO.nilCheckF rfl rfl rfl rfl ?_ | refine GO.skip (.inl rfl) rfl rfl ?_))
      refine GX.eff rfl ?_
      refine GO.store (vs := [.bool true]) (hb4.wr (by simp)) rfl rfl (by simp [Value.oneCell']) rfl rfl rfl fun w6 hp => ⟨(by first | exact fun _ _ => trivial | exact late_abs (by kernel_rfl)), ?_⟩
      (repeat (first | refine GX.doneD ?_ | refine GX.done ?_ | refine GQ.goNormal ?_ | refine GC.seq ?_ | refine GC.skip ?_ | refine GC.block ?_ | refine GC.exit ?_ | refine GC.ret ?_ | refine GQ.goExit ?_ | refine GQ.goRet ?_ | refine GQ.inNormal ?_ | refine GQ.inExit ?_ | refine GQ.inExitNe rfl ?_ | refine GQ.inRet ?_ | refine GQ.loopExit ?_ | refine GQ.loopRet ?_ | refine GQ.cutExit ?_ | refine GQ.cutRet ?_))
      refine GQ.ret0 (by first | exact .inl rfl | exact .inr rfl) rfl ?_
      exact ⟨rfl, fin w4 (Mod.refl _) w6 (by simpa using hp)⟩
    · subst hbad
      (repeat (refine GX.pure rfl ?_; first | refine GO.move rfl rfl rfl rfl ?_ | refine GO.nilCheck rfl rfl rfl rfl ?_ | refine GO.fieldAddr rfl rfl rfl rfl rfl ?_ | refine GO.pickT rfl rfl rfl rfl rfl ?_ | refine GO.pickF rfl rfl rfl rfl rfl ?_ | refine GO.not rfl rfl rfl rfl ?_ | refine GO.nilCheckF rfl rfl rfl rfl ?_ | refine GO.skip (.inl rfl) rfl rfl ?_))
      (first | (refine GX.eff rfl ?_; first | refine GO.load1 (hA4) rfl rfl rfl ?_ | refine GO.loadN (hA4) rfl rfl rfl rfl ?_) | (refine GX.read rfl ?_; first | refine GO.load1R (by assumption) (fun _ hS_ => At.mod (hA4) hS_ (by simp)) rfl rfl rfl ?_ | refine GO.loadNR (by assumption) (fun _ hS_ => At.mod (hA4) hS_ (by simp)) rfl rfl rfl rfl ?_))
      (refine GX.eff rfl ?_; refine GO.callL rfl rfl rfl rfl rfl (hf got w4) ?_)
      rintro v w5 ⟨rfl, hE5⟩
      refine ⟨fun _ h => by first | trivial | exact Mod.trans h (Ext.mod (by assumption)), ?_⟩
      (repeat (refine GX.pure rfl ?_; first | refine GO.move rfl rfl rfl rfl ?_ | refine GO.nilCheck rfl rfl rfl rfl ?_ | refine GO.fieldAddr rfl rfl rfl rfl rfl ?_ | refine GO.pickT rfl rfl rfl rfl rfl ?_ | refine GO.pickF rfl rfl rfl rfl rfl ?_ | refine GO.not rfl rfl rfl rfl ?_ | refine GO.nilCheckF rfl rfl rfl rfl ?_ | refine GO.skip (.inl rfl) rfl rfl ?_))
      have hb5 := hb4.ext hE5
      refine GX.eff rfl ?_
      refine GO.store (vs := [.bool (!ok got)]) (hb5.wr (by simp)) rfl rfl (by simp [Value.oneCell']) rfl rfl rfl fun w6 hp => ⟨(by first | exact fun _ _ => trivial | exact late_abs (by kernel_rfl)), ?_⟩
      (repeat (first | refine GX.doneD ?_ | refine GX.done ?_ | refine GQ.goNormal ?_ | refine GC.seq ?_ | refine GC.skip ?_ | refine GC.block ?_ | refine GC.exit ?_ | refine GC.ret ?_ | refine GQ.goExit ?_ | refine GQ.goRet ?_ | refine GQ.inNormal ?_ | refine GQ.inExit ?_ | refine GQ.inExitNe rfl ?_ | refine GQ.inRet ?_ | refine GQ.loopExit ?_ | refine GQ.loopRet ?_ | refine GQ.cutExit ?_ | refine GQ.cutRet ?_))
      refine GQ.ret0 (by first | exact .inl rfl | exact .inr rfl) rfl ?_
      exact ⟨rfl, fin w5 hE5 w6 (by simpa using hp)⟩

/-- A part, in either mode. -/
theorem part_ret (f : FuncId) [CaF Try.prog f] (ok : List UInt8 → Bool) (hf : Tells f ok) (bx bc br : Nat) (ba : Option Nat) (st : St) (s : List UInt8) (bs os : Nat) (w : World) (hC : Cx w bx bc br ba st) (hA : At w bs os [str s]) (hW : Wr w bs os 1) (hl : st.data.length < 2 ^ 38) (hs : s.length < 2 ^ 38) (hbs : bs ≠ bx) (hbr : bs ≠ br) (hbb : ba ≠ some bs) :
    Ret Try.prog 54 [.pointer (some ⟨bx, 0, none⟩), .pointer (some ⟨bs, os, none⟩), .func (.func f) #[] #[]].toArray w
      fun v w' => v = .tuple #[] ∧ Cx w' bx bc br ba (doPart ok st s).1 ∧ Upd w w' bs os [str (doPart ok st s).2] ∧ Mod (fun k => Fp bx br k ∨ (st.read = true ∧ k = bs)) w w' := by
  by_cases hrd : st.read = true
  · exact partR_ret f ok hf bx bc br ba st hrd s bs os w hC hW hl hbs hbr hbb
  · exact partW_ret f ok hf bx bc br ba st (by simpa using hrd) s bs os w hC hA hl hs hbs
end Go.Proofs.Ytahkglanddhncaa.V
