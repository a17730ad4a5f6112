/-
  What a codec's functions for a number, a part, a lifetime and a value compute, in both modes (package request). Conditions: the lengths of what is read and made stay below 2^38; the blocks of the codec, the command, the reader and the variables are different ones.
-/
import Derived.Test.YtahkglanddhncaaWg
namespace Go.Proofs.Ytahkglanddhncaa.V
attribute [local irreducible] GX GO

theorem late_abs {ops : Array Oper} {i : Nat} {p : Prop} (h : lateIx ops i = true) : lateIx ops i = false → p := fun h' => by rw [h] at h'; cases h'

/-- The state of a codec: whether it reads; what is left to read, or has been written; whether a part was not allowed. -/
structure St where
  read : Bool
  data : List UInt8
  bad : Bool
deriving DecidableEq

def doNum (st : St) (n : Nat) : St × Nat :=
  if st.read then ({ st with data := (rdNum st.data).2.1, bad := st.bad || decide ((rdNum st.data).2.2 ≠ 0) }, (rdNum st.data).1)
  else ({ st with data := st.data ++ putN n }, n)
def doPart (ok : List UInt8 → Bool) (st : St) (s : List UInt8) : St × List UInt8 :=
  if st.read then ({ st with data := (rdBytes st.data 65536).2.1, bad := (st.bad || decide ((rdBytes st.data 65536).2.2 ≠ 0)) || !ok (rdBytes st.data 65536).1 }, (rdBytes st.data 65536).1)
  else ({ st with data := st.data ++ putN s.length ++ s, bad := st.bad || !ok s }, s)
theorem doNum_read (st : St) (n : Nat) : (doNum st n).1.read = st.read := by unfold doNum; split <;> rfl
theorem doPart_read (ok : List UInt8 → Bool) (st : St) (s : List UInt8) : (doPart ok st s).1.read = st.read := by unfold doPart; split <;> rfl
theorem doNum_len (st : St) (n : Nat) : (doNum st n).1.data.length ≤ st.data.length + 11 := by
  unfold doNum
  split
  · have := rdNum_le st.data; simp; omega
  · have := putN_length n; simp; omega
theorem doPart_len (ok : List UInt8 → Bool) (st : St) (s : List UInt8) : (doPart ok st s).1.data.length ≤ st.data.length + 11 + s.length := by
  unfold doPart
  split
  · have := rdBytes_le st.data 65536; simp; omega
  · have := putN_length s.length; simp; omega

/-- The blocks of a codec's things are there, and different ones. -/
structure Gen (w : World) (bx bc br : Nat) (ba : Option Nat) : Prop where
  xc : bx ≠ bc
  cr : bc ≠ br
  ac : ba ≠ some bc
  c : bc < w.heap.size
  r : br < w.heap.size
  a : ∀ b, ba = some b → b < w.heap.size
theorem Gen.le {w w' : World} {bx bc br : Nat} {ba : Option Nat} (h : Gen w bx bc br ba) (hs : w.heap.size ≤ w'.heap.size) : Gen w' bx bc br ba := ⟨h.xc, h.cr, h.ac, Nat.lt_of_lt_of_le h.c hs, Nat.lt_of_lt_of_le h.r hs, fun b hb => Nat.lt_of_lt_of_le (h.a b hb) hs⟩

/-- A codec in block bx, for the command in block bc, with the reader in block br (if it reads), whose bytes lie in block ba. -/
def Cx (w : World) (bx bc br : Nat) (ba : Option Nat) (st : St) : Prop :=
  Gen w bx bc br ba ∧
  match st.read with
  | true => Blk w bx [.pointer (some ⟨bc, 0, none⟩), .pointer (some ⟨br, 0, none⟩), .slice none 0 0, .bool st.bad] ∧ RdAt w br ba st.data ∧ bx ≠ br ∧ ba ≠ some bx
  | false => ∃ oa oc, Blk w bx [.pointer (some ⟨bc, 0, none⟩), .pointer none, .slice oa st.data.length oc, .bool st.bad] ∧ BytesAt w oa oc st.data ∧ ∀ y, oa = some y → y.block ≠ bx ∧ y.block ≠ bc ∧ bx ≤ y.block
/-- The blocks that the codec itself writes. -/
def Fp (bx br : Nat) (k : Nat) : Prop := k = bx ∨ k = br
theorem Cx.mod {S : Nat → Prop} {w w' : World} {bx bc br : Nat} {ba : Option Nat} {st : St} (h : Cx w bx bc br ba st) (hm : Mod S w w') (h1 : ¬ S bx) (h2 : ¬ S br) (h3 : ∀ k, S k → k = bc ∨ w.heap.size ≤ k) : Cx w' bx bc br ba st := by
  obtain ⟨hG, h⟩ := h
  refine ⟨hG.le hm.size, ?_⟩
  cases hr : st.read with
  | true =>
    rw [hr] at h
    obtain ⟨a1, a2, a3, a5⟩ := h
    exact ⟨a1.mod hm h1, a2.mod hm h2 (fun b hb hS => by
      rcases h3 b hS with h | h
      · subst h; exact hG.ac hb
      · have := hG.a b hb; omega), a3, a5⟩
  | false =>
    rw [hr] at h
    obtain ⟨oa, oc, a1, a2, a3⟩ := h
    refine ⟨oa, oc, a1.mod hm h1, ?_, a3⟩
    refine ⟨?_, a2.cap, a2.nil, fun x hx hne => Nat.lt_of_lt_of_le (a2.lt x hx hne) hm.size⟩
    have hc := a2.cells
    match oa, hc, a3 with
    | none, hc, _ => exact hc
    | some ⟨b, o, none⟩, hc, a3 =>
      intro i v hv
      refine hm.cell (hc i v hv) fun hS => ?_
      rcases h3 b hS with h | h
      · exact (a3 _ rfl).2.1 h
      · have := block_lt_of_cell (hc i v hv); simp at this; omega
    | some ⟨_, _, some _⟩, hc, _ => exact hc
theorem Cx.blk {w : World} {bx bc br : Nat} {ba : Option Nat} {st : St} (h : Cx w bx bc br ba st) : bx < w.heap.size ∧ bc < w.heap.size := by
  obtain ⟨hG, h⟩ := h
  refine ⟨?_, hG.c⟩
  cases hr : st.read with
  | true => rw [hr] at h; exact h.1.lt
  | false => rw [hr] at h; obtain ⟨_, _, h, _⟩ := h; exact h.lt

theorem upd_same {w : World} {b o : Nat} {v : Value} (h : At w b o [v]) : Upd w w b o [v] := by
  intro c t fr hb
  have h0 := h 0 v rfl
  rw [cell_of_row w b _ _ t fr hb] at h0
  rw [hb]
  congr 2
  apply Array.toList_inj.1
  simp only [List.length_cons, List.length_nil]
  have hlt : o < c.toList.length := by
    have := (Array.getElem?_eq_some_iff.1 h0).1; simp; omega
  have hg : c.toList[o] = v := by
    have := (Array.getElem?_eq_some_iff.1 h0).2; simpa using this
  have := List.take_append_drop o c.toList
  conv => lhs; rw [← this]
  rw [List.drop_eq_getElem_cons hlt, hg]
  simp

set_option maxHeartbeats 1000000 in
theorem numW_ret (bx bc br : Nat) (ba : Option Nat) (st : St) (hrd : st.read = false) (n : Nat) (hn : n < 18446744073709551616) (bn on : Nat) (w : World) (hC : Cx w bx bc br ba st) (hA : At w bn on [.int .u64 n]) (hl : st.data.length < 2 ^ 38) (hbn : bn ≠ bx) :
    Ret Try.prog 60 [.pointer (some ⟨bx, 0, none⟩), .pointer (some ⟨bn, on, none⟩)].toArray w
      fun v w' => v = .tuple #[] ∧ Cx w' bx bc br ba (doNum st n).1 ∧ Upd w w' bn on [.int .u64 (doNum st n).2] ∧ Mod (fun k => Fp bx br k ∨ (st.read = true ∧ k = bn)) w w' := by
  obtain ⟨rd, data, bad⟩ := st
  dsimp only at hrd hl
  subst hrd
  obtain ⟨hG, oa, oc, hb, hB, hx⟩ := hC
  have hlt := hG.c
  have hbx := hb.lt
  
  refine Ret.enter Try.func60 rfl Try.ntmps60 rfl ?_
  (repeat (first | refine GX.doneD ?_ | refine GX.done ?_ | refine GQ.goNormal ?_ | refine GC.seq ?_ | refine GC.skip ?_ | refine GC.block ?_ | refine GC.exit ?_ | refine GC.ret ?_ | refine GQ.goExit ?_ | refine GQ.goRet ?_ | refine GQ.inNormal ?_ | refine GQ.inExit ?_ | refine GQ.inExitNe rfl ?_ | refine GQ.inRet ?_ | refine GQ.loopExit ?_ | refine GQ.loopRet ?_ | refine GQ.cutExit ?_ | refine GQ.cutRet ?_))
  refine GC.region (.pure 0 (.pure 1 (.pure 2 (.eff 3 (.pure 4 .done))))) rfl ?_
  (repeat (refine GX.pure rfl ?_; first | refine GO.move rfl rfl rfl rfl ?_ | refine GO.nilCheck rfl rfl rfl rfl ?_ | refine GO.fieldAddr rfl rfl rfl rfl rfl ?_ | refine GO.ptrEqlNil rfl rfl rfl rfl rfl ?_ | refine GO.nilCheckF rfl rfl rfl rfl ?_))
  (first | (refine GX.eff rfl ?_; first | refine GO.load1 (hb.get (o := 0 + 1) rfl) rfl rfl rfl ?_ | refine GO.loadN (hb.get (o := 0 + 1) rfl) rfl rfl rfl rfl ?_) | (refine GX.read rfl ?_; first | refine GO.load1R (by assumption) (fun _ hS_ => At.mod (hb.get (o := 0 + 1) rfl) hS_ (by simp)) rfl rfl rfl ?_ | refine GO.loadNR (by assumption) (fun _ hS_ => At.mod (hb.get (o := 0 + 1) rfl) hS_ (by simp)) rfl rfl rfl rfl ?_))
  (repeat (refine GX.pure rfl ?_; first | refine GO.move rfl rfl rfl rfl ?_ | refine GO.nilCheck rfl rfl rfl rfl ?_ | refine GO.fieldAddr rfl rfl rfl rfl rfl ?_ | refine GO.ptrEqlNil rfl rfl rfl rfl rfl ?_ | refine GO.nilCheckF rfl rfl rfl rfl ?_))
  (repeat (first | refine GX.doneD ?_ | refine GX.done ?_ | refine GQ.goNormal ?_ | refine GC.seq ?_ | refine GC.skip ?_ | refine GC.block ?_ | refine GC.exit ?_ | refine GC.ret ?_ | refine GQ.goExit ?_ | refine GQ.goRet ?_ | refine GQ.inNormal ?_ | refine GQ.inExit ?_ | refine GQ.inExitNe rfl ?_ | refine GQ.inRet ?_ | refine GQ.loopExit ?_ | refine GQ.loopRet ?_ | refine GQ.cutExit ?_ | refine GQ.cutRet ?_))
  refine GC.cond rfl (fun hc => ?_) (fun hc => ?_)
  · (repeat (first | refine GX.doneD ?_ | refine GX.done ?_ | refine GQ.goNormal ?_ | refine GC.seq ?_ | refine GC.skip ?_ | refine GC.block ?_ | refine GC.exit ?_ | refine GC.ret ?_ | refine GQ.goExit ?_ | refine GQ.goRet ?_ | refine GQ.inNormal ?_ | refine GQ.inExit ?_ | refine GQ.inExitNe rfl ?_ | refine GQ.inRet ?_ | refine GQ.loopExit ?_ | refine GQ.loopRet ?_ | refine GQ.cutExit ?_ | refine GQ.cutRet ?_))
    refine GC.regionD (.pure 0 (.pure 1 (.pure 2 (.pure 3 (.pure 5 (.pure 6 (.read 4 (.read 7 (.eff 8 (.pure 9 (.pure 10 (.eff 11 .done)))))))))))) (fun _ => False) mixed (by kernel_rfl) (by kernel_rfl) ?_
    intro w1 _ hE1
    have hS : Mod (fun _ => False) w w1 := hE1
    (repeat (refine GX.pure rfl ?_; first | refine GO.move rfl rfl rfl rfl ?_ | refine GO.nilCheck rfl rfl rfl rfl ?_ | refine GO.fieldAddr rfl rfl rfl rfl rfl ?_ | refine GO.nilCheckF rfl rfl rfl rfl ?_))
    (first | (refine GX.eff rfl ?_; first | refine GO.load1 (hb.get (o := 0 + 2) rfl) rfl rfl rfl ?_ | refine GO.loadN (hb.get (o := 0 + 2) rfl) rfl rfl rfl rfl ?_) | (refine GX.read rfl ?_; first | refine GO.load1R (by assumption) (fun _ hS_ => At.mod (hb.get (o := 0 + 2) rfl) hS_ (by simp)) rfl rfl rfl ?_ | refine GO.loadNR (by assumption) (fun _ hS_ => At.mod (hb.get (o := 0 + 2) rfl) hS_ (by simp)) rfl rfl rfl rfl ?_))
    (first | (refine GX.eff rfl ?_; first | refine GO.load1 (hA) rfl rfl rfl ?_ | refine GO.loadN (hA) rfl rfl rfl rfl ?_) | (refine GX.read rfl ?_; first | refine GO.load1R (by assumption) (fun _ hS_ => At.mod (hA) hS_ (by simp)) rfl rfl rfl ?_ | refine GO.loadNR (by assumption) (fun _ hS_ => At.mod (hA) hS_ (by simp)) rfl rfl rfl rfl ?_))
    (repeat (refine GX.pure rfl ?_; first | refine GO.move rfl rfl rfl rfl ?_ | refine GO.nilCheck rfl rfl rfl rfl ?_ | refine GO.fieldAddr rfl rfl rfl rfl rfl ?_ | refine GO.nilCheckF rfl rfl rfl rfl ?_))
    (refine GX.eff rfl ?_; refine GO.callL rfl rfl rfl rfl rfl (put_ret data n hn _ rfl (by omega) oa oc w1 (hB.ext hE1)) ?_)
    rintro v w2 ⟨⟨ob, a1, c1, rfl, hO, hF1, hF2⟩, hE2⟩
    refine ⟨fun _ h => by first | trivial | exact Mod.trans h (Ext.mod (by assumption)), ?_⟩
    (repeat (refine GX.pure rfl ?_; first | refine GO.move rfl rfl rfl rfl ?_ | refine GO.nilCheck rfl rfl rfl rfl ?_ | refine GO.fieldAddr rfl rfl rfl rfl rfl ?_ | refine GO.nilCheckF rfl rfl rfl rfl ?_))
    have hb2 := (hb.ext hE1).ext hE2
    refine GX.eff rfl ?_
    refine GO.store (vs := [.slice a1 (data ++ putN n).length c1]) (hb2.wr (by simp)) rfl rfl (by simp [Value.oneCell']) rfl rfl rfl fun w3 hp => ⟨(by first | exact fun _ _ => trivial | exact late_abs (by kernel_rfl)), ?_⟩
    (repeat (first | refine GX.doneD ?_ | refine GX.done ?_ | refine GQ.goNormal ?_ | refine GC.seq ?_ | refine GC.skip ?_ | refine GC.block ?_ | refine GC.exit ?_ | refine GC.ret ?_ | refine GQ.goExit ?_ | refine GQ.goRet ?_ | refine GQ.inNormal ?_ | refine GQ.inExit ?_ | refine GQ.inExitNe rfl ?_ | refine GQ.inRet ?_ | refine GQ.loopExit ?_ | refine GQ.loopRet ?_ | refine GQ.cutExit ?_ | refine GQ.cutRet ?_))
    refine GQ.ret0 (by first | exact .inl rfl | exact .inr rfl) rfl ?_
    have hE := hE1.trans hE2
    have hfr : ∀ y, a1 = some y → w.heap.size ≤ y.block := fun y hy => Nat.le_trans hE1.size (hF1 _ (hF2 y hy))
    refine ⟨rfl, ⟨hG.le ?_, a1, c1, ?_, (hO.bytes hF2).mod hp.mod (fun y hy h => ?_), fun y hy => ?_⟩, ?_, ?_⟩
    · rw [hp.size]; exact hE.size
    · have := hp.blk hb2
      simpa [doNum] using this
    · have := hfr y hy; omega
    · have := hfr y hy; omega
    · exact ((upd_same hA).post hE id).post hp.mod hbn
    · exact (Ext.mod hE).trans (hp.mod.of fun k hk => .inl (.inl hk))
  · cases hc

set_option maxHeartbeats 1000000 in
theorem numR_ret (bx bc br : Nat) (ba : Option Nat) (st : St) (hrd : st.read = true) (n : Nat) (bn on : Nat) (w : World) (hC : Cx w bx bc br ba st) (hW : Wr w bn on 1) (hl : st.data.length < 2 ^ 38) (hbn : bn ≠ bx) (hbr : bn ≠ br) (hbb : ba ≠ some bn) :
    Ret Try.prog 60 [.pointer (some ⟨bx, 0, none⟩), .pointer (some ⟨bn, on, none⟩)].toArray w
      fun v w' => v = .tuple #[] ∧ Cx w' bx bc br ba (doNum st n).1 ∧ Upd w w' bn on [.int .u64 (doNum st n).2] ∧ Mod (fun k => Fp bx br k ∨ (st.read = true ∧ k = bn)) w w' := by
  obtain ⟨rd, data, bad⟩ := st
  dsimp only at hrd hl
  subst hrd
  obtain ⟨hG, hb, hR, h3, h5⟩ := hC
  have hbx := hb.lt
  
  refine Ret.enter Try.func60 rfl Try.ntmps60 rfl ?_
  (repeat (first | refine GX.doneD ?_ | refine GX.done ?_ | refine GQ.goNormal ?_ | refine GC.seq ?_ | refine GC.skip ?_ | refine GC.block ?_ | refine GC.exit ?_ | refine GC.ret ?_ | refine GQ.goExit ?_ | refine GQ.goRet ?_ | refine GQ.inNormal ?_ | refine GQ.inExit ?_ | refine GQ.inExitNe rfl ?_ | refine GQ.inRet ?_ | refine GQ.loopExit ?_ | refine GQ.loopRet ?_ | refine GQ.cutExit ?_ | refine GQ.cutRet ?_))
  refine GC.region (.pure 0 (.pure 1 (.pure 2 (.eff 3 (.pure 4 .done))))) rfl ?_
  (repeat (refine GX.pure rfl ?_; first | refine GO.move rfl rfl rfl rfl ?_ | refine GO.nilCheck rfl rfl rfl rfl ?_ | refine GO.fieldAddr rfl rfl rfl rfl rfl ?_ | refine GO.ptrEqlNil rfl rfl rfl rfl rfl ?_ | refine GO.nilCheckF rfl rfl rfl rfl ?_))
  (first | (refine GX.eff rfl ?_; first | refine GO.load1 (hb.get (o := 0 + 1) rfl) rfl rfl rfl ?_ | refine GO.loadN (hb.get (o := 0 + 1) rfl) rfl rfl rfl rfl ?_) | (refine GX.read rfl ?_; first | refine GO.load1R (by assumption) (fun _ hS_ => At.mod (hb.get (o := 0 + 1) rfl) hS_ (by simp)) rfl rfl rfl ?_ | refine GO.loadNR (by assumption) (fun _ hS_ => At.mod (hb.get (o := 0 + 1) rfl) hS_ (by simp)) rfl rfl rfl rfl ?_))
  (repeat (refine GX.pure rfl ?_; first | refine GO.move rfl rfl rfl rfl ?_ | refine GO.nilCheck rfl rfl rfl rfl ?_ | refine GO.fieldAddr rfl rfl rfl rfl rfl ?_ | refine GO.ptrEqlNil rfl rfl rfl rfl rfl ?_ | refine GO.nilCheckF rfl rfl rfl rfl ?_))
  (repeat (first | refine GX.doneD ?_ | refine GX.done ?_ | refine GQ.goNormal ?_ | refine GC.seq ?_ | refine GC.skip ?_ | refine GC.block ?_ | refine GC.exit ?_ | refine GC.ret ?_ | refine GQ.goExit ?_ | refine GQ.goRet ?_ | refine GQ.inNormal ?_ | refine GQ.inExit ?_ | refine GQ.inExitNe rfl ?_ | refine GQ.inRet ?_ | refine GQ.loopExit ?_ | refine GQ.loopRet ?_ | refine GQ.cutExit ?_ | refine GQ.cutRet ?_))
  refine GC.cond rfl (fun hc => ?_) (fun hc => ?_)
  · cases hc
  · (repeat (first | refine GX.doneD ?_ | refine GX.done ?_ | refine GQ.goNormal ?_ | refine GC.seq ?_ | refine GC.skip ?_ | refine GC.block ?_ | refine GC.exit ?_ | refine GC.ret ?_ | refine GQ.goExit ?_ | refine GQ.goRet ?_ | refine GQ.inNormal ?_ | refine GQ.inExit ?_ | refine GQ.inExitNe rfl ?_ | refine GQ.inRet ?_ | refine GQ.loopExit ?_ | refine GQ.loopRet ?_ | refine GQ.cutExit ?_ | refine GQ.cutRet ?_))
    refine GC.region (.pure 0 (.pure 1 (.pure 2 (.eff 3 (.eff 4 (.pure 5 (.pure 6 (.pure 7 (.pure 8 (.pure 9 .done)))))))))) rfl ?_
    (repeat (refine GX.pure rfl ?_; first | refine GO.move rfl rfl rfl rfl ?_ | refine GO.assign rfl rfl rfl rfl ?_ | refine GO.nilCheck rfl rfl rfl rfl ?_ | refine GO.fieldAddr rfl rfl rfl rfl rfl ?_ | refine GO.extract rfl rfl rfl rfl rfl ?_ | refine GO.nilCheckF rfl rfl rfl rfl ?_))
    (first | (refine GX.eff rfl ?_; first | refine GO.load1 (hb.get (o := 0 + 1) rfl) rfl rfl rfl ?_ | refine GO.loadN (hb.get (o := 0 + 1) rfl) rfl rfl rfl rfl ?_) | (refine GX.read rfl ?_; first | refine GO.load1R (by assumption) (fun _ hS_ => At.mod (hb.get (o := 0 + 1) rfl) hS_ (by simp)) rfl rfl rfl ?_ | refine GO.loadNR (by assumption) (fun _ hS_ => At.mod (hb.get (o := 0 + 1) rfl) hS_ (by simp)) rfl rfl rfl rfl ?_))
    (refine GX.eff rfl ?_; refine GO.callL rfl rfl rfl rfl rfl (number_ret br ba data (by omega) w hR) ?_)
    rintro v w1 ⟨rfl, hR1, hM1⟩
    refine ⟨fun _ h => by first | trivial | exact Mod.trans h (Ext.mod (by assumption)), ?_⟩
    (repeat (refine GX.pure rfl ?_; first | refine GO.move rfl rfl rfl rfl ?_ | refine GO.assign rfl rfl rfl rfl ?_ | refine GO.nilCheck rfl rfl rfl rfl ?_ | refine GO.fieldAddr rfl rfl rfl rfl rfl ?_ | refine GO.extract rfl rfl rfl rfl rfl ?_ | refine GO.nilCheckF rfl rfl rfl rfl ?_))
    have hb1 := hb.mod hM1 h3
    have hW1 := hW.mod hM1 hbr
    (repeat (first | refine GX.doneD ?_ | refine GX.done ?_ | refine GQ.goNormal ?_ | refine GC.seq ?_ | refine GC.skip ?_ | refine GC.block ?_ | refine GC.exit ?_ | refine GC.ret ?_ | refine GQ.goExit ?_ | refine GQ.goRet ?_ | refine GQ.inNormal ?_ | refine GQ.inExit ?_ | refine GQ.inExitNe rfl ?_ | refine GQ.inRet ?_ | refine GQ.loopExit ?_ | refine GQ.loopRet ?_ | refine GQ.cutExit ?_ | refine GQ.cutRet ?_))
    -- the flag
    refine GC.cut (X := World) (fun _ => [(1, .pointer (some ⟨bn, on, none⟩)), (4, .int .u64 (rdNum data).1)]) (fun w2 w' => w2 = w' ∧ Put w1 w' bx 3 [.bool (bad || decide ((rdNum data).2.2 ≠ 0))]) ?_ ?_
    · refine GC.region (.pure 0 (.pure 1 (.pure 2 (.pure 3 (.eff 4 (.pure 5 (.pure 6 (.pure 7 (.pure 8 (.pure 9 (.pure 10 (.eff 11 .done)))))))))))) rfl ?_
      (repeat (refine GX.pure rfl ?_; first | refine GO.move rfl rfl rfl rfl ?_ | refine GO.nilCheck rfl rfl rfl rfl ?_ | refine GO.fieldAddr rfl rfl rfl rfl rfl ?_ | refine GO.neq rfl rfl rfl rfl rfl ?_ | refine GO.pickT rfl rfl rfl rfl rfl ?_ | refine GO.pickF rfl rfl rfl rfl rfl ?_ | refine GO.nilCheckF rfl rfl rfl rfl ?_ | refine GO.skip (.inl rfl) rfl rfl ?_))
      (first | (refine GX.eff rfl ?_; first | refine GO.load1 (hb1.get (o := 0 + 3) rfl) rfl rfl rfl ?_ | refine GO.loadN (hb1.get (o := 0 + 3) rfl) rfl rfl rfl rfl ?_) | (refine GX.read rfl ?_; first | refine GO.load1R (by assumption) (fun _ hS_ => At.mod (hb1.get (o := 0 + 3) rfl) hS_ (by simp)) rfl rfl rfl ?_ | refine GO.loadNR (by assumption) (fun _ hS_ => At.mod (hb1.get (o := 0 + 3) rfl) hS_ (by simp)) rfl rfl rfl rfl ?_))
      (repeat (refine GX.pure rfl ?_; first | refine GO.move rfl rfl rfl rfl ?_ | refine GO.nilCheck rfl rfl rfl rfl ?_ | refine GO.fieldAddr rfl rfl rfl rfl rfl ?_ | refine GO.neq rfl rfl rfl rfl rfl ?_ | refine GO.pickT rfl rfl rfl rfl rfl ?_ | refine GO.pickF rfl rfl rfl rfl rfl ?_ | refine GO.nilCheckF rfl rfl rfl rfl ?_ | refine GO.skip (.inl rfl) rfl rfl ?_))
      refine GX.case 35 rfl (fun hbad => ?_) (fun hbad => ?_)
      · subst hbad
        (repeat (refine GX.pure rfl ?_; first | refine GO.move rfl rfl rfl rfl ?_ | refine GO.nilCheck rfl rfl rfl rfl ?_ | refine GO.fieldAddr rfl rfl rfl rfl rfl ?_ | refine GO.neq rfl rfl rfl rfl rfl ?_ | refine GO.pickT rfl rfl rfl rfl rfl ?_ | refine GO.pickF rfl rfl rfl rfl rfl ?_ | refine GO.nilCheckF rfl rfl rfl rfl ?_ | refine GO.skip (.inl rfl) rfl rfl ?_))
        refine GX.eff rfl ?_
        refine GO.store (vs := [.bool true]) (hb1.wr (by simp)) rfl rfl (by simp [Value.oneCell']) rfl rfl rfl fun w3 hp => ⟨(by first | exact fun _ _ => trivial | exact late_abs (by kernel_rfl)), ?_⟩
        (repeat (first | refine GX.doneD ?_ | refine GX.done ?_ | refine GQ.goNormal ?_ | refine GC.seq ?_ | refine GC.skip ?_ | refine GC.block ?_ | refine GC.exit ?_ | refine GC.ret ?_ | refine GQ.goExit ?_ | refine GQ.goRet ?_ | refine GQ.inNormal ?_ | refine GQ.inExit ?_ | refine GQ.inExitNe rfl ?_ | refine GQ.inRet ?_ | refine GQ.loopExit ?_ | refine GQ.loopRet ?_ | refine GQ.cutExit ?_ | refine GQ.cutRet ?_))
        exact GQ.cutNormal w3 (sub_pick (l := [1, 4]) rfl) ⟨rfl, by simpa using hp⟩
      · subst hbad
        (repeat (refine GX.pure rfl ?_; first | refine GO.move rfl rfl rfl rfl ?_ | refine GO.nilCheck rfl rfl rfl rfl ?_ | refine GO.fieldAddr rfl rfl rfl rfl rfl ?_ | refine GO.neq rfl rfl rfl rfl rfl ?_ | refine GO.pickT rfl rfl rfl rfl rfl ?_ | refine GO.pickF rfl rfl rfl rfl rfl ?_ | refine GO.nilCheckF rfl rfl rfl rfl ?_ | refine GO.skip (.inl rfl) rfl rfl ?_))
        refine GX.eff rfl ?_
        refine GO.store (vs := [.bool (decide ((rdNum data).2.2 ≠ 0))]) (hb1.wr (by simp)) rfl rfl (by simp [Value.oneCell']) rfl rfl rfl fun w3 hp => ⟨(by first | exact fun _ _ => trivial | exact late_abs (by kernel_rfl)), ?_⟩
        (repeat (first | refine GX.doneD ?_ | refine GX.done ?_ | refine GQ.goNormal ?_ | refine GC.seq ?_ | refine GC.skip ?_ | refine GC.block ?_ | refine GC.exit ?_ | refine GC.ret ?_ | refine GQ.goExit ?_ | refine GQ.goRet ?_ | refine GQ.inNormal ?_ | refine GQ.inExit ?_ | refine GQ.inExitNe rfl ?_ | refine GQ.inRet ?_ | refine GQ.loopExit ?_ | refine GQ.loopRet ?_ | refine GQ.cutExit ?_ | refine GQ.cutRet ?_))
        exact GQ.cutNormal w3 (sub_pick (l := [1, 4]) rfl) ⟨rfl, by simpa using hp⟩
    rintro w2 _ ⟨rfl, hp⟩
    (repeat (first | refine GX.doneD ?_ | refine GX.done ?_ | refine GQ.goNormal ?_ | refine GC.seq ?_ | refine GC.skip ?_ | refine GC.block ?_ | refine GC.exit ?_ | refine GC.ret ?_ | refine GQ.goExit ?_ | refine GQ.goRet ?_ | refine GQ.inNormal ?_ | refine GQ.inExit ?_ | refine GQ.inExitNe rfl ?_ | refine GQ.inRet ?_ | refine GQ.loopExit ?_ | refine GQ.loopRet ?_ | refine GQ.cutExit ?_ | refine GQ.cutRet ?_))
    refine GC.region (.pure 0 (.pure 1 (.pure 2 (.eff 3 .done)))) rfl ?_
    (repeat (refine GX.pure rfl ?_; first | refine GO.move rfl rfl rfl rfl ?_ | refine GO.nilCheck rfl rfl rfl rfl ?_ | refine GO.nilCheckF rfl rfl rfl rfl ?_))
    have hW2 := hW1.mod hp.mod hbn
    refine GX.eff rfl ?_
    refine GO.store (vs := [.int .u64 (rdNum data).1]) hW2 rfl rfl (by simp [Value.oneCell']) rfl rfl rfl fun w3 hp3 => ⟨(by first | exact fun _ _ => trivial | exact late_abs (by kernel_rfl)), ?_⟩
    (repeat (first | refine GX.doneD ?_ | refine GX.done ?_ | refine GQ.goNormal ?_ | refine GC.seq ?_ | refine GC.skip ?_ | refine GC.block ?_ | refine GC.exit ?_ | refine GC.ret ?_ | refine GQ.goExit ?_ | refine GQ.goRet ?_ | refine GQ.inNormal ?_ | refine GQ.inExit ?_ | refine GQ.inExitNe rfl ?_ | refine GQ.inRet ?_ | refine GQ.loopExit ?_ | refine GQ.loopRet ?_ | refine GQ.cutExit ?_ | refine GQ.cutRet ?_))
    refine GQ.ret0 (by first | exact .inl rfl | exact .inr rfl) rfl ?_
    have hb2 : Blk w2 bx [.pointer (some ⟨bc, 0, none⟩), .pointer (some ⟨br, 0, none⟩), .slice none 0 0, .bool (bad || decide ((rdNum data).2.2 ≠ 0))] := by
      have := hp.blk hb1; simpa using this
    refine ⟨rfl, ⟨hG.le ?_, hb2.mod hp3.mod (fun h => hbn h.symm), ?_, h3, h5⟩, ?_, ?_⟩
    · have := hM1.size; rw [hp3.size, hp.size]; exact this
    · refine (hR1.mod hp.mod (fun h => h3 h.symm) (fun b hb h => h5 (by rw [hb, h]))).mod hp3.mod (fun h => hbr h.symm) (fun b hb h => hbb (by rw [hb, h]))
    · exact (hp3.upd.pre hp.mod hbn).pre hM1 hbr
    · exact ((hM1.of fun k hk => .inl (.inr hk)).trans (hp.mod.of fun k hk => .inl (.inl hk))).trans (hp3.mod.of fun k hk => .inr ⟨rfl, hk⟩)

/-- A number, in either mode. -/
theorem num_ret (bx bc br : Nat) (ba : Option Nat) (st : St) (n : Nat) (hn : n < 18446744073709551616) (bn on : Nat) (w : World) (hC : Cx w bx bc br ba st) (hA : At w bn on [.int .u64 n]) (hW : Wr w bn on 1) (hl : st.data.length < 2 ^ 38) (hbn : bn ≠ bx) (hbr : bn ≠ br) (hbb : ba ≠ some bn) :
    Ret Try.prog 60 [.pointer (some ⟨bx, 0, none⟩), .pointer (some ⟨bn, on, none⟩)].toArray w
      fun v w' => v = .tuple #[] ∧ Cx w' bx bc br ba (doNum st n).1 ∧ Upd w w' bn on [.int .u64 (doNum st n).2] ∧ Mod (fun k => Fp bx br k ∨ (st.read = true ∧ k = bn)) w w' := by
  by_cases hrd : st.read = true
  · exact numR_ret bx bc br ba st hrd n bn on w hC hW hl hbn hbr hbb
  · exact numW_ret bx bc br ba st (by simpa using hrd) n hn bn on w hC hA hl hbn
end Go.Proofs.Ytahkglanddhncaa.V
