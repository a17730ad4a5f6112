/-
  What a reader's functions, and a codec's function for numbers, compute (packages varint, request). Conditions: the lengths of what is read and made stay below 2^38; the blocks of the codec, the reader and the variables are different ones.
-/
import Derived.Test.YtahkglanddhncaaWe
namespace Go.Proofs.Ytahkglanddhncaa.V
attribute [local irreducible] GX GO

/-- The cells from o on of block b have become vs, the others of that block are as they were. -/
def Upd (w w' : World) (b o : Nat) (vs : List Value) : Prop :=
  ∀ c t fr, w.heap[b]? = some (.cells c t fr) → w'.heap[b]? = some (.cells (c.toList.take o ++ vs ++ c.toList.drop (o + vs.length)).toArray t fr)
theorem Put.upd {w w' : World} {b o : Nat} {vs : List Value} (h : Put w w' b o vs) : Upd w w' b o vs := h.here
theorem Upd.pre {S : Nat → Prop} {w w1 w' : World} {b o : Nat} {vs : List Value} (h : Upd w1 w' b o vs) (hm : Mod S w w1) (hn : ¬ S b) : Upd w w' b o vs := fun c t fr hb => h c t fr (hm.row hb hn)
theorem Upd.post {S : Nat → Prop} {w w1 w' : World} {b o : Nat} {vs : List Value} (h : Upd w w1 b o vs) (hm : Mod S w1 w') (hn : ¬ S b) : Upd w w' b o vs := fun c t fr hb => hm.row (h c t fr hb) hn
theorem Upd.blk {w w' : World} {b o : Nat} {vs l : List Value} (h : Upd w w' b o vs) (hb : Blk w b l) : Blk w' b (l.take o ++ vs ++ l.drop (o + vs.length)) := by
  obtain ⟨t, ht⟩ := hb
  exact ⟨t, by simpa using h _ _ _ ht⟩
theorem Upd.wr {w w' : World} {b o m o' : Nat} {vs : List Value} (h : Upd w w' b o vs) (hw : Wr w b o' m) (hr : Wr w b o vs.length) : Wr w' b o' m := by
  obtain ⟨c, t, fr, hb, h1, h2⟩ := hw
  obtain ⟨c', t', fr', hb', h3, _⟩ := hr
  rw [hb] at hb'
  cases hb'
  refine ⟨_, t, fr, h _ _ _ hb, ?_, h2⟩
  simp only [List.size_toArray, List.length_append, List.length_take, List.length_drop, Array.length_toList]
  omega
theorem Upd.at {w w' : World} {b o : Nat} {vs : List Value} (h : Upd w w' b o vs) (hr : Wr w b o vs.length) : At w' b o vs := by
  obtain ⟨c, t, fr, hb, h1, h2⟩ := hr
  intro i v hv
  have hi := (List.getElem?_eq_some_iff.1 hv).1
  rw [cell_of_row w' b _ _ t fr (h _ _ _ hb)]
  simp only [List.append_assoc, List.getElem?_toArray]
  rw [List.getElem?_append_right (by simp; omega)]
  have e : o + i - (c.toList.take o).length = i := by simp; omega
  rw [e, List.getElem?_append_left hi]
  exact hv
/-- The cells beside are as they were. -/
theorem Upd.beside {w w' : World} {b o o' : Nat} {vs l : List Value} (h : Upd w w' b o vs) (hr : Wr w b o vs.length) (hA : At w b o' l) (hd : o' + l.length ≤ o ∨ o + vs.length ≤ o') : At w' b o' l := by
  obtain ⟨c, t, fr, hb, h1, h2⟩ := hr
  intro i v hv
  have hi := (List.getElem?_eq_some_iff.1 hv).1
  have hA' := hA i v hv
  rw [cell_of_row w b _ _ t fr hb] at hA'
  rw [cell_of_row w' b _ _ t fr (h _ _ _ hb)]
  simp only [List.append_assoc, List.getElem?_toArray]
  have hlen : o ≤ c.toList.length := by simp; omega
  rcases hd with hd | hd
  · rw [List.getElem?_append_left (by simp; omega), List.getElem?_take, if_pos (by omega)]
    simpa using hA'
  · rw [List.getElem?_append_right (by simp; omega), List.getElem?_append_right (by simp; omega)]
    simp only [List.length_take, List.getElem?_drop]
    have e : o + vs.length + (o' + i - min o c.toList.length - vs.length) = o' + i := by
      rw [Nat.min_eq_left hlen]; omega
    rw [e]
    simpa using hA'

theorem Mod.of {S T : Nat → Prop} {w w' : World} (h : Mod S w w') (hs : ∀ k, S k → T k) : Mod T w w' := h.weaken fun k _ hk => hs k hk

/-- A reader: its bytes lie in the block ba, if in any. -/
def RdAt (w : World) (r : Nat) (ba : Option Nat) (l : List UInt8) : Prop :=
  ∃ a c, Blk w r [.bool true, .slice a l.length c] ∧ BytesAt w a c l ∧ (∀ x, a = some x → ba = some x.block) ∧ ba ≠ some r
theorem RdAt.mod {S : Nat → Prop} {w w' : World} {r : Nat} {ba : Option Nat} {l : List UInt8} (h : RdAt w r ba l) (hm : Mod S w w') (h1 : ¬ S r) (h2 : ∀ b, ba = some b → ¬ S b) : RdAt w' r ba l := by
  obtain ⟨a, c, hb, hB, hx, hn⟩ := h
  exact ⟨a, c, hb.mod hm h1, hB.mod hm fun x hx' _ => h2 _ (hx x hx'), hx, hn⟩
theorem RdAt.lt {w : World} {r : Nat} {ba : Option Nat} {l : List UInt8} (h : RdAt w r ba l) : r < w.heap.size := by
  obtain ⟨a, c, hb, _⟩ := h; exact hb.lt

set_option maxHeartbeats 400000 in
theorem newReader_ret (l : List UInt8) (n : Nat) (hn : l.length = n) (hl : l.length < 2 ^ 39) (a : Option Addr) (c : Nat) (w : World) (hA : BytesAt w a c l) :
    Ret Try.prog 52 [.slice a n c].toArray w fun v w' => ∃ r ba, v = .pointer (some ⟨r, 0, none⟩) ∧ RdAt w' r ba l ∧ w.heap.size ≤ r ∧ (∀ b, ba = some b → w.heap.size ≤ b ∧ b < w'.heap.size) ∧ Ext w w' := by
  subst hn
  
  refine Ret.enter Try.func52 rfl Try.ntmps52 rfl ?_
  (repeat (first | refine GX.doneD ?_ | refine GX.done ?_ | refine GQ.goNormal ?_ | refine GC.seq ?_ | refine GC.skip ?_ | refine GC.block ?_ | refine GC.exit ?_ | refine GC.ret ?_ | refine GQ.goExit ?_ | refine GQ.goRet ?_ | refine GQ.inNormal ?_ | refine GQ.inExit ?_ | refine GQ.inExitNe rfl ?_ | refine GQ.inRet ?_ | refine GQ.loopExit ?_ | refine GQ.loopRet ?_ | refine GQ.cutExit ?_ | refine GQ.cutRet ?_))
  refine GC.region (.pure 0 .done) rfl ?_
  (repeat (refine GX.pure rfl ?_; refine GO.assign rfl rfl rfl rfl ?_))
  (repeat (first | refine GX.doneD ?_ | refine GX.done ?_ | refine GQ.goNormal ?_ | refine GC.seq ?_ | refine GC.skip ?_ | refine GC.block ?_ | refine GC.exit ?_ | refine GC.ret ?_ | refine GQ.goExit ?_ | refine GQ.goRet ?_ | refine GQ.inNormal ?_ | refine GQ.inExit ?_ | refine GQ.inExitNe rfl ?_ | refine GQ.inRet ?_ | refine GQ.loopExit ?_ | refine GQ.loopRet ?_ | refine GQ.cutExit ?_ | refine GQ.cutRet ?_))
  refine GC.region (.pure 0 (.eff 1 (.pure 2 (.eff 3 (.pure 4 .done))))) rfl ?_
  (repeat (refine GX.pure rfl ?_; first | refine GO.move rfl rfl rfl rfl ?_ | refine GO.assign rfl rfl rfl rfl ?_))
  (refine GX.eff rfl ?_; refine GO.callL rfl rfl rfl rfl rfl (cloneBytes_ret (el := 5) (sz := 1) (by_ := 1) rfl l.length (bytesV l) (by simp) (bytesV_one l) (by omega) (by omega) a c w hA.cells hA.nil) ?_)
  rintro v w1 ⟨ob, a1, c1, rfl, hO, hE, hB, hF⟩
  refine ⟨fun _ h => by first | trivial | exact Mod.trans h (Ext.mod (by assumption)), ?_⟩
  refine GX.pure rfl ?_
  refine GO.build (out := [.bool true, .slice a1 l.length c1]) rfl (by kernel_rfl) (by kernel_rfl) rfl rfl rfl rfl ?_
  refine GX.eff rfl ?_
  refine GO.box (l := [.bool true, .slice a1 l.length c1]) rfl rfl rfl rfl fun b w2 hb hblk hE2 => ?_
  refine ⟨fun _ h => by first | trivial | exact Mod.trans h (Ext.mod (by assumption)), ?_⟩
  (repeat (refine GX.pure rfl ?_; first | refine GO.move rfl rfl rfl rfl ?_ | refine GO.assign rfl rfl rfl rfl ?_))
  (repeat (first | refine GX.doneD ?_ | refine GX.done ?_ | refine GQ.goNormal ?_ | refine GC.seq ?_ | refine GC.skip ?_ | refine GC.block ?_ | refine GC.exit ?_ | refine GC.ret ?_ | refine GQ.goExit ?_ | refine GQ.goRet ?_ | refine GQ.inNormal ?_ | refine GQ.inExit ?_ | refine GQ.inExitNe rfl ?_ | refine GQ.inRet ?_ | refine GQ.loopExit ?_ | refine GQ.loopRet ?_ | refine GQ.cutExit ?_ | refine GQ.cutRet ?_))
  refine GQ.ret1 (by first | exact .inl rfl | exact .inr rfl) rfl rfl ?_
  refine ⟨b, a1.map (·.block), rfl, ⟨a1, c1, hblk, (hO.bytes hF).ext hE2, fun x hx => by rw [hx]; rfl, fun h => ?_⟩, by have := hE.size; omega, fun y hy => ?_, hE.trans hE2⟩
  · cases a1 with
    | none => cases h
    | some y =>
      have := hF y rfl
      subst this
      have := hO.block.2
      simp at h
      omega
  · cases a1 with
    | none => cases hy
    | some z =>
      simp at hy; subst hy
      have hob := hF z rfl
      have h2 := hE2.size
      refine ⟨hB _ hob, ?_⟩
      subst hob
      have := hO.block.2
      omega
end Go.Proofs.Ytahkglanddhncaa.V
