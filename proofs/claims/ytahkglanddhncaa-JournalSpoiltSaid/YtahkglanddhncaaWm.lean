/-
  What a codec's function for a list computes, in both modes (package request). Conditions: the lengths of what is read and made stay below 2^38; the blocks of the codec, the command, the reader and the variables are different ones.
-/
import Derived.Test.YtahkglanddhncaaWl
namespace Go.Proofs.Ytahkglanddhncaa.V
attribute [local irreducible] GX GO

theorem not_Fp {bx br k : Nat} (h : k ≠ bx ∧ k ≠ br) : ¬ Fp bx br k := fun hh => hh.elim h.1 h.2

def doAll (ok : List UInt8 → Bool) : St → List (List UInt8) → St × List (List UInt8)
  | st, [] => (st, [])
  | st, s :: r => ((doAll ok (doPart ok st s).1 r).1, (doPart ok st s).2 :: (doAll ok (doPart ok st s).1 r).2)
def setBad (st : St) : St := { st with bad := true }
def doList (ok : List UInt8 → Bool) (least most : Nat) (st : St) (l : List (List UInt8)) : St × List (List UInt8) :=
  if (doNum st l.length).2 < least ∨ most < (doNum st l.length).2 then (setBad (doNum st l.length).1, l)
  else doAll ok (doNum st l.length).1 (if st.read = true ∧ 0 < (doNum st l.length).2 then List.replicate (doNum st l.length).2 [] else l)
/-- How many bytes strings take at most, with their lengths. -/
def tot : List (List UInt8) → Nat
  | [] => 0
  | s :: r => s.length + 11 + tot r
theorem doAll_snoc (ok : List UInt8 → Bool) : ∀ (l : List (List UInt8)) (st : St) (s : List UInt8), doAll ok st (l ++ [s]) = ((doPart ok (doAll ok st l).1 s).1, (doAll ok st l).2 ++ [(doPart ok (doAll ok st l).1 s).2])
  | [], st, s => by simp [doAll]
  | x :: r, st, s => by simp [doAll, doAll_snoc ok r]
theorem doAll_length (ok : List UInt8 → Bool) : ∀ (l : List (List UInt8)) (st : St), (doAll ok st l).2.length = l.length
  | [], st => rfl
  | x :: r, st => by simp [doAll, doAll_length ok r]
theorem doAll_read (ok : List UInt8 → Bool) : ∀ (l : List (List UInt8)) (st : St), (doAll ok st l).1.read = st.read
  | [], st => rfl
  | x :: r, st => by simp [doAll, doAll_read ok r, doPart_read]
theorem tot_append (l m : List (List UInt8)) : tot (l ++ m) = tot l + tot m := by
  induction l with
  | nil => simp [tot]
  | cons x r ih => simp [tot, ih]; omega
theorem doAll_len (ok : List UInt8 → Bool) : ∀ (l : List (List UInt8)) (st : St), (doAll ok st l).1.data.length ≤ st.data.length + tot l
  | [], st => by simp [doAll, tot]
  | x :: r, st => by
    have h1 := doPart_len ok st x
    have h2 := doAll_len ok r (doPart ok st x).1
    simp [doAll, tot]; omega
theorem doPart_len_read (ok : List UInt8 → Bool) (st : St) (s : List UInt8) (h : st.read = true) : (doPart ok st s).1.data.length ≤ st.data.length := by
  unfold doPart; rw [if_pos h]; exact rdBytes_le _ _
theorem doAll_len_read (ok : List UInt8 → Bool) : ∀ (l : List (List UInt8)) (st : St), st.read = true → (doAll ok st l).1.data.length ≤ st.data.length
  | [], st, _ => Nat.le_refl _
  | x :: r, st, h => by
    have h1 := doPart_len_read ok st x h
    have h2 := doAll_len_read ok r (doPart ok st x).1 (by rw [doPart_read]; exact h)
    simp only [doAll]; omega
theorem tot_take (l : List (List UInt8)) (k : Nat) : tot (l.take k) ≤ tot l := by
  have := tot_append (l.take k) (l.drop k); rw [List.take_append_drop] at this; omega
theorem tot_mem (l : List (List UInt8)) (k : Nat) (h : k < l.length) : l[k].length ≤ tot l := by
  have h1 : l = l.take k ++ l[k] :: l.drop (k + 1) := by rw [← List.drop_eq_getElem_cons h, List.take_append_drop]
  have h2 : tot l = tot (l.take k) + (l[k].length + 11 + tot (l.drop (k + 1))) := by conv => lhs; rw [h1, tot_append, tot]
  omega

set_option maxHeartbeats 2000000 in
theorem listW_ret (f : FuncId) [CaF Try.prog f] (ok : List UInt8 → Bool) (hf : Tells f ok) (least most : Nat) (hlm : least < 2 ^ 30 ∧ most < 2 ^ 30) (bx bc br : Nat) (ba : Option Nat) (st : St) (hrd : st.read = false) (l : List (List UInt8)) (bp op : Nat) (la : Option Addr) (lc : Nat) (w : World) (hC : Cx w bx bc br ba st) (hA : At w bp op [.slice la l.length lc]) (hL : StrsAt w la lc l) (hl : st.data.length + 11 + tot l < 2 ^ 38) (hll : l.length < 2 ^ 30) (hbp : bp ≠ bx ∧ bp ≠ br) (hla : ∀ y, la = some y → l ≠ [] → y.block ≠ bx ∧ y.block ≠ br) :
    Ret Try.prog 57 [.pointer (some ⟨bx, 0, none⟩), .pointer (some ⟨bp, op, none⟩), .int .i64 least, .int .i64 most, .func (.func f) #[] #[]].toArray w
      fun v w' => v = .tuple #[] ∧ Cx w' bx bc br ba (doList ok least most st l).1 ∧ Mod (Fp bx br) w w' := by
  have hfl := fun k hk => Fp.lt hC (k := k) hk
  have hG := hC.1
  have hnum : (doNum st l.length).2 = l.length := by unfold doNum; rw [hrd]; rfl
  have hnr : (doNum st l.length).1.read = false := by rw [doNum_read, hrd]
  have hnl := doNum_len st l.length
  
  refine Ret.enter Try.func57 rfl Try.ntmps57 rfl ?_
  (repeat (first | refine GX.doneD ?_ | refine GX.done ?_ | refine GQ.goNormal ?_ | refine GC.seq ?_ | refine GC.skip ?_ | refine GC.block ?_ | refine GC.exit ?_ | refine GC.ret ?_ | refine GQ.goExit ?_ | refine GQ.goRet ?_ | refine GQ.inNormal ?_ | refine GQ.inExit ?_ | refine GQ.inExitNe rfl ?_ | refine GQ.inRet ?_ | refine GQ.loopExit ?_ | refine GQ.loopRet ?_ | refine GQ.cutExit ?_ | refine GQ.cutRet ?_))
  refine GC.region (.pure 0 (.pure 1 (.eff 2 (.pure 3 (.pure 4 (.eff 5 (.eff 6 .done))))))) rfl ?_
  (repeat (refine GX.pure rfl ?_; first | refine GO.move rfl rfl rfl rfl ?_ | refine GO.nilCheck rfl rfl rfl rfl ?_ | refine GO.lenSlice rfl rfl rfl rfl ?_ | refine GO.conv rfl rfl rfl rfl (wrapIn (by dsimp only [InK]; omega)) ?_ | refine GO.convStr rfl rfl rfl rfl ?_ | refine GO.nilCheckF rfl rfl rfl rfl ?_))
  (first | (refine GX.eff rfl ?_; first | refine GO.load1 (hA) rfl rfl rfl ?_ | refine GO.loadN (hA) rfl rfl rfl rfl ?_) | (refine GX.read rfl ?_; first | refine GO.load1R (by assumption) (fun _ hS_ => At.mod (hA) hS_ (by simp)) rfl rfl rfl ?_ | refine GO.loadNR (by assumption) (fun _ hS_ => At.mod (hA) hS_ (by simp)) rfl rfl rfl rfl ?_))
  (repeat (refine GX.pure rfl ?_; first | refine GO.move rfl rfl rfl rfl ?_ | refine GO.nilCheck rfl rfl rfl rfl ?_ | refine GO.lenSlice rfl rfl rfl rfl ?_ | refine GO.conv rfl rfl rfl rfl (wrapIn (by dsimp only [InK]; omega)) ?_ | refine GO.convStr rfl rfl rfl rfl ?_ | refine GO.nilCheckF rfl rfl rfl rfl ?_))
  refine GX.eff rfl ?_
  refine GO.alloc rfl rfl fun bn w1 hbn hblk hE1 => ?_
  refine ⟨fun _ h => by first | trivial | exact Mod.trans h (Ext.mod (by assumption)), ?_⟩
  refine GX.eff rfl ?_
  refine GO.store (vs := [.int .u64 l.length]) (hblk.wr (by simp)) rfl rfl (by simp [Value.oneCell']) rfl rfl rfl fun w2 hp2 => ⟨(by first | exact fun _ _ => trivial | exact late_abs (by kernel_rfl)), ?_⟩
  have hn2 : Blk w2 bn [.int .u64 l.length] := by have := hp2.blk hblk; simpa using this
  have hE2 : Ext w w2 := hE1.then hp2.mod fun i hi h => by omega
  have hC2 := hC.ext hE2
  (repeat (first | refine GX.doneD ?_ | refine GX.done ?_ | refine GQ.goNormal ?_ | refine GC.seq ?_ | refine GC.skip ?_ | refine GC.block ?_ | refine GC.exit ?_ | refine GC.ret ?_ | refine GQ.goExit ?_ | refine GQ.goRet ?_ | refine GQ.inNormal ?_ | refine GQ.inExit ?_ | refine GQ.inExitNe rfl ?_ | refine GQ.inRet ?_ | refine GQ.loopExit ?_ | refine GQ.loopRet ?_ | refine GQ.cutExit ?_ | refine GQ.cutRet ?_))
  refine GC.region (.pure 0 (.eff 1 .done)) rfl ?_
  (repeat (refine GX.pure rfl ?_; refine GO.move rfl rfl rfl rfl ?_))
  (refine GX.eff rfl ?_; refine GO.callL rfl rfl rfl rfl rfl (numW_ret bx bc br ba st hrd l.length (by omega) bn 0 w2 hC2 hn2.at (by omega) (by have := hfl bx (.inl rfl); omega)) ?_)
  rintro v w3 ⟨rfl, hC3, hU3, hM3⟩
  refine ⟨fun _ h => by first | trivial | exact Mod.trans h (Ext.mod (by assumption)), ?_⟩
  have hn3 : Blk w3 bn [.int .u64 l.length] := by have := hU3.blk hn2; rw [hnum] at this; simpa using this
  have hM3' : Mod (Fp bx br) w w3 := (Ext.mod hE2).then hM3 fun i hi h => by
    rcases h with h | ⟨h, _⟩
    · exact h
    · rw [hrd] at h; cases h
  (repeat (first | refine GX.doneD ?_ | refine GX.done ?_ | refine GQ.goNormal ?_ | refine GC.seq ?_ | refine GC.skip ?_ | refine GC.block ?_ | refine GC.exit ?_ | refine GC.ret ?_ | refine GQ.goExit ?_ | refine GQ.goRet ?_ | refine GQ.inNormal ?_ | refine GQ.inExit ?_ | refine GQ.inExitNe rfl ?_ | refine GQ.inRet ?_ | refine GQ.loopExit ?_ | refine GQ.loopRet ?_ | refine GQ.cutExit ?_ | refine GQ.cutRet ?_))
  have hA3 := hA.mod hM3' (not_Fp hbp)
  -- is the number allowed
  refine GC.cut (X := Bool) (fun x => [(0, .pointer (some ⟨bx, 0, none⟩)), (1, .pointer (some ⟨bp, op, none⟩)), (4, .func (.func f) #[] #[]), (10, .pointer (some ⟨bn, 0, none⟩)), (28, .bool x)]) (fun x w' => w3 = w' ∧ x = decide (l.length < least ∨ most < l.length)) ?_ ?_
  · refine GC.region (.eff 0 (.pure 1 (.pure 2 (.pure 3 (.pure 4 (.eff 5 (.pure 6 (.pure 7 (.pure 8 (.pure 9 .done)))))))))) rfl ?_
    (first | (refine GX.eff rfl ?_; first | refine GO.load1 (hn3.get (o := 0) rfl) rfl rfl rfl ?_ | refine GO.loadN (hn3.get (o := 0) rfl) rfl rfl rfl rfl ?_) | (refine GX.read rfl ?_; first | refine GO.load1R (by assumption) (fun _ hS_ => At.mod (hn3.get (o := 0) rfl) hS_ (by simp)) rfl rfl rfl ?_ | refine GO.loadNR (by assumption) (fun _ hS_ => At.mod (hn3.get (o := 0) rfl) hS_ (by simp)) rfl rfl rfl rfl ?_))
    (repeat (refine GX.pure rfl ?_; first | refine GO.move rfl rfl rfl rfl ?_ | refine GO.lss rfl rfl rfl rfl rfl ?_ | refine GO.gtr rfl rfl rfl rfl rfl ?_ | refine GO.pickT rfl rfl rfl rfl rfl ?_ | refine GO.pickF rfl rfl rfl rfl rfl ?_ | refine GO.conv rfl rfl rfl rfl (wrapIn (by dsimp only [InK]; omega)) ?_ | refine GO.convStr rfl rfl rfl rfl ?_ | refine GO.skip (.inl rfl) rfl rfl ?_))
    refine GX.case 23 rfl (fun h => ?_) (fun h => ?_)
    · (repeat (refine GX.pure rfl ?_; first | refine GO.move rfl rfl rfl rfl ?_ | refine GO.lss rfl rfl rfl rfl rfl ?_ | refine GO.gtr rfl rfl rfl rfl rfl ?_ | refine GO.pickT rfl rfl rfl rfl rfl ?_ | refine GO.pickF rfl rfl rfl rfl rfl ?_ | refine GO.conv rfl rfl rfl rfl (wrapIn (by dsimp only [InK]; omega)) ?_ | refine GO.convStr rfl rfl rfl rfl ?_ | refine GO.skip (.inl rfl) rfl rfl ?_))
      refine GX.eff rfl ?_
      refine GO.skip (.inr rfl) rfl rfl ?_
      (repeat (refine GX.pure rfl ?_; first | refine GO.move rfl rfl rfl rfl ?_ | refine GO.lss rfl rfl rfl rfl rfl ?_ | refine GO.gtr rfl rfl rfl rfl rfl ?_ | refine GO.pickT rfl rfl rfl rfl rfl ?_ | refine GO.pickF rfl rfl rfl rfl rfl ?_ | refine GO.conv rfl rfl rfl rfl (wrapIn (by dsimp only [InK]; omega)) ?_ | refine GO.convStr rfl rfl rfl rfl ?_ | refine GO.skip (.inl rfl) rfl rfl ?_))
      (repeat (first | refine GX.doneD ?_ | refine GX.done ?_ | refine GQ.goNormal ?_ | refine GC.seq ?_ | refine GC.skip ?_ | refine GC.block ?_ | refine GC.exit ?_ | refine GC.ret ?_ | refine GQ.goExit ?_ | refine GQ.goRet ?_ | refine GQ.inNormal ?_ | refine GQ.inExit ?_ | refine GQ.inExitNe rfl ?_ | refine GQ.inRet ?_ | refine GQ.loopExit ?_ | refine GQ.loopRet ?_ | refine GQ.cutExit ?_ | refine GQ.cutRet ?_))
      exact GQ.cutNormal _ (sub_pick (l := [0, 1, 4, 10, 28]) rfl) ⟨rfl, by have := of_decide_eq_true h; symm; rw [decide_eq_true_eq]; omega⟩
    · (repeat (refine GX.pure rfl ?_; first | refine GO.move rfl rfl rfl rfl ?_ | refine GO.lss rfl rfl rfl rfl rfl ?_ | refine GO.gtr rfl rfl rfl rfl rfl ?_ | refine GO.pickT rfl rfl rfl rfl rfl ?_ | refine GO.pickF rfl rfl rfl rfl rfl ?_ | refine GO.conv rfl rfl rfl rfl (wrapIn (by dsimp only [InK]; omega)) ?_ | refine GO.convStr rfl rfl rfl rfl ?_ | refine GO.skip (.inl rfl) rfl rfl ?_))
      (first | (refine GX.eff rfl ?_; first | refine GO.load1 (hn3.get (o := 0) rfl) rfl rfl rfl ?_ | refine GO.loadN (hn3.get (o := 0) rfl) rfl rfl rfl rfl ?_) | (refine GX.read rfl ?_; first | refine GO.load1R (by assumption) (fun _ hS_ => At.mod (hn3.get (o := 0) rfl) hS_ (by simp)) rfl rfl rfl ?_ | refine GO.loadNR (by assumption) (fun _ hS_ => At.mod (hn3.get (o := 0) rfl) hS_ (by simp)) rfl rfl rfl rfl ?_))
      (repeat (refine GX.pure rfl ?_; first | refine GO.move rfl rfl rfl rfl ?_ | refine GO.lss rfl rfl rfl rfl rfl ?_ | refine GO.gtr rfl rfl rfl rfl rfl ?_ | refine GO.pickT rfl rfl rfl rfl rfl ?_ | refine GO.pickF rfl rfl rfl rfl rfl ?_ | refine GO.conv rfl rfl rfl rfl (wrapIn (by dsimp only [InK]; omega)) ?_ | refine GO.convStr rfl rfl rfl rfl ?_ | refine GO.skip (.inl rfl) rfl rfl ?_))
      (repeat (first | refine GX.doneD ?_ | refine GX.done ?_ | refine GQ.goNormal ?_ | refine GC.seq ?_ | refine GC.skip ?_ | refine GC.block ?_ | refine GC.exit ?_ | refine GC.ret ?_ | refine GQ.goExit ?_ | refine GQ.goRet ?_ | refine GQ.inNormal ?_ | refine GQ.inExit ?_ | refine GQ.inExitNe rfl ?_ | refine GQ.inRet ?_ | refine GQ.loopExit ?_ | refine GQ.loopRet ?_ | refine GQ.cutExit ?_ | refine GQ.cutRet ?_))
      exact GQ.cutNormal _ (sub_pick (l := [0, 1, 4, 10, 28]) rfl) ⟨rfl, by have := of_decide_eq_false h; rw [decide_eq_decide]; omega⟩
  rintro x _ ⟨rfl, rfl⟩
  (repeat (first | refine GX.doneD ?_ | refine GX.done ?_ | refine GQ.goNormal ?_ | refine GC.seq ?_ | refine GC.skip ?_ | refine GC.block ?_ | refine GC.exit ?_ | refine GC.ret ?_ | refine GQ.goExit ?_ | refine GQ.goRet ?_ | refine GQ.inNormal ?_ | refine GQ.inExit ?_ | refine GQ.inExitNe rfl ?_ | refine GQ.inRet ?_ | refine GQ.loopExit ?_ | refine GQ.loopRet ?_ | refine GQ.cutExit ?_ | refine GQ.cutRet ?_))
  have hdl : (doList ok least most st l).1 = if l.length < least ∨ most < l.length then setBad (doNum st l.length).1 else (doAll ok (doNum st l.length).1 l).1 := by
    unfold doList
    rw [hnum, hrd]
    simp only [Bool.false_eq_true, false_and, if_false]
    split <;> rfl
  rw [hdl]
  clear hdl
  refine GC.cond rfl (fun hbad => ?_) (fun hbad => ?_)
  · have hbad' : l.length < least ∨ most < l.length := of_decide_eq_true hbad
    rw [if_pos hbad']
    obtain ⟨v1, v2, hb3⟩ := hC3.blkX
    (repeat (first | refine GX.doneD ?_ | refine GX.done ?_ | refine GQ.goNormal ?_ | refine GC.seq ?_ | refine GC.skip ?_ | refine GC.block ?_ | refine GC.exit ?_ | refine GC.ret ?_ | refine GQ.goExit ?_ | refine GQ.goRet ?_ | refine GQ.inNormal ?_ | refine GQ.inExit ?_ | refine GQ.inExitNe rfl ?_ | refine GQ.inRet ?_ | refine GQ.loopExit ?_ | refine GQ.loopRet ?_ | refine GQ.cutExit ?_ | refine GQ.cutRet ?_))
    refine GC.region (.pure 0 (.pure 1 (.pure 2 (.eff 3 .done)))) rfl ?_
    (repeat (refine GX.pure rfl ?_; first | refine GO.move rfl rfl rfl rfl ?_ | refine GO.nilCheck rfl rfl rfl rfl ?_ | refine GO.fieldAddr rfl rfl rfl rfl rfl ?_ | refine GO.nilCheckF rfl rfl rfl rfl ?_))
    refine GX.eff rfl ?_
    refine GO.store (vs := [.bool true]) (hb3.wr (by simp)) rfl rfl (by simp [Value.oneCell']) rfl rfl rfl fun w6 hp => ⟨(by first | exact fun _ _ => trivial | exact late_abs (by kernel_rfl)), ?_⟩
    (repeat (first | refine GX.doneD ?_ | refine GX.done ?_ | refine GQ.goNormal ?_ | refine GC.seq ?_ | refine GC.skip ?_ | refine GC.block ?_ | refine GC.exit ?_ | refine GC.ret ?_ | refine GQ.goExit ?_ | refine GQ.goRet ?_ | refine GQ.inNormal ?_ | refine GQ.inExit ?_ | refine GQ.inExitNe rfl ?_ | refine GQ.inRet ?_ | refine GQ.loopExit ?_ | refine GQ.loopRet ?_ | refine GQ.cutExit ?_ | refine GQ.cutRet ?_))
    refine GQ.ret0 (by first | exact .inl rfl | exact .inr rfl) rfl ?_
    exact ⟨rfl, hC3.setBad hp, hM3'.trans (hp.mod.of fun k hk => .inl hk)⟩
  · have hbad' : ¬ (l.length < least ∨ most < l.length) := of_decide_eq_false hbad
    rw [if_neg hbad']
    have hCC := hC3.2
    rw [hnr] at hCC
    obtain ⟨oa, oc, hb3, _⟩ := hCC
    (repeat (first | refine GX.doneD ?_ | refine GX.done ?_ | refine GQ.goNormal ?_ | refine GC.seq ?_ | refine GC.skip ?_ | refine GC.block ?_ | refine GC.exit ?_ | refine GC.ret ?_ | refine GQ.goExit ?_ | refine GQ.goRet ?_ | refine GQ.inNormal ?_ | refine GQ.inExit ?_ | refine GQ.inExitNe rfl ?_ | refine GQ.inRet ?_ | refine GQ.loopExit ?_ | refine GQ.loopRet ?_ | refine GQ.cutExit ?_ | refine GQ.cutRet ?_))
    refine GC.region (.pure 0 (.pure 1 (.pure 2 (.eff 3 (.pure 4 (.pure 5 (.eff 6 (.pure 7 (.pure 8 .done))))))))) rfl ?_
    (repeat (refine GX.pure rfl ?_; first | refine GO.move rfl rfl rfl rfl ?_ | refine GO.nilCheck rfl rfl rfl rfl ?_ | refine GO.fieldAddr rfl rfl rfl rfl rfl ?_ | refine GO.gtr rfl rfl rfl rfl rfl ?_ | refine GO.pickT rfl rfl rfl rfl rfl ?_ | refine GO.pickF rfl rfl rfl rfl rfl ?_ | refine GO.ptrNeqNil rfl rfl rfl rfl rfl ?_ | refine GO.nilCheckF rfl rfl rfl rfl ?_ | refine GO.skip (.inl rfl) rfl rfl ?_))
    (first | (refine GX.eff rfl ?_; first | refine GO.load1 (hb3.get (o := 0 + 1) rfl) rfl rfl rfl ?_ | refine GO.loadN (hb3.get (o := 0 + 1) rfl) rfl rfl rfl rfl ?_) | (refine GX.read rfl ?_; first | refine GO.load1R (by assumption) (fun _ hS_ => At.mod (hb3.get (o := 0 + 1) rfl) hS_ (by simp)) rfl rfl rfl ?_ | refine GO.loadNR (by assumption) (fun _ hS_ => At.mod (hb3.get (o := 0 + 1) rfl) hS_ (by simp)) rfl rfl rfl rfl ?_))
    (repeat (refine GX.pure rfl ?_; first | refine GO.move rfl rfl rfl rfl ?_ | refine GO.nilCheck rfl rfl rfl rfl ?_ | refine GO.fieldAddr rfl rfl rfl rfl rfl ?_ | refine GO.gtr rfl rfl rfl rfl rfl ?_ | refine GO.pickT rfl rfl rfl rfl rfl ?_ | refine GO.pickF rfl rfl rfl rfl rfl ?_ | refine GO.ptrNeqNil rfl rfl rfl rfl rfl ?_ | refine GO.nilCheckF rfl rfl rfl rfl ?_ | refine GO.skip (.inl rfl) rfl rfl ?_))
    refine GX.eff rfl ?_
    refine GO.skip (.inr rfl) rfl rfl ?_
    (repeat (refine GX.pure rfl ?_; first | refine GO.move rfl rfl rfl rfl ?_ | refine GO.nilCheck rfl rfl rfl rfl ?_ | refine GO.fieldAddr rfl rfl rfl rfl rfl ?_ | refine GO.gtr rfl rfl rfl rfl rfl ?_ | refine GO.pickT rfl rfl rfl rfl rfl ?_ | refine GO.pickF rfl rfl rfl rfl rfl ?_ | refine GO.ptrNeqNil rfl rfl rfl rfl rfl ?_ | refine GO.nilCheckF rfl rfl rfl rfl ?_ | refine GO.skip (.inl rfl) rfl rfl ?_))
    (repeat (first | refine GX.doneD ?_ | refine GX.done ?_ | refine GQ.goNormal ?_ | refine GC.seq ?_ | refine GC.skip ?_ | refine GC.block ?_ | refine GC.exit ?_ | refine GC.ret ?_ | refine GQ.goExit ?_ | refine GQ.goRet ?_ | refine GQ.inNormal ?_ | refine GQ.inExit ?_ | refine GQ.inExitNe rfl ?_ | refine GQ.inRet ?_ | refine GQ.loopExit ?_ | refine GQ.loopRet ?_ | refine GQ.cutExit ?_ | refine GQ.cutRet ?_))
    refine GC.cond rfl (fun hh => ?_) (fun hh => ?_)
    · cases hh
    · (repeat (first | refine GX.doneD ?_ | refine GX.done ?_ | refine GQ.goNormal ?_ | refine GC.seq ?_ | refine GC.skip ?_ | refine GC.block ?_ | refine GC.exit ?_ | refine GC.ret ?_ | refine GQ.goExit ?_ | refine GQ.goRet ?_ | refine GQ.inNormal ?_ | refine GQ.inExit ?_ | refine GQ.inExitNe rfl ?_ | refine GQ.inRet ?_ | refine GQ.loopExit ?_ | refine GQ.loopRet ?_ | refine GQ.cutExit ?_ | refine GQ.cutRet ?_))
      refine GC.region (.pure 0 (.pure 1 (.eff 2 (.pure 3 (.pure 4 .done))))) rfl ?_
      (repeat (refine GX.pure rfl ?_; first | refine GO.move rfl rfl rfl rfl ?_ | refine GO.nilCheck rfl rfl rfl rfl ?_ | refine GO.lenSlice rfl rfl rfl rfl ?_ | refine GO.nilCheckF rfl rfl rfl rfl ?_))
      (first | (refine GX.eff rfl ?_; first | refine GO.load1 (hA3) rfl rfl rfl ?_ | refine GO.loadN (hA3) rfl rfl rfl rfl ?_) | (refine GX.read rfl ?_; first | refine GO.load1R (by assumption) (fun _ hS_ => At.mod (hA3) hS_ (by simp)) rfl rfl rfl ?_ | refine GO.loadNR (by assumption) (fun _ hS_ => At.mod (hA3) hS_ (by simp)) rfl rfl rfl rfl ?_))
      (repeat (refine GX.pure rfl ?_; first | refine GO.move rfl rfl rfl rfl ?_ | refine GO.nilCheck rfl rfl rfl rfl ?_ | refine GO.lenSlice rfl rfl rfl rfl ?_ | refine GO.nilCheckF rfl rfl rfl rfl ?_))
      (repeat (first | refine GX.doneD ?_ | refine GX.done ?_ | refine GQ.goNormal ?_ | refine GC.seq ?_ | refine GC.skip ?_ | refine GC.block ?_ | refine GC.exit ?_ | refine GC.ret ?_ | refine GQ.goExit ?_ | refine GQ.goRet ?_ | refine GQ.inNormal ?_ | refine GQ.inExit ?_ | refine GQ.inExitNe rfl ?_ | refine GQ.inRet ?_ | refine GQ.loopExit ?_ | refine GQ.loopRet ?_ | refine GQ.cutExit ?_ | refine GQ.cutRet ?_))
      refine GC.loop (X := Nat) (fun k => [(0, .pointer (some ⟨bx, 0, none⟩)), (1, .pointer (some ⟨bp, op, none⟩)), (4, .func (.func f) #[] #[]), (48, .int .i64 l.length), (49, .int .i64 k)])
        (fun k w' => k ≤ l.length ∧ Cx w' bx bc br ba (doAll ok (doNum st l.length).1 (l.take k)).1 ∧ Mod (Fp bx br) w w') (fun k => l.length - k) 0 (sub_pick (l := [0, 1, 4, 48, 49]) rfl) ⟨Nat.zero_le _, hC3, hM3'⟩ ?_
      rintro k w4 ⟨hk, hC4, hM4⟩
      (repeat (first | refine GX.doneD ?_ | refine GX.done ?_ | refine GQ.goNormal ?_ | refine GC.seq ?_ | refine GC.skip ?_ | refine GC.block ?_ | refine GC.exit ?_ | refine GC.ret ?_ | refine GQ.goExit ?_ | refine GQ.goRet ?_ | refine GQ.inNormal ?_ | refine GQ.inExit ?_ | refine GQ.inExitNe rfl ?_ | refine GQ.inRet ?_ | refine GQ.loopExit ?_ | refine GQ.loopRet ?_ | refine GQ.cutExit ?_ | refine GQ.cutRet ?_))
      refine GC.region (.pure 0 .done) rfl ?_
      (repeat (refine GX.pure rfl ?_; refine GO.lss rfl rfl rfl rfl rfl ?_))
      (repeat (first | refine GX.doneD ?_ | refine GX.done ?_ | refine GQ.goNormal ?_ | refine GC.seq ?_ | refine GC.skip ?_ | refine GC.block ?_ | refine GC.exit ?_ | refine GC.ret ?_ | refine GQ.goExit ?_ | refine GQ.goRet ?_ | refine GQ.inNormal ?_ | refine GQ.inExit ?_ | refine GQ.inExitNe rfl ?_ | refine GQ.inRet ?_ | refine GQ.loopExit ?_ | refine GQ.loopRet ?_ | refine GQ.cutExit ?_ | refine GQ.cutRet ?_))
      refine GC.cond rfl (fun hk2 => ?_) (fun hk2 => ?_)
      · have hlt : k < l.length := by have := of_decide_eq_true hk2; omega
        have hLc := hL.cells
        obtain ⟨b, o, rfl, hAt⟩ := hLc.of_pos (by simp; omega)
        have hab := hla _ rfl (List.ne_nil_of_length_pos (by omega))
        dsimp only at hab
        have hA4 := hA.mod hM4 (not_Fp hbp)
        have h1 : At w4 b (o + (k : Int).toNat * 1) [str l[k]] := by simpa using (At.one hAt (strs_get hlt)).mod hM4 (not_Fp hab)
        have htk := tot_take l k
        have htm := tot_mem l k hlt
        have hda := doAll_len ok (l.take k) (doNum st l.length).1
        (repeat (first | refine GX.doneD ?_ | refine GX.done ?_ | refine GQ.goNormal ?_ | refine GC.seq ?_ | refine GC.skip ?_ | refine GC.block ?_ | refine GC.exit ?_ | refine GC.ret ?_ | refine GQ.goExit ?_ | refine GQ.goRet ?_ | refine GQ.inNormal ?_ | refine GQ.inExit ?_ | refine GQ.inExitNe rfl ?_ | refine GQ.inRet ?_ | refine GQ.loopExit ?_ | refine GQ.loopRet ?_ | refine GQ.cutExit ?_ | refine GQ.cutRet ?_))
        refine GC.region (.pure 0 (.pure 1 .done)) rfl ?_
        (repeat (refine GX.pure rfl ?_; first | refine GO.move rfl rfl rfl rfl ?_ | refine GO.assign rfl rfl rfl rfl ?_))
        (repeat (first | refine GX.doneD ?_ | refine GX.done ?_ | refine GQ.goNormal ?_ | refine GC.seq ?_ | refine GC.skip ?_ | refine GC.block ?_ | refine GC.exit ?_ | refine GC.ret ?_ | refine GQ.goExit ?_ | refine GQ.goRet ?_ | refine GQ.inNormal ?_ | refine GQ.inExit ?_ | refine GQ.inExitNe rfl ?_ | refine GQ.inRet ?_ | refine GQ.loopExit ?_ | refine GQ.loopRet ?_ | refine GQ.cutExit ?_ | refine GQ.cutRet ?_))
        refine GC.region (.pure 0 (.pure 1 (.pure 2 (.eff 3 (.pure 4 (.pure 5 (.pure 6 (.eff 7 .done)))))))) rfl ?_
        (repeat (refine GX.pure rfl ?_; first | refine GO.move rfl rfl rfl rfl ?_ | refine GO.nilCheck rfl rfl rfl rfl ?_ | refine GO.nilCheckF rfl rfl rfl rfl ?_))
        (first | (refine GX.eff rfl ?_; first | refine GO.load1 (hA4) rfl rfl rfl ?_ | refine GO.loadN (hA4) rfl rfl rfl rfl ?_) | (refine GX.read rfl ?_; first | refine GO.load1R (by assumption) (fun _ hS_ => At.mod (hA4) hS_ (by simp)) rfl rfl rfl ?_ | refine GO.loadNR (by assumption) (fun _ hS_ => At.mod (hA4) hS_ (by simp)) rfl rfl rfl rfl ?_))
        (repeat (refine GX.pure rfl ?_; first | refine GO.move rfl rfl rfl rfl ?_ | refine GO.nilCheck rfl rfl rfl rfl ?_ | refine GO.nilCheckF rfl rfl rfl rfl ?_))
        refine GX.pure rfl ?_
        refine GO.indexAddr rfl rfl rfl rfl (by omega) (by omega) rfl ?_
        (repeat (refine GX.pure rfl ?_; first | refine GO.move rfl rfl rfl rfl ?_ | refine GO.nilCheck rfl rfl rfl rfl ?_ | refine GO.nilCheckF rfl rfl rfl rfl ?_))
        (refine GX.eff rfl ?_; refine GO.callL rfl rfl rfl rfl rfl (partW_ret f ok hf bx bc br ba (doAll ok (doNum st l.length).1 (l.take k)).1 (by rw [doAll_read, hnr]) l[k] b _ w4 hC4 h1 (by omega) (by omega) hab.1) ?_)
        rintro v w5 ⟨rfl, hC5, _, hM5⟩
        refine ⟨fun _ h => by first | trivial | exact Mod.trans h (Ext.mod (by assumption)), ?_⟩
        (repeat (first | refine GX.doneD ?_ | refine GX.done ?_ | refine GQ.goNormal ?_ | refine GC.seq ?_ | refine GC.skip ?_ | refine GC.block ?_ | refine GC.exit ?_ | refine GC.ret ?_ | refine GQ.goExit ?_ | refine GQ.goRet ?_ | refine GQ.inNormal ?_ | refine GQ.inExit ?_ | refine GQ.inExitNe rfl ?_ | refine GQ.inRet ?_ | refine GQ.loopExit ?_ | refine GQ.loopRet ?_ | refine GQ.cutExit ?_ | refine GQ.cutRet ?_))
        refine GC.region (.pure 0 (.pure 1 .done)) rfl ?_
        (repeat (refine GX.pure rfl ?_; first | refine GO.move rfl rfl rfl rfl ?_ | refine GO.add rfl rfl rfl rfl rfl (wrapIn (by dsimp only [InK]; omega)) ?_))
        (repeat (first | refine GX.doneD ?_ | refine GX.done ?_ | refine GQ.goNormal ?_ | refine GC.seq ?_ | refine GC.skip ?_ | refine GC.block ?_ | refine GC.exit ?_ | refine GC.ret ?_ | refine GQ.goExit ?_ | refine GQ.goRet ?_ | refine GQ.inNormal ?_ | refine GQ.inExit ?_ | refine GQ.inExitNe rfl ?_ | refine GQ.inRet ?_ | refine GQ.loopExit ?_ | refine GQ.loopRet ?_ | refine GQ.cutExit ?_ | refine GQ.cutRet ?_))
        refine GQ.again (k + 1) (sub_pick (l := [0, 1, 4, 48, 49]) rfl) ⟨hlt, ?_, hM4.trans (hM5.of fun i h => ?_)⟩ (by omega)
        · rw [List.take_succ_eq_append_getElem hlt, doAll_snoc]; exact hC5
        · rcases h with h | ⟨h, _⟩
          · exact h
          · rw [doAll_read, hnr] at h; cases h
      · have hge : k = l.length := by have := of_decide_eq_false hk2; omega
        subst hge
        (repeat (first | refine GX.doneD ?_ | refine GX.done ?_ | refine GQ.goNormal ?_ | refine GC.seq ?_ | refine GC.skip ?_ | refine GC.block ?_ | refine GC.exit ?_ | refine GC.ret ?_ | refine GQ.goExit ?_ | refine GQ.goRet ?_ | refine GQ.inNormal ?_ | refine GQ.inExit ?_ | refine GQ.inExitNe rfl ?_ | refine GQ.inRet ?_ | refine GQ.loopExit ?_ | refine GQ.loopRet ?_ | refine GQ.cutExit ?_ | refine GQ.cutRet ?_))
        refine GQ.ret0 (by first | exact .inl rfl | exact .inr rfl) rfl ?_
        rw [List.take_length] at hC4
        exact ⟨rfl, hC4, hM4⟩

/-- A slice that fills its block. -/
theorem OwnS.whole {w : World} {el sz b len : Nat} {a : Option Addr} {cs : List Value} (h : OwnS w el sz (some b) a len len cs) : Blk w b cs := by
  obtain ⟨_, ⟨h, _⟩ | ⟨b', hb, rfl, hl, h | ⟨g, c, cur, hv, _, hg, _, _, hcs, ht⟩⟩⟩ := h
  · cases h
  · cases h.1
  · cases hb
    simp only [Value.slice.injEq, Option.some.injEq, Addr.mk.injEq] at hv
    obtain ⟨⟨rfl, _⟩, _, rfl⟩ := hv
    refine ⟨el, ?_⟩
    rw [hg]
    congr 2
    apply Array.toList_inj.1
    rw [← ht, ← hcs, List.take_of_length_le (by simp)]
theorem flatten_rep (n : Nat) : (List.replicate n [str []]).flatten = strsV (List.replicate n []) := by
  induction n with
  | zero => rfl
  | succ n ih => rw [List.replicate_succ, List.flatten_cons, ih, List.replicate_succ]; rfl
theorem set_strs (D T : List (List UInt8)) (s s' : List UInt8) : (strsV (D ++ s :: T)).take D.length ++ [str s'] ++ (strsV (D ++ s :: T)).drop (D.length + 1) = strsV (D ++ [s'] ++ T) := by
  simp [strsV, List.drop_append, List.take_append]

set_option maxHeartbeats 2000000 in
theorem listR_ret (f : FuncId) [CaF Try.prog f] (ok : List UInt8 → Bool) (hf : Tells f ok) (least most : Nat) (hlm : least < 2 ^ 30 ∧ most < 2 ^ 30) (bx bc br : Nat) (ba : Option Nat) (st : St) (hrd : st.read = true) (op : Nat) (la : Option Addr) (lc : Nat) (w : World) (hC : Cx w bx bc br ba st) (hA : At w bc op [.slice la 0 lc]) (hW : Wr w bc op 1) (hL : StrsAt w la lc []) (hl : st.data.length < 2 ^ 38) :
    Ret Try.prog 57 [.pointer (some ⟨bx, 0, none⟩), .pointer (some ⟨bc, op, none⟩), .int .i64 least, .int .i64 most, .func (.func f) #[] #[]].toArray w
      fun v w' => v = .tuple #[] ∧ Cx w' bx bc br ba (doList ok least most st []).1 ∧ (∃ la' lc', Upd w w' bc op [.slice la' (doList ok least most st []).2.length lc'] ∧ (la' = la ∧ lc' = lc ∧ (doList ok least most st []).2 = [] ∨ StrsAt w' la' lc' (doList ok least most st []).2 ∧ ∀ y, la' = some y → w.heap.size ≤ y.block)) ∧ Mod (Fc bx br bc) w w' := by
  have hfl := fun k hk => Fp.lt hC (k := k) hk
  have hG := hC.1
  have hnf := hC.not_fp
  have hnr : (doNum st 0).1.read = true := by rw [doNum_read, hrd]
  have hnl : (doNum st 0).1.data.length ≤ st.data.length := by unfold doNum; rw [if_pos hrd]; exact rdNum_le _
  have hdl : doList ok least most st [] = if (doNum st 0).2 < least ∨ most < (doNum st 0).2 then (setBad (doNum st 0).1, []) else doAll ok (doNum st 0).1 (List.replicate (doNum st 0).2 []) := by
    unfold doList
    rw [hrd]
    simp only [List.length_nil, true_and]
    split
    · rfl
    · split
      · rfl
      · rename_i h; rw [show (doNum st 0).2 = 0 by omega]; rfl
  have hlt0 := doNum_lt st (n := 0) (by decide)
  rw [hdl]
  clear hdl
  
  refine Ret.enter Try.func57 rfl Try.ntmps57 rfl ?_
  (repeat (first | refine GX.doneD ?_ | refine GX.done ?_ | refine GQ.goNormal ?_ | refine GC.seq ?_ | refine GC.skip ?_ | refine GC.block ?_ | refine GC.exit ?_ | refine GC.ret ?_ | refine GQ.goExit ?_ | refine GQ.goRet ?_ | refine GQ.inNormal ?_ | refine GQ.inExit ?_ | refine GQ.inExitNe rfl ?_ | refine GQ.inRet ?_ | refine GQ.loopExit ?_ | refine GQ.loopRet ?_ | refine GQ.cutExit ?_ | refine GQ.cutRet ?_))
  refine GC.region (.pure 0 (.pure 1 (.eff 2 (.pure 3 (.pure 4 (.eff 5 (.eff 6 .done))))))) rfl ?_
  (repeat (refine GX.pure rfl ?_; first | refine GO.move rfl rfl rfl rfl ?_ | refine GO.nilCheck rfl rfl rfl rfl ?_ | refine GO.lenSlice rfl rfl rfl rfl ?_ | refine GO.conv rfl rfl rfl rfl (wrapIn (by dsimp only [InK]; omega)) ?_ | refine GO.convStr rfl rfl rfl rfl ?_ | refine GO.nilCheckF rfl rfl rfl rfl ?_))
  (first | (refine GX.eff rfl ?_; first | refine GO.load1 (hA) rfl rfl rfl ?_ | refine GO.loadN (hA) rfl rfl rfl rfl ?_) | (refine GX.read rfl ?_; first | refine GO.load1R (by assumption) (fun _ hS_ => At.mod (hA) hS_ (by simp)) rfl rfl rfl ?_ | refine GO.loadNR (by assumption) (fun _ hS_ => At.mod (hA) hS_ (by simp)) rfl rfl rfl rfl ?_))
  (repeat (refine GX.pure rfl ?_; first | refine GO.move rfl rfl rfl rfl ?_ | refine GO.nilCheck rfl rfl rfl rfl ?_ | refine GO.lenSlice rfl rfl rfl rfl ?_ | refine GO.conv rfl rfl rfl rfl (wrapIn (by dsimp only [InK]; omega)) ?_ | refine GO.convStr rfl rfl rfl rfl ?_ | refine GO.nilCheckF rfl rfl rfl rfl ?_))
  refine GX.eff rfl ?_
  refine GO.alloc rfl rfl fun bn w1 hbn hblk hE1 => ?_
  refine ⟨fun _ h => by first | trivial | exact Mod.trans h (Ext.mod (by assumption)), ?_⟩
  refine GX.eff rfl ?_
  refine GO.store (vs := [.int .u64 0]) (hblk.wr (by simp)) rfl rfl (by simp [Value.oneCell']) rfl rfl rfl fun w2 hp2 => ⟨(by first | exact fun _ _ => trivial | exact late_abs (by kernel_rfl)), ?_⟩
  have hn2 : Blk w2 bn [.int .u64 0] := by have := hp2.blk hblk; simpa using this
  have hE2 : Ext w w2 := hE1.then hp2.mod fun i hi h => by omega
  have hC2 := hC.ext hE2
  (repeat (first | refine GX.doneD ?_ | refine GX.done ?_ | refine GQ.goNormal ?_ | refine GC.seq ?_ | refine GC.skip ?_ | refine GC.block ?_ | refine GC.exit ?_ | refine GC.ret ?_ | refine GQ.goExit ?_ | refine GQ.goRet ?_ | refine GQ.inNormal ?_ | refine GQ.inExit ?_ | refine GQ.inExitNe rfl ?_ | refine GQ.inRet ?_ | refine GQ.loopExit ?_ | refine GQ.loopRet ?_ | refine GQ.cutExit ?_ | refine GQ.cutRet ?_))
  refine GC.region (.pure 0 (.eff 1 .done)) rfl ?_
  (repeat (refine GX.pure rfl ?_; refine GO.move rfl rfl rfl rfl ?_))
  (refine GX.eff rfl ?_; refine GO.callL rfl rfl rfl rfl rfl (numR_ret bx bc br ba st hrd 0 bn 0 w2 hC2 (hn2.wr (by simp)) (by omega) (by have := hfl bx (.inl rfl); omega) (by have := hfl br (.inr rfl); omega) (fun h => by have := hG.a bn h; omega)) ?_)
  rintro v w3 ⟨rfl, hC3, hU3, hM3⟩
  refine ⟨fun _ h => by first | trivial | exact Mod.trans h (Ext.mod (by assumption)), ?_⟩
  have hn3 : Blk w3 bn [.int .u64 (doNum st 0).2] := by have := hU3.blk hn2; simpa using this
  have hM3' : Mod (Fp bx br) w w3 := (Ext.mod hE2).then hM3 fun i hi h => by
    rcases h with h | ⟨_, h⟩
    · exact h
    · omega
  (repeat (first | refine GX.doneD ?_ | refine GX.done ?_ | refine GQ.goNormal ?_ | refine GC.seq ?_ | refine GC.skip ?_ | refine GC.block ?_ | refine GC.exit ?_ | refine GC.ret ?_ | refine GQ.goExit ?_ | refine GQ.goRet ?_ | refine GQ.inNormal ?_ | refine GQ.inExit ?_ | refine GQ.inExitNe rfl ?_ | refine GQ.inRet ?_ | refine GQ.loopExit ?_ | refine GQ.loopRet ?_ | refine GQ.cutExit ?_ | refine GQ.cutRet ?_))
  have hA3 := hA.mod hM3' hnf
  have hW3 := hW.mod hM3' hnf
  generalize hnn : (doNum st 0).2 = n at *
  refine GC.cut (X := Bool) (fun x => [(0, .pointer (some ⟨bx, 0, none⟩)), (1, .pointer (some ⟨bc, op, none⟩)), (4, .func (.func f) #[] #[]), (10, .pointer (some ⟨bn, 0, none⟩)), (28, .bool x)]) (fun x w' => w3 = w' ∧ x = decide (n < least ∨ most < n)) ?_ ?_
  · refine GC.region (.eff 0 (.pure 1 (.pure 2 (.pure 3 (.pure 4 (.eff 5 (.pure 6 (.pure 7 (.pure 8 (.pure 9 .done)))))))))) rfl ?_
    (first | (refine GX.eff rfl ?_; first | refine GO.load1 (hn3.get (o := 0) rfl) rfl rfl rfl ?_ | refine GO.loadN (hn3.get (o := 0) rfl) rfl rfl rfl rfl ?_) | (refine GX.read rfl ?_; first | refine GO.load1R (by assumption) (fun _ hS_ => At.mod (hn3.get (o := 0) rfl) hS_ (by simp)) rfl rfl rfl ?_ | refine GO.loadNR (by assumption) (fun _ hS_ => At.mod (hn3.get (o := 0) rfl) hS_ (by simp)) rfl rfl rfl rfl ?_))
    (repeat (refine GX.pure rfl ?_; first | refine GO.move rfl rfl rfl rfl ?_ | refine GO.lss rfl rfl rfl rfl rfl ?_ | refine GO.gtr rfl rfl rfl rfl rfl ?_ | refine GO.pickT rfl rfl rfl rfl rfl ?_ | refine GO.pickF rfl rfl rfl rfl rfl ?_ | refine GO.conv rfl rfl rfl rfl (wrapIn (by dsimp only [InK]; omega)) ?_ | refine GO.convStr rfl rfl rfl rfl ?_ | refine GO.skip (.inl rfl) rfl rfl ?_))
    refine GX.case 23 rfl (fun h => ?_) (fun h => ?_)
    · (repeat (refine GX.pure rfl ?_; first | refine GO.move rfl rfl rfl rfl ?_ | refine GO.lss rfl rfl rfl rfl rfl ?_ | refine GO.gtr rfl rfl rfl rfl rfl ?_ | refine GO.pickT rfl rfl rfl rfl rfl ?_ | refine GO.pickF rfl rfl rfl rfl rfl ?_ | refine GO.conv rfl rfl rfl rfl (wrapIn (by dsimp only [InK]; omega)) ?_ | refine GO.convStr rfl rfl rfl rfl ?_ | refine GO.skip (.inl rfl) rfl rfl ?_))
      refine GX.eff rfl ?_
      refine GO.skip (.inr rfl) rfl rfl ?_
      (repeat (refine GX.pure rfl ?_; first | refine GO.move rfl rfl rfl rfl ?_ | refine GO.lss rfl rfl rfl rfl rfl ?_ | refine GO.gtr rfl rfl rfl rfl rfl ?_ | refine GO.pickT rfl rfl rfl rfl rfl ?_ | refine GO.pickF rfl rfl rfl rfl rfl ?_ | refine GO.conv rfl rfl rfl rfl (wrapIn (by dsimp only [InK]; omega)) ?_ | refine GO.convStr rfl rfl rfl rfl ?_ | refine GO.skip (.inl rfl) rfl rfl ?_))
      (repeat (first | refine GX.doneD ?_ | refine GX.done ?_ | refine GQ.goNormal ?_ | refine GC.seq ?_ | refine GC.skip ?_ | refine GC.block ?_ | refine GC.exit ?_ | refine GC.ret ?_ | refine GQ.goExit ?_ | refine GQ.goRet ?_ | refine GQ.inNormal ?_ | refine GQ.inExit ?_ | refine GQ.inExitNe rfl ?_ | refine GQ.inRet ?_ | refine GQ.loopExit ?_ | refine GQ.loopRet ?_ | refine GQ.cutExit ?_ | refine GQ.cutRet ?_))
      exact GQ.cutNormal _ (sub_pick (l := [0, 1, 4, 10, 28]) rfl) ⟨rfl, by have := of_decide_eq_true h; symm; rw [decide_eq_true_eq]; omega⟩
    · (repeat (refine GX.pure rfl ?_; first | refine GO.move rfl rfl rfl rfl ?_ | refine GO.lss rfl rfl rfl rfl rfl ?_ | refine GO.gtr rfl rfl rfl rfl rfl ?_ | refine GO.pickT rfl rfl rfl rfl rfl ?_ | refine GO.pickF rfl rfl rfl rfl rfl ?_ | refine GO.conv rfl rfl rfl rfl (wrapIn (by dsimp only [InK]; omega)) ?_ | refine GO.convStr rfl rfl rfl rfl ?_ | refine GO.skip (.inl rfl) rfl rfl ?_))
      (first | (refine GX.eff rfl ?_; first | refine GO.load1 (hn3.get (o := 0) rfl) rfl rfl rfl ?_ | refine GO.loadN (hn3.get (o := 0) rfl) rfl rfl rfl rfl ?_) | (refine GX.read rfl ?_; first | refine GO.load1R (by assumption) (fun _ hS_ => At.mod (hn3.get (o := 0) rfl) hS_ (by simp)) rfl rfl rfl ?_ | refine GO.loadNR (by assumption) (fun _ hS_ => At.mod (hn3.get (o := 0) rfl) hS_ (by simp)) rfl rfl rfl rfl ?_))
      (repeat (refine GX.pure rfl ?_; first | refine GO.move rfl rfl rfl rfl ?_ | refine GO.lss rfl rfl rfl rfl rfl ?_ | refine GO.gtr rfl rfl rfl rfl rfl ?_ | refine GO.pickT rfl rfl rfl rfl rfl ?_ | refine GO.pickF rfl rfl rfl rfl rfl ?_ | refine GO.conv rfl rfl rfl rfl (wrapIn (by dsimp only [InK]; omega)) ?_ | refine GO.convStr rfl rfl rfl rfl ?_ | refine GO.skip (.inl rfl) rfl rfl ?_))
      (repeat (first | refine GX.doneD ?_ | refine GX.done ?_ | refine GQ.goNormal ?_ | refine GC.seq ?_ | refine GC.skip ?_ | refine GC.block ?_ | refine GC.exit ?_ | refine GC.ret ?_ | refine GQ.goExit ?_ | refine GQ.goRet ?_ | refine GQ.inNormal ?_ | refine GQ.inExit ?_ | refine GQ.inExitNe rfl ?_ | refine GQ.inRet ?_ | refine GQ.loopExit ?_ | refine GQ.loopRet ?_ | refine GQ.cutExit ?_ | refine GQ.cutRet ?_))
      exact GQ.cutNormal _ (sub_pick (l := [0, 1, 4, 10, 28]) rfl) ⟨rfl, by have := of_decide_eq_false h; rw [decide_eq_decide]; omega⟩
  rintro x _ ⟨rfl, rfl⟩
  (repeat (first | refine GX.doneD ?_ | refine GX.done ?_ | refine GQ.goNormal ?_ | refine GC.seq ?_ | refine GC.skip ?_ | refine GC.block ?_ | refine GC.exit ?_ | refine GC.ret ?_ | refine GQ.goExit ?_ | refine GQ.goRet ?_ | refine GQ.inNormal ?_ | refine GQ.inExit ?_ | refine GQ.inExitNe rfl ?_ | refine GQ.inRet ?_ | refine GQ.loopExit ?_ | refine GQ.loopRet ?_ | refine GQ.cutExit ?_ | refine GQ.cutRet ?_))
  refine GC.cond rfl (fun hbad => ?_) (fun hbad => ?_)
  · have hbad' : n < least ∨ most < n := of_decide_eq_true hbad
    rw [if_pos hbad']
    obtain ⟨v1, v2, hb3⟩ := hC3.blkX
    (repeat (first | refine GX.doneD ?_ | refine GX.done ?_ | refine GQ.goNormal ?_ | refine GC.seq ?_ | refine GC.skip ?_ | refine GC.block ?_ | refine GC.exit ?_ | refine GC.ret ?_ | refine GQ.goExit ?_ | refine GQ.goRet ?_ | refine GQ.inNormal ?_ | refine GQ.inExit ?_ | refine GQ.inExitNe rfl ?_ | refine GQ.inRet ?_ | refine GQ.loopExit ?_ | refine GQ.loopRet ?_ | refine GQ.cutExit ?_ | refine GQ.cutRet ?_))
    refine GC.region (.pure 0 (.pure 1 (.pure 2 (.eff 3 .done)))) rfl ?_
    (repeat (refine GX.pure rfl ?_; first | refine GO.move rfl rfl rfl rfl ?_ | refine GO.nilCheck rfl rfl rfl rfl ?_ | refine GO.fieldAddr rfl rfl rfl rfl rfl ?_ | refine GO.nilCheckF rfl rfl rfl rfl ?_))
    refine GX.eff rfl ?_
    refine GO.store (vs := [.bool true]) (hb3.wr (by simp)) rfl rfl (by simp [Value.oneCell']) rfl rfl rfl fun w6 hp => ⟨(by first | exact fun _ _ => trivial | exact late_abs (by kernel_rfl)), ?_⟩
    (repeat (first | refine GX.doneD ?_ | refine GX.done ?_ | refine GQ.goNormal ?_ | refine GC.seq ?_ | refine GC.skip ?_ | refine GC.block ?_ | refine GC.exit ?_ | refine GC.ret ?_ | refine GQ.goExit ?_ | refine GQ.goRet ?_ | refine GQ.inNormal ?_ | refine GQ.inExit ?_ | refine GQ.inExitNe rfl ?_ | refine GQ.inRet ?_ | refine GQ.loopExit ?_ | refine GQ.loopRet ?_ | refine GQ.cutExit ?_ | refine GQ.cutRet ?_))
    refine GQ.ret0 (by first | exact .inl rfl | exact .inr rfl) rfl ?_
    exact ⟨rfl, hC3.setBad hp, ⟨la, lc, ((upd_same hA).post hM3' hnf).post hp.mod (fun h => hG.xc h.symm), .inl ⟨rfl, rfl, rfl⟩⟩, (hM3'.of fun k hk => .inl hk).trans (hp.mod.of fun k hk => .inl (.inl hk))⟩
  · have hbad' : ¬ (n < least ∨ most < n) := of_decide_eq_false hbad
    rw [if_neg hbad']
    have hCC := hC3.2
    rw [hnr] at hCC
    obtain ⟨hb3, hR3, hxr, hax⟩ := hCC
    (repeat (first | refine GX.doneD ?_ | refine GX.done ?_ | refine GQ.goNormal ?_ | refine GC.seq ?_ | refine GC.skip ?_ | refine GC.block ?_ | refine GC.exit ?_ | refine GC.ret ?_ | refine GQ.goExit ?_ | refine GQ.goRet ?_ | refine GQ.inNormal ?_ | refine GQ.inExit ?_ | refine GQ.inExitNe rfl ?_ | refine GQ.inRet ?_ | refine GQ.loopExit ?_ | refine GQ.loopRet ?_ | refine GQ.cutExit ?_ | refine GQ.cutRet ?_))
    refine GC.region (.pure 0 (.pure 1 (.pure 2 (.eff 3 (.pure 4 (.pure 5 (.eff 6 (.pure 7 (.pure 8 .done))))))))) rfl ?_
    (repeat (refine GX.pure rfl ?_; first | refine GO.move rfl rfl rfl rfl ?_ | refine GO.nilCheck rfl rfl rfl rfl ?_ | refine GO.fieldAddr rfl rfl rfl rfl rfl ?_ | refine GO.gtr rfl rfl rfl rfl rfl ?_ | refine GO.pickT rfl rfl rfl rfl rfl ?_ | refine GO.pickF rfl rfl rfl rfl rfl ?_ | refine GO.ptrNeqNil rfl rfl rfl rfl rfl ?_ | refine GO.nilCheckF rfl rfl rfl rfl ?_ | refine GO.skip (.inl rfl) rfl rfl ?_))
    (first | (refine GX.eff rfl ?_; first | refine GO.load1 (hb3.get (o := 0 + 1) rfl) rfl rfl rfl ?_ | refine GO.loadN (hb3.get (o := 0 + 1) rfl) rfl rfl rfl rfl ?_) | (refine GX.read rfl ?_; first | refine GO.load1R (by assumption) (fun _ hS_ => At.mod (hb3.get (o := 0 + 1) rfl) hS_ (by simp)) rfl rfl rfl ?_ | refine GO.loadNR (by assumption) (fun _ hS_ => At.mod (hb3.get (o := 0 + 1) rfl) hS_ (by simp)) rfl rfl rfl rfl ?_))
    (repeat (refine GX.pure rfl ?_; first | refine GO.move rfl rfl rfl rfl ?_ | refine GO.nilCheck rfl rfl rfl rfl ?_ | refine GO.fieldAddr rfl rfl rfl rfl rfl ?_ | refine GO.gtr rfl rfl rfl rfl rfl ?_ | refine GO.pickT rfl rfl rfl rfl rfl ?_ | refine GO.pickF rfl rfl rfl rfl rfl ?_ | refine GO.ptrNeqNil rfl rfl rfl rfl rfl ?_ | refine GO.nilCheckF rfl rfl rfl rfl ?_ | refine GO.skip (.inl rfl) rfl rfl ?_))
    (first | (refine GX.eff rfl ?_; first | refine GO.load1 (hn3.get (o := 0) rfl) rfl rfl rfl ?_ | refine GO.loadN (hn3.get (o := 0) rfl) rfl rfl rfl rfl ?_) | (refine GX.read rfl ?_; first | refine GO.load1R (by assumption) (fun _ hS_ => At.mod (hn3.get (o := 0) rfl) hS_ (by simp)) rfl rfl rfl ?_ | refine GO.loadNR (by assumption) (fun _ hS_ => At.mod (hn3.get (o := 0) rfl) hS_ (by simp)) rfl rfl rfl rfl ?_))
    (repeat (refine GX.pure rfl ?_; first | refine GO.move rfl rfl rfl rfl ?_ | refine GO.nilCheck rfl rfl rfl rfl ?_ | refine GO.fieldAddr rfl rfl rfl rfl rfl ?_ | refine GO.gtr rfl rfl rfl rfl rfl ?_ | refine GO.pickT rfl rfl rfl rfl rfl ?_ | refine GO.pickF rfl rfl rfl rfl rfl ?_ | refine GO.ptrNeqNil rfl rfl rfl rfl rfl ?_ | refine GO.nilCheckF rfl rfl rfl rfl ?_ | refine GO.skip (.inl rfl) rfl rfl ?_))
    (repeat (first | refine GX.doneD ?_ | refine GX.done ?_ | refine GQ.goNormal ?_ | refine GC.seq ?_ | refine GC.skip ?_ | refine GC.block ?_ | refine GC.exit ?_ | refine GC.ret ?_ | refine GQ.goExit ?_ | refine GQ.goRet ?_ | refine GQ.inNormal ?_ | refine GQ.inExit ?_ | refine GQ.inExitNe rfl ?_ | refine GQ.inRet ?_ | refine GQ.loopExit ?_ | refine GQ.loopRet ?_ | refine GQ.cutExit ?_ | refine GQ.cutRet ?_))
    refine GC.cond rfl (fun hh => ?_) (fun hh => ?_)
    · have hpos : 0 < n := by have := of_decide_eq_true hh; omega
      (repeat (first | refine GX.doneD ?_ | refine GX.done ?_ | refine GQ.goNormal ?_ | refine GC.seq ?_ | refine GC.skip ?_ | refine GC.block ?_ | refine GC.exit ?_ | refine GC.ret ?_ | refine GQ.goExit ?_ | refine GQ.goRet ?_ | refine GQ.inNormal ?_ | refine GQ.inExit ?_ | refine GQ.inExitNe rfl ?_ | refine GQ.inRet ?_ | refine GQ.loopExit ?_ | refine GQ.loopRet ?_ | refine GQ.cutExit ?_ | refine GQ.cutRet ?_))
      refine GC.region (.pure 0 (.eff 1 (.eff 2 (.pure 3 (.eff 4 .done))))) rfl ?_
      (repeat (refine GX.pure rfl ?_; first | refine GO.move rfl rfl rfl rfl ?_ | refine GO.nilCheck rfl rfl rfl rfl ?_ | refine GO.nilCheckF rfl rfl rfl rfl ?_))
      (first | (refine GX.eff rfl ?_; first | refine GO.load1 (hn3.get (o := 0) rfl) rfl rfl rfl ?_ | refine GO.loadN (hn3.get (o := 0) rfl) rfl rfl rfl rfl ?_) | (refine GX.read rfl ?_; first | refine GO.load1R (by assumption) (fun _ hS_ => At.mod (hn3.get (o := 0) rfl) hS_ (by simp)) rfl rfl rfl ?_ | refine GO.loadNR (by assumption) (fun _ hS_ => At.mod (hn3.get (o := 0) rfl) hS_ (by simp)) rfl rfl rfl rfl ?_))
      refine GX.eff rfl ?_
      refine GO.makeSlice (zl := [str []]) (by kernel_rfl) rfl rfl rfl (by omega) (Int.le_refl _) (by omega) (by omega) rfl fun bl w4 hbl hO4 hE4 => ?_
      refine ⟨fun _ h => by first | trivial | exact Mod.trans h (Ext.mod (by assumption)), ?_⟩
      have e1 : ((n : Nat) : Int).toNat = n := by omega
      rw [e1] at hO4 ⊢
      rw [flatten_rep] at hO4
      have hB4 := hO4.whole
      (repeat (refine GX.pure rfl ?_; first | refine GO.move rfl rfl rfl rfl ?_ | refine GO.nilCheck rfl rfl rfl rfl ?_ | refine GO.nilCheckF rfl rfl rfl rfl ?_))
      have hW4 := hW3.mod hE4 id
      refine GX.eff rfl ?_
      refine GO.store (vs := [.slice (some ⟨bl, 0, none⟩) n n]) hW4 rfl rfl (by simp [Value.oneCell']) rfl rfl rfl fun w5 hp5 => ⟨(by first | exact fun _ _ => trivial | exact late_abs (by kernel_rfl)), ?_⟩
      have hblw : w.heap.size ≤ bl := by have := hM3'.size; omega
      have hB5 := hB4.mod hp5.mod (by have := hG.c; omega)
      have hU5 : Upd w w5 bc op [.slice (some ⟨bl, 0, none⟩) n n] := (hp5.upd.pre hE4 id).pre hM3' hnf
      have hM5 : Mod (Fc bx br bc) w w5 := ((hM3'.of fun k hk => .inl hk).trans (Ext.mod hE4)).trans (hp5.mod.of fun k hk => .inr hk)
      have hC5 : Cx w5 bx bc br ba (doNum st 0).1 := (hC3.ext hE4).mod hp5.mod hG.xc (fun h => hG.cr h.symm) (fun k hk => .inl hk)
      have hA5 : At w5 bc op [.slice (some ⟨bl, 0, none⟩) n n] := hU5.at hW
      (repeat (first | refine GX.doneD ?_ | refine GX.done ?_ | refine GQ.goNormal ?_ | refine GC.seq ?_ | refine GC.skip ?_ | refine GC.block ?_ | refine GC.exit ?_ | refine GC.ret ?_ | refine GQ.goExit ?_ | refine GQ.goRet ?_ | refine GQ.inNormal ?_ | refine GQ.inExit ?_ | refine GQ.inExitNe rfl ?_ | refine GQ.inRet ?_ | refine GQ.loopExit ?_ | refine GQ.loopRet ?_ | refine GQ.cutExit ?_ | refine GQ.cutRet ?_))
      refine GC.region (.pure 0 (.pure 1 (.eff 2 (.pure 3 (.pure 4 .done))))) rfl ?_
      (repeat (refine GX.pure rfl ?_; first | refine GO.move rfl rfl rfl rfl ?_ | refine GO.nilCheck rfl rfl rfl rfl ?_ | refine GO.lenSlice rfl rfl rfl rfl ?_ | refine GO.nilCheckF rfl rfl rfl rfl ?_))
      (first | (refine GX.eff rfl ?_; first | refine GO.load1 (hA5) rfl rfl rfl ?_ | refine GO.loadN (hA5) rfl rfl rfl rfl ?_) | (refine GX.read rfl ?_; first | refine GO.load1R (by assumption) (fun _ hS_ => At.mod (hA5) hS_ (by simp)) rfl rfl rfl ?_ | refine GO.loadNR (by assumption) (fun _ hS_ => At.mod (hA5) hS_ (by simp)) rfl rfl rfl rfl ?_))
      (repeat (refine GX.pure rfl ?_; first | refine GO.move rfl rfl rfl rfl ?_ | refine GO.nilCheck rfl rfl rfl rfl ?_ | refine GO.lenSlice rfl rfl rfl rfl ?_ | refine GO.nilCheckF rfl rfl rfl rfl ?_))
      (repeat (first | refine GX.doneD ?_ | refine GX.done ?_ | refine GQ.goNormal ?_ | refine GC.seq ?_ | refine GC.skip ?_ | refine GC.block ?_ | refine GC.exit ?_ | refine GC.ret ?_ | refine GQ.goExit ?_ | refine GQ.goRet ?_ | refine GQ.inNormal ?_ | refine GQ.inExit ?_ | refine GQ.inExitNe rfl ?_ | refine GQ.inRet ?_ | refine GQ.loopExit ?_ | refine GQ.loopRet ?_ | refine GQ.cutExit ?_ | refine GQ.cutRet ?_))
      refine GC.loop (X := Nat) (fun k => [(0, .pointer (some ⟨bx, 0, none⟩)), (1, .pointer (some ⟨bc, op, none⟩)), (4, .func (.func f) #[] #[]), (48, .int .i64 n), (49, .int .i64 k)])
        (fun k w' => k ≤ n ∧ Cx w' bx bc br ba (doAll ok (doNum st 0).1 (List.replicate k [])).1 ∧ Blk w' bl (strsV ((doAll ok (doNum st 0).1 (List.replicate k [])).2 ++ List.replicate (n - k) [])) ∧ Upd w w' bc op [.slice (some ⟨bl, 0, none⟩) n n] ∧ Mod (Fc bx br bc) w w') (fun k => n - k) 0 (sub_pick (l := [0, 1, 4, 48, 49]) rfl) ⟨Nat.zero_le _, hC5, hB5, hU5, hM5⟩ ?_
      rintro k w6 ⟨hk, hC6, hB6, hU6, hM6⟩
      (repeat (first | refine GX.doneD ?_ | refine GX.done ?_ | refine GQ.goNormal ?_ | refine GC.seq ?_ | refine GC.skip ?_ | refine GC.block ?_ | refine GC.exit ?_ | refine GC.ret ?_ | refine GQ.goExit ?_ | refine GQ.goRet ?_ | refine GQ.inNormal ?_ | refine GQ.inExit ?_ | refine GQ.inExitNe rfl ?_ | refine GQ.inRet ?_ | refine GQ.loopExit ?_ | refine GQ.loopRet ?_ | refine GQ.cutExit ?_ | refine GQ.cutRet ?_))
      refine GC.region (.pure 0 .done) rfl ?_
      (repeat (refine GX.pure rfl ?_; refine GO.lss rfl rfl rfl rfl rfl ?_))
      (repeat (first | refine GX.doneD ?_ | refine GX.done ?_ | refine GQ.goNormal ?_ | refine GC.seq ?_ | refine GC.skip ?_ | refine GC.block ?_ | refine GC.exit ?_ | refine GC.ret ?_ | refine GQ.goExit ?_ | refine GQ.goRet ?_ | refine GQ.inNormal ?_ | refine GQ.inExit ?_ | refine GQ.inExitNe rfl ?_ | refine GQ.inRet ?_ | refine GQ.loopExit ?_ | refine GQ.loopRet ?_ | refine GQ.cutExit ?_ | refine GQ.cutRet ?_))
      refine GC.cond rfl (fun hk2 => ?_) (fun hk2 => ?_)
      · have hlt : k < n := by have := of_decide_eq_true hk2; omega
        have hA6 : At w6 bc op [.slice (some ⟨bl, 0, none⟩) n n] := hU6.at hW
        have hrep : List.replicate (n - k) ([] : List UInt8) = [] :: List.replicate (n - (k + 1)) [] := by
          rw [show n - k = (n - (k + 1)) + 1 by omega, List.replicate_succ]
        rw [hrep] at hB6
        have hdlen : (doAll ok (doNum st 0).1 (List.replicate k [])).2.length = k := by rw [doAll_length, List.length_replicate]
        have hda := doAll_len_read ok (List.replicate k []) (doNum st 0).1 hnr
        have hdr := doAll_read ok (List.replicate k []) (doNum st 0).1
        have hsnoc := doAll_snoc ok (List.replicate k []) (doNum st 0).1 []
        rw [← List.replicate_succ'] at hsnoc
        generalize hD : doAll ok (doNum st 0).1 (List.replicate k []) = D at *
        obtain ⟨st6, D⟩ := D
        dsimp only at hdlen hda hdr hsnoc hC6 hB6
        have h1 : At w6 bl (0 + (k : Int).toNat * 1) [str []] := by
          have := hB6.get (o := k) (l' := str [] :: strsV (List.replicate (n - (k + 1)) [])) (by subst hdlen; simp [strsV])
          have e : 0 + (k : Int).toNat * 1 = k := by omega
          rw [e]
          exact this.left (l := [_])
        have hlenB : (strsV (D ++ [] :: List.replicate (n - (k + 1)) [])).length = n := by simp [hdlen]; omega
        have hW6 : Wr w6 bl (0 + (k : Int).toNat * 1) 1 := hB6.wr (by rw [hlenB]; omega)
        (repeat (first | refine GX.doneD ?_ | refine GX.done ?_ | refine GQ.goNormal ?_ | refine GC.seq ?_ | refine GC.skip ?_ | refine GC.block ?_ | refine GC.exit ?_ | refine GC.ret ?_ | refine GQ.goExit ?_ | refine GQ.goRet ?_ | refine GQ.inNormal ?_ | refine GQ.inExit ?_ | refine GQ.inExitNe rfl ?_ | refine GQ.inRet ?_ | refine GQ.loopExit ?_ | refine GQ.loopRet ?_ | refine GQ.cutExit ?_ | refine GQ.cutRet ?_))
        refine GC.region (.pure 0 (.pure 1 .done)) rfl ?_
        (repeat (refine GX.pure rfl ?_; first | refine GO.move rfl rfl rfl rfl ?_ | refine GO.assign rfl rfl rfl rfl ?_))
        (repeat (first | refine GX.doneD ?_ | refine GX.done ?_ | refine GQ.goNormal ?_ | refine GC.seq ?_ | refine GC.skip ?_ | refine GC.block ?_ | refine GC.exit ?_ | refine GC.ret ?_ | refine GQ.goExit ?_ | refine GQ.goRet ?_ | refine GQ.inNormal ?_ | refine GQ.inExit ?_ | refine GQ.inExitNe rfl ?_ | refine GQ.inRet ?_ | refine GQ.loopExit ?_ | refine GQ.loopRet ?_ | refine GQ.cutExit ?_ | refine GQ.cutRet ?_))
        refine GC.region (.pure 0 (.pure 1 (.pure 2 (.eff 3 (.pure 4 (.pure 5 (.pure 6 (.eff 7 .done)))))))) rfl ?_
        (repeat (refine GX.pure rfl ?_; first | refine GO.move rfl rfl rfl rfl ?_ | refine GO.nilCheck rfl rfl rfl rfl ?_ | refine GO.nilCheckF rfl rfl rfl rfl ?_))
        (first | (refine GX.eff rfl ?_; first | refine GO.load1 (hA6) rfl rfl rfl ?_ | refine GO.loadN (hA6) rfl rfl rfl rfl ?_) | (refine GX.read rfl ?_; first | refine GO.load1R (by assumption) (fun _ hS_ => At.mod (hA6) hS_ (by simp)) rfl rfl rfl ?_ | refine GO.loadNR (by assumption) (fun _ hS_ => At.mod (hA6) hS_ (by simp)) rfl rfl rfl rfl ?_))
        (repeat (refine GX.pure rfl ?_; first | refine GO.move rfl rfl rfl rfl ?_ | refine GO.nilCheck rfl rfl rfl rfl ?_ | refine GO.nilCheckF rfl rfl rfl rfl ?_))
        refine GX.pure rfl ?_
        refine GO.indexAddr rfl rfl rfl rfl (by omega) (by omega) rfl ?_
        (repeat (refine GX.pure rfl ?_; first | refine GO.move rfl rfl rfl rfl ?_ | refine GO.nilCheck rfl rfl rfl rfl ?_ | refine GO.nilCheckF rfl rfl rfl rfl ?_))
        (refine GX.eff rfl ?_; refine GO.callL rfl rfl rfl rfl rfl (partR_ret f ok hf bx bc br ba st6 (by rw [hdr, hnr]) [] bl _ w6 hC6 hW6 (by omega) (by have := hfl bx (.inl rfl); omega) (by have := hfl br (.inr rfl); omega) (fun h => by have := hG.a bl h; omega)) ?_)
        rintro v w7 ⟨rfl, hC7, hU7, hM7⟩
        refine ⟨fun _ h => by first | trivial | exact Mod.trans h (Ext.mod (by assumption)), ?_⟩
        (repeat (first | refine GX.doneD ?_ | refine GX.done ?_ | refine GQ.goNormal ?_ | refine GC.seq ?_ | refine GC.skip ?_ | refine GC.block ?_ | refine GC.exit ?_ | refine GC.ret ?_ | refine GQ.goExit ?_ | refine GQ.goRet ?_ | refine GQ.inNormal ?_ | refine GQ.inExit ?_ | refine GQ.inExitNe rfl ?_ | refine GQ.inRet ?_ | refine GQ.loopExit ?_ | refine GQ.loopRet ?_ | refine GQ.cutExit ?_ | refine GQ.cutRet ?_))
        refine GC.region (.pure 0 (.pure 1 .done)) rfl ?_
        (repeat (refine GX.pure rfl ?_; first | refine GO.move rfl rfl rfl rfl ?_ | refine GO.add rfl rfl rfl rfl rfl (wrapIn (by dsimp only [InK]; omega)) ?_))
        (repeat (first | refine GX.doneD ?_ | refine GX.done ?_ | refine GQ.goNormal ?_ | refine GC.seq ?_ | refine GC.skip ?_ | refine GC.block ?_ | refine GC.exit ?_ | refine GC.ret ?_ | refine GQ.goExit ?_ | refine GQ.goRet ?_ | refine GQ.inNormal ?_ | refine GQ.inExit ?_ | refine GQ.inExitNe rfl ?_ | refine GQ.inRet ?_ | refine GQ.loopExit ?_ | refine GQ.loopRet ?_ | refine GQ.cutExit ?_ | refine GQ.cutRet ?_))
        refine GQ.again (k + 1) (sub_pick (l := [0, 1, 4, 48, 49]) rfl) ⟨hlt, ?_, ?_, hU6.post hM7 (fun h => ?_), hM6.then hM7 (fun i hi h => ?_)⟩ (by omega)
        · rw [hsnoc]; exact hC7
        · have := hU7.blk hB6
          have e : 0 + (k : Int).toNat * 1 = D.length := by omega
          rw [e, List.length_singleton, set_strs] at this
          rw [hsnoc]
          exact this
        · rcases h with h | ⟨_, h⟩
          · exact hnf h
          · have := hG.c; omega
        · rcases h with h | ⟨_, h⟩
          · exact .inl h
          · omega
      · have hge : k = n := by have := of_decide_eq_false hk2; omega
        subst hge
        rw [Nat.sub_self, List.replicate_zero, List.append_nil] at hB6
        (repeat (first | refine GX.doneD ?_ | refine GX.done ?_ | refine GQ.goNormal ?_ | refine GC.seq ?_ | refine GC.skip ?_ | refine GC.block ?_ | refine GC.exit ?_ | refine GC.ret ?_ | refine GQ.goExit ?_ | refine GQ.goRet ?_ | refine GQ.inNormal ?_ | refine GQ.inExit ?_ | refine GQ.inExitNe rfl ?_ | refine GQ.inRet ?_ | refine GQ.loopExit ?_ | refine GQ.loopRet ?_ | refine GQ.cutExit ?_ | refine GQ.cutRet ?_))
        refine GQ.ret0 (by first | exact .inl rfl | exact .inr rfl) rfl ?_
        have hlen : (doAll ok (doNum st 0).1 (List.replicate k [])).2.length = k := by rw [doAll_length, List.length_replicate]
        refine ⟨rfl, hC6, ⟨some ⟨bl, 0, none⟩, k, ?_, .inr ⟨⟨hB6.at, Nat.le_of_eq hlen, by simp, ?_⟩, ?_⟩⟩, hM6⟩
        · rw [hlen]; exact hU6
        · rintro x ⟨⟩; exact fun _ => hB6.lt
        · rintro x ⟨⟩; exact hblw
    · have hz : n = 0 := by have := of_decide_eq_false hh; omega
      rw [hz]
      (repeat (first | refine GX.doneD ?_ | refine GX.done ?_ | refine GQ.goNormal ?_ | refine GC.seq ?_ | refine GC.skip ?_ | refine GC.block ?_ | refine GC.exit ?_ | refine GC.ret ?_ | refine GQ.goExit ?_ | refine GQ.goRet ?_ | refine GQ.inNormal ?_ | refine GQ.inExit ?_ | refine GQ.inExitNe rfl ?_ | refine GQ.inRet ?_ | refine GQ.loopExit ?_ | refine GQ.loopRet ?_ | refine GQ.cutExit ?_ | refine GQ.cutRet ?_))
      refine GC.region (.pure 0 (.pure 1 (.eff 2 (.pure 3 (.pure 4 .done))))) rfl ?_
      (repeat (refine GX.pure rfl ?_; first | refine GO.move rfl rfl rfl rfl ?_ | refine GO.nilCheck rfl rfl rfl rfl ?_ | refine GO.lenSlice rfl rfl rfl rfl ?_ | refine GO.nilCheckF rfl rfl rfl rfl ?_))
      (first | (refine GX.eff rfl ?_; first | refine GO.load1 (hA3) rfl rfl rfl ?_ | refine GO.loadN (hA3) rfl rfl rfl rfl ?_) | (refine GX.read rfl ?_; first | refine GO.load1R (by assumption) (fun _ hS_ => At.mod (hA3) hS_ (by simp)) rfl rfl rfl ?_ | refine GO.loadNR (by assumption) (fun _ hS_ => At.mod (hA3) hS_ (by simp)) rfl rfl rfl rfl ?_))
      (repeat (refine GX.pure rfl ?_; first | refine GO.move rfl rfl rfl rfl ?_ | refine GO.nilCheck rfl rfl rfl rfl ?_ | refine GO.lenSlice rfl rfl rfl rfl ?_ | refine GO.nilCheckF rfl rfl rfl rfl ?_))
      (repeat (first | refine GX.doneD ?_ | refine GX.done ?_ | refine GQ.goNormal ?_ | refine GC.seq ?_ | refine GC.skip ?_ | refine GC.block ?_ | refine GC.exit ?_ | refine GC.ret ?_ | refine GQ.goExit ?_ | refine GQ.goRet ?_ | refine GQ.inNormal ?_ | refine GQ.inExit ?_ | refine GQ.inExitNe rfl ?_ | refine GQ.inRet ?_ | refine GQ.loopExit ?_ | refine GQ.loopRet ?_ | refine GQ.cutExit ?_ | refine GQ.cutRet ?_))
      refine GC.loop (X := Unit) (fun k => [(48, .int .i64 0), (49, .int .i64 0)]) (fun k w' => w3 = w') (fun k => 0) () (sub_pick (l := [48, 49]) rfl) rfl ?_
      rintro _ _ rfl
      (repeat (first | refine GX.doneD ?_ | refine GX.done ?_ | refine GQ.goNormal ?_ | refine GC.seq ?_ | refine GC.skip ?_ | refine GC.block ?_ | refine GC.exit ?_ | refine GC.ret ?_ | refine GQ.goExit ?_ | refine GQ.goRet ?_ | refine GQ.inNormal ?_ | refine GQ.inExit ?_ | refine GQ.inExitNe rfl ?_ | refine GQ.inRet ?_ | refine GQ.loopExit ?_ | refine GQ.loopRet ?_ | refine GQ.cutExit ?_ | refine GQ.cutRet ?_))
      refine GC.region (.pure 0 .done) rfl ?_
      (repeat (refine GX.pure rfl ?_; refine GO.lss rfl rfl rfl rfl rfl ?_))
      (repeat (first | refine GX.doneD ?_ | refine GX.done ?_ | refine GQ.goNormal ?_ | refine GC.seq ?_ | refine GC.skip ?_ | refine GC.block ?_ | refine GC.exit ?_ | refine GC.ret ?_ | refine GQ.goExit ?_ | refine GQ.goRet ?_ | refine GQ.inNormal ?_ | refine GQ.inExit ?_ | refine GQ.inExitNe rfl ?_ | refine GQ.inRet ?_ | refine GQ.loopExit ?_ | refine GQ.loopRet ?_ | refine GQ.cutExit ?_ | refine GQ.cutRet ?_))
      refine GC.cond rfl (fun hk2 => ?_) (fun hk2 => ?_)
      · exact absurd (of_decide_eq_true hk2) (by decide)
      · (repeat (first | refine GX.doneD ?_ | refine GX.done ?_ | refine GQ.goNormal ?_ | refine GC.seq ?_ | refine GC.skip ?_ | refine GC.block ?_ | refine GC.exit ?_ | refine GC.ret ?_ | refine GQ.goExit ?_ | refine GQ.goRet ?_ | refine GQ.inNormal ?_ | refine GQ.inExit ?_ | refine GQ.inExitNe rfl ?_ | refine GQ.inRet ?_ | refine GQ.loopExit ?_ | refine GQ.loopRet ?_ | refine GQ.cutExit ?_ | refine GQ.cutRet ?_))
        refine GQ.ret0 (by first | exact .inl rfl | exact .inr rfl) rfl ?_
        exact ⟨rfl, hC3, ⟨la, lc, (upd_same hA).post hM3' hnf, .inl ⟨rfl, rfl, rfl⟩⟩, hM3'.of fun k hk => .inl hk⟩
end Go.Proofs.Ytahkglanddhncaa.V
