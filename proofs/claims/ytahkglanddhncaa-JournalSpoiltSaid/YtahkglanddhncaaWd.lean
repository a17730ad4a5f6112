/-
  What the functions that read numbers in groups of seven bits compute, and the tests of keys and tags (packages varint, key). Conditions: the lengths of what is read stay below 2^40.
-/
import Derived.Test.YtahkglanddhncaaWc
namespace Go.Proofs.Ytahkglanddhncaa.V
attribute [local irreducible] GX GO

theorem size_str (l : List UInt8) : (⟨l.toArray⟩ : ByteArray).size = l.length := by simp [ByteArray.size]

def okKey (l : List UInt8) : Bool := decide (0 < l.length ∧ l.length ≤ 250)
def okTag (l : List UInt8) : Bool := decide (0 < l.length ∧ l.length ≤ 64)
def okPrefix (l : List UInt8) : Bool := decide (l.length ≤ 250)

set_option maxHeartbeats 400000 in
theorem keyValid_ret (l : List UInt8) (w : World) : Ret Try.prog 55 [str l].toArray w fun v w' => v = .bool (okKey l) ∧ Ext w w' := by
  have hs := size_str l
  
  refine Ret.enter Try.func55 rfl Try.ntmps55 rfl ?_
  (repeat (first | refine GX.doneD ?_ | refine GX.done ?_ | refine GQ.goNormal ?_ | refine GC.seq ?_ | refine GC.skip ?_ | refine GC.block ?_ | refine GC.exit ?_ | refine GC.ret ?_ | refine GQ.goExit ?_ | refine GQ.goRet ?_ | refine GQ.inNormal ?_ | refine GQ.inExit ?_ | refine GQ.inExitNe rfl ?_ | refine GQ.inRet ?_ | refine GQ.loopExit ?_ | refine GQ.loopRet ?_ | refine GQ.cutExit ?_ | refine GQ.cutRet ?_))
  refine GC.region (.pure 0 .done) rfl ?_
  (repeat (refine GX.pure rfl ?_; refine GO.assign rfl rfl rfl rfl ?_))
  (repeat (first | refine GX.doneD ?_ | refine GX.done ?_ | refine GQ.goNormal ?_ | refine GC.seq ?_ | refine GC.skip ?_ | refine GC.block ?_ | refine GC.exit ?_ | refine GC.ret ?_ | refine GQ.goExit ?_ | refine GQ.goRet ?_ | refine GQ.inNormal ?_ | refine GQ.inExit ?_ | refine GQ.inExitNe rfl ?_ | refine GQ.inRet ?_ | refine GQ.loopExit ?_ | refine GQ.loopRet ?_ | refine GQ.cutExit ?_ | refine GQ.cutRet ?_))
  refine GC.region (.pure 0 (.pure 1 (.pure 2 (.pure 3 (.pure 4 (.pure 5 (.pure 6 (.pure 7 (.pure 8 .done))))))))) rfl ?_
  (repeat (refine GX.pure rfl ?_; first | refine GO.move rfl rfl rfl rfl ?_ | refine GO.assign rfl rfl rfl rfl ?_ | refine GO.lenStr rfl rfl rfl rfl ?_ | refine GO.gtr rfl rfl rfl rfl rfl ?_ | refine GO.leq rfl rfl rfl rfl rfl ?_ | refine GO.pickT rfl rfl rfl rfl rfl ?_ | refine GO.pickF rfl rfl rfl rfl rfl ?_ | refine GO.skip (.inl rfl) rfl rfl ?_))
  refine GX.case 6 rfl (fun h => ?_) (fun h => ?_)
  · (repeat (refine GX.pure rfl ?_; first | refine GO.move rfl rfl rfl rfl ?_ | refine GO.assign rfl rfl rfl rfl ?_ | refine GO.lenStr rfl rfl rfl rfl ?_ | refine GO.gtr rfl rfl rfl rfl rfl ?_ | refine GO.leq rfl rfl rfl rfl rfl ?_ | refine GO.pickT rfl rfl rfl rfl rfl ?_ | refine GO.pickF rfl rfl rfl rfl rfl ?_ | refine GO.skip (.inl rfl) rfl rfl ?_))
    (repeat (first | refine GX.doneD ?_ | refine GX.done ?_ | refine GQ.goNormal ?_ | refine GC.seq ?_ | refine GC.skip ?_ | refine GC.block ?_ | refine GC.exit ?_ | refine GC.ret ?_ | refine GQ.goExit ?_ | refine GQ.goRet ?_ | refine GQ.inNormal ?_ | refine GQ.inExit ?_ | refine GQ.inExitNe rfl ?_ | refine GQ.inRet ?_ | refine GQ.loopExit ?_ | refine GQ.loopRet ?_ | refine GQ.cutExit ?_ | refine GQ.cutRet ?_))
    refine GQ.ret1 (by first | exact .inl rfl | exact .inr rfl) rfl rfl ?_
    refine ⟨?_, Mod.refl _⟩
    congr 1
    unfold okKey
    have := h; simp only [decide_eq_true_eq, decide_eq_false_iff_not] at this
    rw [decide_eq_decide]; omega
  · (repeat (refine GX.pure rfl ?_; first | refine GO.move rfl rfl rfl rfl ?_ | refine GO.assign rfl rfl rfl rfl ?_ | refine GO.lenStr rfl rfl rfl rfl ?_ | refine GO.gtr rfl rfl rfl rfl rfl ?_ | refine GO.leq rfl rfl rfl rfl rfl ?_ | refine GO.pickT rfl rfl rfl rfl rfl ?_ | refine GO.pickF rfl rfl rfl rfl rfl ?_ | refine GO.skip (.inl rfl) rfl rfl ?_))
    (repeat (first | refine GX.doneD ?_ | refine GX.done ?_ | refine GQ.goNormal ?_ | refine GC.seq ?_ | refine GC.skip ?_ | refine GC.block ?_ | refine GC.exit ?_ | refine GC.ret ?_ | refine GQ.goExit ?_ | refine GQ.goRet ?_ | refine GQ.inNormal ?_ | refine GQ.inExit ?_ | refine GQ.inExitNe rfl ?_ | refine GQ.inRet ?_ | refine GQ.loopExit ?_ | refine GQ.loopRet ?_ | refine GQ.cutExit ?_ | refine GQ.cutRet ?_))
    refine GQ.ret1 (by first | exact .inl rfl | exact .inr rfl) rfl rfl ?_
    refine ⟨?_, Mod.refl _⟩
    congr 1
    unfold okKey
    have := h; simp only [decide_eq_true_eq, decide_eq_false_iff_not] at this
    symm
    rw [decide_eq_false_iff_not]; omega
set_option maxHeartbeats 400000 in
theorem tagValid_ret (l : List UInt8) (w : World) : Ret Try.prog 58 [str l].toArray w fun v w' => v = .bool (okTag l) ∧ Ext w w' := by
  have hs := size_str l
  
  refine Ret.enter Try.func58 rfl Try.ntmps58 rfl ?_
  (repeat (first | refine GX.doneD ?_ | refine GX.done ?_ | refine GQ.goNormal ?_ | refine GC.seq ?_ | refine GC.skip ?_ | refine GC.block ?_ | refine GC.exit ?_ | refine GC.ret ?_ | refine GQ.goExit ?_ | refine GQ.goRet ?_ | refine GQ.inNormal ?_ | refine GQ.inExit ?_ | refine GQ.inExitNe rfl ?_ | refine GQ.inRet ?_ | refine GQ.loopExit ?_ | refine GQ.loopRet ?_ | refine GQ.cutExit ?_ | refine GQ.cutRet ?_))
  refine GC.region (.pure 0 .done) rfl ?_
  (repeat (refine GX.pure rfl ?_; refine GO.assign rfl rfl rfl rfl ?_))
  (repeat (first | refine GX.doneD ?_ | refine GX.done ?_ | refine GQ.goNormal ?_ | refine GC.seq ?_ | refine GC.skip ?_ | refine GC.block ?_ | refine GC.exit ?_ | refine GC.ret ?_ | refine GQ.goExit ?_ | refine GQ.goRet ?_ | refine GQ.inNormal ?_ | refine GQ.inExit ?_ | refine GQ.inExitNe rfl ?_ | refine GQ.inRet ?_ | refine GQ.loopExit ?_ | refine GQ.loopRet ?_ | refine GQ.cutExit ?_ | refine GQ.cutRet ?_))
  refine GC.region (.pure 0 (.pure 1 (.pure 2 (.pure 3 (.pure 4 (.pure 5 (.pure 6 (.pure 7 (.pure 8 .done))))))))) rfl ?_
  (repeat (refine GX.pure rfl ?_; first | refine GO.move rfl rfl rfl rfl ?_ | refine GO.assign rfl rfl rfl rfl ?_ | refine GO.lenStr rfl rfl rfl rfl ?_ | refine GO.gtr rfl rfl rfl rfl rfl ?_ | refine GO.leq rfl rfl rfl rfl rfl ?_ | refine GO.pickT rfl rfl rfl rfl rfl ?_ | refine GO.pickF rfl rfl rfl rfl rfl ?_ | refine GO.skip (.inl rfl) rfl rfl ?_))
  refine GX.case 6 rfl (fun h => ?_) (fun h => ?_)
  · (repeat (refine GX.pure rfl ?_; first | refine GO.move rfl rfl rfl rfl ?_ | refine GO.assign rfl rfl rfl rfl ?_ | refine GO.lenStr rfl rfl rfl rfl ?_ | refine GO.gtr rfl rfl rfl rfl rfl ?_ | refine GO.leq rfl rfl rfl rfl rfl ?_ | refine GO.pickT rfl rfl rfl rfl rfl ?_ | refine GO.pickF rfl rfl rfl rfl rfl ?_ | refine GO.skip (.inl rfl) rfl rfl ?_))
    (repeat (first | refine GX.doneD ?_ | refine GX.done ?_ | refine GQ.goNormal ?_ | refine GC.seq ?_ | refine GC.skip ?_ | refine GC.block ?_ | refine GC.exit ?_ | refine GC.ret ?_ | refine GQ.goExit ?_ | refine GQ.goRet ?_ | refine GQ.inNormal ?_ | refine GQ.inExit ?_ | refine GQ.inExitNe rfl ?_ | refine GQ.inRet ?_ | refine GQ.loopExit ?_ | refine GQ.loopRet ?_ | refine GQ.cutExit ?_ | refine GQ.cutRet ?_))
    refine GQ.ret1 (by first | exact .inl rfl | exact .inr rfl) rfl rfl ?_
    refine ⟨?_, Mod.refl _⟩
    congr 1
    unfold okTag
    have := h; simp only [decide_eq_true_eq, decide_eq_false_iff_not] at this
    rw [decide_eq_decide]; omega
  · (repeat (refine GX.pure rfl ?_; first | refine GO.move rfl rfl rfl rfl ?_ | refine GO.assign rfl rfl rfl rfl ?_ | refine GO.lenStr rfl rfl rfl rfl ?_ | refine GO.gtr rfl rfl rfl rfl rfl ?_ | refine GO.leq rfl rfl rfl rfl rfl ?_ | refine GO.pickT rfl rfl rfl rfl rfl ?_ | refine GO.pickF rfl rfl rfl rfl rfl ?_ | refine GO.skip (.inl rfl) rfl rfl ?_))
    (repeat (first | refine GX.doneD ?_ | refine GX.done ?_ | refine GQ.goNormal ?_ | refine GC.seq ?_ | refine GC.skip ?_ | refine GC.block ?_ | refine GC.exit ?_ | refine GC.ret ?_ | refine GQ.goExit ?_ | refine GQ.goRet ?_ | refine GQ.inNormal ?_ | refine GQ.inExit ?_ | refine GQ.inExitNe rfl ?_ | refine GQ.inRet ?_ | refine GQ.loopExit ?_ | refine GQ.loopRet ?_ | refine GQ.cutExit ?_ | refine GQ.cutRet ?_))
    refine GQ.ret1 (by first | exact .inl rfl | exact .inr rfl) rfl rfl ?_
    refine ⟨?_, Mod.refl _⟩
    congr 1
    unfold okTag
    have := h; simp only [decide_eq_true_eq, decide_eq_false_iff_not] at this
    symm
    rw [decide_eq_false_iff_not]; omega
set_option maxHeartbeats 400000 in
theorem prefixValid_ret (l : List UInt8) (w : World) : Ret Try.prog 61 [str l].toArray w fun v w' => v = .bool (okPrefix l) ∧ Ext w w' := by
  have hs := size_str l
  
  refine Ret.enter Try.func61 rfl Try.ntmps61 rfl ?_
  (repeat (first | refine GX.doneD ?_ | refine GX.done ?_ | refine GQ.goNormal ?_ | refine GC.seq ?_ | refine GC.skip ?_ | refine GC.block ?_ | refine GC.exit ?_ | refine GC.ret ?_ | refine GQ.goExit ?_ | refine GQ.goRet ?_ | refine GQ.inNormal ?_ | refine GQ.inExit ?_ | refine GQ.inExitNe rfl ?_ | refine GQ.inRet ?_ | refine GQ.loopExit ?_ | refine GQ.loopRet ?_ | refine GQ.cutExit ?_ | refine GQ.cutRet ?_))
  refine GC.region (.pure 0 .done) rfl ?_
  (repeat (refine GX.pure rfl ?_; refine GO.assign rfl rfl rfl rfl ?_))
  (repeat (first | refine GX.doneD ?_ | refine GX.done ?_ | refine GQ.goNormal ?_ | refine GC.seq ?_ | refine GC.skip ?_ | refine GC.block ?_ | refine GC.exit ?_ | refine GC.ret ?_ | refine GQ.goExit ?_ | refine GQ.goRet ?_ | refine GQ.inNormal ?_ | refine GQ.inExit ?_ | refine GQ.inExitNe rfl ?_ | refine GQ.inRet ?_ | refine GQ.loopExit ?_ | refine GQ.loopRet ?_ | refine GQ.cutExit ?_ | refine GQ.cutRet ?_))
  refine GC.region (.pure 0 (.pure 1 (.pure 2 (.pure 3 .done)))) rfl ?_
  (repeat (refine GX.pure rfl ?_; first | refine GO.move rfl rfl rfl rfl ?_ | refine GO.assign rfl rfl rfl rfl ?_ | refine GO.lenStr rfl rfl rfl rfl ?_ | refine GO.leq rfl rfl rfl rfl rfl ?_))
  (repeat (first | refine GX.doneD ?_ | refine GX.done ?_ | refine GQ.goNormal ?_ | refine GC.seq ?_ | refine GC.skip ?_ | refine GC.block ?_ | refine GC.exit ?_ | refine GC.ret ?_ | refine GQ.goExit ?_ | refine GQ.goRet ?_ | refine GQ.inNormal ?_ | refine GQ.inExit ?_ | refine GQ.inExitNe rfl ?_ | refine GQ.inRet ?_ | refine GQ.loopExit ?_ | refine GQ.loopRet ?_ | refine GQ.cutExit ?_ | refine GQ.cutRet ?_))
  refine GQ.ret1 (by first | exact .inl rfl | exact .inr rfl) rfl rfl ?_
  refine ⟨?_, Mod.refl _⟩
  congr 1
  unfold okPrefix
  rw [decide_eq_decide]; omega

theorem getGo_step {i n : Nat} {c : UInt8} {r : List UInt8} (h : ¬ ((i = 9 ∧ 1 < c.toNat) ∨ (0 < i ∧ c.toNat = 0))) (h2 : ¬ c.toNat < 128) : getGo i n (c :: r) = getGo (i + 1) (n ||| ((c.toNat &&& 127) * 2 ^ (7 * i)) % 18446744073709551616) r := by
  rw [getGo, if_neg h, if_neg h2]
theorem getGo_end {i n : Nat} {c : UInt8} {r : List UInt8} (h : ¬ ((i = 9 ∧ 1 < c.toNat) ∨ (0 < i ∧ c.toNat = 0))) (h2 : c.toNat < 128) : getGo i n (c :: r) = (n ||| (c.toNat * 2 ^ (7 * i)) % 18446744073709551616, i + 1, 0) := by
  rw [getGo, if_neg h, if_pos h2]
theorem getGo_bad {i n : Nat} {c : UInt8} {r : List UInt8} (h : (i = 9 ∧ 1 < c.toNat) ∨ (0 < i ∧ c.toNat = 0)) : getGo i n (c :: r) = (0, 0, 6) := by
  rw [getGo, if_pos h]

/-- What a look at the front of bytes gives. -/
def triple (x : Nat × Nat × Int) : Value := .tuple #[.int .u64 x.1, .int .i64 x.2.1, .int .i64 x.2.2]

set_option maxHeartbeats 1000000 in
theorem get_ret (l : List UInt8) (n : Nat) (hn : l.length = n) (hl : l.length < 2 ^ 40) (a : Option Addr) (c : Nat) (w : World) (hA : SlA w a (bytesV l)) :
    Ret Try.prog 39 [.slice a n c].toArray w fun v w' => v = triple (getN l) ∧ w' = w := by
  subst hn
  
  refine Ret.enter Try.func39 rfl Try.ntmps39 rfl ?_
  (repeat (first | refine GX.doneD ?_ | refine GX.done ?_ | refine GQ.goNormal ?_ | refine GC.seq ?_ | refine GC.skip ?_ | refine GC.block ?_ | refine GC.exit ?_ | refine GC.ret ?_ | refine GQ.goExit ?_ | refine GQ.goRet ?_ | refine GQ.inNormal ?_ | refine GQ.inExit ?_ | refine GQ.inExitNe rfl ?_ | refine GQ.inRet ?_ | refine GQ.loopExit ?_ | refine GQ.loopRet ?_ | refine GQ.cutExit ?_ | refine GQ.cutRet ?_))
  refine GC.region (.pure 0 (.pure 1 (.pure 2 .done))) rfl ?_
  (repeat (refine GX.pure rfl ?_; refine GO.assign rfl rfl rfl rfl ?_))
  (repeat (first | refine GX.doneD ?_ | refine GX.done ?_ | refine GQ.goNormal ?_ | refine GC.seq ?_ | refine GC.skip ?_ | refine GC.block ?_ | refine GC.exit ?_ | refine GC.ret ?_ | refine GQ.goExit ?_ | refine GQ.goRet ?_ | refine GQ.inNormal ?_ | refine GQ.inExit ?_ | refine GQ.inExitNe rfl ?_ | refine GQ.inRet ?_ | refine GQ.loopExit ?_ | refine GQ.loopRet ?_ | refine GQ.cutExit ?_ | refine GQ.cutRet ?_))
  refine GC.region (.pure 0 (.pure 1 (.pure 2 .done))) rfl ?_
  (repeat (refine GX.pure rfl ?_; first | refine GO.move rfl rfl rfl rfl ?_ | refine GO.lenSlice rfl rfl rfl rfl ?_))
  (repeat (first | refine GX.doneD ?_ | refine GX.done ?_ | refine GQ.goNormal ?_ | refine GC.seq ?_ | refine GC.skip ?_ | refine GC.block ?_ | refine GC.exit ?_ | refine GC.ret ?_ | refine GQ.goExit ?_ | refine GQ.goRet ?_ | refine GQ.inNormal ?_ | refine GQ.inExit ?_ | refine GQ.inExitNe rfl ?_ | refine GQ.inRet ?_ | refine GQ.loopExit ?_ | refine GQ.loopRet ?_ | refine GQ.cutExit ?_ | refine GQ.cutRet ?_))
  refine GC.loop (X := Nat × Nat) (fun x => [(2, .int .u64 x.2), (7, .slice a l.length c), (8, .int .i64 l.length), (9, .int .i64 x.1)])
    (fun x w' => x.1 ≤ l.length ∧ x.1 ≤ 9 ∧ x.2 < 18446744073709551616 ∧ getN l = getGo x.1 x.2 (l.drop x.1) ∧ w' = w) (fun x => l.length - x.1) (0, 0) (sub_pick (l := [2, 7, 8, 9]) rfl) ⟨Nat.zero_le _, Nat.zero_le _, Nat.zero_lt_succ _, rfl, rfl⟩ ?_
  rintro ⟨k, n⟩ w' ⟨hk, hk9, hn, hg, rfl⟩
  dsimp only at hk hk9 hn hg ⊢
  (repeat (first | refine GX.doneD ?_ | refine GX.done ?_ | refine GQ.goNormal ?_ | refine GC.seq ?_ | refine GC.skip ?_ | refine GC.block ?_ | refine GC.exit ?_ | refine GC.ret ?_ | refine GQ.goExit ?_ | refine GQ.goRet ?_ | refine GQ.inNormal ?_ | refine GQ.inExit ?_ | refine GQ.inExitNe rfl ?_ | refine GQ.inRet ?_ | refine GQ.loopExit ?_ | refine GQ.loopRet ?_ | refine GQ.cutExit ?_ | refine GQ.cutRet ?_))
  refine GC.region (.pure 0 .done) rfl ?_
  (repeat (refine GX.pure rfl ?_; refine GO.lss rfl rfl rfl rfl rfl ?_))
  (repeat (first | refine GX.doneD ?_ | refine GX.done ?_ | refine GQ.goNormal ?_ | refine GC.seq ?_ | refine GC.skip ?_ | refine GC.block ?_ | refine GC.exit ?_ | refine GC.ret ?_ | refine GQ.goExit ?_ | refine GQ.goRet ?_ | refine GQ.inNormal ?_ | refine GQ.inExit ?_ | refine GQ.inExitNe rfl ?_ | refine GQ.inRet ?_ | refine GQ.loopExit ?_ | refine GQ.loopRet ?_ | refine GQ.cutExit ?_ | refine GQ.cutRet ?_))
  refine GC.cond rfl (fun hc => ?_) (fun hc => ?_)
  · have hlt : k < l.length := by have := hc; simp only [decide_eq_true_eq, decide_eq_false_iff_not] at this; omega
    obtain ⟨b, o, rfl, hAt⟩ := hA.of_pos (by simp; omega)
    have hdrop : l.drop k = l[k] :: l.drop (k + 1) := List.drop_eq_getElem_cons hlt
    rw [hdrop] at hg
    have h1 : At w' b (o + (k : Int).toNat * 1) [byteV l[k]] := by simpa using At.one hAt (bytes_get hlt)
    have hb := UInt8.toNat_lt l[k]
    generalize l[k] = ch at h1 hg hb
    (repeat (first | refine GX.doneD ?_ | refine GX.done ?_ | refine GQ.goNormal ?_ | refine GC.seq ?_ | refine GC.skip ?_ | refine GC.block ?_ | refine GC.exit ?_ | refine GC.ret ?_ | refine GQ.goExit ?_ | refine GQ.goRet ?_ | refine GQ.inNormal ?_ | refine GQ.inExit ?_ | refine GQ.inExitNe rfl ?_ | refine GQ.inRet ?_ | refine GQ.loopExit ?_ | refine GQ.loopRet ?_ | refine GQ.cutExit ?_ | refine GQ.cutRet ?_))
    refine GC.region (.pure 0 (.pure 1 (.eff 2 (.pure 3 (.pure 4 .done))))) rfl ?_
    (repeat (refine GX.pure rfl ?_; first | refine GO.move rfl rfl rfl rfl ?_ | refine GO.assign rfl rfl rfl rfl ?_))
    refine GX.pure rfl (GO.indexAddr rfl rfl rfl rfl (by omega) (by omega) rfl ?_)
    (first | (refine GX.eff rfl ?_; first | refine GO.load1 (h1) rfl rfl rfl ?_ | refine GO.loadN (h1) rfl rfl rfl rfl ?_) | (refine GX.read rfl ?_; first | refine GO.load1R (by assumption) (fun _ hS_ => At.mod (h1) hS_ (by simp)) rfl rfl rfl ?_ | refine GO.loadNR (by assumption) (fun _ hS_ => At.mod (h1) hS_ (by simp)) rfl rfl rfl rfl ?_))
    (repeat (refine GX.pure rfl ?_; first | refine GO.move rfl rfl rfl rfl ?_ | refine GO.assign rfl rfl rfl rfl ?_))
    (repeat (first | refine GX.doneD ?_ | refine GX.done ?_ | refine GQ.goNormal ?_ | refine GC.seq ?_ | refine GC.skip ?_ | refine GC.block ?_ | refine GC.exit ?_ | refine GC.ret ?_ | refine GQ.goExit ?_ | refine GQ.goRet ?_ | refine GQ.inNormal ?_ | refine GQ.inExit ?_ | refine GQ.inExitNe rfl ?_ | refine GQ.inRet ?_ | refine GQ.loopExit ?_ | refine GQ.loopRet ?_ | refine GQ.cutExit ?_ | refine GQ.cutRet ?_))
    refine GC.pick [2, 5, 6, 7, 8, 9] rfl ?_
    -- the first test
    refine GC.cut (X := Bool) (fun x => [(2, .int .u64 n), (5, .int .i64 k), (6, byteV ch), (7, .slice (some ⟨b, o, none⟩) l.length c), (8, .int .i64 l.length), (9, .int .i64 k), (14, .bool x)]) (fun x w2 => x = decide (k = 9 ∧ 1 < ch.toNat) ∧ w' = w2) ?_ ?_
    · refine GC.region (.pure 0 (.pure 1 (.pure 2 (.pure 3 (.pure 4 (.pure 5 (.pure 6 .done))))))) rfl ?_
      (repeat (refine GX.pure rfl ?_; first | refine GO.move rfl rfl rfl rfl ?_ | refine GO.assign rfl rfl rfl rfl ?_ | refine GO.gtr rfl rfl rfl rfl rfl ?_ | refine GO.eql rfl rfl rfl rfl rfl ?_ | refine GO.pickT rfl rfl rfl rfl rfl ?_ | refine GO.pickF rfl rfl rfl rfl rfl ?_ | refine GO.skip (.inl rfl) rfl rfl ?_))
      refine GX.case 17 rfl (fun h => ?_) (fun h => ?_)
      · (repeat (refine GX.pure rfl ?_; first | refine GO.move rfl rfl rfl rfl ?_ | refine GO.assign rfl rfl rfl rfl ?_ | refine GO.gtr rfl rfl rfl rfl rfl ?_ | refine GO.eql rfl rfl rfl rfl rfl ?_ | refine GO.pickT rfl rfl rfl rfl rfl ?_ | refine GO.pickF rfl rfl rfl rfl rfl ?_ | refine GO.skip (.inl rfl) rfl rfl ?_))
        (repeat (first | refine GX.doneD ?_ | refine GX.done ?_ | refine GQ.goNormal ?_ | refine GC.seq ?_ | refine GC.skip ?_ | refine GC.block ?_ | refine GC.exit ?_ | refine GC.ret ?_ | refine GQ.goExit ?_ | refine GQ.goRet ?_ | refine GQ.inNormal ?_ | refine GQ.inExit ?_ | refine GQ.inExitNe rfl ?_ | refine GQ.inRet ?_ | refine GQ.loopExit ?_ | refine GQ.loopRet ?_ | refine GQ.cutExit ?_ | refine GQ.cutRet ?_))
        exact GQ.cutNormal _ (sub_pick (l := [2, 5, 6, 7, 8, 9, 14]) rfl) ⟨by have := h; simp only [decide_eq_true_eq, decide_eq_false_iff_not] at this; rw [decide_eq_decide]; omega, rfl⟩
      · (repeat (refine GX.pure rfl ?_; first | refine GO.move rfl rfl rfl rfl ?_ | refine GO.assign rfl rfl rfl rfl ?_ | refine GO.gtr rfl rfl rfl rfl rfl ?_ | refine GO.eql rfl rfl rfl rfl rfl ?_ | refine GO.pickT rfl rfl rfl rfl rfl ?_ | refine GO.pickF rfl rfl rfl rfl rfl ?_ | refine GO.skip (.inl rfl) rfl rfl ?_))
        (repeat (first | refine GX.doneD ?_ | refine GX.done ?_ | refine GQ.goNormal ?_ | refine GC.seq ?_ | refine GC.skip ?_ | refine GC.block ?_ | refine GC.exit ?_ | refine GC.ret ?_ | refine GQ.goExit ?_ | refine GQ.goRet ?_ | refine GQ.inNormal ?_ | refine GQ.inExit ?_ | refine GQ.inExitNe rfl ?_ | refine GQ.inRet ?_ | refine GQ.loopExit ?_ | refine GQ.loopRet ?_ | refine GQ.cutExit ?_ | refine GQ.cutRet ?_))
        exact GQ.cutNormal _ (sub_pick (l := [2, 5, 6, 7, 8, 9, 14]) rfl) ⟨by have := h; simp only [decide_eq_true_eq, decide_eq_false_iff_not] at this; symm; rw [decide_eq_false_iff_not]; omega, rfl⟩
    rintro x w2 ⟨rfl, rfl⟩
    (repeat (first | refine GX.doneD ?_ | refine GX.done ?_ | refine GQ.goNormal ?_ | refine GC.seq ?_ | refine GC.skip ?_ | refine GC.block ?_ | refine GC.exit ?_ | refine GC.ret ?_ | refine GQ.goExit ?_ | refine GQ.goRet ?_ | refine GQ.inNormal ?_ | refine GQ.inExit ?_ | refine GQ.inExitNe rfl ?_ | refine GQ.inRet ?_ | refine GQ.loopExit ?_ | refine GQ.loopRet ?_ | refine GQ.cutExit ?_ | refine GQ.cutRet ?_))
    -- the second test
    refine GC.cut (X := Bool) (fun x => [(2, .int .u64 n), (5, .int .i64 k), (6, byteV ch), (7, .slice (some ⟨b, o, none⟩) l.length c), (8, .int .i64 l.length), (9, .int .i64 k), (14, .bool x)]) (fun x w2 => x = decide ((k = 9 ∧ 1 < ch.toNat) ∨ (0 < k ∧ ch.toNat = 0)) ∧ w' = w2) ?_ ?_
    · refine GC.cond rfl (fun h9 => ?_) (fun h9 => ?_)
      · (repeat (first | refine GX.doneD ?_ | refine GX.done ?_ | refine GQ.goNormal ?_ | refine GC.seq ?_ | refine GC.skip ?_ | refine GC.block ?_ | refine GC.exit ?_ | refine GC.ret ?_ | refine GQ.goExit ?_ | refine GQ.goRet ?_ | refine GQ.inNormal ?_ | refine GQ.inExit ?_ | refine GQ.inExitNe rfl ?_ | refine GQ.inRet ?_ | refine GQ.loopExit ?_ | refine GQ.loopRet ?_ | refine GQ.cutExit ?_ | refine GQ.cutRet ?_))
        refine GQ.cutNormal true (sub_pick (l := [2, 5, 6, 7, 8, 9, 14]) (by rw [h9]; rfl)) ⟨?_, rfl⟩
        have := h9; simp only [decide_eq_true_eq, decide_eq_false_iff_not] at this
        symm; rw [decide_eq_true_eq]; omega
      · (repeat (first | refine GX.doneD ?_ | refine GX.done ?_ | refine GQ.goNormal ?_ | refine GC.seq ?_ | refine GC.skip ?_ | refine GC.block ?_ | refine GC.exit ?_ | refine GC.ret ?_ | refine GQ.goExit ?_ | refine GQ.goRet ?_ | refine GQ.inNormal ?_ | refine GQ.inExit ?_ | refine GQ.inExitNe rfl ?_ | refine GQ.inRet ?_ | refine GQ.loopExit ?_ | refine GQ.loopRet ?_ | refine GQ.cutExit ?_ | refine GQ.cutRet ?_))
        refine GC.region (.pure 0 (.pure 1 (.pure 2 (.pure 3 (.pure 4 (.pure 5 (.pure 6 .done))))))) rfl ?_
        (repeat (refine GX.pure rfl ?_; first | refine GO.move rfl rfl rfl rfl ?_ | refine GO.assign rfl rfl rfl rfl ?_ | refine GO.gtr rfl rfl rfl rfl rfl ?_ | refine GO.eql rfl rfl rfl rfl rfl ?_ | refine GO.pickT rfl rfl rfl rfl rfl ?_ | refine GO.pickF rfl rfl rfl rfl rfl ?_ | refine GO.skip (.inl rfl) rfl rfl ?_))
        have h9' := of_decide_eq_false h9
        refine GX.case 23 rfl (fun h => ?_) (fun h => ?_)
        · (repeat (refine GX.pure rfl ?_; first | refine GO.move rfl rfl rfl rfl ?_ | refine GO.assign rfl rfl rfl rfl ?_ | refine GO.gtr rfl rfl rfl rfl rfl ?_ | refine GO.eql rfl rfl rfl rfl rfl ?_ | refine GO.pickT rfl rfl rfl rfl rfl ?_ | refine GO.pickF rfl rfl rfl rfl rfl ?_ | refine GO.skip (.inl rfl) rfl rfl ?_))
          (repeat (first | refine GX.doneD ?_ | refine GX.done ?_ | refine GQ.goNormal ?_ | refine GC.seq ?_ | refine GC.skip ?_ | refine GC.block ?_ | refine GC.exit ?_ | refine GC.ret ?_ | refine GQ.goExit ?_ | refine GQ.goRet ?_ | refine GQ.inNormal ?_ | refine GQ.inExit ?_ | refine GQ.inExitNe rfl ?_ | refine GQ.inRet ?_ | refine GQ.loopExit ?_ | refine GQ.loopRet ?_ | refine GQ.cutExit ?_ | refine GQ.cutRet ?_))
          exact GQ.cutNormal _ (sub_pick (l := [2, 5, 6, 7, 8, 9, 14]) rfl) ⟨by have := h; simp only [decide_eq_true_eq, decide_eq_false_iff_not] at this; rw [decide_eq_decide]; omega, rfl⟩
        · (repeat (refine GX.pure rfl ?_; first | refine GO.move rfl rfl rfl rfl ?_ | refine GO.assign rfl rfl rfl rfl ?_ | refine GO.gtr rfl rfl rfl rfl rfl ?_ | refine GO.eql rfl rfl rfl rfl rfl ?_ | refine GO.pickT rfl rfl rfl rfl rfl ?_ | refine GO.pickF rfl rfl rfl rfl rfl ?_ | refine GO.skip (.inl rfl) rfl rfl ?_))
          (repeat (first | refine GX.doneD ?_ | refine GX.done ?_ | refine GQ.goNormal ?_ | refine GC.seq ?_ | refine GC.skip ?_ | refine GC.block ?_ | refine GC.exit ?_ | refine GC.ret ?_ | refine GQ.goExit ?_ | refine GQ.goRet ?_ | refine GQ.inNormal ?_ | refine GQ.inExit ?_ | refine GQ.inExitNe rfl ?_ | refine GQ.inRet ?_ | refine GQ.loopExit ?_ | refine GQ.loopRet ?_ | refine GQ.cutExit ?_ | refine GQ.cutRet ?_))
          exact GQ.cutNormal _ (sub_pick (l := [2, 5, 6, 7, 8, 9, 14]) rfl) ⟨by have := h; simp only [decide_eq_true_eq, decide_eq_false_iff_not] at this; symm; rw [decide_eq_false_iff_not]; omega, rfl⟩
    rintro x w2 ⟨rfl, rfl⟩
    (repeat (first | refine GX.doneD ?_ | refine GX.done ?_ | refine GQ.goNormal ?_ | refine GC.seq ?_ | refine GC.skip ?_ | refine GC.block ?_ | refine GC.exit ?_ | refine GC.ret ?_ | refine GQ.goExit ?_ | refine GQ.goRet ?_ | refine GQ.inNormal ?_ | refine GQ.inExit ?_ | refine GQ.inExitNe rfl ?_ | refine GQ.inRet ?_ | refine GQ.loopExit ?_ | refine GQ.loopRet ?_ | refine GQ.cutExit ?_ | refine GQ.cutRet ?_))
    refine GC.cond rfl (fun hbad => ?_) (fun hbad => ?_)
    · have hbad' : (k = 9 ∧ 1 < ch.toNat) ∨ (0 < k ∧ ch.toNat = 0) := of_decide_eq_true hbad
      (repeat (first | refine GX.doneD ?_ | refine GX.done ?_ | refine GQ.goNormal ?_ | refine GC.seq ?_ | refine GC.skip ?_ | refine GC.block ?_ | refine GC.exit ?_ | refine GC.ret ?_ | refine GQ.goExit ?_ | refine GQ.goRet ?_ | refine GQ.inNormal ?_ | refine GQ.inExit ?_ | refine GQ.inExitNe rfl ?_ | refine GQ.inRet ?_ | refine GQ.loopExit ?_ | refine GQ.loopRet ?_ | refine GQ.cutExit ?_ | refine GQ.cutRet ?_))
      refine GC.region (.pure 0 (.pure 1 (.pure 2 .done))) rfl ?_
      (repeat (refine GX.pure rfl ?_; refine GO.assign rfl rfl rfl rfl ?_))
      (repeat (first | refine GX.doneD ?_ | refine GX.done ?_ | refine GQ.goNormal ?_ | refine GC.seq ?_ | refine GC.skip ?_ | refine GC.block ?_ | refine GC.exit ?_ | refine GC.ret ?_ | refine GQ.goExit ?_ | refine GQ.goRet ?_ | refine GQ.inNormal ?_ | refine GQ.inExit ?_ | refine GQ.inExitNe rfl ?_ | refine GQ.inRet ?_ | refine GQ.loopExit ?_ | refine GQ.loopRet ?_ | refine GQ.cutExit ?_ | refine GQ.cutRet ?_))
      refine GQ.ret3 (by first | exact .inl rfl | exact .inr rfl) rfl rfl rfl rfl ?_
      exact ⟨by rw [hg, getGo_bad hbad']; rfl, rfl⟩
    · have hgood : ¬ ((k = 9 ∧ 1 < ch.toNat) ∨ (0 < k ∧ ch.toNat = 0)) := of_decide_eq_false hbad
      (repeat (first | refine GX.doneD ?_ | refine GX.done ?_ | refine GQ.goNormal ?_ | refine GC.seq ?_ | refine GC.skip ?_ | refine GC.block ?_ | refine GC.exit ?_ | refine GC.ret ?_ | refine GQ.goExit ?_ | refine GQ.goRet ?_ | refine GQ.inNormal ?_ | refine GQ.inExit ?_ | refine GQ.inExitNe rfl ?_ | refine GQ.inRet ?_ | refine GQ.loopExit ?_ | refine GQ.loopRet ?_ | refine GQ.cutExit ?_ | refine GQ.cutRet ?_))
      refine GC.region (.pure 0 (.pure 1 (.pure 2 .done))) rfl ?_
      (repeat (refine GX.pure rfl ?_; first | refine GO.move rfl rfl rfl rfl ?_ | refine GO.assign rfl rfl rfl rfl ?_ | refine GO.lss rfl rfl rfl rfl rfl ?_))
      (repeat (first | refine GX.doneD ?_ | refine GX.done ?_ | refine GQ.goNormal ?_ | refine GC.seq ?_ | refine GC.skip ?_ | refine GC.block ?_ | refine GC.exit ?_ | refine GC.ret ?_ | refine GQ.goExit ?_ | refine GQ.goRet ?_ | refine GQ.inNormal ?_ | refine GQ.inExit ?_ | refine GQ.inExitNe rfl ?_ | refine GQ.inRet ?_ | refine GQ.loopExit ?_ | refine GQ.loopRet ?_ | refine GQ.cutExit ?_ | refine GQ.cutRet ?_))
      have hmin : min ((7 * (k : Int)).toNat) 64 = 7 * k := by omega
      refine GC.cond rfl (fun hs => ?_) (fun hs => ?_)
      · have hsm : ch.toNat < 128 := by have := hs; simp only [decide_eq_true_eq, decide_eq_false_iff_not] at this; omega
        (repeat (first | refine GX.doneD ?_ | refine GX.done ?_ | refine GQ.goNormal ?_ | refine GC.seq ?_ | refine GC.skip ?_ | refine GC.block ?_ | refine GC.exit ?_ | refine GC.ret ?_ | refine GQ.goExit ?_ | refine GQ.goRet ?_ | refine GQ.inNormal ?_ | refine GQ.inExit ?_ | refine GQ.inExitNe rfl ?_ | refine GQ.inRet ?_ | refine GQ.loopExit ?_ | refine GQ.loopRet ?_ | refine GQ.cutExit ?_ | refine GQ.cutRet ?_))
        refine GC.region (.pure 0 (.pure 1 (.pure 2 (.pure 3 (.pure 4 (.pure 5 (.pure 6 (.pure 7 (.pure 8 (.pure 9 (.pure 10 (.pure 11 .done)))))))))))) rfl ?_
        (repeat (refine GX.pure rfl ?_; first | refine GO.move rfl rfl rfl rfl ?_ | refine GO.assign rfl rfl rfl rfl ?_ | refine GO.add rfl rfl rfl rfl rfl (wrapIn (by dsimp only [InK]; omega)) ?_ | refine GO.conv rfl rfl rfl rfl (wrapIn (by dsimp only [InK]; omega)) ?_ | refine GO.convStr rfl rfl rfl rfl ?_))
        refine GX.pure rfl (GO.mul rfl rfl rfl rfl rfl (wrapIn (by dsimp only [InK]; omega)) ?_)
        refine GX.pure rfl (GO.shl rfl rfl rfl rfl rfl (by omega) (c := ((ch.toNat * 2 ^ (7 * k)) % 18446744073709551616 : Nat)) (shlU64 _ _ _ hmin) ?_)
        refine GX.pure rfl (GO.bits rfl rfl rfl rfl rfl (fun w => run_or .u64 rfl 41 n _ (by simp [IntKind.bits]; omega) (by simp only [IntKind.bits]; exact Nat.mod_lt _ (by decide))) ?_)
        (repeat (refine GX.pure rfl ?_; first | refine GO.move rfl rfl rfl rfl ?_ | refine GO.assign rfl rfl rfl rfl ?_ | refine GO.add rfl rfl rfl rfl rfl (wrapIn (by dsimp only [InK]; omega)) ?_ | refine GO.conv rfl rfl rfl rfl (wrapIn (by dsimp only [InK]; omega)) ?_ | refine GO.convStr rfl rfl rfl rfl ?_))
        (repeat (first | refine GX.doneD ?_ | refine GX.done ?_ | refine GQ.goNormal ?_ | refine GC.seq ?_ | refine GC.skip ?_ | refine GC.block ?_ | refine GC.exit ?_ | refine GC.ret ?_ | refine GQ.goExit ?_ | refine GQ.goRet ?_ | refine GQ.inNormal ?_ | refine GQ.inExit ?_ | refine GQ.inExitNe rfl ?_ | refine GQ.inRet ?_ | refine GQ.loopExit ?_ | refine GQ.loopRet ?_ | refine GQ.cutExit ?_ | refine GQ.cutRet ?_))
        refine GQ.ret3 (by first | exact .inl rfl | exact .inr rfl) rfl rfl rfl rfl ?_
        exact ⟨by rw [hg, getGo_end hgood hsm]; rfl, rfl⟩
      · have hsm : ¬ ch.toNat < 128 := by have := hs; simp only [decide_eq_true_eq, decide_eq_false_iff_not] at this; omega
        (repeat (first | refine GX.doneD ?_ | refine GX.done ?_ | refine GQ.goNormal ?_ | refine GC.seq ?_ | refine GC.skip ?_ | refine GC.block ?_ | refine GC.exit ?_ | refine GC.ret ?_ | refine GQ.goExit ?_ | refine GQ.goRet ?_ | refine GQ.inNormal ?_ | refine GQ.inExit ?_ | refine GQ.inExitNe rfl ?_ | refine GQ.inRet ?_ | refine GQ.loopExit ?_ | refine GQ.loopRet ?_ | refine GQ.cutExit ?_ | refine GQ.cutRet ?_))
        refine GC.region (.pure 0 (.pure 1 (.pure 2 (.pure 3 (.pure 4 (.pure 5 (.pure 6 (.pure 7 (.pure 8 .done))))))))) rfl ?_
        (repeat (refine GX.pure rfl ?_; first | refine GO.move rfl rfl rfl rfl ?_ | refine GO.assign rfl rfl rfl rfl ?_ | refine GO.conv rfl rfl rfl rfl (wrapIn (by dsimp only [InK]; omega)) ?_ | refine GO.convStr rfl rfl rfl rfl ?_))
        refine GX.pure rfl (GO.bits rfl rfl rfl rfl rfl (fun w => run_and .u8 rfl 5 ch.toNat 127 (by simp [IntKind.bits]; omega) (by decide)) ?_)
        have hand : ch.toNat &&& 127 < 128 := Nat.lt_of_le_of_lt Nat.and_le_right (by decide)
        (repeat (refine GX.pure rfl ?_; first | refine GO.move rfl rfl rfl rfl ?_ | refine GO.assign rfl rfl rfl rfl ?_ | refine GO.conv rfl rfl rfl rfl (wrapIn (by dsimp only [InK]; omega)) ?_ | refine GO.convStr rfl rfl rfl rfl ?_))
        refine GX.pure rfl (GO.mul rfl rfl rfl rfl rfl (wrapIn (by dsimp only [InK]; omega)) ?_)
        refine GX.pure rfl (GO.shl rfl rfl rfl rfl rfl (by omega) (c := (((ch.toNat &&& 127) * 2 ^ (7 * k)) % 18446744073709551616 : Nat)) (shlU64 _ _ _ hmin) ?_)
        refine GX.pure rfl (GO.bits rfl rfl rfl rfl rfl (fun w => run_or .u64 rfl 41 n _ (by simp [IntKind.bits]; omega) (by simp only [IntKind.bits]; exact Nat.mod_lt _ (by decide))) ?_)
        (repeat (refine GX.pure rfl ?_; first | refine GO.move rfl rfl rfl rfl ?_ | refine GO.assign rfl rfl rfl rfl ?_ | refine GO.conv rfl rfl rfl rfl (wrapIn (by dsimp only [InK]; omega)) ?_ | refine GO.convStr rfl rfl rfl rfl ?_))
        (repeat (first | refine GX.doneD ?_ | refine GX.done ?_ | refine GQ.goNormal ?_ | refine GC.seq ?_ | refine GC.skip ?_ | refine GC.block ?_ | refine GC.exit ?_ | refine GC.ret ?_ | refine GQ.goExit ?_ | refine GQ.goRet ?_ | refine GQ.inNormal ?_ | refine GQ.inExit ?_ | refine GQ.inExitNe rfl ?_ | refine GQ.inRet ?_ | refine GQ.loopExit ?_ | refine GQ.loopRet ?_ | refine GQ.cutExit ?_ | refine GQ.cutRet ?_))
        refine GC.region (.pure 0 (.pure 1 .done)) rfl ?_
        (repeat (refine GX.pure rfl ?_; first | refine GO.move rfl rfl rfl rfl ?_ | refine GO.add rfl rfl rfl rfl rfl (wrapIn (by dsimp only [InK]; omega)) ?_))
        (repeat (first | refine GX.doneD ?_ | refine GX.done ?_ | refine GQ.goNormal ?_ | refine GC.seq ?_ | refine GC.skip ?_ | refine GC.block ?_ | refine GC.exit ?_ | refine GC.ret ?_ | refine GQ.goExit ?_ | refine GQ.goRet ?_ | refine GQ.inNormal ?_ | refine GQ.inExit ?_ | refine GQ.inExitNe rfl ?_ | refine GQ.inRet ?_ | refine GQ.loopExit ?_ | refine GQ.loopRet ?_ | refine GQ.cutExit ?_ | refine GQ.cutRet ?_))
        refine GQ.again (k + 1, _) (sub_pick (l := [2, 7, 8, 9]) rfl) ⟨hlt, by dsimp only; omega, Nat.or_lt_two_pow (n := 64) hn (Nat.mod_lt _ (by decide)), by rw [hg, getGo_step hgood hsm], rfl⟩ (by dsimp only; omega)
  · have hge : k = l.length := by have := hc; simp only [decide_eq_true_eq, decide_eq_false_iff_not] at this; omega
    subst hge
    (repeat (first | refine GX.doneD ?_ | refine GX.done ?_ | refine GQ.goNormal ?_ | refine GC.seq ?_ | refine GC.skip ?_ | refine GC.block ?_ | refine GC.exit ?_ | refine GC.ret ?_ | refine GQ.goExit ?_ | refine GQ.goRet ?_ | refine GQ.inNormal ?_ | refine GQ.inExit ?_ | refine GQ.inExitNe rfl ?_ | refine GQ.inRet ?_ | refine GQ.loopExit ?_ | refine GQ.loopRet ?_ | refine GQ.cutExit ?_ | refine GQ.cutRet ?_))
    refine GC.region (.pure 0 (.pure 1 (.pure 2 .done))) rfl ?_
    (repeat (refine GX.pure rfl ?_; refine GO.assign rfl rfl rfl rfl ?_))
    (repeat (first | refine GX.doneD ?_ | refine GX.done ?_ | refine GQ.goNormal ?_ | refine GC.seq ?_ | refine GC.skip ?_ | refine GC.block ?_ | refine GC.exit ?_ | refine GC.ret ?_ | refine GQ.goExit ?_ | refine GQ.goRet ?_ | refine GQ.inNormal ?_ | refine GQ.inExit ?_ | refine GQ.inExitNe rfl ?_ | refine GQ.inRet ?_ | refine GQ.loopExit ?_ | refine GQ.loopRet ?_ | refine GQ.cutExit ?_ | refine GQ.cutRet ?_))
    refine GQ.ret3 (by first | exact .inl rfl | exact .inr rfl) rfl rfl rfl rfl ?_
    refine ⟨?_, rfl⟩
    rw [hg]
    simp [getGo, triple]
end Go.Proofs.Ytahkglanddhncaa.V
