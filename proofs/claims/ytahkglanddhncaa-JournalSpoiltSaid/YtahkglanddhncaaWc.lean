/-
  What the functions of numbers in groups of seven bits compute (package varint). Conditions: the lengths of what is read and made stay below 2^40; a reader's bytes do not lie in the reader itself.
-/
import Derived.Test.YtahkglanddhncaaWb
namespace Go.Proofs.Ytahkglanddhncaa.V
attribute [local irreducible] GX GO

/-! ### The plain functions -/

/-- A number in groups of seven bits. -/
def putF : Nat → Nat → List UInt8
  | 0, n => [UInt8.ofNat n]
  | f + 1, n => if 127 < n then UInt8.ofNat (n % 128 + 128) :: putF f (n / 128) else [UInt8.ofNat n]
def putN (n : Nat) : List UInt8 := putF 10 n
theorem putF_length : ∀ f n, 1 ≤ (putF f n).length ∧ (putF f n).length ≤ f + 1
  | 0, n => by simp [putF]
  | f + 1, n => by
    unfold putF
    split
    · have := putF_length f (n / 128); simp; omega
    · simp
theorem putN_length (n : Nat) : 1 ≤ (putN n).length ∧ (putN n).length ≤ 11 := putF_length 10 n

/-- The number that bytes begin with, from the group i on; how many bytes; the error. -/
def getGo : Nat → Nat → List UInt8 → Nat × Nat × Int
  | _, _, [] => (0, 0, 4)
  | i, n, c :: r =>
    if (i = 9 ∧ 1 < c.toNat) ∨ (0 < i ∧ c.toNat = 0) then (0, 0, 6)
    else if c.toNat < 128 then (n ||| (c.toNat * 2 ^ (7 * i)) % 18446744073709551616, i + 1, 0)
    else getGo (i + 1) (n ||| ((c.toNat &&& 127) * 2 ^ (7 * i)) % 18446744073709551616) r
def getN (l : List UInt8) : Nat × Nat × Int := getGo 0 0 l
theorem getGo_ok : ∀ (l : List UInt8) (i n : Nat), n < 18446744073709551616 →
    (getGo i n l).1 < 18446744073709551616 ∧ ((getGo i n l).2.2 = 0 → i < (getGo i n l).2.1 ∧ (getGo i n l).2.1 ≤ i + l.length) ∧ ((getGo i n l).2.2 ≠ 0 → (getGo i n l).1 = 0 ∧ (getGo i n l).2.1 = 0)
  | [], i, n, h => by simp [getGo]
  | c :: r, i, n, h => by
    unfold getGo
    have hor : ∀ x, n ||| x % 18446744073709551616 < 18446744073709551616 := fun x => Nat.or_lt_two_pow (n := 64) h (Nat.mod_lt _ (by decide))
    split
    · simp
    · split
      · refine ⟨hor _, fun _ => by simp, fun hh => absurd rfl hh⟩
      · have := getGo_ok r (i + 1) _ (hor ((c.toNat &&& 127) * 2 ^ (7 * i)))
        refine ⟨this.1, fun hh => ?_, this.2.2⟩
        have := this.2.1 hh
        simp; omega
theorem getN_lt (l : List UInt8) : (getN l).1 < 18446744073709551616 := (getGo_ok l 0 0 (by decide)).1
theorem getN_size (l : List UInt8) (h : (getN l).2.2 = 0) : 0 < (getN l).2.1 ∧ (getN l).2.1 ≤ l.length := by
  have := (getGo_ok l 0 0 (by decide)).2.1 h; exact ⟨this.1, by have := this.2; unfold getN; omega⟩
theorem getN_err (l : List UInt8) (h : (getN l).2.2 ≠ 0) : (getN l).1 = 0 ∧ (getN l).2.1 = 0 := (getGo_ok l 0 0 (by decide)).2.2 h
theorem getGo_i64 : ∀ (l : List UInt8) (i n : Nat), (getGo i n l).2.2 = 0 ∨ (getGo i n l).2.2 = 4 ∨ (getGo i n l).2.2 = 6
  | [], i, n => by simp [getGo]
  | c :: r, i, n => by
    unfold getGo
    split
    · simp
    · split
      · simp
      · exact getGo_i64 r _ _
theorem getN_e (l : List UInt8) : (getN l).2.2 = 0 ∨ (getN l).2.2 = 4 ∨ (getN l).2.2 = 6 := getGo_i64 l 0 0

/-! ### Put -/

theorem byteV_ofNat {n : Nat} (h : n < 256) : byteV (UInt8.ofNat n) = .int .u8 n := by
  simp [byteV, UInt8.toNat_ofNat, Nat.mod_eq_of_lt h]

/-- A slice of bytes: its cells, its length within its capacity. -/
structure BytesAt (w : World) (a : Option Addr) (c : Nat) (l : List UInt8) : Prop where
  cells : SlA w a (bytesV l)
  cap : l.length ≤ c
  nil : a = none → c = 0
  lt : ∀ x, a = some x → l ≠ [] → x.block < w.heap.size
theorem BytesAt.mod {S : Nat → Prop} {w w' : World} {a : Option Addr} {c : Nat} {l : List UInt8} (h : BytesAt w a c l) (hm : Mod S w w') (hn : ∀ x, a = some x → l ≠ [] → ¬ S x.block) : BytesAt w' a c l := by
  refine ⟨?_, h.cap, h.nil, fun x hx hne => Nat.lt_of_lt_of_le (h.lt x hx hne) hm.size⟩
  by_cases hl : l = []
  · subst hl; exact SlA.empty _ _
  · exact h.cells.mod hm (fun x hx => hn x hx hl)
theorem BytesAt.ext {w w' : World} {a : Option Addr} {c : Nat} {l : List UInt8} (h : BytesAt w a c l) (hm : Ext w w') : BytesAt w' a c l := h.mod hm fun _ _ _ h => h
/-- A new slice of bytes that may grow. -/
structure NewBytes (w : World) (l : List UInt8) (v : Value) (w' : World) : Prop where
  ex : ∃ ob a c, v = .slice a l.length c ∧ OwnS w' 5 1 ob a l.length c (bytesV l) ∧ (∀ x, ob = some x → w.heap.size ≤ x) ∧ ∀ x, a = some x → ob = some x.block
  ext : Ext w w'
theorem OwnS.cap_le {w : World} {el sz : Nat} {ob : Option Nat} {a : Option Addr} {len cap : Nat} {cs : List Value} (h : OwnS w el sz ob a len cap cs) : len ≤ cap := by
  obtain ⟨_, ⟨_, h, _, _⟩ | ⟨b, _, rfl, hl, h | ⟨g, c, cur, hv, _, hg, hle, _⟩⟩⟩ := h
  · omega
  · cases h.1
  · simp only [Value.slice.injEq] at hv; omega
theorem OwnS.nil_cap {w : World} {el sz : Nat} {ob : Option Nat} {a : Option Addr} {len cap : Nat} {cs : List Value} (h : OwnS w el sz ob a len cap cs) (ha : a = none) : cap = 0 := by
  obtain ⟨_, ⟨_, h, _, h0⟩ | ⟨b, _, rfl, _⟩⟩ := h
  · rw [h, h0 ha]
  · cases ha
theorem OwnS.bytes {w : World} {el : Nat} {ob : Option Nat} {a : Option Addr} {l : List UInt8} {cap : Nat} (h : OwnS w el 1 ob a l.length cap (bytesV l)) (hF : ∀ x, a = some x → ob = some x.block) : BytesAt w a cap l := ⟨h.sla, h.cap_le, h.nil_cap, fun x hx _ => by have := hF x hx; subst this; exact h.block.2⟩
theorem BytesAt.none (w : World) : BytesAt w none 0 [] := ⟨rfl, Nat.le_refl _, fun _ => rfl, by simp⟩

set_option maxHeartbeats 800000 in
theorem put_ret (l : List UInt8) (n : Nat) (hn : n < 18446744073709551616) (k : Nat) (hk : l.length = k) (hl : l.length < 2 ^ 40) (a : Option Addr) (c : Nat) (w : World) (hA : BytesAt w a c l) :
    Ret Try.prog 33 [.slice a k c, .int .u64 n].toArray w (NewBytes w (l ++ putN n)) := by
  subst hk
  
  refine Ret.enter Try.func33 rfl Try.ntmps33 rfl ?_
  (repeat (first | refine GX.doneD ?_ | refine GX.done ?_ | refine GQ.goNormal ?_ | refine GC.seq ?_ | refine GC.skip ?_ | refine GC.block ?_ | refine GC.exit ?_ | refine GC.ret ?_ | refine GQ.goExit ?_ | refine GQ.goRet ?_ | refine GQ.inNormal ?_ | refine GQ.inExit ?_ | refine GQ.inExitNe rfl ?_ | refine GQ.inRet ?_ | refine GQ.loopExit ?_ | refine GQ.loopRet ?_ | refine GQ.cutExit ?_ | refine GQ.cutRet ?_))
  refine GC.region (.pure 0 .done) rfl ?_
  (repeat (refine GX.pure rfl ?_; refine GO.assign rfl rfl rfl rfl ?_))
  (repeat (first | refine GX.doneD ?_ | refine GX.done ?_ | refine GQ.goNormal ?_ | refine GC.seq ?_ | refine GC.skip ?_ | refine GC.block ?_ | refine GC.exit ?_ | refine GC.ret ?_ | refine GQ.goExit ?_ | refine GQ.goRet ?_ | refine GQ.inNormal ?_ | refine GQ.inExit ?_ | refine GQ.inExitNe rfl ?_ | refine GQ.inRet ?_ | refine GQ.loopExit ?_ | refine GQ.loopRet ?_ | refine GQ.cutExit ?_ | refine GQ.cutRet ?_))
  refine GC.region (.pure 0 (.eff 1 (.pure 2 .done))) rfl ?_
  (repeat (refine GX.pure rfl ?_; first | refine GO.move rfl rfl rfl rfl ?_ | refine GO.assign rfl rfl rfl rfl ?_))
  (refine GX.eff rfl ?_; refine GO.callL rfl rfl rfl rfl rfl (cloneBytes_ret (el := 5) (sz := 1) (by_ := 1) rfl l.length (bytesV l) (by simp) (bytesV_one l) (by omega) (by omega) a c w hA.cells hA.nil) ?_)
  rintro v w1 ⟨ob, a1, c1, rfl, hO, hE, hB, hF⟩
  refine ⟨fun _ h => by first | trivial | exact Mod.trans h (Ext.mod (by assumption)), ?_⟩
  (repeat (refine GX.pure rfl ?_; first | refine GO.move rfl rfl rfl rfl ?_ | refine GO.assign rfl rfl rfl rfl ?_))
  (repeat (first | refine GX.doneD ?_ | refine GX.done ?_ | refine GQ.goNormal ?_ | refine GC.seq ?_ | refine GC.skip ?_ | refine GC.block ?_ | refine GC.exit ?_ | refine GC.ret ?_ | refine GQ.goExit ?_ | refine GQ.goRet ?_ | refine GQ.inNormal ?_ | refine GQ.inExit ?_ | refine GQ.inExitNe rfl ?_ | refine GQ.inRet ?_ | refine GQ.loopExit ?_ | refine GQ.loopRet ?_ | refine GQ.cutExit ?_ | refine GQ.cutRet ?_))
  refine GC.loop (X := Nat × Nat × List UInt8 × Option Nat × Option Addr × Nat) (fun x => [(1, .int .u64 x.2.1), (5, .slice x.2.2.2.2.1 x.2.2.1.length x.2.2.2.2.2)])
    (fun x w' => x.1 ≤ 10 ∧ x.2.1 < 2 ^ (64 - 7 * (10 - x.1)) ∧ x.2.2.1 ++ putF x.1 x.2.1 = l ++ putN n ∧ x.2.2.1.length ≤ l.length + (10 - x.1) ∧ OwnS w' 5 1 x.2.2.2.1 x.2.2.2.2.1 x.2.2.1.length x.2.2.2.2.2 (bytesV x.2.2.1) ∧ Ext w w' ∧ (∀ y, x.2.2.2.1 = some y → w.heap.size ≤ y) ∧ ∀ y, x.2.2.2.2.1 = some y → x.2.2.2.1 = some y.block)
    (fun x => x.1) (10, n, l, ob, a1, c1) (sub_pick (l := [1, 5]) rfl) ⟨Nat.le_refl 10, by simpa using hn, rfl, by simp, hO, hE, hB, hF⟩ ?_
  rintro ⟨f, m, out, ob, a, c⟩ w' ⟨hf, hm, hput, hlen, hO, hE, hB, hF⟩
  dsimp only at hf hm hput hlen hO hE hB hF ⊢
  have hm64 : m < 18446744073709551616 := Nat.lt_of_lt_of_le hm (Nat.pow_le_pow_right (by decide) (by omega) : _ ≤ 2 ^ 64)
  (repeat (first | refine GX.doneD ?_ | refine GX.done ?_ | refine GQ.goNormal ?_ | refine GC.seq ?_ | refine GC.skip ?_ | refine GC.block ?_ | refine GC.exit ?_ | refine GC.ret ?_ | refine GQ.goExit ?_ | refine GQ.goRet ?_ | refine GQ.inNormal ?_ | refine GQ.inExit ?_ | refine GQ.inExitNe rfl ?_ | refine GQ.inRet ?_ | refine GQ.loopExit ?_ | refine GQ.loopRet ?_ | refine GQ.cutExit ?_ | refine GQ.cutRet ?_))
  refine GC.region (.pure 0 (.pure 1 .done)) rfl ?_
  (repeat (refine GX.pure rfl ?_; first | refine GO.move rfl rfl rfl rfl ?_ | refine GO.gtr rfl rfl rfl rfl rfl ?_))
  (repeat (first | refine GX.doneD ?_ | refine GX.done ?_ | refine GQ.goNormal ?_ | refine GC.seq ?_ | refine GC.skip ?_ | refine GC.block ?_ | refine GC.exit ?_ | refine GC.ret ?_ | refine GQ.goExit ?_ | refine GQ.goRet ?_ | refine GQ.inNormal ?_ | refine GQ.inExit ?_ | refine GQ.inExitNe rfl ?_ | refine GQ.inRet ?_ | refine GQ.loopExit ?_ | refine GQ.loopRet ?_ | refine GQ.cutExit ?_ | refine GQ.cutRet ?_))
  refine GC.cond rfl (fun hc => ?_) (fun hc => ?_)
  · have hgt : 127 < m := by have := hc; simp only [decide_eq_true_eq, decide_eq_false_iff_not] at this; omega
    obtain ⟨g, rfl⟩ : ∃ g, f = g + 1 := by
      cases f with
      | zero => simp at hm; omega
      | succ g => exact ⟨g, rfl⟩
    (repeat (first | refine GX.doneD ?_ | refine GX.done ?_ | refine GQ.goNormal ?_ | refine GC.seq ?_ | refine GC.skip ?_ | refine GC.block ?_ | refine GC.exit ?_ | refine GC.ret ?_ | refine GQ.goExit ?_ | refine GQ.goRet ?_ | refine GQ.inNormal ?_ | refine GQ.inExit ?_ | refine GQ.inExitNe rfl ?_ | refine GQ.inRet ?_ | refine GQ.loopExit ?_ | refine GQ.loopRet ?_ | refine GQ.cutExit ?_ | refine GQ.cutRet ?_))
    refine GC.region (.pure 0 (.pure 1 (.pure 2 (.pure 3 (.eff 4 (.eff 5 (.pure 6 .done))))))) rfl ?_
    (repeat (refine GX.pure rfl ?_; first | refine GO.move rfl rfl rfl rfl ?_ | refine GO.assign rfl rfl rfl rfl ?_ | refine GO.conv rfl rfl rfl rfl (wrapIn (by dsimp only [InK]; omega)) ?_ | refine GO.convStr rfl rfl rfl rfl ?_))
    refine GX.pure rfl (GO.conv rfl rfl rfl rfl (wrapU8 _) ?_)
    (repeat (refine GX.pure rfl ?_; first | refine GO.move rfl rfl rfl rfl ?_ | refine GO.assign rfl rfl rfl rfl ?_ | refine GO.conv rfl rfl rfl rfl (wrapIn (by dsimp only [InK]; omega)) ?_ | refine GO.convStr rfl rfl rfl rfl ?_))
    have hor : (m % 256) ||| 128 = m % 128 + 128 := by
      have h1 : m % 256 = m % 128 ∨ m % 256 = m % 128 + 128 := by omega
      have h2 : m % 128 < 2 ^ 7 := Nat.mod_lt _ (by decide)
      have h3 : m % 128 ||| 128 = m % 128 + 128 := by
        have := Nat.two_pow_add_eq_or_of_lt h2 1
        rw [Nat.or_comm]; simpa [Nat.add_comm] using this.symm
      rcases h1 with h | h
      · rw [h, h3]
      · rw [h, ← h3, Nat.or_assoc, Nat.or_self]
    refine GX.pure rfl (GO.bits rfl rfl rfl rfl rfl (c := (m % 128 + 128 : Nat)) (fun w => ?_) ?_)
    · have := run_or (P := Try.prog) (w := w) .u8 rfl 5 (m % 256) 128 (by simp [IntKind.bits]; omega) (by decide)
      rw [← hor]
      exact this
    refine GX.eff rfl ?_
    refine GO.buildSlice (out := bytesV [UInt8.ofNat (m % 128 + 128)]) (by rw [bytesV, List.map_cons, List.map_nil, byteV_ofNat (by omega)]; kernel_rfl) ⟨by omega, by unfold maxLen; omega⟩ rfl rfl rfl rfl rfl fun b w2 hb hO2 hE2 => ?_
    refine ⟨fun _ h => by first | trivial | exact Mod.trans h (Ext.mod (by assumption)), ?_⟩
    refine GX.eff rfl ?_
    refine GO.append (hO.ext hE2) hO2.sla rfl (bytesV_one _) (by omega) (by omega) rfl rfl rfl rfl rfl fun ob' a' c' w3 hO3 hM hB3 hA3 => ?_
    refine ⟨fun _ h => by first | trivial | exact Mod.trans h (Ext.mod (by assumption)), ?_⟩
    have hfr : ∀ y, ob' = some y → w.heap.size ≤ y := fun y hy => by
      rcases hB3 y hy with h | h
      · exact hB y h
      · exact Nat.le_trans (hE.trans hE2).size h
    have hfa : ∀ y, a' = some y → ob' = some y.block := fun y hy => by
      rcases hA3 y hy with h | ⟨h, h'⟩
      · exact h
      · rw [h']; exact hF y h
    (repeat (refine GX.pure rfl ?_; first | refine GO.move rfl rfl rfl rfl ?_ | refine GO.assign rfl rfl rfl rfl ?_ | refine GO.conv rfl rfl rfl rfl (wrapIn (by dsimp only [InK]; omega)) ?_ | refine GO.convStr rfl rfl rfl rfl ?_))
    (repeat (first | refine GX.doneD ?_ | refine GX.done ?_ | refine GQ.goNormal ?_ | refine GC.seq ?_ | refine GC.skip ?_ | refine GC.block ?_ | refine GC.exit ?_ | refine GC.ret ?_ | refine GQ.goExit ?_ | refine GQ.goRet ?_ | refine GQ.inNormal ?_ | refine GQ.inExit ?_ | refine GQ.inExitNe rfl ?_ | refine GQ.inRet ?_ | refine GQ.loopExit ?_ | refine GQ.loopRet ?_ | refine GQ.cutExit ?_ | refine GQ.cutRet ?_))
    refine GC.region (.pure 0 (.pure 1 (.pure 2 .done))) rfl ?_
    (repeat (refine GX.pure rfl ?_; first | refine GO.move rfl rfl rfl rfl ?_ | refine GO.assign rfl rfl rfl rfl ?_))
    refine GX.pure rfl (GO.shr rfl rfl rfl rfl rfl (by decide) (c := (m / 128 : Nat)) (by simp [IntKind.bits]) ?_)
    (repeat (refine GX.pure rfl ?_; first | refine GO.move rfl rfl rfl rfl ?_ | refine GO.assign rfl rfl rfl rfl ?_))
    (repeat (first | refine GX.doneD ?_ | refine GX.done ?_ | refine GQ.goNormal ?_ | refine GC.seq ?_ | refine GC.skip ?_ | refine GC.block ?_ | refine GC.exit ?_ | refine GC.ret ?_ | refine GQ.goExit ?_ | refine GQ.goRet ?_ | refine GQ.inNormal ?_ | refine GQ.inExit ?_ | refine GQ.inExitNe rfl ?_ | refine GQ.inRet ?_ | refine GQ.loopExit ?_ | refine GQ.loopRet ?_ | refine GQ.cutExit ?_ | refine GQ.cutRet ?_))
    rw [← bytesV_append] at hO3
    refine GQ.again (g, m / 128, out ++ [UInt8.ofNat (m % 128 + 128)], ob', a', c') (sub_pick (l := [1, 5]) (by simp only [pickE, look, Env.put, List.length_append, List.length_cons, List.length_nil])) ⟨by omega, ?_, ?_, by simp; omega, by simpa using hO3, (hE.trans hE2).then hM ?_, hfr, hfa⟩ (by simp)
    · show m / 128 < _
      rw [Nat.div_lt_iff_lt_mul (by decide)]
      refine Nat.lt_of_lt_of_le hm ?_
      rw [show (128 : Nat) = 2 ^ 7 from rfl, ← Nat.pow_add]
      exact Nat.pow_le_pow_right (by decide) (by dsimp only; omega)
    · rw [← hput]
      simp [putF, hgt]
    · intro i hi h
      have := hB i h.symm
      omega
  · have hle : ¬ 127 < m := by have := hc; simp only [decide_eq_true_eq, decide_eq_false_iff_not] at this; omega
    (repeat (first | refine GX.doneD ?_ | refine GX.done ?_ | refine GQ.goNormal ?_ | refine GC.seq ?_ | refine GC.skip ?_ | refine GC.block ?_ | refine GC.exit ?_ | refine GC.ret ?_ | refine GQ.goExit ?_ | refine GQ.goRet ?_ | refine GQ.inNormal ?_ | refine GQ.inExit ?_ | refine GQ.inExitNe rfl ?_ | refine GQ.inRet ?_ | refine GQ.loopExit ?_ | refine GQ.loopRet ?_ | refine GQ.cutExit ?_ | refine GQ.cutRet ?_))
    refine GC.region (.pure 0 (.pure 1 (.pure 2 (.eff 3 (.eff 4 (.pure 5 .done)))))) rfl ?_
    (repeat (refine GX.pure rfl ?_; first | refine GO.move rfl rfl rfl rfl ?_ | refine GO.assign rfl rfl rfl rfl ?_ | refine GO.conv rfl rfl rfl rfl (wrapIn (by dsimp only [InK]; omega)) ?_ | refine GO.convStr rfl rfl rfl rfl ?_))
    refine GX.eff rfl ?_
    refine GO.buildSlice (out := bytesV [UInt8.ofNat m]) (by rw [bytesV, List.map_cons, List.map_nil, byteV_ofNat (by omega)]; kernel_rfl) ⟨by omega, by unfold maxLen; omega⟩ rfl rfl rfl rfl rfl fun b w2 hb hO2 hE2 => ?_
    refine ⟨fun _ h => by first | trivial | exact Mod.trans h (Ext.mod (by assumption)), ?_⟩
    refine GX.eff rfl ?_
    refine GO.append (hO.ext hE2) hO2.sla rfl (bytesV_one _) (by omega) (by omega) rfl rfl rfl rfl rfl fun ob' a' c' w3 hO3 hM hB3 hA3 => ?_
    refine ⟨fun _ h => by first | trivial | exact Mod.trans h (Ext.mod (by assumption)), ?_⟩
    have hfr : ∀ y, ob' = some y → w.heap.size ≤ y := fun y hy => by
      rcases hB3 y hy with h | h
      · exact hB y h
      · exact Nat.le_trans (hE.trans hE2).size h
    have hfa : ∀ y, a' = some y → ob' = some y.block := fun y hy => by
      rcases hA3 y hy with h | ⟨h, h'⟩
      · exact h
      · rw [h']; exact hF y h
    (repeat (refine GX.pure rfl ?_; first | refine GO.move rfl rfl rfl rfl ?_ | refine GO.assign rfl rfl rfl rfl ?_ | refine GO.conv rfl rfl rfl rfl (wrapIn (by dsimp only [InK]; omega)) ?_ | refine GO.convStr rfl rfl rfl rfl ?_))
    (repeat (first | refine GX.doneD ?_ | refine GX.done ?_ | refine GQ.goNormal ?_ | refine GC.seq ?_ | refine GC.skip ?_ | refine GC.block ?_ | refine GC.exit ?_ | refine GC.ret ?_ | refine GQ.goExit ?_ | refine GQ.goRet ?_ | refine GQ.inNormal ?_ | refine GQ.inExit ?_ | refine GQ.inExitNe rfl ?_ | refine GQ.inRet ?_ | refine GQ.loopExit ?_ | refine GQ.loopRet ?_ | refine GQ.cutExit ?_ | refine GQ.cutRet ?_))
    refine GQ.ret1 (by first | exact .inl rfl | exact .inr rfl) rfl rfl ?_
    have hfin : putF f m = [UInt8.ofNat m] := by cases f <;> simp [putF, hle]
    rw [← bytesV_append] at hO3
    rw [← hput, hfin]
    refine ⟨⟨ob', a', c', by simp, by simpa using hO3, hfr, hfa⟩, (hE.trans hE2).then hM ?_⟩
    · intro i hi h
      have := hB i h.symm
      omega
end Go.Proofs.Ytahkglanddhncaa.V
