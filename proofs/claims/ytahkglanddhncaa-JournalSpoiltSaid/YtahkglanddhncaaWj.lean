/-
  What a codec's functions for a lifetime and a value compute, in both modes (package request). Conditions: the lengths of what is read and made stay below 2^38; the blocks of the codec, the command, the reader and the variables are different ones.
-/
import Derived.Test.YtahkglanddhncaaWi
namespace Go.Proofs.Ytahkglanddhncaa.V
attribute [local irreducible] GX GO

/-- A command. -/
structure Cmd where
  op : Int
  key : List UInt8
  keys : List (List UInt8)
  value : List UInt8
  tags : List (List UInt8)
  life : Nat
  version : Nat
  tag : List UInt8
  pre : List UInt8
  child : List UInt8
deriving DecidableEq

def cmdCells (c : Cmd) (ka : Option Addr) (kc : Nat) (va : Option Addr) (vc : Nat) (ta : Option Addr) (tc : Nat) : List Value :=
  [.int .i64 c.op, str c.key, .slice ka c.keys.length kc, .slice va c.value.length vc, .slice ta c.tags.length tc, .int .u64 c.life, .int .u64 c.version, str c.tag, str c.pre, str c.child]

/-- A slice of strings. -/
structure StrsAt (w : World) (a : Option Addr) (c : Nat) (l : List (List UInt8)) : Prop where
  cells : SlA w a (strsV l)
  cap : l.length ≤ c
  nil : a = none → c = 0
  lt : ∀ x, a = some x → l ≠ [] → x.block < w.heap.size
theorem StrsAt.mod {S : Nat → Prop} {w w' : World} {a : Option Addr} {c : Nat} {l : List (List UInt8)} (h : StrsAt w a c l) (hm : Mod S w w') (hn : ∀ x, a = some x → l ≠ [] → ¬ S x.block) : StrsAt w' a c l := by
  refine ⟨?_, h.cap, h.nil, fun x hx hne => Nat.lt_of_lt_of_le (h.lt x hx hne) hm.size⟩
  by_cases hl : l = []
  · subst hl; exact SlA.empty _ _
  · exact h.cells.mod hm (fun x hx => hn x hx hl)
theorem StrsAt.none (w : World) : StrsAt w none 0 [] := ⟨rfl, Nat.le_refl _, fun _ => rfl, by simp⟩

/-- The command in block bc; what its slices lead to lies in no block of X. -/
def CmdAt (w : World) (X : Nat → Prop) (bc : Nat) (c : Cmd) : Prop :=
  ∃ ka kc va vc ta tc, Blk w bc (cmdCells c ka kc va vc ta tc) ∧ StrsAt w ka kc c.keys ∧ BytesAt w va vc c.value ∧ StrsAt w ta tc c.tags ∧ ∀ y, ((ka = some y ∧ c.keys ≠ []) ∨ (va = some y ∧ c.value ≠ []) ∨ (ta = some y ∧ c.tags ≠ [])) → ¬ X y.block

/-- The blocks that a codec and what it goes over are in. -/
def Fc (bx br bc : Nat) (k : Nat) : Prop := Fp bx br k ∨ k = bc
/-- The same, and all that was there before B. -/
def Fx (B bx br bc : Nat) (k : Nat) : Prop := Fc bx br bc k ∨ k < B

theorem CmdAt.mod {S : Nat → Prop} {w w' : World} {X : Nat → Prop} {bc : Nat} {c : Cmd} (h : CmdAt w X bc c) (hm : Mod S w w') (hb : ¬ S bc) (hs : ∀ k, S k → X k ∨ w.heap.size ≤ k) : CmdAt w' X bc c := by
  obtain ⟨ka, kc, va, vc, ta, tc, h1, h2, h3, h4, h5⟩ := h
  refine ⟨ka, kc, va, vc, ta, tc, h1.mod hm hb, h2.mod hm fun x hx hne hS => ?_, h3.mod hm fun x hx hne hS => ?_, h4.mod hm fun x hx hne hS => ?_, h5⟩
  · rcases hs _ hS with h | h
    · exact h5 x (.inl ⟨hx, hne⟩) h
    · have := h2.lt x hx hne; omega
  · rcases hs _ hS with h | h
    · exact h5 x (.inr (.inl ⟨hx, hne⟩)) h
    · have := h3.lt x hx hne; omega
  · rcases hs _ hS with h | h
    · exact h5 x (.inr (.inr ⟨hx, hne⟩)) h
    · have := h4.lt x hx hne; omega
/-- A cell that bears no slice is written. -/
theorem CmdAt.upd {w w' : World} {B bx br bc : Nat} {c c' : Cmd} {o : Nat} {vs : List Value} (h : CmdAt w (Fx B bx br bc) bc c) (hU : Upd w w' bc o vs) (hM : Mod (Fc bx br bc) w w')
    (hc : ∀ ka kc va vc ta tc, (cmdCells c ka kc va vc ta tc).take o ++ vs ++ (cmdCells c ka kc va vc ta tc).drop (o + vs.length) = cmdCells c' ka kc va vc ta tc) (hk : c'.keys = c.keys) (hv : c'.value = c.value) (ht : c'.tags = c.tags) : CmdAt w' (Fx B bx br bc) bc c' := by
  obtain ⟨ka, kc, va, vc, ta, tc, h1, h2, h3, h4, h5⟩ := h
  refine ⟨ka, kc, va, vc, ta, tc, ?_, ?_, ?_, ?_, ?_⟩
  · rw [← hc]; exact hU.blk h1
  · rw [hk]; exact h2.mod hM fun x hx hne h' => h5 x (.inl ⟨hx, hne⟩) (.inl h')
  · rw [hv]; exact h3.mod hM fun x hx hne h' => h5 x (.inr (.inl ⟨hx, hne⟩)) (.inl h')
  · rw [ht]; exact h4.mod hM fun x hx hne h' => h5 x (.inr (.inr ⟨hx, hne⟩)) (.inl h')
  · rw [hk, hv, ht]; exact h5

theorem Cx.blkX {w : World} {bx bc br : Nat} {ba : Option Nat} {st : St} (h : Cx w bx bc br ba st) : ∃ v1 v2, Blk w bx [.pointer (some ⟨bc, 0, none⟩), v1, v2, .bool st.bad] := by
  obtain ⟨_, h⟩ := h
  cases hr : st.read with
  | true => rw [hr] at h; exact ⟨_, _, h.1⟩
  | false => rw [hr] at h; obtain ⟨_, _, h, _⟩ := h; exact ⟨_, _, h⟩
theorem Cx.setBad {w w' : World} {bx bc br : Nat} {ba : Option Nat} {st : St} (h : Cx w bx bc br ba st) {b : Bool} (hp : Put w w' bx 3 [.bool b]) : Cx w' bx bc br ba { st with bad := b } := by
  obtain ⟨rd, data, bad⟩ := st
  obtain ⟨hG, h⟩ := h
  refine ⟨hG.le (Nat.le_of_eq hp.size.symm), ?_⟩
  cases rd with
  | true =>
    obtain ⟨a1, a2, a3, a5⟩ := h
    exact ⟨by have := hp.blk a1; simpa using this, a2.mod hp.mod (fun h => a3 h.symm) (fun b hb h => a5 (by rw [hb, h])), a3, a5⟩
  | false =>
    obtain ⟨oa, oc, a1, a2, a3⟩ := h
    exact ⟨oa, oc, by have := hp.blk a1; simpa using this, a2.mod hp.mod (fun y hy _ => (a3 y hy).1), a3⟩
theorem Cx.ext {w w' : World} {bx bc br : Nat} {ba : Option Nat} {st : St} (h : Cx w bx bc br ba st) (hm : Ext w w') : Cx w' bx bc br ba st := h.mod hm id id (fun _ h => h.elim)
theorem Fp.lt {w : World} {bx bc br : Nat} {ba : Option Nat} {st : St} (h : Cx w bx bc br ba st) {k : Nat} (hk : Fp bx br k) : k < w.heap.size := by
  rcases hk with rfl | rfl
  · exact h.blk.1
  · exact h.1.r
theorem Cx.not_fp {w : World} {bx bc br : Nat} {ba : Option Nat} {st : St} (h : Cx w bx bc br ba st) : ¬ Fp bx br bc := by
  rintro (h1 | h1)
  · exact h.1.xc h1.symm
  · exact h.1.cr h1

def doLife (st : St) (life : Nat) : St × Nat :=
  ({ (doNum st life).1 with bad := (doNum st life).1.bad || decide ((doNum st life).2 = 0) }, (doNum st life).2)
def doValue (st : St) (v : List UInt8) : St × List UInt8 :=
  ((doPart (fun s => decide (s.length ≤ 65536)) st v).1, if st.read = true ∧ 0 < (doPart (fun s => decide (s.length ≤ 65536)) st v).2.length then (doPart (fun s => decide (s.length ≤ 65536)) st v).2 else v)
theorem doNum_lt (st : St) {n : Nat} (h : n < 18446744073709551616) : (doNum st n).2 < 18446744073709551616 := by
  unfold doNum; split
  · exact rdNum_lt _
  · exact h

set_option maxHeartbeats 1000000 in
theorem life_ret (B bx bc br : Nat) (ba : Option Nat) (st : St) (c : Cmd) (w : World) (hC : Cx w bx bc br ba st) (hc : CmdAt w (Fx B bx br bc) bc c) (hl : st.data.length < 2 ^ 38) (hlife : c.life < 18446744073709551616) :
    Ret Try.prog 59 [.pointer (some ⟨bx, 0, none⟩)].toArray w
      fun v w' => v = .tuple #[] ∧ Cx w' bx bc br ba (doLife st c.life).1 ∧ CmdAt w' (Fx B bx br bc) bc { c with life := (doLife st c.life).2 } ∧ Mod (Fc bx br bc) w w' := by
  have hc0 := hc
  obtain ⟨ka, kc, va, vc, ta, tc, hbc, h2, h3, h4, h5⟩ := hc
  obtain ⟨v1, v2, hb⟩ := hC.blkX
  have hG := hC.1
  have hfl := fun k hk => Fp.lt hC (k := k) hk
  have hnf := hC.not_fp
  
  refine Ret.enter Try.func59 rfl Try.ntmps59 rfl ?_
  (repeat (first | refine GX.doneD ?_ | refine GX.done ?_ | refine GQ.goNormal ?_ | refine GC.seq ?_ | refine GC.skip ?_ | refine GC.block ?_ | refine GC.exit ?_ | refine GC.ret ?_ | refine GQ.goExit ?_ | refine GQ.goRet ?_ | refine GQ.inNormal ?_ | refine GQ.inExit ?_ | refine GQ.inExitNe rfl ?_ | refine GQ.inRet ?_ | refine GQ.loopExit ?_ | refine GQ.loopRet ?_ | refine GQ.cutExit ?_ | refine GQ.cutRet ?_))
  refine GC.region (.pure 0 (.pure 1 (.pure 2 (.eff 3 (.pure 4 (.pure 5 (.eff 6 (.eff 7 (.eff 8 .done))))))))) rfl ?_
  (repeat (refine GX.pure rfl ?_; first | refine GO.move rfl rfl rfl rfl ?_ | refine GO.nilCheck rfl rfl rfl rfl ?_ | refine GO.fieldAddr rfl rfl rfl rfl rfl ?_ | refine GO.nilCheckF rfl rfl rfl rfl ?_))
  (first | (refine GX.eff rfl ?_; first | refine GO.load1 (hb.get (o := 0 + 0) rfl) rfl rfl rfl ?_ | refine GO.loadN (hb.get (o := 0 + 0) rfl) rfl rfl rfl rfl ?_) | (refine GX.read rfl ?_; first | refine GO.load1R (by assumption) (fun _ hS_ => At.mod (hb.get (o := 0 + 0) rfl) hS_ (by simp)) rfl rfl rfl ?_ | refine GO.loadNR (by assumption) (fun _ hS_ => At.mod (hb.get (o := 0 + 0) rfl) hS_ (by simp)) rfl rfl rfl rfl ?_))
  (repeat (refine GX.pure rfl ?_; first | refine GO.move rfl rfl rfl rfl ?_ | refine GO.nilCheck rfl rfl rfl rfl ?_ | refine GO.fieldAddr rfl rfl rfl rfl rfl ?_ | refine GO.nilCheckF rfl rfl rfl rfl ?_))
  (first | (refine GX.eff rfl ?_; first | refine GO.load1 (hbc.get (o := 0 + 5) rfl) rfl rfl rfl ?_ | refine GO.loadN (hbc.get (o := 0 + 5) rfl) rfl rfl rfl rfl ?_) | (refine GX.read rfl ?_; first | refine GO.load1R (by assumption) (fun _ hS_ => At.mod (hbc.get (o := 0 + 5) rfl) hS_ (by simp)) rfl rfl rfl ?_ | refine GO.loadNR (by assumption) (fun _ hS_ => At.mod (hbc.get (o := 0 + 5) rfl) hS_ (by simp)) rfl rfl rfl rfl ?_))
  refine GX.eff rfl ?_
  refine GO.alloc rfl rfl fun bn w1 hbn hblk hE1 => ?_
  refine ⟨fun _ h => by first | trivial | exact Mod.trans h (Ext.mod (by assumption)), ?_⟩
  refine GX.eff rfl ?_
  refine GO.store (vs := [.int .u64 c.life]) (hblk.wr (by simp)) rfl rfl (by simp [Value.oneCell']) rfl rfl rfl fun w2 hp2 => ⟨(by first | exact fun _ _ => trivial | exact late_abs (by kernel_rfl)), ?_⟩
  have hn2 : Blk w2 bn [.int .u64 c.life] := by have := hp2.blk hblk; simpa using this
  have hE2 : Ext w w2 := hE1.then hp2.mod fun i hi h => by omega
  have hC2 := hC.ext hE2
  (repeat (first | refine GX.doneD ?_ | refine GX.done ?_ | refine GQ.goNormal ?_ | refine GC.seq ?_ | refine GC.skip ?_ | refine GC.block ?_ | refine GC.exit ?_ | refine GC.ret ?_ | refine GQ.goExit ?_ | refine GQ.goRet ?_ | refine GQ.inNormal ?_ | refine GQ.inExit ?_ | refine GQ.inExitNe rfl ?_ | refine GQ.inRet ?_ | refine GQ.loopExit ?_ | refine GQ.loopRet ?_ | refine GQ.cutExit ?_ | refine GQ.cutRet ?_))
  refine GC.region (.pure 0 (.eff 1 .done)) rfl ?_
  (repeat (refine GX.pure rfl ?_; refine GO.move rfl rfl rfl rfl ?_))
  (refine GX.eff rfl ?_; refine GO.callL rfl rfl rfl rfl rfl (num_ret bx bc br ba st c.life hlife bn 0 w2 hC2 hn2.at (hn2.wr (by simp)) hl (by have := hfl bx (.inl rfl); omega) (by have := hfl br (.inr rfl); omega) (fun h => by have := hG.a bn h; omega)) ?_)
  rintro v w3 ⟨rfl, hC3, hU3, hM3⟩
  refine ⟨fun _ h => by first | trivial | exact Mod.trans h (Ext.mod (by assumption)), ?_⟩
  have hn3 : Blk w3 bn [.int .u64 (doNum st c.life).2] := by have := hU3.blk hn2; simpa using this
  have hM3' : Mod (Fp bx br) w w3 := (Ext.mod hE2).then hM3 fun i hi h => by
    rcases h with h | ⟨_, h⟩
    · exact h
    · omega
  have hc3 : CmdAt w3 (Fx B bx br bc) bc c := hc0.mod hM3' hnf fun k hk => .inl (.inl (.inl hk))
  obtain ⟨v1, v2, hb3⟩ := hC3.blkX
  have hbc3 := hbc.mod hM3' hnf
  have hlt' := doNum_lt st hlife
  (repeat (first | refine GX.doneD ?_ | refine GX.done ?_ | refine GQ.goNormal ?_ | refine GC.seq ?_ | refine GC.skip ?_ | refine GC.block ?_ | refine GC.exit ?_ | refine GC.ret ?_ | refine GQ.goExit ?_ | refine GQ.goRet ?_ | refine GQ.inNormal ?_ | refine GQ.inExit ?_ | refine GQ.inExitNe rfl ?_ | refine GQ.inRet ?_ | refine GQ.loopExit ?_ | refine GQ.loopRet ?_ | refine GQ.cutExit ?_ | refine GQ.cutRet ?_))
  refine GC.regionD (.pure 0 (.pure 1 (.pure 2 (.read 3 (.read 4 (.pure 5 (.pure 6 (.eff 7 .done)))))))) (fun _ => False) mixed (by kernel_rfl) (by kernel_rfl) ?_
  intro w4 _ hE4
  have hS : Mod (fun _ => False) w3 w4 := hE4
  (repeat (refine GX.pure rfl ?_; first | refine GO.move rfl rfl rfl rfl ?_ | refine GO.nilCheck rfl rfl rfl rfl ?_ | refine GO.fieldAddr rfl rfl rfl rfl rfl ?_ | refine GO.nilCheckF rfl rfl rfl rfl ?_))
  (first | (refine GX.eff rfl ?_; first | refine GO.load1 (hb3.get (o := 0 + 0) rfl) rfl rfl rfl ?_ | refine GO.loadN (hb3.get (o := 0 + 0) rfl) rfl rfl rfl rfl ?_) | (refine GX.read rfl ?_; first | refine GO.load1R (by assumption) (fun _ hS_ => At.mod (hb3.get (o := 0 + 0) rfl) hS_ (by simp)) rfl rfl rfl ?_ | refine GO.loadNR (by assumption) (fun _ hS_ => At.mod (hb3.get (o := 0 + 0) rfl) hS_ (by simp)) rfl rfl rfl rfl ?_))
  (first | (refine GX.eff rfl ?_; first | refine GO.load1 (hn3.get (o := 0) rfl) rfl rfl rfl ?_ | refine GO.loadN (hn3.get (o := 0) rfl) rfl rfl rfl rfl ?_) | (refine GX.read rfl ?_; first | refine GO.load1R (by assumption) (fun _ hS_ => At.mod (hn3.get (o := 0) rfl) hS_ (by simp)) rfl rfl rfl ?_ | refine GO.loadNR (by assumption) (fun _ hS_ => At.mod (hn3.get (o := 0) rfl) hS_ (by simp)) rfl rfl rfl rfl ?_))
  (repeat (refine GX.pure rfl ?_; first | refine GO.move rfl rfl rfl rfl ?_ | refine GO.nilCheck rfl rfl rfl rfl ?_ | refine GO.fieldAddr rfl rfl rfl rfl rfl ?_ | refine GO.nilCheckF rfl rfl rfl rfl ?_))
  have hbc4 := hbc3.ext hE4
  refine GX.eff rfl ?_
  refine GO.store (vs := [.int .u64 (doNum st c.life).2]) (hbc4.wr (by simp [cmdCells])) rfl rfl (by simp [Value.oneCell']) rfl rfl rfl fun w5 hp5 => ⟨(by first | exact fun _ _ => trivial | exact late_abs (by kernel_rfl)), ?_⟩
  have hC5 : Cx w5 bx bc br ba (doNum st c.life).1 := (hC3.ext hE4).mod hp5.mod hG.xc (fun h => hG.cr h.symm) (fun k hk => .inl hk)
  have hn5 : Blk w5 bn [.int .u64 (doNum st c.life).2] := (hn3.ext hE4).mod hp5.mod (by have := hG.c; omega)
  have hM5 : Mod (Fc bx br bc) w w5 := ((hM3'.of fun k hk => .inl hk).trans (Ext.mod hE4)).trans (hp5.mod.of fun k hk => .inr hk)
  have hU5 : Upd w w5 bc 5 [.int .u64 (doNum st c.life).2] := (hp5.upd.pre hE4 id).pre hM3' hnf
  have hc5 : CmdAt w5 (Fx B bx br bc) bc { c with life := (doNum st c.life).2 } := hc0.upd hU5 hM5 (fun _ _ _ _ _ _ => rfl) rfl rfl rfl
  obtain ⟨v1, v2, hb5⟩ := hC5.blkX
  (repeat (first | refine GX.doneD ?_ | refine GX.done ?_ | refine GQ.goNormal ?_ | refine GC.seq ?_ | refine GC.skip ?_ | refine GC.block ?_ | refine GC.exit ?_ | refine GC.ret ?_ | refine GQ.goExit ?_ | refine GQ.goRet ?_ | refine GQ.inNormal ?_ | refine GQ.inExit ?_ | refine GQ.inExitNe rfl ?_ | refine GQ.inRet ?_ | refine GQ.loopExit ?_ | refine GQ.loopRet ?_ | refine GQ.cutExit ?_ | refine GQ.cutRet ?_))
  refine GC.region (.pure 0 (.pure 1 (.pure 2 (.pure 3 (.eff 4 (.pure 5 (.eff 6 (.pure 7 (.pure 8 (.pure 9 (.pure 10 (.eff 11 .done)))))))))))) rfl ?_
  (repeat (refine GX.pure rfl ?_; first | refine GO.move rfl rfl rfl rfl ?_ | refine GO.nilCheck rfl rfl rfl rfl ?_ | refine GO.fieldAddr rfl rfl rfl rfl rfl ?_ | refine GO.eql rfl rfl rfl rfl rfl ?_ | refine GO.pickT rfl rfl rfl rfl rfl ?_ | refine GO.pickF rfl rfl rfl rfl rfl ?_ | refine GO.nilCheckF rfl rfl rfl rfl ?_ | refine GO.skip (.inl rfl) rfl rfl ?_))
  (first | (refine GX.eff rfl ?_; first | refine GO.load1 (hb5.get (o := 0 + 3) rfl) rfl rfl rfl ?_ | refine GO.loadN (hb5.get (o := 0 + 3) rfl) rfl rfl rfl rfl ?_) | (refine GX.read rfl ?_; first | refine GO.load1R (by assumption) (fun _ hS_ => At.mod (hb5.get (o := 0 + 3) rfl) hS_ (by simp)) rfl rfl rfl ?_ | refine GO.loadNR (by assumption) (fun _ hS_ => At.mod (hb5.get (o := 0 + 3) rfl) hS_ (by simp)) rfl rfl rfl rfl ?_))
  (repeat (refine GX.pure rfl ?_; first | refine GO.move rfl rfl rfl rfl ?_ | refine GO.nilCheck rfl rfl rfl rfl ?_ | refine GO.fieldAddr rfl rfl rfl rfl rfl ?_ | refine GO.eql rfl rfl rfl rfl rfl ?_ | refine GO.pickT rfl rfl rfl rfl rfl ?_ | refine GO.pickF rfl rfl rfl rfl rfl ?_ | refine GO.nilCheckF rfl rfl rfl rfl ?_ | refine GO.skip (.inl rfl) rfl rfl ?_))
  have fin : ∀ w6, Put w5 w6 bx 3 [.bool ((doNum st c.life).1.bad || decide ((doNum st c.life).2 = 0))] →
      Cx w6 bx bc br ba (doLife st c.life).1 ∧ CmdAt w6 (Fx B bx br bc) bc { c with life := (doLife st c.life).2 } ∧ Mod (Fc bx br bc) w w6 := by
    intro w6 hp
    refine ⟨hC5.setBad hp, hc5.mod hp.mod (fun h => hG.xc h.symm) (fun k hk => .inl (.inl (.inl (.inl hk)))), hM5.trans (hp.mod.of fun k hk => .inl (.inl hk))⟩
  generalize (doNum st c.life).1.bad = bd at *
  refine GX.case 24 rfl (fun hbad => ?_) (fun hbad => ?_)
  · subst hbad
    (repeat (refine GX.pure rfl ?_; first | refine GO.move rfl rfl rfl rfl ?_ | refine GO.nilCheck rfl rfl rfl rfl ?_ | refine GO.fieldAddr rfl rfl rfl rfl rfl ?_ | refine GO.eql rfl rfl rfl rfl rfl ?_ | refine GO.pickT rfl rfl rfl rfl rfl ?_ | refine GO.pickF rfl rfl rfl rfl rfl ?_ | refine GO.nilCheckF rfl rfl rfl rfl ?_ | refine GO.skip (.inl rfl) rfl rfl ?_))
    refine GX.eff rfl ?_
    refine GO.skip (.inr rfl) rfl rfl ?_
    (repeat (refine GX.pure rfl ?_; first | refine GO.move rfl rfl rfl rfl ?_ | refine GO.nilCheck rfl rfl rfl rfl ?_ | refine GO.fieldAddr rfl rfl rfl rfl rfl ?_ | refine GO.eql rfl rfl rfl rfl rfl ?_ | refine GO.pickT rfl rfl rfl rfl rfl ?_ | refine GO.pickF rfl rfl rfl rfl rfl ?_ | refine GO.nilCheckF rfl rfl rfl rfl ?_ | refine GO.skip (.inl rfl) rfl rfl ?_))
    refine GX.eff rfl ?_
    refine GO.store (vs := [.bool true]) (hb5.wr (by simp)) rfl rfl (by simp [Value.oneCell']) rfl rfl rfl fun w6 hp => ⟨(by first | exact fun _ _ => trivial | exact late_abs (by kernel_rfl)), ?_⟩
    (repeat (first | refine GX.doneD ?_ | refine GX.done ?_ | refine GQ.goNormal ?_ | refine GC.seq ?_ | refine GC.skip ?_ | refine GC.block ?_ | refine GC.exit ?_ | refine GC.ret ?_ | refine GQ.goExit ?_ | refine GQ.goRet ?_ | refine GQ.inNormal ?_ | refine GQ.inExit ?_ | refine GQ.inExitNe rfl ?_ | refine GQ.inRet ?_ | refine GQ.loopExit ?_ | refine GQ.loopRet ?_ | refine GQ.cutExit ?_ | refine GQ.cutRet ?_))
    refine GQ.ret0 (by first | exact .inl rfl | exact .inr rfl) rfl ?_
    exact ⟨rfl, fin w6 (by simpa using hp)⟩
  · subst hbad
    (repeat (refine GX.pure rfl ?_; first | refine GO.move rfl rfl rfl rfl ?_ | refine GO.nilCheck rfl rfl rfl rfl ?_ | refine GO.fieldAddr rfl rfl rfl rfl rfl ?_ | refine GO.eql rfl rfl rfl rfl rfl ?_ | refine GO.pickT rfl rfl rfl rfl rfl ?_ | refine GO.pickF rfl rfl rfl rfl rfl ?_ | refine GO.nilCheckF rfl rfl rfl rfl ?_ | refine GO.skip (.inl rfl) rfl rfl ?_))
    (first | (refine GX.eff rfl ?_; first | refine GO.load1 (hn5.get (o := 0) rfl) rfl rfl rfl ?_ | refine GO.loadN (hn5.get (o := 0) rfl) rfl rfl rfl rfl ?_) | (refine GX.read rfl ?_; first | refine GO.load1R (by assumption) (fun _ hS_ => At.mod (hn5.get (o := 0) rfl) hS_ (by simp)) rfl rfl rfl ?_ | refine GO.loadNR (by assumption) (fun _ hS_ => At.mod (hn5.get (o := 0) rfl) hS_ (by simp)) rfl rfl rfl rfl ?_))
    (repeat (refine GX.pure rfl ?_; first | refine GO.move rfl rfl rfl rfl ?_ | refine GO.nilCheck rfl rfl rfl rfl ?_ | refine GO.fieldAddr rfl rfl rfl rfl rfl ?_ | refine GO.eql rfl rfl rfl rfl rfl ?_ | refine GO.pickT rfl rfl rfl rfl rfl ?_ | refine GO.pickF rfl rfl rfl rfl rfl ?_ | refine GO.nilCheckF rfl rfl rfl rfl ?_ | refine GO.skip (.inl rfl) rfl rfl ?_))
    refine GX.eff rfl ?_
    refine GO.store (vs := [.bool (decide (((doNum st c.life).2 : Int) = 0))]) (hb5.wr (by simp)) rfl rfl (by simp [Value.oneCell']) rfl rfl rfl fun w6 hp => ⟨(by first | exact fun _ _ => trivial | exact late_abs (by kernel_rfl)), ?_⟩
    (repeat (first | refine GX.doneD ?_ | refine GX.done ?_ | refine GQ.goNormal ?_ | refine GC.seq ?_ | refine GC.skip ?_ | refine GC.block ?_ | refine GC.exit ?_ | refine GC.ret ?_ | refine GQ.goExit ?_ | refine GQ.goRet ?_ | refine GQ.inNormal ?_ | refine GQ.inExit ?_ | refine GQ.inExitNe rfl ?_ | refine GQ.inRet ?_ | refine GQ.loopExit ?_ | refine GQ.loopRet ?_ | refine GQ.cutExit ?_ | refine GQ.cutRet ?_))
    refine GQ.ret0 (by first | exact .inl rfl | exact .inr rfl) rfl ?_
    exact ⟨rfl, fin w6 (by
      have : decide (((doNum st c.life).2 : Int) = 0) = decide ((doNum st c.life).2 = 0) := by rw [decide_eq_decide]; omega
      rw [this] at hp
      simpa using hp)⟩
end Go.Proofs.Ytahkglanddhncaa.V
