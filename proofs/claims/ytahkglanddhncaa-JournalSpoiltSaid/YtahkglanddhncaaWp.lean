/-
  What Read and Equal of commands compute (package request). Conditions: the bytes are shorter than 2^30.
-/
import Derived.Test.YtahkglanddhncaaWo
namespace Go.Proofs.Ytahkglanddhncaa.V
attribute [local irreducible] GX GO

/-- A command with no parts. -/
def bare (op : Int) : Cmd := ⟨op, [], [], [], [], 0, 0, [], [], []⟩
/-- The command of a frame with a code and a payload, and the error. -/
def readC (code : Nat) (l : List UInt8) : Cmd × Int :=
  if (doParts (⟨true, l, false⟩, bare code)).1.bad = true ∨ 0 < (doParts (⟨true, l, false⟩, bare code)).1.data.length then (bare 0, 6)
  else ((doParts (⟨true, l, false⟩, bare code)).2, 0)

/-- The cells of a command, its slices in blocks from B on. -/
def CmdV (w : World) (B : Nat) (l : List Value) (c : Cmd) : Prop :=
  ∃ ka kc va vc ta tc, l = cmdCells c ka kc va vc ta tc ∧ StrsAt w ka kc c.keys ∧ BytesAt w va vc c.value ∧ StrsAt w ta tc c.tags ∧ ∀ y, ((ka = some y ∧ c.keys ≠ []) ∨ (va = some y ∧ c.value ≠ []) ∨ (ta = some y ∧ c.tags ≠ [])) → B ≤ y.block
theorem CmdV.mod {S : Nat → Prop} {w w' : World} {B : Nat} {l : List Value} {c : Cmd} (h : CmdV w B l c) (hm : Mod S w w') (hs : ∀ k, S k → k < B ∨ w.heap.size ≤ k) : CmdV w' B l c := by
  obtain ⟨ka, kc, va, vc, ta, tc, h1, h2, h3, h4, h5⟩ := h
  refine ⟨ka, kc, va, vc, ta, tc, h1, h2.mod hm fun x hx hne hS => ?_, h3.mod hm fun x hx hne hS => ?_, h4.mod hm fun x hx hne hS => ?_, h5⟩
  · have := h5 x (.inl ⟨hx, hne⟩); have := h2.lt x hx hne; rcases hs _ hS with h | h <;> omega
  · have := h5 x (.inr (.inl ⟨hx, hne⟩)); have := h3.lt x hx hne; rcases hs _ hS with h | h <;> omega
  · have := h5 x (.inr (.inr ⟨hx, hne⟩)); have := h4.lt x hx hne; rcases hs _ hS with h | h <;> omega
theorem CmdV.ext {w w' : World} {B : Nat} {l : List Value} {c : Cmd} (h : CmdV w B l c) (hm : Ext w w') : CmdV w' B l c := h.mod hm fun _ h => h.elim
theorem CmdV.mono {w : World} {B B' : Nat} {l : List Value} {c : Cmd} (h : CmdV w B l c) (hb : B' ≤ B) : CmdV w B' l c := by
  obtain ⟨ka, kc, va, vc, ta, tc, h1, h2, h3, h4, h5⟩ := h
  exact ⟨ka, kc, va, vc, ta, tc, h1, h2, h3, h4, fun y hy => Nat.le_trans hb (h5 y hy)⟩
theorem CmdV.length {w : World} {B : Nat} {l : List Value} {c : Cmd} (h : CmdV w B l c) : l.length = 10 := by
  obtain ⟨ka, kc, va, vc, ta, tc, rfl, _⟩ := h; rfl
theorem CmdV.one {w : World} {B : Nat} {l : List Value} {c : Cmd} (h : CmdV w B l c) : ∀ u ∈ l, u.oneCell' = true := by
  obtain ⟨ka, kc, va, vc, ta, tc, rfl, _⟩ := h
  simp [cmdCells, Value.oneCell', str]
theorem cmdV_bare (w : World) (B : Nat) (op : Int) : CmdV w B (cmdCells (bare op) none 0 none 0 none 0) (bare op) :=
  ⟨none, 0, none, 0, none, 0, rfl, StrsAt.none _, BytesAt.none _, StrsAt.none _, by simp⟩
theorem toArr (l : List Value) : (Value.agg l.toArray).cells.toList = l := rfl

theorem doParts_read (x : St × Cmd) : (doParts x).1.read = x.1.read := by
  have k1 : ∀ y : St × Cmd, (pLife y).1.read = y.1.read := fun y => doNum_read _ _
  have k2 : ∀ y : St × Cmd, (pTags y).1.read = y.1.read := fun y => doList_read _ _ _ _ _
  have k3 : ∀ y : St × Cmd, (pKeys y).1.read = y.1.read := fun y => doList_read _ _ _ _ _
  have k4 : ∀ y : St × Cmd, (pTag y).1.read = y.1.read := fun y => doPart_read _ _ _
  have k5 : ∀ y : St × Cmd, (pPre y).1.read = y.1.read := fun y => doPart_read _ _ _
  have k6 : ∀ y : St × Cmd, (pChild y).1.read = y.1.read := fun y => doPart_read _ _ _
  have k7 : ∀ y : St × Cmd, (pVersion y).1.read = y.1.read := fun y => doNum_read _ _
  unfold doParts
  repeat' split
  all_goals simp only [k1, k2, k3, k4, k5, k6, k7, pKey_read, pValue_read]
  rfl
theorem small_bare (op : Int) : SmallC (bare op) := by
  constructor <;> simp [bare, tot]

set_option maxHeartbeats 2000000 in
theorem readC_ret (code : Nat) (hcode : code < 256) (l : List UInt8) (n : Nat) (hn : l.length = n) (hl : l.length < 2 ^ 30) (a : Option Addr) (c : Nat) (w : World) (hA : BytesAt w a c l) :
    Ret Try.prog 41 [.agg [.int .u8 code, .slice a n c].toArray].toArray w
      fun v w' => ∃ cells, v = .tuple #[.agg cells.toArray, .int .i64 (readC code l).2] ∧ CmdV w' w.heap.size cells (readC code l).1 ∧ Ext w w' := by
  subst hn
  
  refine Ret.enter Try.func41 rfl Try.ntmps41 rfl ?_
  (repeat (first | refine GX.doneD ?_ | refine GX.done ?_ | refine GQ.goNormal ?_ | refine GC.seq ?_ | refine GC.skip ?_ | refine GC.block ?_ | refine GC.exit ?_ | refine GC.ret ?_ | refine GQ.goExit ?_ | refine GQ.goRet ?_ | refine GQ.inNormal ?_ | refine GQ.inExit ?_ | refine GQ.inExitNe rfl ?_ | refine GQ.inRet ?_ | refine GQ.loopExit ?_ | refine GQ.loopRet ?_ | refine GQ.cutExit ?_ | refine GQ.cutRet ?_))
  refine GC.region (.eff 0 (.eff 1 (.pure 2 .done))) rfl ?_
  refine GX.eff rfl ?_
  refine GO.box (l := [.int .u8 code, .slice a l.length c]) rfl rfl rfl rfl fun b1 w1 hb1 hB1 hE1 => ?_
  refine ⟨fun _ h => by first | trivial | exact Mod.trans h (Ext.mod (by assumption)), ?_⟩
  refine GX.eff rfl ?_
  refine GO.alloc rfl rfl fun b2 w2 hb2 hB2 hE2 => ?_
  refine ⟨fun _ h => by first | trivial | exact Mod.trans h (Ext.mod (by assumption)), ?_⟩
  (repeat (refine GX.pure rfl ?_; refine GO.assign rfl rfl rfl rfl ?_))
  (repeat (first | refine GX.doneD ?_ | refine GX.done ?_ | refine GQ.goNormal ?_ | refine GC.seq ?_ | refine GC.skip ?_ | refine GC.block ?_ | refine GC.exit ?_ | refine GC.ret ?_ | refine GQ.goExit ?_ | refine GQ.goRet ?_ | refine GQ.inNormal ?_ | refine GQ.inExit ?_ | refine GQ.inExitNe rfl ?_ | refine GQ.inRet ?_ | refine GQ.loopExit ?_ | refine GQ.loopRet ?_ | refine GQ.cutExit ?_ | refine GQ.cutRet ?_))
  have hB1' := hB1.ext hE2
  refine GC.region (.pure 0 (.eff 1 (.pure 2 (.pure 3 (.eff 4 (.eff 5 .done)))))) rfl ?_
  (repeat (refine GX.pure rfl ?_; first | refine GO.fieldAddr rfl rfl rfl rfl rfl ?_ | refine GO.conv rfl rfl rfl rfl (wrapIn (by dsimp only [InK]; omega)) ?_ | refine GO.convStr rfl rfl rfl rfl ?_))
  (first | (refine GX.eff rfl ?_; first | refine GO.load1 (hB1'.get (o := 0 + 0) rfl) rfl rfl rfl ?_ | refine GO.loadN (hB1'.get (o := 0 + 0) rfl) rfl rfl rfl rfl ?_) | (refine GX.read rfl ?_; first | refine GO.load1R (by assumption) (fun _ hS_ => At.mod (hB1'.get (o := 0 + 0) rfl) hS_ (by simp)) rfl rfl rfl ?_ | refine GO.loadNR (by assumption) (fun _ hS_ => At.mod (hB1'.get (o := 0 + 0) rfl) hS_ (by simp)) rfl rfl rfl rfl ?_))
  (repeat (refine GX.pure rfl ?_; first | refine GO.fieldAddr rfl rfl rfl rfl rfl ?_ | refine GO.conv rfl rfl rfl rfl (wrapIn (by dsimp only [InK]; omega)) ?_ | refine GO.convStr rfl rfl rfl rfl ?_))
  refine GX.pure rfl ?_
  refine GO.build (out := cmdCells (bare code) none 0 none 0 none 0) rfl (by kernel_rfl) (by kernel_rfl) rfl rfl rfl rfl ?_
  refine GX.eff rfl ?_
  refine GO.alloc rfl rfl fun bc w3 hb3 hB3 hE3 => ?_
  refine ⟨fun _ h => by first | trivial | exact Mod.trans h (Ext.mod (by assumption)), ?_⟩
  refine GX.eff rfl ?_
  refine GO.store (vs := cmdCells (bare code) none 0 none 0 none 0) (hB3.wr (by simp [cmdCells])) rfl rfl (by simp [Value.oneCell', cmdCells, str]) rfl rfl rfl fun w4 hp4 => ⟨(by first | exact fun _ _ => trivial | exact late_abs (by kernel_rfl)), ?_⟩
  have hB4 : Blk w4 bc (cmdCells (bare code) none 0 none 0 none 0) := by have := hp4.blk hB3; simpa [cmdCells] using this
  have hE4 : Ext w2 w4 := hE3.then hp4.mod fun i hi h => by omega
  have hE14 : Ext w w4 := (hE1.trans hE2).trans hE4
  (repeat (first | refine GX.doneD ?_ | refine GX.done ?_ | refine GQ.goNormal ?_ | refine GC.seq ?_ | refine GC.skip ?_ | refine GC.block ?_ | refine GC.exit ?_ | refine GC.ret ?_ | refine GQ.goExit ?_ | refine GQ.goRet ?_ | refine GQ.inNormal ?_ | refine GQ.inExit ?_ | refine GQ.inExitNe rfl ?_ | refine GQ.inRet ?_ | refine GQ.loopExit ?_ | refine GQ.loopRet ?_ | refine GQ.cutExit ?_ | refine GQ.cutRet ?_))
  refine GC.region (.pure 0 (.eff 1 (.eff 2 (.pure 3 (.eff 4 (.eff 5 .done)))))) rfl ?_
  (repeat (refine GX.pure rfl ?_; refine GO.fieldAddr rfl rfl rfl rfl rfl ?_))
  (first | (refine GX.eff rfl ?_; first | refine GO.load1 ((hB1'.ext hE4).get (o := 0 + 1) rfl) rfl rfl rfl ?_ | refine GO.loadN ((hB1'.ext hE4).get (o := 0 + 1) rfl) rfl rfl rfl rfl ?_) | (refine GX.read rfl ?_; first | refine GO.load1R (by assumption) (fun _ hS_ => At.mod ((hB1'.ext hE4).get (o := 0 + 1) rfl) hS_ (by simp)) rfl rfl rfl ?_ | refine GO.loadNR (by assumption) (fun _ hS_ => At.mod ((hB1'.ext hE4).get (o := 0 + 1) rfl) hS_ (by simp)) rfl rfl rfl rfl ?_))
  (refine GX.eff rfl ?_; refine GO.callL rfl rfl rfl rfl rfl (newReader_ret l _ rfl (by omega) a c w4 (hA.ext hE14)) ?_)
  rintro v w5 ⟨br, ba, rfl, hR5, hbr, hba, hE5⟩
  refine ⟨fun _ h => by first | trivial | exact Mod.trans h (Ext.mod (by assumption)), ?_⟩
  refine GX.pure rfl ?_
  refine GO.build (out := [.pointer (some ⟨bc, 0, none⟩), .pointer (some ⟨br, 0, none⟩), .slice none 0 0, .bool false]) rfl (by kernel_rfl) (by kernel_rfl) rfl rfl rfl rfl ?_
  refine GX.eff rfl ?_
  refine GO.alloc rfl rfl fun bx w6 hb6 hB6 hE6 => ?_
  refine ⟨fun _ h => by first | trivial | exact Mod.trans h (Ext.mod (by assumption)), ?_⟩
  refine GX.eff rfl ?_
  refine GO.store (vs := [.pointer (some ⟨bc, 0, none⟩), .pointer (some ⟨br, 0, none⟩), .slice none 0 0, .bool false]) (hB6.wr (by simp)) rfl rfl (by simp [Value.oneCell']) rfl rfl rfl fun w7 hp7 => ⟨(by first | exact fun _ _ => trivial | exact late_abs (by kernel_rfl)), ?_⟩
  have hB7 : Blk w7 bx [.pointer (some ⟨bc, 0, none⟩), .pointer (some ⟨br, 0, none⟩), .slice none 0 0, .bool false] := by have := hp7.blk hB6; simpa using this
  have hE7 : Ext w5 w7 := hE6.then hp7.mod fun i hi h => by omega
  have s1 := hE1.size
  have s2 := hE2.size
  have s4 := hE4.size
  have s5 := hE5.size
  have s7 := hE7.size
  have hbcl := hB4.lt
  have hbrl := hR5.lt
  have hbxl := hB7.lt
  have hPX : PX w2.heap.size w7 bx bc br ba (⟨true, l, false⟩, bare code) := by
    refine ⟨by omega, ⟨⟨by omega, by omega, fun h => ?_, by omega, by omega, fun b hb => ?_⟩, hB7, hR5.mod hE7 id (fun _ _ => id), by omega, fun h => ?_⟩, ?_⟩
    · have := hba _ h; omega
    · have := hba _ hb; omega
    · have := hba _ h; omega
    · exact ⟨none, 0, none, 0, none, 0, (hB4.ext hE5).ext hE7, StrsAt.none _, BytesAt.none _, StrsAt.none _, by simp⟩
  have hB2' : Blk w7 b2 _ := (((hB2.ext hE4).ext hE5).ext hE7)
  (repeat (first | refine GX.doneD ?_ | refine GX.done ?_ | refine GQ.goNormal ?_ | refine GC.seq ?_ | refine GC.skip ?_ | refine GC.block ?_ | refine GC.exit ?_ | refine GC.ret ?_ | refine GQ.goExit ?_ | refine GQ.goRet ?_ | refine GQ.inNormal ?_ | refine GQ.inExit ?_ | refine GQ.inExitNe rfl ?_ | refine GQ.inRet ?_ | refine GQ.loopExit ?_ | refine GQ.loopRet ?_ | refine GQ.cutExit ?_ | refine GQ.cutRet ?_))
  refine GC.region (.eff 0 .done) rfl ?_
  skip
  (refine GX.eff rfl ?_; refine GO.callL rfl rfl rfl rfl rfl (parts_ret w2.heap.size bx bc br ba (⟨true, l, false⟩, bare code) w7 hPX (small_bare _) (by show l.length < _; omega) (fun _ => ⟨rfl, rfl⟩)) ?_)
  rintro v w8 ⟨rfl, h8, hM8⟩
  refine ⟨fun _ h => by first | trivial | exact Mod.trans h (Ext.mod (by assumption)), ?_⟩
  have hE8 : Ext w w8 := ((hE14.trans hE5).trans hE7).then hM8 fun i hi h => by
    rcases h with (h | h) | h
    · omega
    · omega
    · omega
  have hr8 : (doParts (⟨true, l, false⟩, bare code)).1.read = true := doParts_read _
  unfold readC
  generalize doParts (⟨true, l, false⟩, bare code) = y at *
  obtain ⟨⟨rd, rest, bad⟩, cmd⟩ := y
  dsimp only at hr8 ⊢
  subst hr8
  obtain ⟨_, ⟨hG, hB8, hR8, _, _⟩, ka, kc, va, vc, ta, tc, hbc8, hK, hV, hT, hX⟩ := h8
  dsimp only at hB8 hR8 hbc8 hK hV hT
  have hb28 : Blk w8 b2 _ := hB2'.mod hM8 (by have := hB2.lt; rintro ((h | h) | h) <;> omega)
  (repeat (first | refine GX.doneD ?_ | refine GX.done ?_ | refine GQ.goNormal ?_ | refine GC.seq ?_ | refine GC.skip ?_ | refine GC.block ?_ | refine GC.exit ?_ | refine GC.ret ?_ | refine GQ.goExit ?_ | refine GQ.goRet ?_ | refine GQ.inNormal ?_ | refine GQ.inExit ?_ | refine GQ.inExitNe rfl ?_ | refine GQ.inRet ?_ | refine GQ.loopExit ?_ | refine GQ.loopRet ?_ | refine GQ.cutExit ?_ | refine GQ.cutRet ?_))
  refine GC.cut (X := Bool) (fun z => [(2, .pointer (some ⟨b2, 0, none⟩)), (4, .pointer (some ⟨bc, 0, none⟩)), (22, .bool z)]) (fun z w' => w8 = w' ∧ z = decide (bad = true ∨ 0 < rest.length)) ?_ ?_
  · refine GC.region (.pure 0 (.eff 1 (.pure 2 (.pure 3 (.eff 4 (.eff 5 (.pure 6 (.pure 7 .done)))))))) rfl ?_
    (repeat (refine GX.pure rfl ?_; first | refine GO.move rfl rfl rfl rfl ?_ | refine GO.fieldAddr rfl rfl rfl rfl rfl ?_ | refine GO.gtr rfl rfl rfl rfl rfl ?_ | refine GO.pickT rfl rfl rfl rfl rfl ?_ | refine GO.pickF rfl rfl rfl rfl rfl ?_ | refine GO.skip (.inl rfl) rfl rfl ?_))
    (first | (refine GX.eff rfl ?_; first | refine GO.load1 (hB8.get (o := 0 + 3) rfl) rfl rfl rfl ?_ | refine GO.loadN (hB8.get (o := 0 + 3) rfl) rfl rfl rfl rfl ?_) | (refine GX.read rfl ?_; first | refine GO.load1R (by assumption) (fun _ hS_ => At.mod (hB8.get (o := 0 + 3) rfl) hS_ (by simp)) rfl rfl rfl ?_ | refine GO.loadNR (by assumption) (fun _ hS_ => At.mod (hB8.get (o := 0 + 3) rfl) hS_ (by simp)) rfl rfl rfl rfl ?_))
    (repeat (refine GX.pure rfl ?_; first | refine GO.move rfl rfl rfl rfl ?_ | refine GO.fieldAddr rfl rfl rfl rfl rfl ?_ | refine GO.gtr rfl rfl rfl rfl rfl ?_ | refine GO.pickT rfl rfl rfl rfl rfl ?_ | refine GO.pickF rfl rfl rfl rfl rfl ?_ | refine GO.skip (.inl rfl) rfl rfl ?_))
    refine GX.case 17 rfl (fun hb => ?_) (fun hb => ?_)
    · (repeat (first | (refine GX.pure rfl ?_; first | refine GO.move rfl rfl rfl rfl ?_ | refine GO.fieldAddr rfl rfl rfl rfl rfl ?_ | refine GO.gtr rfl rfl rfl rfl rfl ?_ | refine GO.pickT rfl rfl rfl rfl rfl ?_ | refine GO.pickF rfl rfl rfl rfl rfl ?_ | refine GO.skip (.inl rfl) rfl rfl ?_) | (refine GX.eff rfl ?_; refine GO.skip (.inr rfl) rfl rfl ?_) | (refine GX.read rfl ?_; refine GO.skipRead (by assumption) rfl rfl ?_)))
      (repeat (first | refine GX.doneD ?_ | refine GX.done ?_ | refine GQ.goNormal ?_ | refine GC.seq ?_ | refine GC.skip ?_ | refine GC.block ?_ | refine GC.exit ?_ | refine GC.ret ?_ | refine GQ.goExit ?_ | refine GQ.goRet ?_ | refine GQ.inNormal ?_ | refine GQ.inExit ?_ | refine GQ.inExitNe rfl ?_ | refine GQ.inRet ?_ | refine GQ.loopExit ?_ | refine GQ.loopRet ?_ | refine GQ.cutExit ?_ | refine GQ.cutRet ?_))
      exact GQ.cutNormal _ (sub_pick (l := [2, 4, 22]) rfl) ⟨rfl, by simp [hb]⟩
    · (repeat (refine GX.pure rfl ?_; first | refine GO.move rfl rfl rfl rfl ?_ | refine GO.fieldAddr rfl rfl rfl rfl rfl ?_ | refine GO.gtr rfl rfl rfl rfl rfl ?_ | refine GO.pickT rfl rfl rfl rfl rfl ?_ | refine GO.pickF rfl rfl rfl rfl rfl ?_ | refine GO.skip (.inl rfl) rfl rfl ?_))
      (first | (refine GX.eff rfl ?_; first | refine GO.load1 (hB8.get (o := 0 + 1) rfl) rfl rfl rfl ?_ | refine GO.loadN (hB8.get (o := 0 + 1) rfl) rfl rfl rfl rfl ?_) | (refine GX.read rfl ?_; first | refine GO.load1R (by assumption) (fun _ hS_ => At.mod (hB8.get (o := 0 + 1) rfl) hS_ (by simp)) rfl rfl rfl ?_ | refine GO.loadNR (by assumption) (fun _ hS_ => At.mod (hB8.get (o := 0 + 1) rfl) hS_ (by simp)) rfl rfl rfl rfl ?_))
      (refine GX.eff rfl ?_; refine GO.callL rfl rfl rfl rfl rfl (left_ret br ba rest w8 hR8) ?_)
      rintro v w9 ⟨rfl, rfl⟩
      refine ⟨fun _ h => by first | trivial | exact Mod.trans h (Ext.mod (by assumption)), ?_⟩
      (repeat (refine GX.pure rfl ?_; first | refine GO.move rfl rfl rfl rfl ?_ | refine GO.fieldAddr rfl rfl rfl rfl rfl ?_ | refine GO.gtr rfl rfl rfl rfl rfl ?_ | refine GO.pickT rfl rfl rfl rfl rfl ?_ | refine GO.pickF rfl rfl rfl rfl rfl ?_ | refine GO.skip (.inl rfl) rfl rfl ?_))
      (repeat (first | refine GX.doneD ?_ | refine GX.done ?_ | refine GQ.goNormal ?_ | refine GC.seq ?_ | refine GC.skip ?_ | refine GC.block ?_ | refine GC.exit ?_ | refine GC.ret ?_ | refine GQ.goExit ?_ | refine GQ.goRet ?_ | refine GQ.inNormal ?_ | refine GQ.inExit ?_ | refine GQ.inExitNe rfl ?_ | refine GQ.inRet ?_ | refine GQ.loopExit ?_ | refine GQ.loopRet ?_ | refine GQ.cutExit ?_ | refine GQ.cutRet ?_))
      exact GQ.cutNormal _ (sub_pick (l := [2, 4, 22]) rfl) ⟨rfl, by rw [decide_eq_decide]; simp [hb]⟩
  rintro z _ ⟨rfl, rfl⟩
  (repeat (first | refine GX.doneD ?_ | refine GX.done ?_ | refine GQ.goNormal ?_ | refine GC.seq ?_ | refine GC.skip ?_ | refine GC.block ?_ | refine GC.exit ?_ | refine GC.ret ?_ | refine GQ.goExit ?_ | refine GQ.goRet ?_ | refine GQ.inNormal ?_ | refine GQ.inExit ?_ | refine GQ.inExitNe rfl ?_ | refine GQ.inRet ?_ | refine GQ.loopExit ?_ | refine GQ.loopRet ?_ | refine GQ.cutExit ?_ | refine GQ.cutRet ?_))
  refine GC.cond rfl (fun hh => ?_) (fun hh => ?_)
  · have hh' := of_decide_eq_true hh
    rw [if_pos hh']
    (repeat (first | refine GX.doneD ?_ | refine GX.done ?_ | refine GQ.goNormal ?_ | refine GC.seq ?_ | refine GC.skip ?_ | refine GC.block ?_ | refine GC.exit ?_ | refine GC.ret ?_ | refine GQ.goExit ?_ | refine GQ.goRet ?_ | refine GQ.inNormal ?_ | refine GQ.inExit ?_ | refine GQ.inExitNe rfl ?_ | refine GQ.inRet ?_ | refine GQ.loopExit ?_ | refine GQ.loopRet ?_ | refine GQ.cutExit ?_ | refine GQ.cutRet ?_))
    refine GC.region (.pure 0 (.eff 1 (.pure 2 .done))) rfl ?_
    refine GX.pure rfl ?_
    refine GO.build (out := cmdCells (bare 0) none 0 none 0 none 0) rfl (by kernel_rfl) (by kernel_rfl) rfl rfl rfl rfl ?_
    refine GX.eff rfl ?_
    refine GO.store (vs := cmdCells (bare 0) none 0 none 0 none 0) (hb28.wr (by simp [cmdCells])) rfl rfl (by simp [Value.oneCell', cmdCells, str]) rfl rfl rfl fun w9 hp9 => ⟨(by first | exact fun _ _ => trivial | exact late_abs (by kernel_rfl)), ?_⟩
    (repeat (refine GX.pure rfl ?_; refine GO.assign rfl rfl rfl rfl ?_))
    (repeat (first | refine GX.doneD ?_ | refine GX.done ?_ | refine GQ.goNormal ?_ | refine GC.seq ?_ | refine GC.skip ?_ | refine GC.block ?_ | refine GC.exit ?_ | refine GC.ret ?_ | refine GQ.goExit ?_ | refine GQ.goRet ?_ | refine GQ.inNormal ?_ | refine GQ.inExit ?_ | refine GQ.inExitNe rfl ?_ | refine GQ.inRet ?_ | refine GQ.loopExit ?_ | refine GQ.loopRet ?_ | refine GQ.cutExit ?_ | refine GQ.cutRet ?_))
    have hb9 : Blk w9 b2 (cmdCells (bare 0) none 0 none 0 none 0) := by have := hp9.blk hb28; simpa [cmdCells] using this
    refine GQ.retC1 (l := cmdCells (bare 0) none 0 none 0 none 0) (.inl rfl) rfl rfl rfl hb9.at rfl ?_
    exact ⟨_, rfl, cmdV_bare _ _ _, hE8.then hp9.mod fun i hi h => by omega⟩
  · have hh' := of_decide_eq_false hh
    rw [if_neg hh']
    (repeat (first | refine GX.doneD ?_ | refine GX.done ?_ | refine GQ.goNormal ?_ | refine GC.seq ?_ | refine GC.skip ?_ | refine GC.block ?_ | refine GC.exit ?_ | refine GC.ret ?_ | refine GQ.goExit ?_ | refine GQ.goRet ?_ | refine GQ.inNormal ?_ | refine GQ.inExit ?_ | refine GQ.inExitNe rfl ?_ | refine GQ.inRet ?_ | refine GQ.loopExit ?_ | refine GQ.loopRet ?_ | refine GQ.cutExit ?_ | refine GQ.cutRet ?_))
    refine GC.region (.eff 0 (.eff 1 (.pure 2 .done))) rfl ?_
    (first | (refine GX.eff rfl ?_; first | refine GO.load1 (hbc8.at) rfl rfl rfl ?_ | refine GO.loadN (hbc8.at) rfl rfl rfl rfl ?_) | (refine GX.read rfl ?_; first | refine GO.load1R (by assumption) (fun _ hS_ => At.mod (hbc8.at) hS_ (by simp)) rfl rfl rfl ?_ | refine GO.loadNR (by assumption) (fun _ hS_ => At.mod (hbc8.at) hS_ (by simp)) rfl rfl rfl rfl ?_))
    refine GX.eff rfl ?_
    refine GO.store (vs := cmdCells cmd ka kc va vc ta tc) (hb28.wr (by simp [cmdCells])) rfl rfl (by simp [Value.oneCell', cmdCells, str]) rfl rfl rfl fun w9 hp9 => ⟨(by first | exact fun _ _ => trivial | exact late_abs (by kernel_rfl)), ?_⟩
    (repeat (refine GX.pure rfl ?_; refine GO.assign rfl rfl rfl rfl ?_))
    (repeat (first | refine GX.doneD ?_ | refine GX.done ?_ | refine GQ.goNormal ?_ | refine GC.seq ?_ | refine GC.skip ?_ | refine GC.block ?_ | refine GC.exit ?_ | refine GC.ret ?_ | refine GQ.goExit ?_ | refine GQ.goRet ?_ | refine GQ.inNormal ?_ | refine GQ.inExit ?_ | refine GQ.inExitNe rfl ?_ | refine GQ.inRet ?_ | refine GQ.loopExit ?_ | refine GQ.loopRet ?_ | refine GQ.cutExit ?_ | refine GQ.cutRet ?_))
    have hb9 : Blk w9 b2 (cmdCells cmd ka kc va vc ta tc) := by have := hp9.blk hb28; simpa [cmdCells] using this
    refine GQ.retC1 (l := cmdCells cmd ka kc va vc ta tc) (.inl rfl) rfl rfl rfl hb9.at rfl ?_
    have hge : ∀ y : Addr, ((ka = some y ∧ cmd.keys ≠ []) ∨ (va = some y ∧ cmd.value ≠ []) ∨ (ta = some y ∧ cmd.tags ≠ [])) → w2.heap.size ≤ y.block := fun y hy => by
      have := hX y hy
      exact Nat.le_of_not_lt fun h => this (.inr h)
    have hne : ∀ y : Addr, ((ka = some y ∧ cmd.keys ≠ []) ∨ (va = some y ∧ cmd.value ≠ []) ∨ (ta = some y ∧ cmd.tags ≠ [])) → ¬ y.block = b2 := fun y hy => by
      have := hge y hy
      have := hB2.lt
      omega
    refine ⟨_, rfl, ⟨ka, kc, va, vc, ta, tc, rfl, hK.mod hp9.mod fun y hy hn => hne y (.inl ⟨hy, hn⟩), hV.mod hp9.mod fun y hy hn => hne y (.inr (.inl ⟨hy, hn⟩)), hT.mod hp9.mod fun y hy hn => hne y (.inr (.inr ⟨hy, hn⟩)), fun y hy => ?_⟩, hE8.then hp9.mod fun i hi h => by omega⟩
    have := hge y hy
    omega
end Go.Proofs.Ytahkglanddhncaa.V
