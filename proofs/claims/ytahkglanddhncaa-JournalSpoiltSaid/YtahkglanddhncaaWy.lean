/-
  A journal in memory; what its small methods compute (package journal). Conditions: its bytes are shorter than 2^40.
-/
import Derived.Test.YtahkglanddhncaaWx
namespace Go.Proofs.Ytahkglanddhncaa.V
attribute [local irreducible] GX GO

/-- A slice that may grow, and whose cells are its own. -/
structure Own (w : World) (el sz : Nat) (ob : Option Nat) (a : Option Addr) (len cap : Nat) (cs : List Value) : Prop where
  own : OwnS w el sz ob a len cap cs
  at_ : ∀ y, a = some y → ob = some y.block
theorem Own.mod {S : Nat → Prop} {w w' : World} {el sz : Nat} {ob : Option Nat} {a : Option Addr} {len cap : Nat} {cs : List Value} (h : Own w el sz ob a len cap cs) (hm : Mod S w w') (hn : ∀ k, ob = some k → ¬ S k) : Own w' el sz ob a len cap cs :=
  ⟨h.own.mod hm fun x hx => hn _ (h.at_ x hx), h.at_⟩
theorem Own.ext {w w' : World} {el sz : Nat} {ob : Option Nat} {a : Option Addr} {len cap : Nat} {cs : List Value} (h : Own w el sz ob a len cap cs) (hm : Ext w w') : Own w' el sz ob a len cap cs := h.mod hm fun _ _ h => h
theorem Own.nil (w : World) (el sz : Nat) : Own w el sz none none 0 0 [] := ⟨OwnS.nil _ _ _, by simp⟩
theorem Own.lt {w : World} {el sz : Nat} {ob : Option Nat} {a : Option Addr} {len cap : Nat} {cs : List Value} (h : Own w el sz ob a len cap cs) : ∀ k, ob = some k → k < w.heap.size := fun k hk => by subst hk; exact h.own.block.2
theorem Own.bytes {w : World} {el : Nat} {ob : Option Nat} {a : Option Addr} {l : List UInt8} {cap : Nat} (h : Own w el 1 ob a l.length cap (bytesV l)) : BytesAt w a cap l := h.own.bytes h.at_

/-- The cells of a command; its slices lie in blocks of F. -/
def CmdF (w : World) (F : Nat → Prop) (l : List Value) (c : Cmd) : Prop :=
  ∃ ka kc va vc ta tc, l = cmdCells c ka kc va vc ta tc ∧ StrsAt w ka kc c.keys ∧ BytesAt w va vc c.value ∧ StrsAt w ta tc c.tags ∧ ∀ y, ((ka = some y ∧ c.keys ≠ []) ∨ (va = some y ∧ c.value ≠ []) ∨ (ta = some y ∧ c.tags ≠ [])) → F y.block
theorem CmdF.mod {F : Nat → Prop} {S : Nat → Prop} {w w' : World} {l : List Value} {c : Cmd} (h : CmdF w F l c) (hm : Mod S w w') (hs : ∀ k, k < w.heap.size → F k → ¬ S k) : CmdF w' F l c := by
  obtain ⟨ka, kc, va, vc, ta, tc, h1, h2, h3, h4, h5⟩ := h
  exact ⟨ka, kc, va, vc, ta, tc, h1, h2.mod hm fun x hx hn => hs _ (h2.lt x hx hn) (h5 x (.inl ⟨hx, hn⟩)), h3.mod hm fun x hx hn => hs _ (h3.lt x hx hn) (h5 x (.inr (.inl ⟨hx, hn⟩))), h4.mod hm fun x hx hn => hs _ (h4.lt x hx hn) (h5 x (.inr (.inr ⟨hx, hn⟩))), h5⟩
theorem CmdF.mono {F G : Nat → Prop} {w : World} {l : List Value} {c : Cmd} (h : CmdF w F l c) (hs : ∀ k, k < w.heap.size → F k → G k) : CmdF w G l c := by
  obtain ⟨ka, kc, va, vc, ta, tc, h1, h2, h3, h4, h5⟩ := h
  refine ⟨ka, kc, va, vc, ta, tc, h1, h2, h3, h4, ?_⟩
  rintro y (⟨h, hn⟩ | ⟨h, hn⟩ | ⟨h, hn⟩)
  · exact hs _ (h2.lt y h hn) (h5 y (.inl ⟨h, hn⟩))
  · exact hs _ (h3.lt y h hn) (h5 y (.inr (.inl ⟨h, hn⟩)))
  · exact hs _ (h4.lt y h hn) (h5 y (.inr (.inr ⟨h, hn⟩)))
theorem CmdV.f {w : World} {B : Nat} {l : List Value} {c : Cmd} (h : CmdV w B l c) : CmdF w (fun k => B ≤ k) l c := h
theorem CmdF.v {F : Nat → Prop} {w : World} {l : List Value} {c : Cmd} (h : CmdF w F l c) : CmdV w 0 l c := (h.mono (G := fun k => 0 ≤ k) fun _ _ _ => Nat.zero_le _ : CmdF w (fun k => 0 ≤ k) l c)
def EntF (w : World) (F : Nat → Prop) (cs : List Value) (x : Nat × Cmd) : Prop := ∃ l, cs = .int .u64 x.1 :: l ∧ CmdF w F l x.2
theorem EntF.v {F : Nat → Prop} {w : World} {l : List Value} {x : Nat × Cmd} (h : EntF w F l x) : EntV w 0 l x := let ⟨m, h1, h2⟩ := h; ⟨m, h1, h2.v⟩

/-- The cells of commands with their times. -/
def EntsF (w : World) (F : Nat → Prop) : List Value → List (Nat × Cmd) → Prop
  | cs, [] => cs = []
  | cs, x :: r => ∃ a b, cs = a ++ b ∧ EntF w F a x ∧ EntsF w F b r
theorem EntsF.mod {F : Nat → Prop} {S : Nat → Prop} {w w' : World} (hm : Mod S w w') (hs : ∀ k, k < w.heap.size → F k → ¬ S k) : ∀ {xs : List (Nat × Cmd)} {cs : List Value}, EntsF w F cs xs → EntsF w' F cs xs
  | [], _, h => h
  | x :: r, cs, h => by
    obtain ⟨a, b, h1, ⟨m, h2, h3⟩, h4⟩ := h
    exact ⟨a, b, h1, ⟨m, h2, h3.mod hm hs⟩, EntsF.mod hm hs h4⟩
theorem EntsF.mono {F G : Nat → Prop} {w : World} (hs : ∀ k, k < w.heap.size → F k → G k) : ∀ {xs : List (Nat × Cmd)} {cs : List Value}, EntsF w F cs xs → EntsF w G cs xs
  | [], _, h => h
  | x :: r, cs, h => by
    obtain ⟨a, b, h1, ⟨m, h2, h3⟩, h4⟩ := h
    exact ⟨a, b, h1, ⟨m, h2, h3.mono hs⟩, EntsF.mono hs h4⟩
theorem EntsF.length {F : Nat → Prop} {w : World} : ∀ {xs : List (Nat × Cmd)} {cs : List Value}, EntsF w F cs xs → cs.length = xs.length * 11
  | [], _, h => by have : _ = [] := h; subst this; rfl
  | x :: r, cs, h => by
    obtain ⟨a, b, rfl, h2, h4⟩ := h
    have := h2.v.length
    have := EntsF.length h4
    simp only [List.length_append, List.length_cons]
    omega
theorem EntsF.one {F : Nat → Prop} {w : World} : ∀ {xs : List (Nat × Cmd)} {cs : List Value}, EntsF w F cs xs → ∀ u ∈ cs, u.oneCell' = true
  | [], _, h => by have : _ = [] := h; subst this; simp
  | x :: r, cs, h => by
    obtain ⟨a, b, rfl, h2, h4⟩ := h
    intro u hu
    rcases List.mem_append.1 hu with hu | hu
    · exact h2.v.one u hu
    · exact EntsF.one h4 u hu
theorem EntsF.snoc {F : Nat → Prop} {w : World} {x : Nat × Cmd} {b : List Value} (hb : EntF w F b x) : ∀ {xs : List (Nat × Cmd)} {cs : List Value}, EntsF w F cs xs → EntsF w F (cs ++ b) (xs ++ [x])
  | [], _, h => by have : _ = [] := h; subst this; exact ⟨b, [], by simp, hb, rfl⟩
  | y :: r, cs, h => by
    obtain ⟨a, c, rfl, h2, h4⟩ := h
    exact ⟨a, c ++ b, by simp, h2, EntsF.snoc hb h4⟩
/-- One of them. -/
theorem EntsF.get {F : Nat → Prop} {w : World} : ∀ {xs : List (Nat × Cmd)} {cs : List Value} (_ : EntsF w F cs xs) (k : Nat) (x : Nat × Cmd), xs[k]? = some x → EntF w F ((cs.drop (k * 11)).take 11) x
  | [], _, _, k, x, hk => by simp at hk
  | y :: r, cs, h, 0, x, hk => by
    obtain ⟨a, b, rfl, h2, h4⟩ := h
    have hl := h2.v.length
    simp at hk
    subst hk
    simpa [List.take_append_of_le_length (Nat.le_of_eq hl.symm), List.take_of_length_le (Nat.le_of_eq hl)] using h2
  | y :: r, cs, h, k + 1, x, hk => by
    obtain ⟨a, b, rfl, h2, h4⟩ := h
    have hl := h2.v.length
    have := EntsF.get h4 k x (by simpa using hk)
    rw [Nat.add_mul, Nat.add_comm, Nat.one_mul, List.drop_append, List.drop_eq_nil_of_le (by omega)]
    simpa [hl] using this

def intsV (l : List Nat) : List Value := l.map fun (n : Nat) => Value.int .i64 n
/-- What a journal holds. -/
structure JS where
  data : List UInt8
  ends : List Nat
  xs : List (Nat × Cmd)

/-- The journal in block bj; F holds for the blocks that are its own. -/
def JAt (w : World) (F : Nat → Prop) (bj : Nat) (j : JS) : Prop :=
  ∃ od da dc oe ea ec ol la lc cells,
    Blk w bj [.slice da j.data.length dc, .slice ea j.ends.length ec, .slice la j.xs.length lc] ∧
    Own w 5 1 od da j.data.length dc (bytesV j.data) ∧ Own w 3 1 oe ea j.ends.length ec (intsV j.ends) ∧ Own w 47 11 ol la j.xs.length lc cells ∧
    EntsF w (fun k => F k ∧ k ≠ bj ∧ od ≠ some k ∧ oe ≠ some k ∧ ol ≠ some k) cells j.xs ∧
    F bj ∧ (∀ y, od = some y → F y ∧ y ≠ bj) ∧ (∀ y, oe = some y → F y ∧ y ≠ bj ∧ od ≠ some y) ∧ (∀ y, ol = some y → F y ∧ y ≠ bj ∧ od ≠ some y ∧ oe ≠ some y)
theorem JAt.mod {F : Nat → Prop} {S : Nat → Prop} {w w' : World} {bj : Nat} {j : JS} (h : JAt w F bj j) (hm : Mod S w w') (hs : ∀ k, k < w.heap.size → F k → ¬ S k) : JAt w' F bj j := by
  obtain ⟨od, da, dc, oe, ea, ec, ol, la, lc, cells, hb, h1, h2, h3, h4, hF, k1, k2, k3⟩ := h
  exact ⟨od, da, dc, oe, ea, ec, ol, la, lc, cells, hb.mod hm (hs _ hb.lt hF), h1.mod hm (fun k hk => hs k (h1.lt k hk) (k1 k hk).1), h2.mod hm (fun k hk => hs k (h2.lt k hk) (k2 k hk).1), h3.mod hm (fun k hk => hs k (h3.lt k hk) (k3 k hk).1), h4.mod hm (fun k hk hf => hs k hk hf.1), hF, k1, k2, k3⟩
theorem JAt.ext {F : Nat → Prop} {w w' : World} {bj : Nat} {j : JS} (h : JAt w F bj j) (hm : Ext w w') : JAt w' F bj j := h.mod hm fun _ _ _ h => h
theorem JAt.mono {F G : Nat → Prop} {w : World} {bj : Nat} {j : JS} (h : JAt w F bj j) (hs : ∀ k, k < w.heap.size → F k → G k) : JAt w G bj j := by
  obtain ⟨od, da, dc, oe, ea, ec, ol, la, lc, cells, hb, h1, h2, h3, h4, hF, k1, k2, k3⟩ := h
  exact ⟨od, da, dc, oe, ea, ec, ol, la, lc, cells, hb, h1, h2, h3, h4.mono (fun k hk hf => ⟨hs k hk hf.1, hf.2⟩), hs _ hb.lt hF, fun y hy => ⟨hs y (h1.lt y hy) (k1 y hy).1, (k1 y hy).2⟩, fun y hy => ⟨hs y (h2.lt y hy) (k2 y hy).1, (k2 y hy).2⟩, fun y hy => ⟨hs y (h3.lt y hy) (k3 y hy).1, (k3 y hy).2⟩⟩

/-- The four last bytes as a number. -/
def sumOf (l : List UInt8) : Nat := if l.length = 0 then 5381 else (l.drop (l.length - 4)).foldl (fun s b => (s * 256 % 4294967296) ||| b.toNat) 0

theorem len_ret (F : Nat → Prop) (bj : Nat) (j : JS) (w : World) (h : JAt w F bj j) :
    Ret Try.prog 20 [.pointer (some ⟨bj, 0, none⟩)].toArray w fun v w' => v = .int .i64 j.ends.length ∧ w' = w := by
  obtain ⟨od, da, dc, oe, ea, ec, ol, la, lc, cells, hb, h1, h2, h3, h4, hF, k1, k2, k3⟩ := h
  
  refine Ret.enter Try.func20 rfl Try.ntmps20 rfl ?_
  (repeat (first | refine GX.doneD ?_ | refine GX.done ?_ | refine GQ.goNormal ?_ | refine GC.seq ?_ | refine GC.skip ?_ | refine GC.block ?_ | refine GC.exit ?_ | refine GC.ret ?_ | refine GQ.goExit ?_ | refine GQ.goRet ?_ | refine GQ.inNormal ?_ | refine GQ.inExit ?_ | refine GQ.inExitNe rfl ?_ | refine GQ.inRet ?_ | refine GQ.loopExit ?_ | refine GQ.loopRet ?_ | refine GQ.cutExit ?_ | refine GQ.cutRet ?_))
  refine GC.region (.pure 0 .done) rfl ?_
  (repeat (refine GX.pure rfl ?_; refine GO.assign rfl rfl rfl rfl ?_))
  (repeat (first | refine GX.doneD ?_ | refine GX.done ?_ | refine GQ.goNormal ?_ | refine GC.seq ?_ | refine GC.skip ?_ | refine GC.block ?_ | refine GC.exit ?_ | refine GC.ret ?_ | refine GQ.goExit ?_ | refine GQ.goRet ?_ | refine GQ.inNormal ?_ | refine GQ.inExit ?_ | refine GQ.inExitNe rfl ?_ | refine GQ.inRet ?_ | refine GQ.loopExit ?_ | refine GQ.loopRet ?_ | refine GQ.cutExit ?_ | refine GQ.cutRet ?_))
  refine GC.region (.pure 0 (.pure 1 .done)) rfl ?_
  (repeat (refine GX.pure rfl ?_; first | refine GO.move rfl rfl rfl rfl ?_ | refine GO.ptrEqlNil rfl rfl rfl rfl rfl ?_))
  (repeat (first | refine GX.doneD ?_ | refine GX.done ?_ | refine GQ.goNormal ?_ | refine GC.seq ?_ | refine GC.skip ?_ | refine GC.block ?_ | refine GC.exit ?_ | refine GC.ret ?_ | refine GQ.goExit ?_ | refine GQ.goRet ?_ | refine GQ.inNormal ?_ | refine GQ.inExit ?_ | refine GQ.inExitNe rfl ?_ | refine GQ.inRet ?_ | refine GQ.loopExit ?_ | refine GQ.loopRet ?_ | refine GQ.cutExit ?_ | refine GQ.cutRet ?_))
  refine GC.cond rfl (fun hc => ?_) (fun hc => ?_)
  · cases hc
  (repeat (first | refine GX.doneD ?_ | refine GX.done ?_ | refine GQ.goNormal ?_ | refine GC.seq ?_ | refine GC.skip ?_ | refine GC.block ?_ | refine GC.exit ?_ | refine GC.ret ?_ | refine GQ.goExit ?_ | refine GQ.goRet ?_ | refine GQ.inNormal ?_ | refine GQ.inExit ?_ | refine GQ.inExitNe rfl ?_ | refine GQ.inRet ?_ | refine GQ.loopExit ?_ | refine GQ.loopRet ?_ | refine GQ.cutExit ?_ | refine GQ.cutRet ?_))
  refine GC.region (.pure 0 (.pure 1 (.pure 2 (.eff 3 (.pure 4 (.pure 5 .done)))))) rfl ?_
  (repeat (refine GX.pure rfl ?_; first | refine GO.move rfl rfl rfl rfl ?_ | refine GO.assign rfl rfl rfl rfl ?_ | refine GO.nilCheck rfl rfl rfl rfl ?_ | refine GO.fieldAddr rfl rfl rfl rfl rfl ?_ | refine GO.lenSlice rfl rfl rfl rfl ?_ | refine GO.nilCheckF rfl rfl rfl rfl ?_))
  (first | (refine GX.eff rfl ?_; first | refine GO.load1 (hb.get (o := 0 + 1) rfl) rfl rfl rfl ?_ | refine GO.loadN (hb.get (o := 0 + 1) rfl) rfl rfl rfl rfl ?_) | (refine GX.read rfl ?_; first | refine GO.load1R (by assumption) (fun _ hS_ => At.mod (hb.get (o := 0 + 1) rfl) hS_ (by simp)) rfl rfl rfl ?_ | refine GO.loadNR (by assumption) (fun _ hS_ => At.mod (hb.get (o := 0 + 1) rfl) hS_ (by simp)) rfl rfl rfl rfl ?_))
  (repeat (refine GX.pure rfl ?_; first | refine GO.move rfl rfl rfl rfl ?_ | refine GO.assign rfl rfl rfl rfl ?_ | refine GO.nilCheck rfl rfl rfl rfl ?_ | refine GO.fieldAddr rfl rfl rfl rfl rfl ?_ | refine GO.lenSlice rfl rfl rfl rfl ?_ | refine GO.nilCheckF rfl rfl rfl rfl ?_))
  (repeat (first | refine GX.doneD ?_ | refine GX.done ?_ | refine GQ.goNormal ?_ | refine GC.seq ?_ | refine GC.skip ?_ | refine GC.block ?_ | refine GC.exit ?_ | refine GC.ret ?_ | refine GQ.goExit ?_ | refine GQ.goRet ?_ | refine GQ.inNormal ?_ | refine GQ.inExit ?_ | refine GQ.inExitNe rfl ?_ | refine GQ.inRet ?_ | refine GQ.loopExit ?_ | refine GQ.loopRet ?_ | refine GQ.cutExit ?_ | refine GQ.cutRet ?_))
  refine GQ.ret1 (by first | exact .inl rfl | exact .inr rfl) rfl rfl ?_
  exact ⟨rfl, rfl⟩

theorem bytesJ_ret (F : Nat → Prop) (bj : Nat) (j : JS) (w : World) (h : JAt w F bj j) (hl : j.data.length < 2 ^ 40) :
    Ret Try.prog 11 [.pointer (some ⟨bj, 0, none⟩)].toArray w (NewBytes w j.data) := by
  obtain ⟨od, da, dc, oe, ea, ec, ol, la, lc, cells, hb, h1, h2, h3, h4, hF, k1, k2, k3⟩ := h
  
  refine Ret.enter Try.func11 rfl Try.ntmps11 rfl ?_
  (repeat (first | refine GX.doneD ?_ | refine GX.done ?_ | refine GQ.goNormal ?_ | refine GC.seq ?_ | refine GC.skip ?_ | refine GC.block ?_ | refine GC.exit ?_ | refine GC.ret ?_ | refine GQ.goExit ?_ | refine GQ.goRet ?_ | refine GQ.inNormal ?_ | refine GQ.inExit ?_ | refine GQ.inExitNe rfl ?_ | refine GQ.inRet ?_ | refine GQ.loopExit ?_ | refine GQ.loopRet ?_ | refine GQ.cutExit ?_ | refine GQ.cutRet ?_))
  refine GC.region (.pure 0 .done) rfl ?_
  (repeat (refine GX.pure rfl ?_; refine GO.assign rfl rfl rfl rfl ?_))
  (repeat (first | refine GX.doneD ?_ | refine GX.done ?_ | refine GQ.goNormal ?_ | refine GC.seq ?_ | refine GC.skip ?_ | refine GC.block ?_ | refine GC.exit ?_ | refine GC.ret ?_ | refine GQ.goExit ?_ | refine GQ.goRet ?_ | refine GQ.inNormal ?_ | refine GQ.inExit ?_ | refine GQ.inExitNe rfl ?_ | refine GQ.inRet ?_ | refine GQ.loopExit ?_ | refine GQ.loopRet ?_ | refine GQ.cutExit ?_ | refine GQ.cutRet ?_))
  refine GC.region (.pure 0 (.pure 1 .done)) rfl ?_
  (repeat (refine GX.pure rfl ?_; first | refine GO.move rfl rfl rfl rfl ?_ | refine GO.ptrEqlNil rfl rfl rfl rfl rfl ?_))
  (repeat (first | refine GX.doneD ?_ | refine GX.done ?_ | refine GQ.goNormal ?_ | refine GC.seq ?_ | refine GC.skip ?_ | refine GC.block ?_ | refine GC.exit ?_ | refine GC.ret ?_ | refine GQ.goExit ?_ | refine GQ.goRet ?_ | refine GQ.inNormal ?_ | refine GQ.inExit ?_ | refine GQ.inExitNe rfl ?_ | refine GQ.inRet ?_ | refine GQ.loopExit ?_ | refine GQ.loopRet ?_ | refine GQ.cutExit ?_ | refine GQ.cutRet ?_))
  refine GC.cond rfl (fun hc => ?_) (fun hc => ?_)
  · cases hc
  (repeat (first | refine GX.doneD ?_ | refine GX.done ?_ | refine GQ.goNormal ?_ | refine GC.seq ?_ | refine GC.skip ?_ | refine GC.block ?_ | refine GC.exit ?_ | refine GC.ret ?_ | refine GQ.goExit ?_ | refine GQ.goRet ?_ | refine GQ.inNormal ?_ | refine GQ.inExit ?_ | refine GQ.inExitNe rfl ?_ | refine GQ.inRet ?_ | refine GQ.loopExit ?_ | refine GQ.loopRet ?_ | refine GQ.cutExit ?_ | refine GQ.cutRet ?_))
  refine GC.region (.pure 0 (.pure 1 (.pure 2 (.eff 3 (.eff 4 (.pure 5 .done)))))) rfl ?_
  (repeat (refine GX.pure rfl ?_; first | refine GO.move rfl rfl rfl rfl ?_ | refine GO.assign rfl rfl rfl rfl ?_ | refine GO.nilCheck rfl rfl rfl rfl ?_ | refine GO.fieldAddr rfl rfl rfl rfl rfl ?_ | refine GO.nilCheckF rfl rfl rfl rfl ?_))
  (first | (refine GX.eff rfl ?_; first | refine GO.load1 (hb.get (o := 0 + 0) rfl) rfl rfl rfl ?_ | refine GO.loadN (hb.get (o := 0 + 0) rfl) rfl rfl rfl rfl ?_) | (refine GX.read rfl ?_; first | refine GO.load1R (by assumption) (fun _ hS_ => At.mod (hb.get (o := 0 + 0) rfl) hS_ (by simp)) rfl rfl rfl ?_ | refine GO.loadNR (by assumption) (fun _ hS_ => At.mod (hb.get (o := 0 + 0) rfl) hS_ (by simp)) rfl rfl rfl rfl ?_))
  (refine GX.eff rfl ?_; refine GO.callL rfl rfl rfl rfl rfl (cloneB_ret (el := 5) (sz := 1) (by_ := 1) rfl j.data.length (bytesV j.data) (by simp) (bytesV_one _) (by omega) (by omega) da dc w h1.bytes.cells h1.bytes.nil) ?_)
  rintro v w1 ⟨ob, a1, c1, rfl, hO, hE, hF1, hG1⟩
  refine ⟨fun _ h => by first | trivial | exact Mod.trans h (Ext.mod (by assumption)), ?_⟩
  (repeat (refine GX.pure rfl ?_; first | refine GO.move rfl rfl rfl rfl ?_ | refine GO.assign rfl rfl rfl rfl ?_ | refine GO.nilCheck rfl rfl rfl rfl ?_ | refine GO.fieldAddr rfl rfl rfl rfl rfl ?_ | refine GO.nilCheckF rfl rfl rfl rfl ?_))
  (repeat (first | refine GX.doneD ?_ | refine GX.done ?_ | refine GQ.goNormal ?_ | refine GC.seq ?_ | refine GC.skip ?_ | refine GC.block ?_ | refine GC.exit ?_ | refine GC.ret ?_ | refine GQ.goExit ?_ | refine GQ.goRet ?_ | refine GQ.inNormal ?_ | refine GQ.inExit ?_ | refine GQ.inExitNe rfl ?_ | refine GQ.inRet ?_ | refine GQ.loopExit ?_ | refine GQ.loopRet ?_ | refine GQ.cutExit ?_ | refine GQ.cutRet ?_))
  refine GQ.ret1 (by first | exact .inl rfl | exact .inr rfl) rfl rfl ?_
  exact ⟨⟨ob, a1, c1, rfl, hO, hF1, hG1⟩, hE⟩
end Go.Proofs.Ytahkglanddhncaa.V
