/-
  What a hub's functions compute. Conditions: the hub's messages are in memory of its own, as HubAt says; they are less than 2^40.
-/
import Derived.Test.YtgmokaflgdmekaaGreatNhf
import Derived.Test.YtgmokaflgdmekaaGreatWk
namespace Go.Proofs.YtgmokaflgdmekaaGreat.V
attribute [local irreducible] GX GO

theorem late_abs {ops : Array Oper} {i : Nat} {p : Prop} (h : lateIx ops i = true) : lateIx ops i = false → p := fun h' => by rw [h] at h'; cases h'
/-- A copy of a slice: the same cells, in memory of its own. -/
def Cloned (w : World) (el : TypeId) (sz n : Nat) (cs : List Value) (v : Value) (w' : World) : Prop :=
  ∃ ob a' c', v = .slice a' n c' ∧ OwnS w' el sz ob a' n c' cs ∧ Ext w w' ∧ (∀ x, ob = some x → w.heap.size ≤ x) ∧ ∀ x, a' = some x → ob = some x.block

set_option maxHeartbeats 400000 in
theorem clonePur_ret {el sz by_ : Nat} [hS : SlF Tryz.prog 24 el sz by_] (hz : Nat.blt 0 sz = true) (n : Nat) (cs : List Value) (hl : cs.length = n * sz) (h1 : ∀ u ∈ cs, u.oneCell' = true) (hb : n * by_ ≤ 140737488355328) (hn : n ≤ 140737488355328) (a : Option Addr) (c : Nat) (w : World) (hA : SlA w a cs) (h0 : a = none → c = 0) :
    Ret Tryz.prog 25 [.slice a n c].toArray w (Cloned w el sz n cs) := by
  
  refine Ret.enter Tryz.func25 rfl Tryz.ntmps25 rfl ?_
  (repeat (first | refine GX.doneD ?_ | refine GX.done ?_ | refine GQ.goNormal ?_ | refine GC.seq ?_ | refine GC.skip ?_ | refine GC.block ?_ | refine GC.exit ?_ | refine GC.ret ?_ | refine GQ.goExit ?_ | refine GQ.goRet ?_ | refine GQ.inNormal ?_ | refine GQ.inExit ?_ | refine GQ.inExitNe rfl ?_ | refine GQ.inRet ?_ | refine GQ.loopExit ?_ | refine GQ.loopRet ?_ | refine GQ.cutExit ?_ | refine GQ.cutRet ?_))
  refine GC.region (.pure 0 .done) rfl ?_
  (repeat (refine GX.pure rfl ?_; refine GO.assign rfl rfl rfl rfl ?_))
  (repeat (first | refine GX.doneD ?_ | refine GX.done ?_ | refine GQ.goNormal ?_ | refine GC.seq ?_ | refine GC.skip ?_ | refine GC.block ?_ | refine GC.exit ?_ | refine GC.ret ?_ | refine GQ.goExit ?_ | refine GQ.goRet ?_ | refine GQ.inNormal ?_ | refine GQ.inExit ?_ | refine GQ.inExitNe rfl ?_ | refine GQ.inRet ?_ | refine GQ.loopExit ?_ | refine GQ.loopRet ?_ | refine GQ.cutExit ?_ | refine GQ.cutRet ?_))
  refine GC.region (.pure 0 (.pure 1 .done)) rfl ?_
  (repeat (refine GX.pure rfl ?_; first | refine GO.move rfl rfl rfl rfl ?_ | refine GO.slcEqlNil rfl rfl rfl rfl rfl ?_))
  (repeat (first | refine GX.doneD ?_ | refine GX.done ?_ | refine GQ.goNormal ?_ | refine GC.seq ?_ | refine GC.skip ?_ | refine GC.block ?_ | refine GC.exit ?_ | refine GC.ret ?_ | refine GQ.goExit ?_ | refine GQ.goRet ?_ | refine GQ.inNormal ?_ | refine GQ.inExit ?_ | refine GQ.inExitNe rfl ?_ | refine GQ.inRet ?_ | refine GQ.loopExit ?_ | refine GQ.loopRet ?_ | refine GQ.cutExit ?_ | refine GQ.cutRet ?_))
  refine GC.cond rfl (fun hc => ?_) (fun hc => ?_)
  · have ha : a = none := by simpa using hc
    subst ha
    have hcs : cs = [] := hA
    subst hcs
    have hz' : 0 < sz := by have := hz; simp [Nat.blt] at this; omega
    have hn0 : n = 0 := by
      rcases Nat.eq_zero_or_pos n with h | h
      · exact h
      · have := Nat.mul_pos h hz'; simp at hl; omega
    subst hn0
    (repeat (first | refine GX.doneD ?_ | refine GX.done ?_ | refine GQ.goNormal ?_ | refine GC.seq ?_ | refine GC.skip ?_ | refine GC.block ?_ | refine GC.exit ?_ | refine GC.ret ?_ | refine GQ.goExit ?_ | refine GQ.goRet ?_ | refine GQ.inNormal ?_ | refine GQ.inExit ?_ | refine GQ.inExitNe rfl ?_ | refine GQ.inRet ?_ | refine GQ.loopExit ?_ | refine GQ.loopRet ?_ | refine GQ.cutExit ?_ | refine GQ.cutRet ?_))
    refine GC.region (.pure 0 .done) rfl ?_
    (repeat (refine GX.pure rfl ?_; refine GO.assign rfl rfl rfl rfl ?_))
    (repeat (first | refine GX.doneD ?_ | refine GX.done ?_ | refine GQ.goNormal ?_ | refine GC.seq ?_ | refine GC.skip ?_ | refine GC.block ?_ | refine GC.exit ?_ | refine GC.ret ?_ | refine GQ.goExit ?_ | refine GQ.goRet ?_ | refine GQ.inNormal ?_ | refine GQ.inExit ?_ | refine GQ.inExitNe rfl ?_ | refine GQ.inRet ?_ | refine GQ.loopExit ?_ | refine GQ.loopRet ?_ | refine GQ.cutExit ?_ | refine GQ.cutRet ?_))
    refine GQ.ret1 (by first | exact .inl rfl | exact .inr rfl) rfl rfl ?_
    exact ⟨none, none, 0, rfl, OwnS.nil _ _ _, Mod.refl _, by simp, by simp⟩
  · (repeat (first | refine GX.doneD ?_ | refine GX.done ?_ | refine GQ.goNormal ?_ | refine GC.seq ?_ | refine GC.skip ?_ | refine GC.block ?_ | refine GC.exit ?_ | refine GC.ret ?_ | refine GQ.goExit ?_ | refine GQ.goRet ?_ | refine GQ.inNormal ?_ | refine GQ.inExit ?_ | refine GQ.inExitNe rfl ?_ | refine GQ.inRet ?_ | refine GQ.loopExit ?_ | refine GQ.loopRet ?_ | refine GQ.cutExit ?_ | refine GQ.cutRet ?_))
    refine GC.region (.eff 0 (.pure 1 (.eff 2 (.pure 3 .done)))) rfl ?_
    refine GX.eff rfl (GO.buildSlice0 rfl rfl fun b w1 hb1 hO hE => ?_)
    refine ⟨fun _ h => by first | trivial | exact Mod.trans h (Ext.mod (by assumption)), ?_⟩
    (repeat (refine GX.pure rfl ?_; first | refine GO.move rfl rfl rfl rfl ?_ | refine GO.assign rfl rfl rfl rfl ?_))
    refine GX.eff rfl (GO.append hO (hA.ext hE) hl h1 (by simpa using hb) (by simpa using hn) hz rfl rfl rfl rfl fun ob' a' c' w2 hO2 hM hB hAl => ?_)
    refine ⟨fun _ h => by first | trivial | exact Mod.trans h (Ext.mod (by assumption)), ?_⟩
    (repeat (refine GX.pure rfl ?_; first | refine GO.move rfl rfl rfl rfl ?_ | refine GO.assign rfl rfl rfl rfl ?_))
    (repeat (first | refine GX.doneD ?_ | refine GX.done ?_ | refine GQ.goNormal ?_ | refine GC.seq ?_ | refine GC.skip ?_ | refine GC.block ?_ | refine GC.exit ?_ | refine GC.ret ?_ | refine GQ.goExit ?_ | refine GQ.goRet ?_ | refine GQ.inNormal ?_ | refine GQ.inExit ?_ | refine GQ.inExitNe rfl ?_ | refine GQ.inRet ?_ | refine GQ.loopExit ?_ | refine GQ.loopRet ?_ | refine GQ.cutExit ?_ | refine GQ.cutRet ?_))
    refine GQ.ret1 (by first | exact .inl rfl | exact .inr rfl) rfl rfl ?_
    rw [List.nil_append, Nat.zero_add] at hO2
    rw [Nat.zero_add]
    have hfr : ∀ x, ob' = some x → w.heap.size ≤ x := fun x hx => by
      rcases hB x hx with h | h
      · cases h; omega
      · exact Nat.le_trans hE.size h
    refine ⟨ob', a', c', rfl, hO2, hE.then hM (fun i hi h => ?_), hfr, fun x hx => ?_⟩
    · cases h; omega
    · rcases hAl x hx with h | ⟨h, h'⟩
      · exact h
      · cases h; exact h'

/-! ### Purges in memory -/
abbrev Pur := Int × List UInt8
def purV (p : Pur) : List Value := [.int .i64 p.1, str p.2]
def pursV : List Pur → List Value
  | [] => []
  | p :: l => purV p ++ pursV l
@[simp] theorem length_purV (p : Pur) : (purV p).length = 2 := rfl
@[simp] theorem length_pursV : ∀ l : List Pur, (pursV l).length = l.length * 2
  | [] => rfl
  | p :: l => by simp [pursV, length_pursV l]; omega
theorem pursV_append : ∀ l m : List Pur, pursV (l ++ m) = pursV l ++ pursV m
  | [], m => rfl
  | p :: l, m => by simp [pursV, pursV_append l m]
theorem pursV_drop : ∀ (l : List Pur) (j : Nat), (pursV l).drop (j * 2) = pursV (l.drop j)
  | l, 0 => by simp
  | [], j + 1 => by simp [pursV]
  | p :: l, j + 1 => by
    have := pursV_drop l j
    simp only [pursV, List.drop_succ_cons, purV, List.cons_append, List.nil_append]
    rw [show (j + 1) * 2 = j * 2 + 2 by omega, List.drop_succ_cons, List.drop_succ_cons]
    exact this
theorem purV_one (p : Pur) : ∀ u ∈ purV p, u.oneCell' = true := by simp [purV, Value.oneCell', str]
theorem pursV_one : ∀ (l : List Pur), ∀ u ∈ pursV l, u.oneCell' = true
  | [], u, h => by cases h
  | p :: l, u, h => by
    rcases List.mem_append.1 h with h | h
    · exact purV_one p u h
    · exact pursV_one l u h
theorem pursV_get : ∀ {l : List Pur} {i : Nat} (h : i < l.length) (k : Nat) (v : Value), (purV l[i])[k]? = some v → (pursV l)[i * 2 + k]? = some v
  | [], i, h, _, _, _ => by cases h
  | p :: l, 0, h, k, v, hv => by
    have hk : k < 2 := (List.getElem?_eq_some_iff.1 hv).1
    simp only [pursV, Nat.zero_mul, Nat.zero_add]
    rw [List.getElem?_append_left (by simpa using hk)]
    exact hv
  | p :: l, i + 1, h, k, v, hv => by
    have := pursV_get (l := l) (i := i) (by simpa using h) k v (by simpa using hv)
    simp only [pursV]
    rw [List.getElem?_append_right (by simp; omega)]
    simpa [show (i + 1) * 2 + k - 2 = i * 2 + k by omega] using this
theorem purs_at {w : World} {b o : Nat} {l : List Pur} (hA : At w b o (pursV l)) {i : Nat} (h : i < l.length) : At w b (o + i * 2) (purV l[i]) :=
  hA.sub (i * 2) _ fun k v hv => pursV_get h k v hv
/-- A slice of purges that its owner may let grow. -/
def PurS (w : World) (ob : Option Nat) (a : Option Addr) (c : Nat) (l : List Pur) : Prop :=
  OwnS w 30 2 ob a l.length c (pursV l) ∧ (∀ x, a = some x → ob = some x.block) ∧ ∀ x, ob = some x → x < w.heap.size
theorem PurS.nil (w : World) : PurS w none none 0 [] := ⟨OwnS.nil _ _ _, by simp, by simp⟩
theorem PurS.mod {S : Nat → Prop} {w w' : World} {ob : Option Nat} {a : Option Addr} {c : Nat} {l : List Pur} (h : PurS w ob a c l) (hm : Mod S w w') (hn : ∀ x, ob = some x → ¬ S x) : PurS w' ob a c l :=
  ⟨h.1.mod hm fun x hx => hn _ (h.2.1 x hx), h.2.1, fun x hx => Nat.lt_of_lt_of_le (h.2.2 x hx) hm.size⟩
theorem PurS.ext {w w' : World} {ob : Option Nat} {a : Option Addr} {c : Nat} {l : List Pur} (h : PurS w ob a c l) (hm : Ext w w') : PurS w' ob a c l := h.mod hm fun _ _ h => h
theorem OwnS.len_le {w : World} {el sz : Nat} {ob : Option Nat} {a : Option Addr} {len cap : Nat} {cs : List Value} (h : OwnS w el sz ob a len cap cs) : len ≤ cap := by
  obtain ⟨_, ⟨_, h2, _, h4⟩ | ⟨b, _, rfl, hl, h | ⟨g, c, cur, h, h0, hg, hle, rest⟩⟩⟩ := h
  · omega
  · cases h.1
  · cases h; exact hle
theorem OwnS.cap0 {w : World} {el sz : Nat} {ob : Option Nat} {a : Option Addr} {len cap : Nat} {cs : List Value} (h : OwnS w el sz ob a len cap cs) (ha : a = none) : cap = 0 := by
  obtain ⟨_, ⟨_, h2, _, h4⟩ | ⟨b, _, h, _⟩⟩ := h
  · rw [h2]; exact h4 ha
  · rw [ha] at h; cases h
/-- A hub. -/
def HubAt (w : World) (bh : Nat) (ob : Option Nat) (l : List Pur) : Prop := ∃ a c, Blk w bh [.slice a l.length c] ∧ PurS w ob a c l ∧ ob ≠ some bh
theorem HubAt.mod {S : Nat → Prop} {w w' : World} {bh : Nat} {ob : Option Nat} {l : List Pur} (h : HubAt w bh ob l) (hm : Mod S w w') (hb : ¬ S bh) (hn : ∀ x, ob = some x → ¬ S x) : HubAt w' bh ob l :=
  let ⟨a, c, h1, h2, h3⟩ := h
  ⟨a, c, h1.mod hm hb, h2.mod hm hn, h3⟩
theorem HubAt.ext {w w' : World} {bh : Nat} {ob : Option Nat} {l : List Pur} (h : HubAt w bh ob l) (hm : Ext w w') : HubAt w' bh ob l := h.mod hm id fun _ _ h => h
theorem HubAt.lt {w : World} {bh : Nat} {ob : Option Nat} {l : List Pur} (h : HubAt w bh ob l) : bh < w.heap.size := let ⟨_, _, h1, _⟩ := h; h1.lt

/-- What comes of publishing. -/
def pubF (l : List Pur) (p : Pur) : List Pur × Nat × Int :=
  if okP p.1 p.2.length = true then (if l.length < 10000 then (l ++ [p], l.length + 1, 0) else (l, 0, 7)) else (l, 0, 2)

set_option maxHeartbeats 1000000 in
theorem publish_ret (bh : Nat) (ob : Option Nat) (l : List Pur) (p : Pur) (hlen : l.length ≤ 20000) (w : World) (hH : HubAt w bh ob l) :
    Ret Tryz.prog 12 [.pointer (some ⟨bh, 0, none⟩), .agg (purV p).toArray].toArray w fun v w' =>
      v = .tuple #[.int .i64 ((pubF l p).2.1 : Nat), .int .i64 (pubF l p).2.2] ∧ ∃ ob', HubAt w' bh ob' (pubF l p).1 ∧ (∀ x, ob' = some x → ob = some x ∨ w.heap.size ≤ x) ∧ Mod (fun k => k = bh ∨ ob = some k) w w' := by
  
  refine Ret.enter Tryz.func12 rfl Tryz.ntmps12 rfl ?_
  (repeat (first | refine GX.doneD ?_ | refine GX.done ?_ | refine GQ.goNormal ?_ | refine GC.seq ?_ | refine GC.skip ?_ | refine GC.block ?_ | refine GC.exit ?_ | refine GC.ret ?_ | refine GQ.goExit ?_ | refine GQ.goRet ?_ | refine GQ.inNormal ?_ | refine GQ.inExit ?_ | refine GQ.inExitNe rfl ?_ | refine GQ.inRet ?_ | refine GQ.loopExit ?_ | refine GQ.loopRet ?_ | refine GQ.cutExit ?_ | refine GQ.cutRet ?_))
  refine GC.region (.eff 0 (.pure 1 (.pure 2 .done))) rfl ?_
  refine GX.eff rfl ?_
  refine GO.box (l := purV p) rfl rfl rfl rfl fun bp w1 hb1 hB1 hE1 => ?_
  refine ⟨fun _ h => by first | trivial | exact Mod.trans h (Ext.mod (by assumption)), ?_⟩
  (repeat (refine GX.pure rfl ?_; refine GO.assign rfl rfl rfl rfl ?_))
  (repeat (first | refine GX.doneD ?_ | refine GX.done ?_ | refine GQ.goNormal ?_ | refine GC.seq ?_ | refine GC.skip ?_ | refine GC.block ?_ | refine GC.exit ?_ | refine GC.ret ?_ | refine GQ.goExit ?_ | refine GQ.goRet ?_ | refine GQ.inNormal ?_ | refine GQ.inExit ?_ | refine GQ.inExitNe rfl ?_ | refine GQ.inRet ?_ | refine GQ.loopExit ?_ | refine GQ.loopRet ?_ | refine GQ.cutExit ?_ | refine GQ.cutRet ?_))
  refine GC.region (.pure 0 (.pure 1 .done)) rfl ?_
  (repeat (refine GX.pure rfl ?_; first | refine GO.move rfl rfl rfl rfl ?_ | refine GO.ptrEqlNil rfl rfl rfl rfl rfl ?_))
  (repeat (first | refine GX.doneD ?_ | refine GX.done ?_ | refine GQ.goNormal ?_ | refine GC.seq ?_ | refine GC.skip ?_ | refine GC.block ?_ | refine GC.exit ?_ | refine GC.ret ?_ | refine GQ.goExit ?_ | refine GQ.goRet ?_ | refine GQ.inNormal ?_ | refine GQ.inExit ?_ | refine GQ.inExitNe rfl ?_ | refine GQ.inRet ?_ | refine GQ.loopExit ?_ | refine GQ.loopRet ?_ | refine GQ.cutExit ?_ | refine GQ.cutRet ?_))
  refine GC.cond rfl (fun hc => ?_) (fun hc => ?_)
  · cases hc
  (repeat (first | refine GX.doneD ?_ | refine GX.done ?_ | refine GQ.goNormal ?_ | refine GC.seq ?_ | refine GC.skip ?_ | refine GC.block ?_ | refine GC.exit ?_ | refine GC.ret ?_ | refine GQ.goExit ?_ | refine GQ.goRet ?_ | refine GQ.inNormal ?_ | refine GQ.inExit ?_ | refine GQ.inExitNe rfl ?_ | refine GQ.inRet ?_ | refine GQ.loopExit ?_ | refine GQ.loopRet ?_ | refine GQ.cutExit ?_ | refine GQ.cutRet ?_))
  refine GC.region (.eff 0 (.eff 1 (.pure 2 (.pure 3 (.pure 4 (.eff 5 (.eff 6 (.pure 7 .done)))))))) rfl ?_
  (repeat (refine GX.pure rfl ?_; first | refine GO.move rfl rfl rfl rfl ?_ | refine GO.assign rfl rfl rfl rfl ?_ | refine GO.extract rfl rfl rfl rfl rfl ?_))
  (first | (refine GX.eff rfl ?_; first | refine GO.load1 (hB1.get (o := 0 + 0) rfl) rfl rfl rfl ?_ | refine GO.loadN (hB1.get (o := 0 + 0) rfl) rfl rfl rfl rfl ?_) | (refine GX.read rfl ?_; first | refine GO.load1R (by assumption) (fun _ hS_ => At.mod (hB1.get (o := 0 + 0) rfl) hS_ (by simp)) rfl rfl rfl ?_ | refine GO.loadNR (by assumption) (fun _ hS_ => At.mod (hB1.get (o := 0 + 0) rfl) hS_ (by simp)) rfl rfl rfl rfl ?_))
  (refine GX.eff rfl ?_; refine GO.callL rfl rfl rfl rfl rfl (cmd_ret p.1 p.2 w1) ?_)
  rintro _ w2 ⟨⟨L, hL10, hL1, rfl⟩, hE2⟩
  refine ⟨fun _ h => by first | trivial | exact Mod.trans h (Ext.mod (by assumption)), ?_⟩
  (repeat (refine GX.pure rfl ?_; first | refine GO.move rfl rfl rfl rfl ?_ | refine GO.assign rfl rfl rfl rfl ?_ | refine GO.extract rfl rfl rfl rfl rfl ?_))
  refine GX.eff rfl ?_
  refine GO.alloc rfl rfl fun b3 w3 hb3 hB3 hE3 => ?_
  refine ⟨fun _ h => by first | trivial | exact Mod.trans h (Ext.mod (by assumption)), ?_⟩
  refine GX.eff rfl ?_
  refine GO.store (vs := L) (hB3.wr (by simp)) (by simp [Value.cells]) hL10 hL1 rfl rfl rfl fun w4 hp4 => ⟨(by first | exact fun _ _ => trivial | exact late_abs (by kernel_rfl)), ?_⟩
  have hE23 : Ext w w3 := hE1.trans (hE2.trans hE3)
  have hsz3 : w.heap.size ≤ b3 := by have := (hE1.trans hE2).size; omega
  have hE : Ext w w4 := hE23.then hp4.mod (fun i hi h => by omega)
  have hBp : Blk w4 bp (purV p) := by
    have hbp : bp < b3 := by
      have := hB1.lt
      have := hE2.size
      omega
    exact (hB1.ext (hE2.trans hE3)).mod hp4.mod (by omega)
  (repeat (refine GX.pure rfl ?_; first | refine GO.move rfl rfl rfl rfl ?_ | refine GO.assign rfl rfl rfl rfl ?_ | refine GO.extract rfl rfl rfl rfl rfl ?_))
  (repeat (first | refine GX.doneD ?_ | refine GX.done ?_ | refine GQ.goNormal ?_ | refine GC.seq ?_ | refine GC.skip ?_ | refine GC.block ?_ | refine GC.exit ?_ | refine GC.ret ?_ | refine GQ.goExit ?_ | refine GQ.goRet ?_ | refine GQ.inNormal ?_ | refine GQ.inExit ?_ | refine GQ.inExitNe rfl ?_ | refine GQ.inRet ?_ | refine GQ.loopExit ?_ | refine GQ.loopRet ?_ | refine GQ.cutExit ?_ | refine GQ.cutRet ?_))
  refine GC.region (.pure 0 (.pure 1 .done)) rfl ?_
  (repeat (refine GX.pure rfl ?_; first | refine GO.move rfl rfl rfl rfl ?_ | refine GO.neq rfl rfl rfl rfl rfl ?_))
  by_cases hok : okP p.1 p.2.length = true
  rotate_left
  · rw [if_neg hok]
    (repeat (refine GX.pure rfl ?_; first | refine GO.move rfl rfl rfl rfl ?_ | refine GO.neq rfl rfl rfl rfl rfl ?_))
    (repeat (first | refine GX.doneD ?_ | refine GX.done ?_ | refine GQ.goNormal ?_ | refine GC.seq ?_ | refine GC.skip ?_ | refine GC.block ?_ | refine GC.exit ?_ | refine GC.ret ?_ | refine GQ.goExit ?_ | refine GQ.goRet ?_ | refine GQ.inNormal ?_ | refine GQ.inExit ?_ | refine GQ.inExitNe rfl ?_ | refine GQ.inRet ?_ | refine GQ.loopExit ?_ | refine GQ.loopRet ?_ | refine GQ.cutExit ?_ | refine GQ.cutRet ?_))
    refine GC.cond rfl (fun hc => ?_) (fun hc => ?_)
    rotate_left
    · simp at hc
    (repeat (first | refine GX.doneD ?_ | refine GX.done ?_ | refine GQ.goNormal ?_ | refine GC.seq ?_ | refine GC.skip ?_ | refine GC.block ?_ | refine GC.exit ?_ | refine GC.ret ?_ | refine GQ.goExit ?_ | refine GQ.goRet ?_ | refine GQ.inNormal ?_ | refine GQ.inExit ?_ | refine GQ.inExitNe rfl ?_ | refine GQ.inRet ?_ | refine GQ.loopExit ?_ | refine GQ.loopRet ?_ | refine GQ.cutExit ?_ | refine GQ.cutRet ?_))
    refine GC.region (.pure 0 (.pure 1 (.pure 2 .done))) rfl ?_
    (repeat (refine GX.pure rfl ?_; first | refine GO.move rfl rfl rfl rfl ?_ | refine GO.assign rfl rfl rfl rfl ?_))
    (repeat (first | refine GX.doneD ?_ | refine GX.done ?_ | refine GQ.goNormal ?_ | refine GC.seq ?_ | refine GC.skip ?_ | refine GC.block ?_ | refine GC.exit ?_ | refine GC.ret ?_ | refine GQ.goExit ?_ | refine GQ.goRet ?_ | refine GQ.inNormal ?_ | refine GQ.inExit ?_ | refine GQ.inExitNe rfl ?_ | refine GQ.inRet ?_ | refine GQ.loopExit ?_ | refine GQ.loopRet ?_ | refine GQ.cutExit ?_ | refine GQ.cutRet ?_))
    refine GQ.ret2 (by first | exact .inl rfl | exact .inr rfl) rfl rfl rfl ?_
    have hpub : pubF l p = (l, 0, 2) := by simp [pubF, hok]
    rw [hpub]
    exact ⟨rfl, ob, hH.ext hE, fun x hx => .inl hx, hE.mod⟩
  rw [if_pos hok]
  (repeat (refine GX.pure rfl ?_; first | refine GO.move rfl rfl rfl rfl ?_ | refine GO.neq rfl rfl rfl rfl rfl ?_))
  (repeat (first | refine GX.doneD ?_ | refine GX.done ?_ | refine GQ.goNormal ?_ | refine GC.seq ?_ | refine GC.skip ?_ | refine GC.block ?_ | refine GC.exit ?_ | refine GC.ret ?_ | refine GQ.goExit ?_ | refine GQ.goRet ?_ | refine GQ.inNormal ?_ | refine GQ.inExit ?_ | refine GQ.inExitNe rfl ?_ | refine GQ.inRet ?_ | refine GQ.loopExit ?_ | refine GQ.loopRet ?_ | refine GQ.cutExit ?_ | refine GQ.cutRet ?_))
  refine GC.cond rfl (fun hc => ?_) (fun hc => ?_)
  · simp at hc
  obtain ⟨a, c, hB, hP, hne⟩ := hH.ext hE
  (repeat (first | refine GX.doneD ?_ | refine GX.done ?_ | refine GQ.goNormal ?_ | refine GC.seq ?_ | refine GC.skip ?_ | refine GC.block ?_ | refine GC.exit ?_ | refine GC.ret ?_ | refine GQ.goExit ?_ | refine GQ.goRet ?_ | refine GQ.inNormal ?_ | refine GQ.inExit ?_ | refine GQ.inExitNe rfl ?_ | refine GQ.inRet ?_ | refine GQ.loopExit ?_ | refine GQ.loopRet ?_ | refine GQ.cutExit ?_ | refine GQ.cutRet ?_))
  refine GC.region (.pure 0 (.pure 1 (.pure 2 (.eff 3 (.pure 4 (.pure 5 .done)))))) rfl ?_
  (repeat (refine GX.pure rfl ?_; first | refine GO.move rfl rfl rfl rfl ?_ | refine GO.nilCheck rfl rfl rfl rfl ?_ | refine GO.fieldAddr rfl rfl rfl rfl rfl ?_ | refine GO.lenSlice rfl rfl rfl rfl ?_ | refine GO.geq rfl rfl rfl rfl rfl ?_ | refine GO.nilCheckF rfl rfl rfl rfl ?_))
  (first | (refine GX.eff rfl ?_; first | refine GO.load1 (hB.get (o := 0 + 0) rfl) rfl rfl rfl ?_ | refine GO.loadN (hB.get (o := 0 + 0) rfl) rfl rfl rfl rfl ?_) | (refine GX.read rfl ?_; first | refine GO.load1R (by assumption) (fun _ hS_ => At.mod (hB.get (o := 0 + 0) rfl) hS_ (by simp)) rfl rfl rfl ?_ | refine GO.loadNR (by assumption) (fun _ hS_ => At.mod (hB.get (o := 0 + 0) rfl) hS_ (by simp)) rfl rfl rfl rfl ?_))
  (repeat (refine GX.pure rfl ?_; first | refine GO.move rfl rfl rfl rfl ?_ | refine GO.nilCheck rfl rfl rfl rfl ?_ | refine GO.fieldAddr rfl rfl rfl rfl rfl ?_ | refine GO.lenSlice rfl rfl rfl rfl ?_ | refine GO.geq rfl rfl rfl rfl rfl ?_ | refine GO.nilCheckF rfl rfl rfl rfl ?_))
  (repeat (first | refine GX.doneD ?_ | refine GX.done ?_ | refine GQ.goNormal ?_ | refine GC.seq ?_ | refine GC.skip ?_ | refine GC.block ?_ | refine GC.exit ?_ | refine GC.ret ?_ | refine GQ.goExit ?_ | refine GQ.goRet ?_ | refine GQ.inNormal ?_ | refine GQ.inExit ?_ | refine GQ.inExitNe rfl ?_ | refine GQ.inRet ?_ | refine GQ.loopExit ?_ | refine GQ.loopRet ?_ | refine GQ.cutExit ?_ | refine GQ.cutRet ?_))
  refine GC.cond rfl (fun hf => ?_) (fun hf => ?_)
  · have hf' : (10000 : Int) ≤ l.length := of_decide_eq_true hf
    (repeat (first | refine GX.doneD ?_ | refine GX.done ?_ | refine GQ.goNormal ?_ | refine GC.seq ?_ | refine GC.skip ?_ | refine GC.block ?_ | refine GC.exit ?_ | refine GC.ret ?_ | refine GQ.goExit ?_ | refine GQ.goRet ?_ | refine GQ.inNormal ?_ | refine GQ.inExit ?_ | refine GQ.inExitNe rfl ?_ | refine GQ.inRet ?_ | refine GQ.loopExit ?_ | refine GQ.loopRet ?_ | refine GQ.cutExit ?_ | refine GQ.cutRet ?_))
    refine GC.region (.pure 0 (.pure 1 .done)) rfl ?_
    (repeat (refine GX.pure rfl ?_; refine GO.assign rfl rfl rfl rfl ?_))
    (repeat (first | refine GX.doneD ?_ | refine GX.done ?_ | refine GQ.goNormal ?_ | refine GC.seq ?_ | refine GC.skip ?_ | refine GC.block ?_ | refine GC.exit ?_ | refine GC.ret ?_ | refine GQ.goExit ?_ | refine GQ.goRet ?_ | refine GQ.inNormal ?_ | refine GQ.inExit ?_ | refine GQ.inExitNe rfl ?_ | refine GQ.inRet ?_ | refine GQ.loopExit ?_ | refine GQ.loopRet ?_ | refine GQ.cutExit ?_ | refine GQ.cutRet ?_))
    refine GQ.ret2 (by first | exact .inl rfl | exact .inr rfl) rfl rfl rfl ?_
    have hpub : pubF l p = (l, 0, 7) := by
      have : ¬ l.length < 10000 := by omega
      simp [pubF, hok, this]
    rw [hpub]
    exact ⟨rfl, ob, hH.ext hE, fun x hx => .inl hx, hE.mod⟩
  have hf' : ¬ (10000 : Int) ≤ l.length := of_decide_eq_false hf
  have hroom : l.length < 10000 := by omega
  have hpub : pubF l p = (l ++ [p], l.length + 1, 0) := by simp [pubF, hok, hroom]
  rw [hpub]
  dsimp only
  (repeat (first | refine GX.doneD ?_ | refine GX.done ?_ | refine GQ.goNormal ?_ | refine GC.seq ?_ | refine GC.skip ?_ | refine GC.block ?_ | refine GC.exit ?_ | refine GC.ret ?_ | refine GQ.goExit ?_ | refine GQ.goRet ?_ | refine GQ.inNormal ?_ | refine GQ.inExit ?_ | refine GQ.inExitNe rfl ?_ | refine GQ.inRet ?_ | refine GQ.loopExit ?_ | refine GQ.loopRet ?_ | refine GQ.cutExit ?_ | refine GQ.cutRet ?_))
  refine GC.regionD (.pure 0 (.pure 1 (.pure 2 (.pure 3 (.read 4 (.read 5 (.eff 6 (.eff 7 (.pure 8 (.pure 9 (.eff 10 .done))))))))))) (fun k => some k = ob) mixed (by kernel_rfl) (by kernel_rfl) ?_
  intro w5 hh5 hE5
  have hS5 : Mod (fun k => some k = ob) w4 w5 := Ext.mod hE5
  have hnb : ¬ (some bh = ob) := fun h => hne h.symm
  have hnp : ¬ (some bp = ob) := fun h => by
    obtain ⟨_, _, _, hP0, _⟩ := hH
    have := hP0.2.2 bp h.symm
    omega
  (repeat (refine GX.pure rfl ?_; first | refine GO.move rfl rfl rfl rfl ?_ | refine GO.nilCheck rfl rfl rfl rfl ?_ | refine GO.fieldAddr rfl rfl rfl rfl rfl ?_ | refine GO.nilCheckF rfl rfl rfl rfl ?_))
  refine GX.read rfl ?_
  refine GO.load1R (by assumption) (fun _ hS_ => At.mod (hB.get (o := 0 + 0) rfl) hS_ hnb) rfl rfl rfl ?_
  refine GX.read rfl ?_
  refine GO.loadNR (by assumption) (fun _ hS_ => At.mod (hBp.get (o := 0 + 0) rfl) hS_ hnp) rfl rfl rfl rfl ?_
  refine GX.eff rfl ?_
  refine GO.buildSlice (out := purV p) (by kernel_rfl) (by decide) rfl rfl rfl (by simp) rfl fun b6 w6 hb6 hO6 hE6 => ?_
  refine ⟨fun _ h => h.trans (Ext.mod hE6), ?_⟩
  have hE46 : Ext w4 w6 := hE5.trans hE6
  refine GX.eff rfl ?_
  refine GO.append (m := 1) (hP.1.ext hE46) hO6.sla (by simp) (purV_one p) (by omega) (by omega) rfl rfl rfl rfl rfl fun oe' ea' ec' w7 hO7 hM7 hF7 hG7 => ?_
  refine ⟨fun _ h => h.trans (hM7.weaken fun k _ hk => hk), ?_⟩
  have hb7 : Blk w7 bh [.slice a l.length c] := (hB.ext hE46).mod hM7 hnb
  (repeat (refine GX.pure rfl ?_; first | refine GO.move rfl rfl rfl rfl ?_ | refine GO.nilCheck rfl rfl rfl rfl ?_ | refine GO.fieldAddr rfl rfl rfl rfl rfl ?_ | refine GO.nilCheckF rfl rfl rfl rfl ?_))
  refine GX.eff rfl ?_
  refine GO.store (vs := [.slice ea' (l.length + 1) ec']) (hb7.wr (by simp)) rfl rfl (by simp [Value.oneCell']) rfl rfl rfl fun w8 hp8 => ⟨(by first | exact fun _ _ => trivial | exact late_abs (by kernel_rfl)), ?_⟩
  have hb8 : Blk w8 bh [.slice ea' (l.length + 1) ec'] := by have := hp8.blk hb7; simpa using this
  (repeat (first | refine GX.doneD ?_ | refine GX.done ?_ | refine GQ.goNormal ?_ | refine GC.seq ?_ | refine GC.skip ?_ | refine GC.block ?_ | refine GC.exit ?_ | refine GC.ret ?_ | refine GQ.goExit ?_ | refine GQ.goRet ?_ | refine GQ.inNormal ?_ | refine GQ.inExit ?_ | refine GQ.inExitNe rfl ?_ | refine GQ.inRet ?_ | refine GQ.loopExit ?_ | refine GQ.loopRet ?_ | refine GQ.cutExit ?_ | refine GQ.cutRet ?_))
  refine GC.region (.pure 0 (.pure 1 (.pure 2 (.eff 3 (.pure 4 (.pure 5 (.pure 6 .done))))))) rfl ?_
  (repeat (refine GX.pure rfl ?_; first | refine GO.move rfl rfl rfl rfl ?_ | refine GO.assign rfl rfl rfl rfl ?_ | refine GO.nilCheck rfl rfl rfl rfl ?_ | refine GO.fieldAddr rfl rfl rfl rfl rfl ?_ | refine GO.lenSlice rfl rfl rfl rfl ?_ | refine GO.nilCheckF rfl rfl rfl rfl ?_))
  (first | (refine GX.eff rfl ?_; first | refine GO.load1 (hb8.get (o := 0 + 0) rfl) rfl rfl rfl ?_ | refine GO.loadN (hb8.get (o := 0 + 0) rfl) rfl rfl rfl rfl ?_) | (refine GX.read rfl ?_; first | refine GO.load1R (by assumption) (fun _ hS_ => At.mod (hb8.get (o := 0 + 0) rfl) hS_ (by simp)) rfl rfl rfl ?_ | refine GO.loadNR (by assumption) (fun _ hS_ => At.mod (hb8.get (o := 0 + 0) rfl) hS_ (by simp)) rfl rfl rfl rfl ?_))
  (repeat (refine GX.pure rfl ?_; first | refine GO.move rfl rfl rfl rfl ?_ | refine GO.assign rfl rfl rfl rfl ?_ | refine GO.nilCheck rfl rfl rfl rfl ?_ | refine GO.fieldAddr rfl rfl rfl rfl rfl ?_ | refine GO.lenSlice rfl rfl rfl rfl ?_ | refine GO.nilCheckF rfl rfl rfl rfl ?_))
  (repeat (first | refine GX.doneD ?_ | refine GX.done ?_ | refine GQ.goNormal ?_ | refine GC.seq ?_ | refine GC.skip ?_ | refine GC.block ?_ | refine GC.exit ?_ | refine GC.ret ?_ | refine GQ.goExit ?_ | refine GQ.goRet ?_ | refine GQ.inNormal ?_ | refine GQ.inExit ?_ | refine GQ.inExitNe rfl ?_ | refine GQ.inRet ?_ | refine GQ.loopExit ?_ | refine GQ.loopRet ?_ | refine GQ.cutExit ?_ | refine GQ.cutRet ?_))
  refine GQ.ret2 (by first | exact .inl rfl | exact .inr rfl) rfl rfl rfl ?_
  have s4 := hE.size
  have s46 := hE46.size
  have hfo : ∀ y, oe' = some y → ob = some y ∨ w.heap.size ≤ y := fun y hy => by
    rcases hF7 y hy with h | h
    · exact .inl h
    · right; omega
  have hbl := hH.lt
  have hbne : oe' ≠ some bh := fun h => by
    rcases hfo bh h with h' | h'
    · exact hne h'
    · omega
  have hgo : ∀ y, ea' = some y → oe' = some y.block := fun y hy => by
    rcases hG7 y hy with h | ⟨h, h'⟩
    · exact h
    · rw [h']; exact hP.2.1 y h
  have hO8 : OwnS w8 30 2 oe' ea' (l.length + 1) ec' (pursV (l ++ [p])) := by
    have e : pursV (l ++ [p]) = pursV l ++ purV p := by rw [pursV_append]; simp [pursV]
    rw [e]
    exact hO7.mod hp8.mod fun x hx h => hbne (by rw [hgo x hx, h])
  refine ⟨by simp, oe', ⟨ea', ec', by simpa using hb8, ⟨by simpa using hO8, hgo, fun y hy => ?_⟩, hbne⟩, hfo, ?_⟩
  · have h8 := hp8.mod.size
    subst hy
    have := hO7.block.2
    omega
  · refine (hE.mod.trans ((Ext.mod hE46).trans ((hM7.weaken fun k _ hk => ?_).trans (hp8.mod.weaken fun k _ hk => ?_))))
    · exact .inr hk.symm
    · exact .inl hk

theorem len_ret (bh : Nat) (ob : Option Nat) (l : List Pur) (w : World) (hH : HubAt w bh ob l) :
    Ret Tryz.prog 14 [.pointer (some ⟨bh, 0, none⟩)].toArray w fun v w' => v = .int .i64 l.length ∧ Ext w w' := by
  obtain ⟨a, c, hB, hP, hne⟩ := hH
  
  refine Ret.enter Tryz.func14 rfl Tryz.ntmps14 rfl ?_
  (repeat (first | refine GX.doneD ?_ | refine GX.done ?_ | refine GQ.goNormal ?_ | refine GC.seq ?_ | refine GC.skip ?_ | refine GC.block ?_ | refine GC.exit ?_ | refine GC.ret ?_ | refine GQ.goExit ?_ | refine GQ.goRet ?_ | refine GQ.inNormal ?_ | refine GQ.inExit ?_ | refine GQ.inExitNe rfl ?_ | refine GQ.inRet ?_ | refine GQ.loopExit ?_ | refine GQ.loopRet ?_ | refine GQ.cutExit ?_ | refine GQ.cutRet ?_))
  refine GC.region (.pure 0 .done) rfl ?_
  (repeat (refine GX.pure rfl ?_; refine GO.assign rfl rfl rfl rfl ?_))
  (repeat (first | refine GX.doneD ?_ | refine GX.done ?_ | refine GQ.goNormal ?_ | refine GC.seq ?_ | refine GC.skip ?_ | refine GC.block ?_ | refine GC.exit ?_ | refine GC.ret ?_ | refine GQ.goExit ?_ | refine GQ.goRet ?_ | refine GQ.inNormal ?_ | refine GQ.inExit ?_ | refine GQ.inExitNe rfl ?_ | refine GQ.inRet ?_ | refine GQ.loopExit ?_ | refine GQ.loopRet ?_ | refine GQ.cutExit ?_ | refine GQ.cutRet ?_))
  refine GC.region (.pure 0 (.pure 1 .done)) rfl ?_
  (repeat (refine GX.pure rfl ?_; first | refine GO.move rfl rfl rfl rfl ?_ | refine GO.ptrEqlNil rfl rfl rfl rfl rfl ?_))
  (repeat (first | refine GX.doneD ?_ | refine GX.done ?_ | refine GQ.goNormal ?_ | refine GC.seq ?_ | refine GC.skip ?_ | refine GC.block ?_ | refine GC.exit ?_ | refine GC.ret ?_ | refine GQ.goExit ?_ | refine GQ.goRet ?_ | refine GQ.inNormal ?_ | refine GQ.inExit ?_ | refine GQ.inExitNe rfl ?_ | refine GQ.inRet ?_ | refine GQ.loopExit ?_ | refine GQ.loopRet ?_ | refine GQ.cutExit ?_ | refine GQ.cutRet ?_))
  refine GC.cond rfl (fun hc => ?_) (fun hc => ?_)
  · cases hc
  (repeat (first | refine GX.doneD ?_ | refine GX.done ?_ | refine GQ.goNormal ?_ | refine GC.seq ?_ | refine GC.skip ?_ | refine GC.block ?_ | refine GC.exit ?_ | refine GC.ret ?_ | refine GQ.goExit ?_ | refine GQ.goRet ?_ | refine GQ.inNormal ?_ | refine GQ.inExit ?_ | refine GQ.inExitNe rfl ?_ | refine GQ.inRet ?_ | refine GQ.loopExit ?_ | refine GQ.loopRet ?_ | refine GQ.cutExit ?_ | refine GQ.cutRet ?_))
  refine GC.region (.pure 0 (.pure 1 (.pure 2 (.eff 3 (.pure 4 (.pure 5 .done)))))) rfl ?_
  (repeat (refine GX.pure rfl ?_; first | refine GO.move rfl rfl rfl rfl ?_ | refine GO.assign rfl rfl rfl rfl ?_ | refine GO.nilCheck rfl rfl rfl rfl ?_ | refine GO.fieldAddr rfl rfl rfl rfl rfl ?_ | refine GO.lenSlice rfl rfl rfl rfl ?_ | refine GO.nilCheckF rfl rfl rfl rfl ?_))
  (first | (refine GX.eff rfl ?_; first | refine GO.load1 (hB.get (o := 0 + 0) rfl) rfl rfl rfl ?_ | refine GO.loadN (hB.get (o := 0 + 0) rfl) rfl rfl rfl rfl ?_) | (refine GX.read rfl ?_; first | refine GO.load1R (by assumption) (fun _ hS_ => At.mod (hB.get (o := 0 + 0) rfl) hS_ (by simp)) rfl rfl rfl ?_ | refine GO.loadNR (by assumption) (fun _ hS_ => At.mod (hB.get (o := 0 + 0) rfl) hS_ (by simp)) rfl rfl rfl rfl ?_))
  (repeat (refine GX.pure rfl ?_; first | refine GO.move rfl rfl rfl rfl ?_ | refine GO.assign rfl rfl rfl rfl ?_ | refine GO.nilCheck rfl rfl rfl rfl ?_ | refine GO.fieldAddr rfl rfl rfl rfl rfl ?_ | refine GO.lenSlice rfl rfl rfl rfl ?_ | refine GO.nilCheckF rfl rfl rfl rfl ?_))
  (repeat (first | refine GX.doneD ?_ | refine GX.done ?_ | refine GQ.goNormal ?_ | refine GC.seq ?_ | refine GC.skip ?_ | refine GC.block ?_ | refine GC.exit ?_ | refine GC.ret ?_ | refine GQ.goExit ?_ | refine GQ.goRet ?_ | refine GQ.inNormal ?_ | refine GQ.inExit ?_ | refine GQ.inExitNe rfl ?_ | refine GQ.inRet ?_ | refine GQ.loopExit ?_ | refine GQ.loopRet ?_ | refine GQ.cutExit ?_ | refine GQ.cutRet ?_))
  refine GQ.ret1 (by first | exact .inl rfl | exact .inr rfl) rfl rfl ?_
  exact ⟨rfl, Mod.refl _⟩

theorem copy_ret (bh : Nat) (ob : Option Nat) (l : List Pur) (hl : l.length ≤ 20000) (w : World) (hH : HubAt w bh ob l) :
    Ret Tryz.prog 15 [.pointer (some ⟨bh, 0, none⟩)].toArray w fun v w' => (∃ bc oc, v = .pointer (some ⟨bc, 0, none⟩) ∧ HubAt w' bc oc l ∧ w.heap.size ≤ bc ∧ ∀ x, oc = some x → w.heap.size ≤ x) ∧ Ext w w' := by
  obtain ⟨a, c, hB, hP, hne⟩ := hH
  
  refine Ret.enter Tryz.func15 rfl Tryz.ntmps15 rfl ?_
  (repeat (first | refine GX.doneD ?_ | refine GX.done ?_ | refine GQ.goNormal ?_ | refine GC.seq ?_ | refine GC.skip ?_ | refine GC.block ?_ | refine GC.exit ?_ | refine GC.ret ?_ | refine GQ.goExit ?_ | refine GQ.goRet ?_ | refine GQ.inNormal ?_ | refine GQ.inExit ?_ | refine GQ.inExitNe rfl ?_ | refine GQ.inRet ?_ | refine GQ.loopExit ?_ | refine GQ.loopRet ?_ | refine GQ.cutExit ?_ | refine GQ.cutRet ?_))
  refine GC.region (.pure 0 .done) rfl ?_
  (repeat (refine GX.pure rfl ?_; refine GO.assign rfl rfl rfl rfl ?_))
  (repeat (first | refine GX.doneD ?_ | refine GX.done ?_ | refine GQ.goNormal ?_ | refine GC.seq ?_ | refine GC.skip ?_ | refine GC.block ?_ | refine GC.exit ?_ | refine GC.ret ?_ | refine GQ.goExit ?_ | refine GQ.goRet ?_ | refine GQ.inNormal ?_ | refine GQ.inExit ?_ | refine GQ.inExitNe rfl ?_ | refine GQ.inRet ?_ | refine GQ.loopExit ?_ | refine GQ.loopRet ?_ | refine GQ.cutExit ?_ | refine GQ.cutRet ?_))
  refine GC.region (.pure 0 (.pure 1 .done)) rfl ?_
  (repeat (refine GX.pure rfl ?_; first | refine GO.move rfl rfl rfl rfl ?_ | refine GO.ptrEqlNil rfl rfl rfl rfl rfl ?_))
  (repeat (first | refine GX.doneD ?_ | refine GX.done ?_ | refine GQ.goNormal ?_ | refine GC.seq ?_ | refine GC.skip ?_ | refine GC.block ?_ | refine GC.exit ?_ | refine GC.ret ?_ | refine GQ.goExit ?_ | refine GQ.goRet ?_ | refine GQ.inNormal ?_ | refine GQ.inExit ?_ | refine GQ.inExitNe rfl ?_ | refine GQ.inRet ?_ | refine GQ.loopExit ?_ | refine GQ.loopRet ?_ | refine GQ.cutExit ?_ | refine GQ.cutRet ?_))
  refine GC.cond rfl (fun hc => ?_) (fun hc => ?_)
  · cases hc
  (repeat (first | refine GX.doneD ?_ | refine GX.done ?_ | refine GQ.goNormal ?_ | refine GC.seq ?_ | refine GC.skip ?_ | refine GC.block ?_ | refine GC.exit ?_ | refine GC.ret ?_ | refine GQ.goExit ?_ | refine GQ.goRet ?_ | refine GQ.inNormal ?_ | refine GQ.inExit ?_ | refine GQ.inExitNe rfl ?_ | refine GQ.inRet ?_ | refine GQ.loopExit ?_ | refine GQ.loopRet ?_ | refine GQ.cutExit ?_ | refine GQ.cutRet ?_))
  refine GC.region (.pure 0 (.pure 1 (.pure 2 (.eff 3 (.eff 4 (.pure 5 (.eff 6 (.pure 7 .done)))))))) rfl ?_
  (repeat (refine GX.pure rfl ?_; first | refine GO.move rfl rfl rfl rfl ?_ | refine GO.assign rfl rfl rfl rfl ?_ | refine GO.nilCheck rfl rfl rfl rfl ?_ | refine GO.fieldAddr rfl rfl rfl rfl rfl ?_ | refine GO.nilCheckF rfl rfl rfl rfl ?_))
  (first | (refine GX.eff rfl ?_; first | refine GO.load1 (hB.get (o := 0 + 0) rfl) rfl rfl rfl ?_ | refine GO.loadN (hB.get (o := 0 + 0) rfl) rfl rfl rfl rfl ?_) | (refine GX.read rfl ?_; first | refine GO.load1R (by assumption) (fun _ hS_ => At.mod (hB.get (o := 0 + 0) rfl) hS_ (by simp)) rfl rfl rfl ?_ | refine GO.loadNR (by assumption) (fun _ hS_ => At.mod (hB.get (o := 0 + 0) rfl) hS_ (by simp)) rfl rfl rfl rfl ?_))
  (refine GX.eff rfl ?_; refine GO.callL rfl rfl rfl rfl rfl (clonePur_ret (el := 30) (sz := 2) (by_ := 24) rfl l.length (pursV l) (by simp) (pursV_one l) (by omega) (by omega) a c w hP.1.sla (hP.1.cap0)) ?_)
  rintro _ w1 ⟨oc, a1, c1, rfl, hO1, hE1, hf1, hg1⟩
  refine ⟨fun _ h => by first | trivial | exact Mod.trans h (Ext.mod (by assumption)), ?_⟩
  (repeat (refine GX.pure rfl ?_; first | refine GO.move rfl rfl rfl rfl ?_ | refine GO.assign rfl rfl rfl rfl ?_ | refine GO.nilCheck rfl rfl rfl rfl ?_ | refine GO.fieldAddr rfl rfl rfl rfl rfl ?_ | refine GO.nilCheckF rfl rfl rfl rfl ?_))
  refine GX.pure rfl (GO.build (out := [.slice a1 l.length c1]) rfl (by kernel_rfl) (by kernel_rfl) rfl rfl rfl rfl ?_)
  refine GX.eff rfl ?_
  refine GO.box (l := [.slice a1 l.length c1]) rfl rfl rfl rfl fun bc w2 hb2 hB2 hE2 => ?_
  refine ⟨fun _ h => by first | trivial | exact Mod.trans h (Ext.mod (by assumption)), ?_⟩
  (repeat (refine GX.pure rfl ?_; first | refine GO.move rfl rfl rfl rfl ?_ | refine GO.assign rfl rfl rfl rfl ?_ | refine GO.nilCheck rfl rfl rfl rfl ?_ | refine GO.fieldAddr rfl rfl rfl rfl rfl ?_ | refine GO.nilCheckF rfl rfl rfl rfl ?_))
  (repeat (first | refine GX.doneD ?_ | refine GX.done ?_ | refine GQ.goNormal ?_ | refine GC.seq ?_ | refine GC.skip ?_ | refine GC.block ?_ | refine GC.exit ?_ | refine GC.ret ?_ | refine GQ.goExit ?_ | refine GQ.goRet ?_ | refine GQ.inNormal ?_ | refine GQ.inExit ?_ | refine GQ.inExitNe rfl ?_ | refine GQ.inRet ?_ | refine GQ.loopExit ?_ | refine GQ.loopRet ?_ | refine GQ.cutExit ?_ | refine GQ.cutRet ?_))
  refine GQ.ret1 (by first | exact .inl rfl | exact .inr rfl) rfl rfl ?_
  have s1 := hE1.size
  refine ⟨⟨bc, oc, rfl, ⟨a1, c1, hB2, ⟨hO1.ext hE2, hg1, fun x hx => ?_⟩, fun h => ?_⟩, by omega, hf1⟩, hE1.trans hE2⟩
  · subst hx
    have := hO1.block.2
    have := hE2.size
    omega
  · subst h
    have := hO1.block.2
    omega

/-- A message by its number. -/
def getF (l : List Pur) (n : Int) : Pur × Int := if 1 ≤ n ∧ n ≤ l.length then (l.getD (n.toNat - 1) (0, []), 0) else ((0, []), 3)
theorem get_ret (bh : Nat) (ob : Option Nat) (l : List Pur) (hl : l.length ≤ 20000) (n : Int) (hn : -2 ≤ n) (w : World) (hH : HubAt w bh ob l) :
    Ret Tryz.prog 16 [.pointer (some ⟨bh, 0, none⟩), .int .i64 n].toArray w fun v w' => v = .tuple #[.agg (purV (getF l n).1).toArray, .int .i64 (getF l n).2] ∧ Ext w w' := by
  obtain ⟨a, c, hB, hP, hne⟩ := hH
  
  refine Ret.enter Tryz.func16 rfl Tryz.ntmps16 rfl ?_
  (repeat (first | refine GX.doneD ?_ | refine GX.done ?_ | refine GQ.goNormal ?_ | refine GC.seq ?_ | refine GC.skip ?_ | refine GC.block ?_ | refine GC.exit ?_ | refine GC.ret ?_ | refine GQ.goExit ?_ | refine GQ.goRet ?_ | refine GQ.inNormal ?_ | refine GQ.inExit ?_ | refine GQ.inExitNe rfl ?_ | refine GQ.inRet ?_ | refine GQ.loopExit ?_ | refine GQ.loopRet ?_ | refine GQ.cutExit ?_ | refine GQ.cutRet ?_))
  refine GC.region (.eff 0 (.pure 1 .done)) rfl ?_
  refine GX.eff rfl ?_
  refine GO.alloc rfl rfl fun b1 w1 hb1 hB1 hE1 => ?_
  refine ⟨fun _ h => by first | trivial | exact Mod.trans h (Ext.mod (by assumption)), ?_⟩
  (repeat (refine GX.pure rfl ?_; refine GO.assign rfl rfl rfl rfl ?_))
  (repeat (first | refine GX.doneD ?_ | refine GX.done ?_ | refine GQ.goNormal ?_ | refine GC.seq ?_ | refine GC.skip ?_ | refine GC.block ?_ | refine GC.exit ?_ | refine GC.ret ?_ | refine GQ.goExit ?_ | refine GQ.goRet ?_ | refine GQ.inNormal ?_ | refine GQ.inExit ?_ | refine GQ.inExitNe rfl ?_ | refine GQ.inRet ?_ | refine GQ.loopExit ?_ | refine GQ.loopRet ?_ | refine GQ.cutExit ?_ | refine GQ.cutRet ?_))
  refine GC.region (.pure 0 (.pure 1 (.pure 2 .done))) rfl ?_
  (repeat (refine GX.pure rfl ?_; first | refine GO.move rfl rfl rfl rfl ?_ | refine GO.assign rfl rfl rfl rfl ?_ | refine GO.ptrEqlNil rfl rfl rfl rfl rfl ?_))
  (repeat (first | refine GX.doneD ?_ | refine GX.done ?_ | refine GQ.goNormal ?_ | refine GC.seq ?_ | refine GC.skip ?_ | refine GC.block ?_ | refine GC.exit ?_ | refine GC.ret ?_ | refine GQ.goExit ?_ | refine GQ.goRet ?_ | refine GQ.inNormal ?_ | refine GQ.inExit ?_ | refine GQ.inExitNe rfl ?_ | refine GQ.inRet ?_ | refine GQ.loopExit ?_ | refine GQ.loopRet ?_ | refine GQ.cutExit ?_ | refine GQ.cutRet ?_))
  refine GC.cond rfl (fun hc => ?_) (fun hc => ?_)
  · cases hc
  (repeat (first | refine GX.doneD ?_ | refine GX.done ?_ | refine GQ.goNormal ?_ | refine GC.seq ?_ | refine GC.skip ?_ | refine GC.block ?_ | refine GC.exit ?_ | refine GC.ret ?_ | refine GQ.goExit ?_ | refine GQ.goRet ?_ | refine GQ.inNormal ?_ | refine GQ.inExit ?_ | refine GQ.inExitNe rfl ?_ | refine GQ.inRet ?_ | refine GQ.loopExit ?_ | refine GQ.loopRet ?_ | refine GQ.cutExit ?_ | refine GQ.cutRet ?_))
  refine GC.region (.pure 0 (.pure 1 (.pure 2 (.pure 3 (.pure 4 (.pure 5 (.pure 6 (.eff 7 (.pure 8 (.pure 9 (.pure 10 (.pure 11 .done)))))))))))) rfl ?_
  (repeat (refine GX.pure rfl ?_; first | refine GO.move rfl rfl rfl rfl ?_ | refine GO.assign rfl rfl rfl rfl ?_ | refine GO.nilCheck rfl rfl rfl rfl ?_ | refine GO.fieldAddr rfl rfl rfl rfl rfl ?_ | refine GO.lenSlice rfl rfl rfl rfl ?_ | refine GO.lss rfl rfl rfl rfl rfl ?_ | refine GO.gtr rfl rfl rfl rfl rfl ?_ | refine GO.pickT rfl rfl rfl rfl rfl ?_ | refine GO.pickF rfl rfl rfl rfl rfl ?_ | refine GO.nilCheckF rfl rfl rfl rfl ?_ | refine GO.skip (.inl rfl) rfl rfl ?_))
  refine GX.case 13 rfl (fun g0 => ?_) (fun g0 => ?_)
  · have g0' : n < 1 := of_decide_eq_true g0
    have hget : getF l n = ((0, []), 3) := by
      have : ¬ (1 ≤ n ∧ n ≤ l.length) := by omega
      simp [getF, this]
    rw [hget]
    (repeat (first | (refine GX.pure rfl ?_; first | refine GO.move rfl rfl rfl rfl ?_ | refine GO.assign rfl rfl rfl rfl ?_ | refine GO.nilCheck rfl rfl rfl rfl ?_ | refine GO.fieldAddr rfl rfl rfl rfl rfl ?_ | refine GO.lenSlice rfl rfl rfl rfl ?_ | refine GO.lss rfl rfl rfl rfl rfl ?_ | refine GO.gtr rfl rfl rfl rfl rfl ?_ | refine GO.pickT rfl rfl rfl rfl rfl ?_ | refine GO.pickF rfl rfl rfl rfl rfl ?_ | refine GO.nilCheckF rfl rfl rfl rfl ?_ | refine GO.skip (.inl rfl) rfl rfl ?_) | (refine GX.eff rfl ?_; refine GO.skip (.inr rfl) rfl rfl ?_) | (refine GX.read rfl ?_; refine GO.skipRead (by assumption) rfl rfl ?_)))
    (repeat (first | refine GX.doneD ?_ | refine GX.done ?_ | refine GQ.goNormal ?_ | refine GC.seq ?_ | refine GC.skip ?_ | refine GC.block ?_ | refine GC.exit ?_ | refine GC.ret ?_ | refine GQ.goExit ?_ | refine GQ.goRet ?_ | refine GQ.inNormal ?_ | refine GQ.inExit ?_ | refine GQ.inExitNe rfl ?_ | refine GQ.inRet ?_ | refine GQ.loopExit ?_ | refine GQ.loopRet ?_ | refine GQ.cutExit ?_ | refine GQ.cutRet ?_))
    refine GC.cond rfl (fun hq => ?_) (fun hq => ?_)
    rotate_left
    · cases hq
    (repeat (first | refine GX.doneD ?_ | refine GX.done ?_ | refine GQ.goNormal ?_ | refine GC.seq ?_ | refine GC.skip ?_ | refine GC.block ?_ | refine GC.exit ?_ | refine GC.ret ?_ | refine GQ.goExit ?_ | refine GQ.goRet ?_ | refine GQ.inNormal ?_ | refine GQ.inExit ?_ | refine GQ.inExitNe rfl ?_ | refine GQ.inRet ?_ | refine GQ.loopExit ?_ | refine GQ.loopRet ?_ | refine GQ.cutExit ?_ | refine GQ.cutRet ?_))
    refine GC.region (.pure 0 (.eff 1 (.pure 2 .done))) rfl ?_
    refine GX.pure rfl (GO.build (out := [.int .i64 0, str []]) rfl (by kernel_rfl) (by kernel_rfl) rfl rfl rfl rfl ?_)
    refine GX.eff rfl ?_
    refine GO.store (vs := [.int .i64 0, str []]) (hB1.wr (by simp)) rfl rfl (by simp [Value.oneCell', str]) rfl rfl rfl fun w2 hp2 => ⟨(by first | exact fun _ _ => trivial | exact late_abs (by kernel_rfl)), ?_⟩
    have hB2 : Blk w2 b1 [.int .i64 0, str []] := by have := hp2.blk hB1; simpa using this
    (repeat (refine GX.pure rfl ?_; refine GO.assign rfl rfl rfl rfl ?_))
    (repeat (first | refine GX.doneD ?_ | refine GX.done ?_ | refine GQ.goNormal ?_ | refine GC.seq ?_ | refine GC.skip ?_ | refine GC.block ?_ | refine GC.exit ?_ | refine GC.ret ?_ | refine GQ.goExit ?_ | refine GQ.goRet ?_ | refine GQ.inNormal ?_ | refine GQ.inExit ?_ | refine GQ.inExitNe rfl ?_ | refine GQ.inRet ?_ | refine GQ.loopExit ?_ | refine GQ.loopRet ?_ | refine GQ.cutExit ?_ | refine GQ.cutRet ?_))
    refine GQ.retC1 (by first | exact .inl rfl | exact .inr rfl) rfl rfl rfl hB2.at rfl ?_
    exact ⟨rfl, hE1.then hp2.mod fun i hi h => by omega⟩
  have g0' : ¬ n < 1 := of_decide_eq_false g0
  (repeat (refine GX.pure rfl ?_; first | refine GO.move rfl rfl rfl rfl ?_ | refine GO.assign rfl rfl rfl rfl ?_ | refine GO.nilCheck rfl rfl rfl rfl ?_ | refine GO.fieldAddr rfl rfl rfl rfl rfl ?_ | refine GO.lenSlice rfl rfl rfl rfl ?_ | refine GO.lss rfl rfl rfl rfl rfl ?_ | refine GO.gtr rfl rfl rfl rfl rfl ?_ | refine GO.pickT rfl rfl rfl rfl rfl ?_ | refine GO.pickF rfl rfl rfl rfl rfl ?_ | refine GO.nilCheckF rfl rfl rfl rfl ?_ | refine GO.skip (.inl rfl) rfl rfl ?_))
  (first | (refine GX.eff rfl ?_; first | refine GO.load1 ((hB.ext hE1).get (o := 0 + 0) rfl) rfl rfl rfl ?_ | refine GO.loadN ((hB.ext hE1).get (o := 0 + 0) rfl) rfl rfl rfl rfl ?_) | (refine GX.read rfl ?_; first | refine GO.load1R (by assumption) (fun _ hS_ => At.mod ((hB.ext hE1).get (o := 0 + 0) rfl) hS_ (by simp)) rfl rfl rfl ?_ | refine GO.loadNR (by assumption) (fun _ hS_ => At.mod ((hB.ext hE1).get (o := 0 + 0) rfl) hS_ (by simp)) rfl rfl rfl rfl ?_))
  (repeat (refine GX.pure rfl ?_; first | refine GO.move rfl rfl rfl rfl ?_ | refine GO.assign rfl rfl rfl rfl ?_ | refine GO.nilCheck rfl rfl rfl rfl ?_ | refine GO.fieldAddr rfl rfl rfl rfl rfl ?_ | refine GO.lenSlice rfl rfl rfl rfl ?_ | refine GO.lss rfl rfl rfl rfl rfl ?_ | refine GO.gtr rfl rfl rfl rfl rfl ?_ | refine GO.pickT rfl rfl rfl rfl rfl ?_ | refine GO.pickF rfl rfl rfl rfl rfl ?_ | refine GO.nilCheckF rfl rfl rfl rfl ?_ | refine GO.skip (.inl rfl) rfl rfl ?_))
  (repeat (first | refine GX.doneD ?_ | refine GX.done ?_ | refine GQ.goNormal ?_ | refine GC.seq ?_ | refine GC.skip ?_ | refine GC.block ?_ | refine GC.exit ?_ | refine GC.ret ?_ | refine GQ.goExit ?_ | refine GQ.goRet ?_ | refine GQ.inNormal ?_ | refine GQ.inExit ?_ | refine GQ.inExitNe rfl ?_ | refine GQ.inRet ?_ | refine GQ.loopExit ?_ | refine GQ.loopRet ?_ | refine GQ.cutExit ?_ | refine GQ.cutRet ?_))
  refine GC.cond rfl (fun hq => ?_) (fun hq => ?_)
  · have hq' : (l.length : Int) < n := of_decide_eq_true hq
    have hget : getF l n = ((0, []), 3) := by
      have : ¬ (1 ≤ n ∧ n ≤ l.length) := by omega
      simp [getF, this]
    rw [hget]
    (repeat (first | refine GX.doneD ?_ | refine GX.done ?_ | refine GQ.goNormal ?_ | refine GC.seq ?_ | refine GC.skip ?_ | refine GC.block ?_ | refine GC.exit ?_ | refine GC.ret ?_ | refine GQ.goExit ?_ | refine GQ.goRet ?_ | refine GQ.inNormal ?_ | refine GQ.inExit ?_ | refine GQ.inExitNe rfl ?_ | refine GQ.inRet ?_ | refine GQ.loopExit ?_ | refine GQ.loopRet ?_ | refine GQ.cutExit ?_ | refine GQ.cutRet ?_))
    refine GC.region (.pure 0 (.eff 1 (.pure 2 .done))) rfl ?_
    refine GX.pure rfl (GO.build (out := [.int .i64 0, str []]) rfl (by kernel_rfl) (by kernel_rfl) rfl rfl rfl rfl ?_)
    refine GX.eff rfl ?_
    refine GO.store (vs := [.int .i64 0, str []]) (hB1.wr (by simp)) rfl rfl (by simp [Value.oneCell', str]) rfl rfl rfl fun w2 hp2 => ⟨(by first | exact fun _ _ => trivial | exact late_abs (by kernel_rfl)), ?_⟩
    have hB2 : Blk w2 b1 [.int .i64 0, str []] := by have := hp2.blk hB1; simpa using this
    (repeat (refine GX.pure rfl ?_; refine GO.assign rfl rfl rfl rfl ?_))
    (repeat (first | refine GX.doneD ?_ | refine GX.done ?_ | refine GQ.goNormal ?_ | refine GC.seq ?_ | refine GC.skip ?_ | refine GC.block ?_ | refine GC.exit ?_ | refine GC.ret ?_ | refine GQ.goExit ?_ | refine GQ.goRet ?_ | refine GQ.inNormal ?_ | refine GQ.inExit ?_ | refine GQ.inExitNe rfl ?_ | refine GQ.inRet ?_ | refine GQ.loopExit ?_ | refine GQ.loopRet ?_ | refine GQ.cutExit ?_ | refine GQ.cutRet ?_))
    refine GQ.retC1 (by first | exact .inl rfl | exact .inr rfl) rfl rfl rfl hB2.at rfl ?_
    exact ⟨rfl, hE1.then hp2.mod fun i hi h => by omega⟩
  have hq' : ¬ (l.length : Int) < n := of_decide_eq_false hq
  obtain ⟨m, rfl⟩ : ∃ m : Nat, n = (m : Int) + 1 := ⟨(n - 1).toNat, by omega⟩
  have hm : m < l.length := by omega
  have hget : getF l ((m : Int) + 1) = (l[m], 0) := by
    have h1 : 1 ≤ (m : Int) + 1 ∧ (m : Int) + 1 ≤ l.length := by omega
    have h2 : ((m : Int) + 1).toNat - 1 = m := by omega
    simp [getF, h1, h2, List.getD, hm]
  rw [hget]
  obtain ⟨ba, oa, rfl, hAt⟩ := hP.1.sla.of_pos (by simp; omega)
  have hcel : At w1 ba (oa + (((m : Int) + 1) - 1).toNat * 2) (purV l[m]) := by
    have := (purs_at hAt hm).ext hE1
    rwa [show (((m : Int) + 1) - 1).toNat = m by omega]
  (repeat (first | refine GX.doneD ?_ | refine GX.done ?_ | refine GQ.goNormal ?_ | refine GC.seq ?_ | refine GC.skip ?_ | refine GC.block ?_ | refine GC.exit ?_ | refine GC.ret ?_ | refine GQ.goExit ?_ | refine GQ.goRet ?_ | refine GQ.inNormal ?_ | refine GQ.inExit ?_ | refine GQ.inExitNe rfl ?_ | refine GQ.inRet ?_ | refine GQ.loopExit ?_ | refine GQ.loopRet ?_ | refine GQ.cutExit ?_ | refine GQ.cutRet ?_))
  refine GC.region (.pure 0 (.pure 1 (.pure 2 (.eff 3 (.pure 4 (.pure 5 (.pure 6 (.eff 7 (.eff 8 (.pure 9 .done)))))))))) rfl ?_
  (repeat (refine GX.pure rfl ?_; first | refine GO.move rfl rfl rfl rfl ?_ | refine GO.assign rfl rfl rfl rfl ?_ | refine GO.nilCheck rfl rfl rfl rfl ?_ | refine GO.fieldAddr rfl rfl rfl rfl rfl ?_ | refine GO.sub rfl rfl rfl rfl rfl (wrapIn (by dsimp only [InK]; omega)) ?_ | refine GO.nilCheckF rfl rfl rfl rfl ?_))
  (first | (refine GX.eff rfl ?_; first | refine GO.load1 ((hB.ext hE1).get (o := 0 + 0) rfl) rfl rfl rfl ?_ | refine GO.loadN ((hB.ext hE1).get (o := 0 + 0) rfl) rfl rfl rfl rfl ?_) | (refine GX.read rfl ?_; first | refine GO.load1R (by assumption) (fun _ hS_ => At.mod ((hB.ext hE1).get (o := 0 + 0) rfl) hS_ (by simp)) rfl rfl rfl ?_ | refine GO.loadNR (by assumption) (fun _ hS_ => At.mod ((hB.ext hE1).get (o := 0 + 0) rfl) hS_ (by simp)) rfl rfl rfl rfl ?_))
  (repeat (refine GX.pure rfl ?_; first | refine GO.move rfl rfl rfl rfl ?_ | refine GO.assign rfl rfl rfl rfl ?_ | refine GO.nilCheck rfl rfl rfl rfl ?_ | refine GO.fieldAddr rfl rfl rfl rfl rfl ?_ | refine GO.sub rfl rfl rfl rfl rfl (wrapIn (by dsimp only [InK]; omega)) ?_ | refine GO.nilCheckF rfl rfl rfl rfl ?_))
  refine GX.pure rfl (GO.indexAddr rfl rfl rfl rfl (by omega) (by omega) rfl ?_)
  (first | (refine GX.eff rfl ?_; first | refine GO.load1 (hcel) rfl rfl rfl ?_ | refine GO.loadN (hcel) rfl rfl rfl rfl ?_) | (refine GX.read rfl ?_; first | refine GO.load1R (by assumption) (fun _ hS_ => At.mod (hcel) hS_ (by simp)) rfl rfl rfl ?_ | refine GO.loadNR (by assumption) (fun _ hS_ => At.mod (hcel) hS_ (by simp)) rfl rfl rfl rfl ?_))
  refine GX.eff rfl ?_
  refine GO.store (vs := purV l[m]) (hB1.wr (by simp)) rfl rfl (purV_one _) rfl rfl rfl fun w2 hp2 => ⟨(by first | exact fun _ _ => trivial | exact late_abs (by kernel_rfl)), ?_⟩
  have hB2 : Blk w2 b1 (purV l[m]) := by have := hp2.blk hB1; simpa using this
  (repeat (refine GX.pure rfl ?_; first | refine GO.move rfl rfl rfl rfl ?_ | refine GO.assign rfl rfl rfl rfl ?_ | refine GO.nilCheck rfl rfl rfl rfl ?_ | refine GO.fieldAddr rfl rfl rfl rfl rfl ?_ | refine GO.sub rfl rfl rfl rfl rfl (wrapIn (by dsimp only [InK]; omega)) ?_ | refine GO.nilCheckF rfl rfl rfl rfl ?_))
  (repeat (first | refine GX.doneD ?_ | refine GX.done ?_ | refine GQ.goNormal ?_ | refine GC.seq ?_ | refine GC.skip ?_ | refine GC.block ?_ | refine GC.exit ?_ | refine GC.ret ?_ | refine GQ.goExit ?_ | refine GQ.goRet ?_ | refine GQ.inNormal ?_ | refine GQ.inExit ?_ | refine GQ.inExitNe rfl ?_ | refine GQ.inRet ?_ | refine GQ.loopExit ?_ | refine GQ.loopRet ?_ | refine GQ.cutExit ?_ | refine GQ.cutRet ?_))
  refine GQ.retC1 (by first | exact .inl rfl | exact .inr rfl) rfl rfl rfl hB2.at rfl ?_
  exact ⟨rfl, hE1.then hp2.mod fun i hi h => by omega⟩

set_option maxHeartbeats 1000000 in
theorem since_ret (bh : Nat) (ob : Option Nat) (l : List Pur) (hl : l.length ≤ 20000) (n : Int) (hn : -2 ≤ n) (hn2 : n < 9223372036854775808) (w : World) (hH : HubAt w bh ob l) :
    Ret Tryz.prog 17 [.pointer (some ⟨bh, 0, none⟩), .int .i64 n].toArray w fun v w' => (∃ os sa cs, v = .tuple #[.slice sa (if n < 0 then [] else l.drop n.toNat).length cs, .int .i64 (if n < 0 then 2 else 0)] ∧ PurS w' os sa cs (if n < 0 then [] else l.drop n.toNat) ∧ ∀ x, os = some x → w.heap.size ≤ x) ∧ Ext w w' := by
  obtain ⟨a, c, hB, hP, hne⟩ := hH
  
  refine Ret.enter Tryz.func17 rfl Tryz.ntmps17 rfl ?_
  (repeat (first | refine GX.doneD ?_ | refine GX.done ?_ | refine GQ.goNormal ?_ | refine GC.seq ?_ | refine GC.skip ?_ | refine GC.block ?_ | refine GC.exit ?_ | refine GC.ret ?_ | refine GQ.goExit ?_ | refine GQ.goRet ?_ | refine GQ.inNormal ?_ | refine GQ.inExit ?_ | refine GQ.inExitNe rfl ?_ | refine GQ.inRet ?_ | refine GQ.loopExit ?_ | refine GQ.loopRet ?_ | refine GQ.cutExit ?_ | refine GQ.cutRet ?_))
  refine GC.region (.pure 0 (.pure 1 .done)) rfl ?_
  (repeat (refine GX.pure rfl ?_; refine GO.assign rfl rfl rfl rfl ?_))
  (repeat (first | refine GX.doneD ?_ | refine GX.done ?_ | refine GQ.goNormal ?_ | refine GC.seq ?_ | refine GC.skip ?_ | refine GC.block ?_ | refine GC.exit ?_ | refine GC.ret ?_ | refine GQ.goExit ?_ | refine GQ.goRet ?_ | refine GQ.inNormal ?_ | refine GQ.inExit ?_ | refine GQ.inExitNe rfl ?_ | refine GQ.inRet ?_ | refine GQ.loopExit ?_ | refine GQ.loopRet ?_ | refine GQ.cutExit ?_ | refine GQ.cutRet ?_))
  refine GC.region (.pure 0 (.pure 1 (.pure 2 .done))) rfl ?_
  (repeat (refine GX.pure rfl ?_; first | refine GO.move rfl rfl rfl rfl ?_ | refine GO.assign rfl rfl rfl rfl ?_ | refine GO.ptrEqlNil rfl rfl rfl rfl rfl ?_))
  (repeat (first | refine GX.doneD ?_ | refine GX.done ?_ | refine GQ.goNormal ?_ | refine GC.seq ?_ | refine GC.skip ?_ | refine GC.block ?_ | refine GC.exit ?_ | refine GC.ret ?_ | refine GQ.goExit ?_ | refine GQ.goRet ?_ | refine GQ.inNormal ?_ | refine GQ.inExit ?_ | refine GQ.inExitNe rfl ?_ | refine GQ.inRet ?_ | refine GQ.loopExit ?_ | refine GQ.loopRet ?_ | refine GQ.cutExit ?_ | refine GQ.cutRet ?_))
  refine GC.cond rfl (fun hc => ?_) (fun hc => ?_)
  · cases hc
  (repeat (first | refine GX.doneD ?_ | refine GX.done ?_ | refine GQ.goNormal ?_ | refine GC.seq ?_ | refine GC.skip ?_ | refine GC.block ?_ | refine GC.exit ?_ | refine GC.ret ?_ | refine GQ.goExit ?_ | refine GQ.goRet ?_ | refine GQ.inNormal ?_ | refine GQ.inExit ?_ | refine GQ.inExitNe rfl ?_ | refine GQ.inRet ?_ | refine GQ.loopExit ?_ | refine GQ.loopRet ?_ | refine GQ.cutExit ?_ | refine GQ.cutRet ?_))
  refine GC.region (.pure 0 (.pure 1 (.pure 2 .done))) rfl ?_
  (repeat (refine GX.pure rfl ?_; first | refine GO.move rfl rfl rfl rfl ?_ | refine GO.assign rfl rfl rfl rfl ?_ | refine GO.lss rfl rfl rfl rfl rfl ?_))
  (repeat (first | refine GX.doneD ?_ | refine GX.done ?_ | refine GQ.goNormal ?_ | refine GC.seq ?_ | refine GC.skip ?_ | refine GC.block ?_ | refine GC.exit ?_ | refine GC.ret ?_ | refine GQ.goExit ?_ | refine GQ.goRet ?_ | refine GQ.inNormal ?_ | refine GQ.inExit ?_ | refine GQ.inExitNe rfl ?_ | refine GQ.inRet ?_ | refine GQ.loopExit ?_ | refine GQ.loopRet ?_ | refine GQ.cutExit ?_ | refine GQ.cutRet ?_))
  refine GC.cond rfl (fun hq => ?_) (fun hq => ?_)
  · have hq' : n < 0 := of_decide_eq_true hq
    rw [if_pos hq', if_pos hq']
    (repeat (first | refine GX.doneD ?_ | refine GX.done ?_ | refine GQ.goNormal ?_ | refine GC.seq ?_ | refine GC.skip ?_ | refine GC.block ?_ | refine GC.exit ?_ | refine GC.ret ?_ | refine GQ.goExit ?_ | refine GQ.goRet ?_ | refine GQ.inNormal ?_ | refine GQ.inExit ?_ | refine GQ.inExitNe rfl ?_ | refine GQ.inRet ?_ | refine GQ.loopExit ?_ | refine GQ.loopRet ?_ | refine GQ.cutExit ?_ | refine GQ.cutRet ?_))
    refine GC.region (.pure 0 (.pure 1 .done)) rfl ?_
    (repeat (refine GX.pure rfl ?_; refine GO.assign rfl rfl rfl rfl ?_))
    (repeat (first | refine GX.doneD ?_ | refine GX.done ?_ | refine GQ.goNormal ?_ | refine GC.seq ?_ | refine GC.skip ?_ | refine GC.block ?_ | refine GC.exit ?_ | refine GC.ret ?_ | refine GQ.goExit ?_ | refine GQ.goRet ?_ | refine GQ.inNormal ?_ | refine GQ.inExit ?_ | refine GQ.inExitNe rfl ?_ | refine GQ.inRet ?_ | refine GQ.loopExit ?_ | refine GQ.loopRet ?_ | refine GQ.cutExit ?_ | refine GQ.cutRet ?_))
    refine GQ.ret2 (by first | exact .inl rfl | exact .inr rfl) rfl rfl rfl ?_
    exact ⟨⟨none, none, 0, rfl, PurS.nil _, by simp⟩, Mod.refl _⟩
  have hq' : ¬ n < 0 := of_decide_eq_false hq
  rw [if_neg hq', if_neg hq']
  (repeat (first | refine GX.doneD ?_ | refine GX.done ?_ | refine GQ.goNormal ?_ | refine GC.seq ?_ | refine GC.skip ?_ | refine GC.block ?_ | refine GC.exit ?_ | refine GC.ret ?_ | refine GQ.goExit ?_ | refine GQ.goRet ?_ | refine GQ.inNormal ?_ | refine GQ.inExit ?_ | refine GQ.inExitNe rfl ?_ | refine GQ.inRet ?_ | refine GQ.loopExit ?_ | refine GQ.loopRet ?_ | refine GQ.cutExit ?_ | refine GQ.cutRet ?_))
  refine GC.regionD (.pure 0 (.pure 1 (.pure 2 (.pure 4 (.pure 5 (.pure 6 (.pure 7 (.read 3 (.read 8 (.pure 9 (.pure 10 (.pure 11 (.eff 12 (.pure 13 (.pure 14 .done))))))))))))))) (fun _ => False) mixed (by kernel_rfl) (by kernel_rfl) ?_
  intro w1 hh1 hE1
  have hS1 : Mod (fun _ => False) w w1 := hE1
  (repeat (refine GX.pure rfl ?_; first | refine GO.move rfl rfl rfl rfl ?_ | refine GO.assign rfl rfl rfl rfl ?_ | refine GO.nilCheck rfl rfl rfl rfl ?_ | refine GO.fieldAddr rfl rfl rfl rfl rfl ?_ | refine GO.lenSlice rfl rfl rfl rfl ?_ | refine GO.nilCheckF rfl rfl rfl rfl ?_))
  (first | (refine GX.eff rfl ?_; first | refine GO.load1 (hB.get (o := 0 + 0) rfl) rfl rfl rfl ?_ | refine GO.loadN (hB.get (o := 0 + 0) rfl) rfl rfl rfl rfl ?_) | (refine GX.read rfl ?_; first | refine GO.load1R (by assumption) (fun _ hS_ => At.mod (hB.get (o := 0 + 0) rfl) hS_ (by simp)) rfl rfl rfl ?_ | refine GO.loadNR (by assumption) (fun _ hS_ => At.mod (hB.get (o := 0 + 0) rfl) hS_ (by simp)) rfl rfl rfl rfl ?_))
  (first | (refine GX.eff rfl ?_; first | refine GO.load1 (hB.get (o := 0 + 0) rfl) rfl rfl rfl ?_ | refine GO.loadN (hB.get (o := 0 + 0) rfl) rfl rfl rfl rfl ?_) | (refine GX.read rfl ?_; first | refine GO.load1R (by assumption) (fun _ hS_ => At.mod (hB.get (o := 0 + 0) rfl) hS_ (by simp)) rfl rfl rfl ?_ | refine GO.loadNR (by assumption) (fun _ hS_ => At.mod (hB.get (o := 0 + 0) rfl) hS_ (by simp)) rfl rfl rfl rfl ?_))
  (repeat (refine GX.pure rfl ?_; first | refine GO.move rfl rfl rfl rfl ?_ | refine GO.assign rfl rfl rfl rfl ?_ | refine GO.nilCheck rfl rfl rfl rfl ?_ | refine GO.fieldAddr rfl rfl rfl rfl rfl ?_ | refine GO.lenSlice rfl rfl rfl rfl ?_ | refine GO.nilCheckF rfl rfl rfl rfl ?_))
  obtain ⟨j, hj, hjl⟩ : ∃ j : Nat, (if (l.length : Int) < n then (l.length : Int) else n) = (j : Int) ∧ l.drop j = l.drop n.toNat ∧ j ≤ l.length := by
    by_cases h : (l.length : Int) < n
    · exact ⟨l.length, by rw [if_pos h], by rw [List.drop_of_length_le (Nat.le_refl _), List.drop_of_length_le (by omega)], Nat.le_refl _⟩
    · exact ⟨n.toNat, by rw [if_neg h]; omega, rfl, by omega⟩
  obtain ⟨hjd, hjl⟩ := hjl
  refine GX.pure rfl (GO.min2 rfl rfl rfl rfl rfl hj ?_)
  have hcap := hP.1.len_le
  refine GX.pure rfl (GO.sliceS rfl rfl rfl rfl (bounds_l (by omega) (by omega)) ⟨by simp; rfl, by simp, by simp⟩ ?_)
  have hSl : SlA w1 (sliced' a j c 2) (pursV (l.drop j)) := by
    have := (hP.1.sla.ext hE1).sliced j c 2 (l.length - j) (by omega)
    rwa [pursV_drop, List.take_of_length_le (by simp)] at this
  have h0 : sliced' a j c 2 = none → c - j = 0 := fun h => by
    unfold sliced' at h
    split at h
    · rename_i hcj; omega
    · have := hP.1.cap0 (by simpa using h); omega
  have hlen : (l.drop j).length = l.length - j := by simp
  (refine GX.eff rfl ?_; refine GO.callL rfl rfl rfl rfl rfl (clonePur_ret (el := 30) (sz := 2) (by_ := 24) rfl (l.length - j) (pursV (l.drop j)) (by simp) (pursV_one _) (by omega) (by omega) (sliced' a j c 2) (c - j) w1 hSl h0) ?_)
  rintro _ w2 ⟨oc, a1, c1, rfl, hO1, hE2, hf1, hg1⟩
  refine ⟨fun _ h => by first | trivial | exact Mod.trans h (Ext.mod (by assumption)), ?_⟩
  (repeat (refine GX.pure rfl ?_; first | refine GO.move rfl rfl rfl rfl ?_ | refine GO.assign rfl rfl rfl rfl ?_ | refine GO.nilCheck rfl rfl rfl rfl ?_ | refine GO.fieldAddr rfl rfl rfl rfl rfl ?_ | refine GO.lenSlice rfl rfl rfl rfl ?_ | refine GO.nilCheckF rfl rfl rfl rfl ?_))
  (repeat (first | refine GX.doneD ?_ | refine GX.done ?_ | refine GQ.goNormal ?_ | refine GC.seq ?_ | refine GC.skip ?_ | refine GC.block ?_ | refine GC.exit ?_ | refine GC.ret ?_ | refine GQ.goExit ?_ | refine GQ.goRet ?_ | refine GQ.inNormal ?_ | refine GQ.inExit ?_ | refine GQ.inExitNe rfl ?_ | refine GQ.inRet ?_ | refine GQ.loopExit ?_ | refine GQ.loopRet ?_ | refine GQ.cutExit ?_ | refine GQ.cutRet ?_))
  refine GQ.ret2 (by first | exact .inl rfl | exact .inr rfl) rfl rfl rfl ?_
  rw [← hjd]
  refine ⟨⟨oc, a1, c1, by rw [hlen], ⟨by rw [hlen]; exact hO1, hg1, fun x hx => ?_⟩, fun x hx => ?_⟩, hE1.trans hE2⟩
  · subst hx
    exact hO1.block.2
  · have := hf1 x hx
    have := hE1.size
    omega

theorem tag_ret (nm : List UInt8) (w : World) : Ret Tryz.prog 7 [str nm].toArray w fun v w' => v = .agg (purV (1, nm)).toArray ∧ Ext w w' := by
  
  refine Ret.enter Tryz.func7 rfl Tryz.ntmps7 rfl ?_
  (repeat (first | refine GX.doneD ?_ | refine GX.done ?_ | refine GQ.goNormal ?_ | refine GC.seq ?_ | refine GC.skip ?_ | refine GC.block ?_ | refine GC.exit ?_ | refine GC.ret ?_ | refine GQ.goExit ?_ | refine GQ.goRet ?_ | refine GQ.inNormal ?_ | refine GQ.inExit ?_ | refine GQ.inExitNe rfl ?_ | refine GQ.inRet ?_ | refine GQ.loopExit ?_ | refine GQ.loopRet ?_ | refine GQ.cutExit ?_ | refine GQ.cutRet ?_))
  refine GC.region (.eff 0 .done) rfl ?_
  refine GX.eff rfl ?_
  refine GO.alloc rfl rfl fun b1 w1 hb1 hB1 hE1 => ?_
  refine ⟨fun _ h => by first | trivial | exact Mod.trans h (Ext.mod (by assumption)), ?_⟩
  skip
  (repeat (first | refine GX.doneD ?_ | refine GX.done ?_ | refine GQ.goNormal ?_ | refine GC.seq ?_ | refine GC.skip ?_ | refine GC.block ?_ | refine GC.exit ?_ | refine GC.ret ?_ | refine GQ.goExit ?_ | refine GQ.goRet ?_ | refine GQ.inNormal ?_ | refine GQ.inExit ?_ | refine GQ.inExitNe rfl ?_ | refine GQ.inRet ?_ | refine GQ.loopExit ?_ | refine GQ.loopRet ?_ | refine GQ.cutExit ?_ | refine GQ.cutRet ?_))
  refine GC.region (.pure 0 (.pure 1 (.eff 2 .done))) rfl ?_
  (repeat (refine GX.pure rfl ?_; refine GO.move rfl rfl rfl rfl ?_))
  refine GX.pure rfl (GO.build (out := purV (1, nm)) rfl (by kernel_rfl) (by kernel_rfl) rfl rfl rfl rfl ?_)
  refine GX.eff rfl ?_
  refine GO.store (vs := purV (1, nm)) (hB1.wr (by simp)) rfl rfl (purV_one _) rfl rfl rfl fun w2 hp2 => ⟨(by first | exact fun _ _ => trivial | exact late_abs (by kernel_rfl)), ?_⟩
  have hB2 : Blk w2 b1 (purV (1, nm)) := by have := hp2.blk hB1; simpa using this
  (repeat (first | refine GX.doneD ?_ | refine GX.done ?_ | refine GQ.goNormal ?_ | refine GC.seq ?_ | refine GC.skip ?_ | refine GC.block ?_ | refine GC.exit ?_ | refine GC.ret ?_ | refine GQ.goExit ?_ | refine GQ.goRet ?_ | refine GQ.inNormal ?_ | refine GQ.inExit ?_ | refine GQ.inExitNe rfl ?_ | refine GQ.inRet ?_ | refine GQ.loopExit ?_ | refine GQ.loopRet ?_ | refine GQ.cutExit ?_ | refine GQ.cutRet ?_))
  refine GQ.retC (by first | exact .inl rfl | exact .inr rfl) rfl rfl hB2.at rfl ?_
  exact ⟨rfl, hE1.then hp2.mod fun i hi h => by omega⟩

theorem publishes_ret (bh : Nat) (ob : Option Nat) (l : List Pur) (hlen : l.length ≤ 20000) (p : Pur) (k e : Int) (w : World) (hH : HubAt w bh ob l) :
    Ret Tryz.prog 6 [.pointer (some ⟨bh, 0, none⟩), .agg (purV p).toArray, .int .i64 k, .int .i64 e].toArray w fun v w' =>
      v = .bool (decide (((pubF l p).2.1 : Int) = k) && decide ((pubF l p).2.2 = e)) ∧ ∃ ob', HubAt w' bh ob' (pubF l p).1 ∧ (∀ x, ob' = some x → ob = some x ∨ w.heap.size ≤ x) ∧ Mod (fun k => k = bh ∨ ob = some k) w w' := by
  
  refine Ret.enter Tryz.func6 rfl Tryz.ntmps6 rfl ?_
  (repeat (first | refine GX.doneD ?_ | refine GX.done ?_ | refine GQ.goNormal ?_ | refine GC.seq ?_ | refine GC.skip ?_ | refine GC.block ?_ | refine GC.exit ?_ | refine GC.ret ?_ | refine GQ.goExit ?_ | refine GQ.goRet ?_ | refine GQ.inNormal ?_ | refine GQ.inExit ?_ | refine GQ.inExitNe rfl ?_ | refine GQ.inRet ?_ | refine GQ.loopExit ?_ | refine GQ.loopRet ?_ | refine GQ.cutExit ?_ | refine GQ.cutRet ?_))
  refine GC.region (.eff 0 (.pure 1 .done)) rfl ?_
  refine GX.eff rfl ?_
  refine GO.box (l := purV p) rfl rfl rfl rfl fun bp w1 hb1 hB1 hE1 => ?_
  refine ⟨fun _ h => by first | trivial | exact Mod.trans h (Ext.mod (by assumption)), ?_⟩
  (repeat (refine GX.pure rfl ?_; refine GO.assign rfl rfl rfl rfl ?_))
  (repeat (first | refine GX.doneD ?_ | refine GX.done ?_ | refine GQ.goNormal ?_ | refine GC.seq ?_ | refine GC.skip ?_ | refine GC.block ?_ | refine GC.exit ?_ | refine GC.ret ?_ | refine GQ.goExit ?_ | refine GQ.goRet ?_ | refine GQ.inNormal ?_ | refine GQ.inExit ?_ | refine GQ.inExitNe rfl ?_ | refine GQ.inRet ?_ | refine GQ.loopExit ?_ | refine GQ.loopRet ?_ | refine GQ.cutExit ?_ | refine GQ.cutRet ?_))
  refine GC.region (.pure 0 (.eff 1 (.eff 2 (.pure 3 (.pure 4 (.pure 5 (.pure 6 (.pure 7 .done)))))))) rfl ?_
  (repeat (refine GX.pure rfl ?_; first | refine GO.move rfl rfl rfl rfl ?_ | refine GO.assign rfl rfl rfl rfl ?_ | refine GO.extract rfl rfl rfl rfl rfl ?_))
  (first | (refine GX.eff rfl ?_; first | refine GO.load1 (hB1.get (o := 0 + 0) rfl) rfl rfl rfl ?_ | refine GO.loadN (hB1.get (o := 0 + 0) rfl) rfl rfl rfl rfl ?_) | (refine GX.read rfl ?_; first | refine GO.load1R (by assumption) (fun _ hS_ => At.mod (hB1.get (o := 0 + 0) rfl) hS_ (by simp)) rfl rfl rfl ?_ | refine GO.loadNR (by assumption) (fun _ hS_ => At.mod (hB1.get (o := 0 + 0) rfl) hS_ (by simp)) rfl rfl rfl rfl ?_))
  (refine GX.eff rfl ?_; refine GO.callL rfl rfl rfl rfl rfl (publish_ret bh ob l p hlen w1 (hH.ext hE1)) ?_)
  rintro _ w2 ⟨rfl, ob', hH2, hf2, hM2⟩
  refine ⟨fun _ h => by first | trivial | exact Mod.trans h (Ext.mod (by assumption)), ?_⟩
  (repeat (refine GX.pure rfl ?_; first | refine GO.move rfl rfl rfl rfl ?_ | refine GO.assign rfl rfl rfl rfl ?_ | refine GO.extract rfl rfl rfl rfl rfl ?_))
  (repeat (first | refine GX.doneD ?_ | refine GX.done ?_ | refine GQ.goNormal ?_ | refine GC.seq ?_ | refine GC.skip ?_ | refine GC.block ?_ | refine GC.exit ?_ | refine GC.ret ?_ | refine GQ.goExit ?_ | refine GQ.goRet ?_ | refine GQ.inNormal ?_ | refine GQ.inExit ?_ | refine GQ.inExitNe rfl ?_ | refine GQ.inRet ?_ | refine GQ.loopExit ?_ | refine GQ.loopRet ?_ | refine GQ.cutExit ?_ | refine GQ.cutRet ?_))
  refine GC.region (.pure 0 (.pure 1 (.pure 2 (.pure 3 (.pure 4 (.pure 5 (.pure 6 (.pure 7 (.pure 8 .done))))))))) rfl ?_
  (repeat (refine GX.pure rfl ?_; first | refine GO.move rfl rfl rfl rfl ?_ | refine GO.assign rfl rfl rfl rfl ?_ | refine GO.eql rfl rfl rfl rfl rfl ?_ | refine GO.pickT rfl rfl rfl rfl rfl ?_ | refine GO.pickF rfl rfl rfl rfl rfl ?_ | refine GO.skip (.inl rfl) rfl rfl ?_))
  refine GX.case 20 rfl (fun g0 => ?_) (fun g0 => ?_)
  · (repeat (refine GX.pure rfl ?_; first | refine GO.move rfl rfl rfl rfl ?_ | refine GO.assign rfl rfl rfl rfl ?_ | refine GO.eql rfl rfl rfl rfl rfl ?_ | refine GO.pickT rfl rfl rfl rfl rfl ?_ | refine GO.pickF rfl rfl rfl rfl rfl ?_ | refine GO.skip (.inl rfl) rfl rfl ?_))
    (repeat (first | refine GX.doneD ?_ | refine GX.done ?_ | refine GQ.goNormal ?_ | refine GC.seq ?_ | refine GC.skip ?_ | refine GC.block ?_ | refine GC.exit ?_ | refine GC.ret ?_ | refine GQ.goExit ?_ | refine GQ.goRet ?_ | refine GQ.inNormal ?_ | refine GQ.inExit ?_ | refine GQ.inExitNe rfl ?_ | refine GQ.inRet ?_ | refine GQ.loopExit ?_ | refine GQ.loopRet ?_ | refine GQ.cutExit ?_ | refine GQ.cutRet ?_))
    refine GQ.ret1 (by first | exact .inl rfl | exact .inr rfl) rfl rfl ?_
    have g0' : ((pubF l p).2.1 : Int) = k := of_decide_eq_true g0
    refine ⟨by rw [g0']; simp, ob', hH2, fun x hx => ?_, ?_⟩
    · rcases hf2 x hx with h | h
      · exact .inl h
      · right; have := hE1.size; omega
    · exact hE1.mod.trans hM2
  · have g0' : ¬ ((pubF l p).2.1 : Int) = k := of_decide_eq_false g0
    (repeat (first | (refine GX.pure rfl ?_; first | refine GO.move rfl rfl rfl rfl ?_ | refine GO.assign rfl rfl rfl rfl ?_ | refine GO.eql rfl rfl rfl rfl rfl ?_ | refine GO.pickT rfl rfl rfl rfl rfl ?_ | refine GO.pickF rfl rfl rfl rfl rfl ?_ | refine GO.skip (.inl rfl) rfl rfl ?_) | (refine GX.eff rfl ?_; refine GO.skip (.inr rfl) rfl rfl ?_) | (refine GX.read rfl ?_; refine GO.skipRead (by assumption) rfl rfl ?_)))
    (repeat (first | refine GX.doneD ?_ | refine GX.done ?_ | refine GQ.goNormal ?_ | refine GC.seq ?_ | refine GC.skip ?_ | refine GC.block ?_ | refine GC.exit ?_ | refine GC.ret ?_ | refine GQ.goExit ?_ | refine GQ.goRet ?_ | refine GQ.inNormal ?_ | refine GQ.inExit ?_ | refine GQ.inExitNe rfl ?_ | refine GQ.inRet ?_ | refine GQ.loopExit ?_ | refine GQ.loopRet ?_ | refine GQ.cutExit ?_ | refine GQ.cutRet ?_))
    refine GQ.ret1 (by first | exact .inl rfl | exact .inr rfl) rfl rfl ?_
    refine ⟨by simp [g0'], ob', hH2, fun x hx => ?_, ?_⟩
    · rcases hf2 x hx with h | h
      · exact .inl h
      · right; have := hE1.size; omega
    · exact hE1.mod.trans hM2
end Go.Proofs.YtgmokaflgdmekaaGreat.V
