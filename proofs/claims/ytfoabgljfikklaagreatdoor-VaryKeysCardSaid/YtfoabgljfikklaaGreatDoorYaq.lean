/-
  What the tests of names and attributes of the law of layer 44 compute. Conditions: lengths stay below 2^40.
-/
import Derived.Test.YtfoabgljfikklaaGreatDoorYaf
import Derived.Test.YtfoabgljfikklaaGreatDoorYap
set_option linter.unusedVariables false
set_option linter.unusedSimpArgs false
namespace Go.Proofs.YtfoabgljfikklaaGreatDoor.V
theorem StrsAt.ext {w w' : World} {a : Option Addr} {c : Nat} {l : List (List UInt8)} (h : StrsAt w a c l) (hm : Ext w w') : StrsAt w' a c l := h.mod hm fun _ _ _ h => h
theorem OwnS.len_le {w : World} {el sz : Nat} {ob : Option Nat} {a : Option Addr} {len cap : Nat} {cs : List Value} (h : OwnS w el sz ob a len cap cs) : len ≤ cap := by
  obtain ⟨_, ⟨_, h2, _, h4⟩ | ⟨b, _, rfl, hl, h | ⟨g, c, cur, h, h0, hg, hle, rest⟩⟩⟩ := h
  · omega
  · cases h.1
  · cases h; exact hle
theorem OwnS.cap0 {w : World} {el sz : Nat} {ob : Option Nat} {a : Option Addr} {len cap : Nat} {cs : List Value} (h : OwnS w el sz ob a len cap cs) (ha : a = none) : cap = 0 := by
  obtain ⟨_, ⟨_, h2, _, h4⟩ | ⟨b, _, h, _⟩⟩ := h
  · rw [h2]; exact h4 ha
  · rw [ha] at h; cases h
end Go.Proofs.YtfoabgljfikklaaGreatDoor.V
namespace Go.Proofs.YtfoabgljfikklaaGreatDoor.V.Ky
attribute [local irreducible] GX GO
def attrV (a : Attr) : List Value := [str a.1, str a.2]
def attrsV (l : List Attr) : List Value := l.flatMap attrV
@[simp] theorem length_attrsV : ∀ l : List Attr, (attrsV l).length = l.length * 2
  | [] => rfl
  | a :: l => by
    have := length_attrsV l
    simp only [attrsV, List.flatMap_cons, List.length_append, attrV, List.length_cons, List.length_nil] at this ⊢
    omega
theorem attrsV_get : ∀ {l : List Attr} {i : Nat} (h : i < l.length) (k : Nat) (v : Value), (attrV l[i])[k]? = some v → (attrsV l)[i * 2 + k]? = some v
  | [], i, h, _, _, _ => by cases h
  | p :: l, 0, h, k, v, hv => by
    have hk : k < 2 := (List.getElem?_eq_some_iff.1 hv).1
    simp only [attrsV, List.flatMap_cons, Nat.zero_mul, Nat.zero_add]
    rw [List.getElem?_append_left (by simpa [attrV] using hk)]
    exact hv
  | p :: l, i + 1, h, k, v, hv => by
    have := attrsV_get (l := l) (i := i) (by simpa using h) k v (by simpa using hv)
    simp only [attrsV, List.flatMap_cons] at this ⊢
    rw [List.getElem?_append_right (by simp [attrV]; omega)]
    simpa [attrV, show (i + 1) * 2 + k - 2 = i * 2 + k by omega] using this
structure AttrsAt (w : World) (a : Option Addr) (c : Nat) (l : List Attr) : Prop where
  cells : SlA w a (attrsV l)
  cap : l.length ≤ c
  nil : a = none → c = 0
  lt : ∀ x, a = some x → l ≠ [] → x.block < w.heap.size
theorem AttrsAt.mod {S : Nat → Prop} {w w' : World} {a : Option Addr} {c : Nat} {l : List Attr} (h : AttrsAt w a c l) (hm : Mod S w w') (hn : ∀ x, a = some x → l ≠ [] → ¬ S x.block) : AttrsAt w' a c l := by
  refine ⟨?_, h.cap, h.nil, fun x hx hne => Nat.lt_of_lt_of_le (h.lt x hx hne) hm.size⟩
  by_cases hl : l = []
  · subst hl; exact SlA.empty _ _
  · exact h.cells.mod hm (fun x hx => hn x hx hl)
theorem AttrsAt.ext {w w' : World} {a : Option Addr} {c : Nat} {l : List Attr} (h : AttrsAt w a c l) (hm : Ext w w') : AttrsAt w' a c l := h.mod hm fun _ _ _ h => h
theorem strs_at {w : World} {a : Option Addr} {c : Nat} {l : List Bs} (h : StrsAt w a c l) {i : Nat} (hi : i < l.length) : ∃ b o, a = some ⟨b, o, none⟩ ∧ ∀ j : Int, j.toNat = i → At w b (o + j.toNat * 1) [str l[i]] := by
  obtain ⟨b, o, rfl, hA⟩ := h.cells.of_pos (by simp [strsV]; omega)
  refine ⟨b, o, rfl, fun j hj => ?_⟩
  rw [hj]
  have := At.one hA (show (strsV l)[i]? = some (str l[i]) by simp [strsV, hi])
  simpa using this
theorem strs_takeS {w : World} {a : Option Addr} {c : Nat} {l : List Bs} (h : StrsAt w a c l) (k : Nat) (hk : k ≤ l.length) : SlA w (sliced' a 0 c 1) (strsV (l.take k)) := by
  have := h.cells.sliced 0 c 1 k (fun e => by have := h.cap; omega)
  have e : ((strsV l).drop (0 * 1)).take (k * 1) = strsV (l.take k) := by
    simp [strsV]
  rwa [e] at this
theorem attrs_at {w : World} {a : Option Addr} {c : Nat} {l : List Attr} (h : AttrsAt w a c l) {i : Nat} (hi : i < l.length) : ∃ b o, a = some ⟨b, o, none⟩ ∧ ∀ j : Int, j.toNat = i → At w b (o + j.toNat * 2) [str l[i].1, str l[i].2] := by
  obtain ⟨b, o, rfl, hA⟩ := h.cells.of_pos (by simp; omega)
  refine ⟨b, o, rfl, fun j hj => ?_⟩
  rw [hj]
  exact hA.sub (i * 2) _ fun k v hv => attrsV_get hi k v hv
structure FewP (names : List Bs) (l : List Attr) : Prop where
  n : names.length ≤ 10
  m : l.length ≤ 10
  ns : ∀ s ∈ names, s.length ≤ 100
  az : ∀ x ∈ l, x.1.length ≤ 100 ∧ x.2.length ≤ 100
set_option maxHeartbeats 1000000 in
theorem few_ret (names : List Bs) (l : List Attr) (a a2 : Option Addr) (c c2 : Nat) (w : World) (hN : StrsAt w a c names) (hA : AttrsAt w a2 c2 l) :
    Ret Tryz.prog 5 [.slice a names.length c, .slice a2 l.length c2].toArray w fun v w' => (∃ b, v = .bool b ∧ (b = true → FewP names l)) ∧ w' = w := by
  refine Ret.enter Tryz.func5 rfl Tryz.ntmps5 rfl ?_
  (repeat (first | refine GX.doneD ?_ | refine GX.done ?_ | refine GQ.goNormal ?_ | refine GC.seq ?_ | refine GC.skip ?_ | refine GC.block ?_ | refine GC.exit ?_ | refine GC.ret ?_ | refine GQ.goExit ?_ | refine GQ.goRet ?_ | refine GQ.inNormal ?_ | refine GQ.inExit ?_ | refine GQ.inExitNe rfl ?_ | refine GQ.inRet ?_ | refine GQ.loopExit ?_ | refine GQ.loopRet ?_ | refine GQ.cutExit ?_ | refine GQ.cutRet ?_))
  refine GC.region (.pure 0 .done) rfl ?_
  (repeat (refine GX.pure rfl ?_; refine GO.assign rfl rfl rfl rfl ?_))
  (repeat (first | refine GX.doneD ?_ | refine GX.done ?_ | refine GQ.goNormal ?_ | refine GC.seq ?_ | refine GC.skip ?_ | refine GC.block ?_ | refine GC.exit ?_ | refine GC.ret ?_ | refine GQ.goExit ?_ | refine GQ.goRet ?_ | refine GQ.inNormal ?_ | refine GQ.inExit ?_ | refine GQ.inExitNe rfl ?_ | refine GQ.inRet ?_ | refine GQ.loopExit ?_ | refine GQ.loopRet ?_ | refine GQ.cutExit ?_ | refine GQ.cutRet ?_))
  refine GC.region (.pure 0 (.pure 1 (.pure 2 (.pure 3 (.pure 4 (.pure 5 (.pure 6 (.pure 7 .done)))))))) rfl ?_
  (repeat (refine GX.pure rfl ?_; first | refine GO.move rfl rfl rfl rfl ?_ | refine GO.lenSlice rfl rfl rfl rfl ?_ | refine GO.gtr rfl rfl rfl rfl rfl ?_ | refine GO.pickT rfl rfl rfl rfl rfl ?_ | refine GO.pickF rfl rfl rfl rfl rfl ?_ | refine GO.skip (.inl rfl) rfl rfl ?_))
  refine GX.case 10 rfl (fun h1 => ?_) (fun h1 => ?_)
  · (repeat (first | (refine GX.pure rfl ?_; first | refine GO.move rfl rfl rfl rfl ?_ | refine GO.lenSlice rfl rfl rfl rfl ?_ | refine GO.gtr rfl rfl rfl rfl rfl ?_ | refine GO.pickT rfl rfl rfl rfl rfl ?_ | refine GO.pickF rfl rfl rfl rfl rfl ?_ | refine GO.skip (.inl rfl) rfl rfl ?_) | (refine GX.eff rfl ?_; refine GO.skip (.inr rfl) rfl rfl ?_) | (refine GX.read rfl ?_; refine GO.skipRead (by assumption) rfl rfl ?_)))
    (repeat (first | refine GX.doneD ?_ | refine GX.done ?_ | refine GQ.goNormal ?_ | refine GC.seq ?_ | refine GC.skip ?_ | refine GC.block ?_ | refine GC.exit ?_ | refine GC.ret ?_ | refine GQ.goExit ?_ | refine GQ.goRet ?_ | refine GQ.inNormal ?_ | refine GQ.inExit ?_ | refine GQ.inExitNe rfl ?_ | refine GQ.inRet ?_ | refine GQ.loopExit ?_ | refine GQ.loopRet ?_ | refine GQ.cutExit ?_ | refine GQ.cutRet ?_))
    refine GC.cond rfl (fun hq => ?_) (fun hq => ?_)
    rotate_left
    · cases hq
    (repeat (first | refine GX.doneD ?_ | refine GX.done ?_ | refine GQ.goNormal ?_ | refine GC.seq ?_ | refine GC.skip ?_ | refine GC.block ?_ | refine GC.exit ?_ | refine GC.ret ?_ | refine GQ.goExit ?_ | refine GQ.goRet ?_ | refine GQ.inNormal ?_ | refine GQ.inExit ?_ | refine GQ.inExitNe rfl ?_ | refine GQ.inRet ?_ | refine GQ.loopExit ?_ | refine GQ.loopRet ?_ | refine GQ.cutExit ?_ | refine GQ.cutRet ?_))
    refine GC.region (.pure 0 .done) rfl ?_
    (repeat (refine GX.pure rfl ?_; refine GO.assign rfl rfl rfl rfl ?_))
    (repeat (first | refine GX.doneD ?_ | refine GX.done ?_ | refine GQ.goNormal ?_ | refine GC.seq ?_ | refine GC.skip ?_ | refine GC.block ?_ | refine GC.exit ?_ | refine GC.ret ?_ | refine GQ.goExit ?_ | refine GQ.goRet ?_ | refine GQ.inNormal ?_ | refine GQ.inExit ?_ | refine GQ.inExitNe rfl ?_ | refine GQ.inRet ?_ | refine GQ.loopExit ?_ | refine GQ.loopRet ?_ | refine GQ.cutExit ?_ | refine GQ.cutRet ?_))
    refine GQ.ret1 (by first | exact .inl rfl | exact .inr rfl) rfl rfl ?_
    exact ⟨⟨_, rfl, fun h => by cases h⟩, rfl⟩
  have h1' : ¬ (10 : Int) < names.length := of_decide_eq_false h1
  (repeat (refine GX.pure rfl ?_; first | refine GO.move rfl rfl rfl rfl ?_ | refine GO.lenSlice rfl rfl rfl rfl ?_ | refine GO.gtr rfl rfl rfl rfl rfl ?_ | refine GO.pickT rfl rfl rfl rfl rfl ?_ | refine GO.pickF rfl rfl rfl rfl rfl ?_ | refine GO.skip (.inl rfl) rfl rfl ?_))
  (repeat (first | refine GX.doneD ?_ | refine GX.done ?_ | refine GQ.goNormal ?_ | refine GC.seq ?_ | refine GC.skip ?_ | refine GC.block ?_ | refine GC.exit ?_ | refine GC.ret ?_ | refine GQ.goExit ?_ | refine GQ.goRet ?_ | refine GQ.inNormal ?_ | refine GQ.inExit ?_ | refine GQ.inExitNe rfl ?_ | refine GQ.inRet ?_ | refine GQ.loopExit ?_ | refine GQ.loopRet ?_ | refine GQ.cutExit ?_ | refine GQ.cutRet ?_))
  refine GC.cond rfl (fun h2 => ?_) (fun h2 => ?_)
  · (repeat (first | refine GX.doneD ?_ | refine GX.done ?_ | refine GQ.goNormal ?_ | refine GC.seq ?_ | refine GC.skip ?_ | refine GC.block ?_ | refine GC.exit ?_ | refine GC.ret ?_ | refine GQ.goExit ?_ | refine GQ.goRet ?_ | refine GQ.inNormal ?_ | refine GQ.inExit ?_ | refine GQ.inExitNe rfl ?_ | refine GQ.inRet ?_ | refine GQ.loopExit ?_ | refine GQ.loopRet ?_ | refine GQ.cutExit ?_ | refine GQ.cutRet ?_))
    refine GC.region (.pure 0 .done) rfl ?_
    (repeat (refine GX.pure rfl ?_; refine GO.assign rfl rfl rfl rfl ?_))
    (repeat (first | refine GX.doneD ?_ | refine GX.done ?_ | refine GQ.goNormal ?_ | refine GC.seq ?_ | refine GC.skip ?_ | refine GC.block ?_ | refine GC.exit ?_ | refine GC.ret ?_ | refine GQ.goExit ?_ | refine GQ.goRet ?_ | refine GQ.inNormal ?_ | refine GQ.inExit ?_ | refine GQ.inExitNe rfl ?_ | refine GQ.inRet ?_ | refine GQ.loopExit ?_ | refine GQ.loopRet ?_ | refine GQ.cutExit ?_ | refine GQ.cutRet ?_))
    refine GQ.ret1 (by first | exact .inl rfl | exact .inr rfl) rfl rfl ?_
    exact ⟨⟨_, rfl, fun h => by cases h⟩, rfl⟩
  have h2' : ¬ (10 : Int) < l.length := of_decide_eq_false h2
  (repeat (first | refine GX.doneD ?_ | refine GX.done ?_ | refine GQ.goNormal ?_ | refine GC.seq ?_ | refine GC.skip ?_ | refine GC.block ?_ | refine GC.exit ?_ | refine GC.ret ?_ | refine GQ.goExit ?_ | refine GQ.goRet ?_ | refine GQ.inNormal ?_ | refine GQ.inExit ?_ | refine GQ.inExitNe rfl ?_ | refine GQ.inRet ?_ | refine GQ.loopExit ?_ | refine GQ.loopRet ?_ | refine GQ.cutExit ?_ | refine GQ.cutRet ?_))
  refine GC.region (.pure 0 .done) rfl ?_
  (repeat (refine GX.pure rfl ?_; refine GO.assign rfl rfl rfl rfl ?_))
  (repeat (first | refine GX.doneD ?_ | refine GX.done ?_ | refine GQ.goNormal ?_ | refine GC.seq ?_ | refine GC.skip ?_ | refine GC.block ?_ | refine GC.exit ?_ | refine GC.ret ?_ | refine GQ.goExit ?_ | refine GQ.goRet ?_ | refine GQ.inNormal ?_ | refine GQ.inExit ?_ | refine GQ.inExitNe rfl ?_ | refine GQ.inRet ?_ | refine GQ.loopExit ?_ | refine GQ.loopRet ?_ | refine GQ.cutExit ?_ | refine GQ.cutRet ?_))
  refine GC.loop (X := Nat) (fun k => [(0, .slice a names.length c), (1, .slice a2 l.length c2), (5, .int .i64 k)]) (fun k w' => k ≤ names.length ∧ (∀ s ∈ names.take k, s.length ≤ 100) ∧ w = w') (fun k => names.length - k) 0 (sub_pick (l := [0, 1, 5]) rfl) ⟨Nat.zero_le _, by simp, rfl⟩ ?_
  rintro k _ ⟨hk, hpre, rfl⟩
  (repeat (first | refine GX.doneD ?_ | refine GX.done ?_ | refine GQ.goNormal ?_ | refine GC.seq ?_ | refine GC.skip ?_ | refine GC.block ?_ | refine GC.exit ?_ | refine GC.ret ?_ | refine GQ.goExit ?_ | refine GQ.goRet ?_ | refine GQ.inNormal ?_ | refine GQ.inExit ?_ | refine GQ.inExitNe rfl ?_ | refine GQ.inRet ?_ | refine GQ.loopExit ?_ | refine GQ.loopRet ?_ | refine GQ.cutExit ?_ | refine GQ.cutRet ?_))
  refine GC.region (.pure 0 (.pure 1 (.pure 2 (.pure 3 .done)))) rfl ?_
  (repeat (refine GX.pure rfl ?_; first | refine GO.move rfl rfl rfl rfl ?_ | refine GO.lenSlice rfl rfl rfl rfl ?_ | refine GO.lss rfl rfl rfl rfl rfl ?_))
  (repeat (first | refine GX.doneD ?_ | refine GX.done ?_ | refine GQ.goNormal ?_ | refine GC.seq ?_ | refine GC.skip ?_ | refine GC.block ?_ | refine GC.exit ?_ | refine GC.ret ?_ | refine GQ.goExit ?_ | refine GQ.goRet ?_ | refine GQ.inNormal ?_ | refine GQ.inExit ?_ | refine GQ.inExitNe rfl ?_ | refine GQ.inRet ?_ | refine GQ.loopExit ?_ | refine GQ.loopRet ?_ | refine GQ.cutExit ?_ | refine GQ.cutRet ?_))
  refine GC.cond rfl (fun hc => ?_) (fun hc => ?_)
  · have hlt : k < names.length := by have := of_decide_eq_true hc; omega
    obtain ⟨b, o, rfl, hAt⟩ := strs_at hN hlt
    (repeat (first | refine GX.doneD ?_ | refine GX.done ?_ | refine GQ.goNormal ?_ | refine GC.seq ?_ | refine GC.skip ?_ | refine GC.block ?_ | refine GC.exit ?_ | refine GC.ret ?_ | refine GQ.goExit ?_ | refine GQ.goRet ?_ | refine GQ.inNormal ?_ | refine GQ.inExit ?_ | refine GQ.inExitNe rfl ?_ | refine GQ.inRet ?_ | refine GQ.loopExit ?_ | refine GQ.loopRet ?_ | refine GQ.cutExit ?_ | refine GQ.cutRet ?_))
    refine GC.region (.pure 0 (.pure 1 (.pure 2 (.eff 3 (.pure 4 (.pure 5 .done)))))) rfl ?_
    (repeat (refine GX.pure rfl ?_; first | refine GO.move rfl rfl rfl rfl ?_ | refine GO.lenStr rfl rfl rfl rfl ?_ | refine GO.gtr rfl rfl rfl rfl rfl ?_))
    refine GX.pure rfl (GO.indexAddr rfl rfl rfl rfl (by omega) (by omega) rfl ?_)
    (first | (refine GX.eff rfl ?_; first | refine GO.load1 (hAt (k : Int) (by omega)) rfl rfl rfl ?_ | refine GO.loadN (hAt (k : Int) (by omega)) rfl rfl rfl rfl ?_) | (refine GX.read rfl ?_; first | refine GO.load1R (by assumption) (fun _ hS_ => At.mod (hAt (k : Int) (by omega)) hS_ (by simp)) rfl rfl rfl ?_ | refine GO.loadNR (by assumption) (fun _ hS_ => At.mod (hAt (k : Int) (by omega)) hS_ (by simp)) rfl rfl rfl rfl ?_))
    (repeat (refine GX.pure rfl ?_; first | refine GO.move rfl rfl rfl rfl ?_ | refine GO.lenStr rfl rfl rfl rfl ?_ | refine GO.gtr rfl rfl rfl rfl rfl ?_))
    (repeat (first | refine GX.doneD ?_ | refine GX.done ?_ | refine GQ.goNormal ?_ | refine GC.seq ?_ | refine GC.skip ?_ | refine GC.block ?_ | refine GC.exit ?_ | refine GC.ret ?_ | refine GQ.goExit ?_ | refine GQ.goRet ?_ | refine GQ.inNormal ?_ | refine GQ.inExit ?_ | refine GQ.inExitNe rfl ?_ | refine GQ.inRet ?_ | refine GQ.loopExit ?_ | refine GQ.loopRet ?_ | refine GQ.cutExit ?_ | refine GQ.cutRet ?_))
    have hsz := size_strL names[k]
    refine GC.cond rfl (fun hq => ?_) (fun hq => ?_)
    · (repeat (first | refine GX.doneD ?_ | refine GX.done ?_ | refine GQ.goNormal ?_ | refine GC.seq ?_ | refine GC.skip ?_ | refine GC.block ?_ | refine GC.exit ?_ | refine GC.ret ?_ | refine GQ.goExit ?_ | refine GQ.goRet ?_ | refine GQ.inNormal ?_ | refine GQ.inExit ?_ | refine GQ.inExitNe rfl ?_ | refine GQ.inRet ?_ | refine GQ.loopExit ?_ | refine GQ.loopRet ?_ | refine GQ.cutExit ?_ | refine GQ.cutRet ?_))
      refine GC.region (.pure 0 .done) rfl ?_
      (repeat (refine GX.pure rfl ?_; refine GO.assign rfl rfl rfl rfl ?_))
      (repeat (first | refine GX.doneD ?_ | refine GX.done ?_ | refine GQ.goNormal ?_ | refine GC.seq ?_ | refine GC.skip ?_ | refine GC.block ?_ | refine GC.exit ?_ | refine GC.ret ?_ | refine GQ.goExit ?_ | refine GQ.goRet ?_ | refine GQ.inNormal ?_ | refine GQ.inExit ?_ | refine GQ.inExitNe rfl ?_ | refine GQ.inRet ?_ | refine GQ.loopExit ?_ | refine GQ.loopRet ?_ | refine GQ.cutExit ?_ | refine GQ.cutRet ?_))
      refine GQ.ret1 (by first | exact .inl rfl | exact .inr rfl) rfl rfl ?_
      exact ⟨⟨_, rfl, fun h => by cases h⟩, rfl⟩
    have hq' : ¬ (100 : Int) < names[k].length := by have := of_decide_eq_false hq; omega
    (repeat (first | refine GX.doneD ?_ | refine GX.done ?_ | refine GQ.goNormal ?_ | refine GC.seq ?_ | refine GC.skip ?_ | refine GC.block ?_ | refine GC.exit ?_ | refine GC.ret ?_ | refine GQ.goExit ?_ | refine GQ.goRet ?_ | refine GQ.inNormal ?_ | refine GQ.inExit ?_ | refine GQ.inExitNe rfl ?_ | refine GQ.inRet ?_ | refine GQ.loopExit ?_ | refine GQ.loopRet ?_ | refine GQ.cutExit ?_ | refine GQ.cutRet ?_))
    refine GC.region (.pure 0 (.pure 1 (.pure 2 .done))) rfl ?_
    (repeat (refine GX.pure rfl ?_; first | refine GO.move rfl rfl rfl rfl ?_ | refine GO.assign rfl rfl rfl rfl ?_ | refine GO.add rfl rfl rfl rfl rfl (wrapIn (by dsimp only [InK]; omega)) ?_))
    (repeat (first | refine GX.doneD ?_ | refine GX.done ?_ | refine GQ.goNormal ?_ | refine GC.seq ?_ | refine GC.skip ?_ | refine GC.block ?_ | refine GC.exit ?_ | refine GC.ret ?_ | refine GQ.goExit ?_ | refine GQ.goRet ?_ | refine GQ.inNormal ?_ | refine GQ.inExit ?_ | refine GQ.inExitNe rfl ?_ | refine GQ.inRet ?_ | refine GQ.loopExit ?_ | refine GQ.loopRet ?_ | refine GQ.cutExit ?_ | refine GQ.cutRet ?_))
    refine GQ.again (k + 1) (sub_pick (l := [0, 1, 5]) rfl) ⟨hlt, fun s hs => ?_, rfl⟩ (by omega)
    rw [List.take_succ_eq_append_getElem hlt] at hs
    rcases List.mem_append.1 hs with hs | hs
    · exact hpre s hs
    · simp at hs; subst hs; omega
  have hge : k = names.length := by have := of_decide_eq_false hc; omega
  subst hge
  rw [List.take_length] at hpre
  (repeat (first | refine GX.doneD ?_ | refine GX.done ?_ | refine GQ.goNormal ?_ | refine GC.seq ?_ | refine GC.skip ?_ | refine GC.block ?_ | refine GC.exit ?_ | refine GC.ret ?_ | refine GQ.goExit ?_ | refine GQ.goRet ?_ | refine GQ.inNormal ?_ | refine GQ.inExit ?_ | refine GQ.inExitNe rfl ?_ | refine GQ.inRet ?_ | refine GQ.loopExit ?_ | refine GQ.loopRet ?_ | refine GQ.cutExit ?_ | refine GQ.cutRet ?_))
  refine GC.region (.pure 0 .done) rfl ?_
  (repeat (refine GX.pure rfl ?_; refine GO.assign rfl rfl rfl rfl ?_))
  (repeat (first | refine GX.doneD ?_ | refine GX.done ?_ | refine GQ.goNormal ?_ | refine GC.seq ?_ | refine GC.skip ?_ | refine GC.block ?_ | refine GC.exit ?_ | refine GC.ret ?_ | refine GQ.goExit ?_ | refine GQ.goRet ?_ | refine GQ.inNormal ?_ | refine GQ.inExit ?_ | refine GQ.inExitNe rfl ?_ | refine GQ.inRet ?_ | refine GQ.loopExit ?_ | refine GQ.loopRet ?_ | refine GQ.cutExit ?_ | refine GQ.cutRet ?_))
  refine GC.loop (X := Nat) (fun k => [(1, .slice a2 l.length c2), (6, .int .i64 k)]) (fun k w' => k ≤ l.length ∧ (∀ x ∈ l.take k, x.1.length ≤ 100 ∧ x.2.length ≤ 100) ∧ w = w') (fun k => l.length - k) 0 (sub_pick (l := [1, 6]) rfl) ⟨Nat.zero_le _, by simp, rfl⟩ ?_
  rintro k _ ⟨hk, hpre2, rfl⟩
  (repeat (first | refine GX.doneD ?_ | refine GX.done ?_ | refine GQ.goNormal ?_ | refine GC.seq ?_ | refine GC.skip ?_ | refine GC.block ?_ | refine GC.exit ?_ | refine GC.ret ?_ | refine GQ.goExit ?_ | refine GQ.goRet ?_ | refine GQ.inNormal ?_ | refine GQ.inExit ?_ | refine GQ.inExitNe rfl ?_ | refine GQ.inRet ?_ | refine GQ.loopExit ?_ | refine GQ.loopRet ?_ | refine GQ.cutExit ?_ | refine GQ.cutRet ?_))
  refine GC.region (.pure 0 (.pure 1 (.pure 2 (.pure 3 .done)))) rfl ?_
  (repeat (refine GX.pure rfl ?_; first | refine GO.move rfl rfl rfl rfl ?_ | refine GO.lenSlice rfl rfl rfl rfl ?_ | refine GO.lss rfl rfl rfl rfl rfl ?_))
  (repeat (first | refine GX.doneD ?_ | refine GX.done ?_ | refine GQ.goNormal ?_ | refine GC.seq ?_ | refine GC.skip ?_ | refine GC.block ?_ | refine GC.exit ?_ | refine GC.ret ?_ | refine GQ.goExit ?_ | refine GQ.goRet ?_ | refine GQ.inNormal ?_ | refine GQ.inExit ?_ | refine GQ.inExitNe rfl ?_ | refine GQ.inRet ?_ | refine GQ.loopExit ?_ | refine GQ.loopRet ?_ | refine GQ.cutExit ?_ | refine GQ.cutRet ?_))
  refine GC.cond rfl (fun hc2 => ?_) (fun hc2 => ?_)
  · have hlt : k < l.length := by have := of_decide_eq_true hc2; omega
    obtain ⟨b, o, rfl, hAt⟩ := attrs_at hA hlt
    have hsz1 := size_strL l[k].1
    have hsz2 := size_strL l[k].2
    (repeat (first | refine GX.doneD ?_ | refine GX.done ?_ | refine GQ.goNormal ?_ | refine GC.seq ?_ | refine GC.skip ?_ | refine GC.block ?_ | refine GC.exit ?_ | refine GC.ret ?_ | refine GQ.goExit ?_ | refine GQ.goRet ?_ | refine GQ.inNormal ?_ | refine GQ.inExit ?_ | refine GQ.inExitNe rfl ?_ | refine GQ.inRet ?_ | refine GQ.loopExit ?_ | refine GQ.loopRet ?_ | refine GQ.cutExit ?_ | refine GQ.cutRet ?_))
    refine GC.region (.pure 0 (.pure 1 (.pure 2 (.pure 3 (.eff 4 (.pure 5 (.pure 6 (.pure 7 (.pure 8 (.pure 9 (.pure 10 (.pure 11 (.eff 12 (.pure 13 (.pure 14 (.pure 15 .done)))))))))))))))) rfl ?_
    (repeat (refine GX.pure rfl ?_; first | refine GO.move rfl rfl rfl rfl ?_ | refine GO.fieldAddr rfl rfl rfl rfl rfl ?_ | refine GO.lenStr rfl rfl rfl rfl ?_ | refine GO.gtr rfl rfl rfl rfl rfl ?_ | refine GO.pickT rfl rfl rfl rfl rfl ?_ | refine GO.pickF rfl rfl rfl rfl rfl ?_ | refine GO.skip (.inl rfl) rfl rfl ?_))
    refine GX.pure rfl (GO.indexAddr rfl rfl rfl rfl (by omega) (by omega) rfl ?_)
    (repeat (refine GX.pure rfl ?_; first | refine GO.move rfl rfl rfl rfl ?_ | refine GO.fieldAddr rfl rfl rfl rfl rfl ?_ | refine GO.lenStr rfl rfl rfl rfl ?_ | refine GO.gtr rfl rfl rfl rfl rfl ?_ | refine GO.pickT rfl rfl rfl rfl rfl ?_ | refine GO.pickF rfl rfl rfl rfl rfl ?_ | refine GO.skip (.inl rfl) rfl rfl ?_))
    (first | (refine GX.eff rfl ?_; first | refine GO.load1 ((hAt (k : Int) (by omega)).get (k := 0) rfl) rfl rfl rfl ?_ | refine GO.loadN ((hAt (k : Int) (by omega)).get (k := 0) rfl) rfl rfl rfl rfl ?_) | (refine GX.read rfl ?_; first | refine GO.load1R (by assumption) (fun _ hS_ => At.mod ((hAt (k : Int) (by omega)).get (k := 0) rfl) hS_ (by simp)) rfl rfl rfl ?_ | refine GO.loadNR (by assumption) (fun _ hS_ => At.mod ((hAt (k : Int) (by omega)).get (k := 0) rfl) hS_ (by simp)) rfl rfl rfl rfl ?_))
    (repeat (refine GX.pure rfl ?_; first | refine GO.move rfl rfl rfl rfl ?_ | refine GO.fieldAddr rfl rfl rfl rfl rfl ?_ | refine GO.lenStr rfl rfl rfl rfl ?_ | refine GO.gtr rfl rfl rfl rfl rfl ?_ | refine GO.pickT rfl rfl rfl rfl rfl ?_ | refine GO.pickF rfl rfl rfl rfl rfl ?_ | refine GO.skip (.inl rfl) rfl rfl ?_))
    refine GX.case 40 rfl (fun h3 => ?_) (fun h3 => ?_)
    · (repeat (first | (refine GX.pure rfl ?_; first | refine GO.move rfl rfl rfl rfl ?_ | refine GO.fieldAddr rfl rfl rfl rfl rfl ?_ | refine GO.lenStr rfl rfl rfl rfl ?_ | refine GO.gtr rfl rfl rfl rfl rfl ?_ | refine GO.pickT rfl rfl rfl rfl rfl ?_ | refine GO.pickF rfl rfl rfl rfl rfl ?_ | refine GO.skip (.inl rfl) rfl rfl ?_) | (refine GX.eff rfl ?_; refine GO.skip (.inr rfl) rfl rfl ?_) | (refine GX.read rfl ?_; refine GO.skipRead (by assumption) rfl rfl ?_)))
      (repeat (first | refine GX.doneD ?_ | refine GX.done ?_ | refine GQ.goNormal ?_ | refine GC.seq ?_ | refine GC.skip ?_ | refine GC.block ?_ | refine GC.exit ?_ | refine GC.ret ?_ | refine GQ.goExit ?_ | refine GQ.goRet ?_ | refine GQ.inNormal ?_ | refine GQ.inExit ?_ | refine GQ.inExitNe rfl ?_ | refine GQ.inRet ?_ | refine GQ.loopExit ?_ | refine GQ.loopRet ?_ | refine GQ.cutExit ?_ | refine GQ.cutRet ?_))
      refine GC.cond rfl (fun hq => ?_) (fun hq => ?_)
      rotate_left
      · cases hq
      (repeat (first | refine GX.doneD ?_ | refine GX.done ?_ | refine GQ.goNormal ?_ | refine GC.seq ?_ | refine GC.skip ?_ | refine GC.block ?_ | refine GC.exit ?_ | refine GC.ret ?_ | refine GQ.goExit ?_ | refine GQ.goRet ?_ | refine GQ.inNormal ?_ | refine GQ.inExit ?_ | refine GQ.inExitNe rfl ?_ | refine GQ.inRet ?_ | refine GQ.loopExit ?_ | refine GQ.loopRet ?_ | refine GQ.cutExit ?_ | refine GQ.cutRet ?_))
      refine GC.region (.pure 0 .done) rfl ?_
      (repeat (refine GX.pure rfl ?_; refine GO.assign rfl rfl rfl rfl ?_))
      (repeat (first | refine GX.doneD ?_ | refine GX.done ?_ | refine GQ.goNormal ?_ | refine GC.seq ?_ | refine GC.skip ?_ | refine GC.block ?_ | refine GC.exit ?_ | refine GC.ret ?_ | refine GQ.goExit ?_ | refine GQ.goRet ?_ | refine GQ.inNormal ?_ | refine GQ.inExit ?_ | refine GQ.inExitNe rfl ?_ | refine GQ.inRet ?_ | refine GQ.loopExit ?_ | refine GQ.loopRet ?_ | refine GQ.cutExit ?_ | refine GQ.cutRet ?_))
      refine GQ.ret1 (by first | exact .inl rfl | exact .inr rfl) rfl rfl ?_
      exact ⟨⟨_, rfl, fun h => by cases h⟩, rfl⟩
    have h3' : ¬ (100 : Int) < l[k].1.length := by have := of_decide_eq_false h3; omega
    (repeat (refine GX.pure rfl ?_; first | refine GO.move rfl rfl rfl rfl ?_ | refine GO.fieldAddr rfl rfl rfl rfl rfl ?_ | refine GO.lenStr rfl rfl rfl rfl ?_ | refine GO.gtr rfl rfl rfl rfl rfl ?_ | refine GO.pickT rfl rfl rfl rfl rfl ?_ | refine GO.pickF rfl rfl rfl rfl rfl ?_ | refine GO.skip (.inl rfl) rfl rfl ?_))
    refine GX.pure rfl (GO.indexAddr rfl rfl rfl rfl (by omega) (by omega) rfl ?_)
    (repeat (refine GX.pure rfl ?_; first | refine GO.move rfl rfl rfl rfl ?_ | refine GO.fieldAddr rfl rfl rfl rfl rfl ?_ | refine GO.lenStr rfl rfl rfl rfl ?_ | refine GO.gtr rfl rfl rfl rfl rfl ?_ | refine GO.pickT rfl rfl rfl rfl rfl ?_ | refine GO.pickF rfl rfl rfl rfl rfl ?_ | refine GO.skip (.inl rfl) rfl rfl ?_))
    (first | (refine GX.eff rfl ?_; first | refine GO.load1 ((hAt (k : Int) (by omega)).get (k := 1) rfl) rfl rfl rfl ?_ | refine GO.loadN ((hAt (k : Int) (by omega)).get (k := 1) rfl) rfl rfl rfl rfl ?_) | (refine GX.read rfl ?_; first | refine GO.load1R (by assumption) (fun _ hS_ => At.mod ((hAt (k : Int) (by omega)).get (k := 1) rfl) hS_ (by simp)) rfl rfl rfl ?_ | refine GO.loadNR (by assumption) (fun _ hS_ => At.mod ((hAt (k : Int) (by omega)).get (k := 1) rfl) hS_ (by simp)) rfl rfl rfl rfl ?_))
    (repeat (refine GX.pure rfl ?_; first | refine GO.move rfl rfl rfl rfl ?_ | refine GO.fieldAddr rfl rfl rfl rfl rfl ?_ | refine GO.lenStr rfl rfl rfl rfl ?_ | refine GO.gtr rfl rfl rfl rfl rfl ?_ | refine GO.pickT rfl rfl rfl rfl rfl ?_ | refine GO.pickF rfl rfl rfl rfl rfl ?_ | refine GO.skip (.inl rfl) rfl rfl ?_))
    (repeat (first | refine GX.doneD ?_ | refine GX.done ?_ | refine GQ.goNormal ?_ | refine GC.seq ?_ | refine GC.skip ?_ | refine GC.block ?_ | refine GC.exit ?_ | refine GC.ret ?_ | refine GQ.goExit ?_ | refine GQ.goRet ?_ | refine GQ.inNormal ?_ | refine GQ.inExit ?_ | refine GQ.inExitNe rfl ?_ | refine GQ.inRet ?_ | refine GQ.loopExit ?_ | refine GQ.loopRet ?_ | refine GQ.cutExit ?_ | refine GQ.cutRet ?_))
    refine GC.cond rfl (fun hq => ?_) (fun hq => ?_)
    · (repeat (first | refine GX.doneD ?_ | refine GX.done ?_ | refine GQ.goNormal ?_ | refine GC.seq ?_ | refine GC.skip ?_ | refine GC.block ?_ | refine GC.exit ?_ | refine GC.ret ?_ | refine GQ.goExit ?_ | refine GQ.goRet ?_ | refine GQ.inNormal ?_ | refine GQ.inExit ?_ | refine GQ.inExitNe rfl ?_ | refine GQ.inRet ?_ | refine GQ.loopExit ?_ | refine GQ.loopRet ?_ | refine GQ.cutExit ?_ | refine GQ.cutRet ?_))
      refine GC.region (.pure 0 .done) rfl ?_
      (repeat (refine GX.pure rfl ?_; refine GO.assign rfl rfl rfl rfl ?_))
      (repeat (first | refine GX.doneD ?_ | refine GX.done ?_ | refine GQ.goNormal ?_ | refine GC.seq ?_ | refine GC.skip ?_ | refine GC.block ?_ | refine GC.exit ?_ | refine GC.ret ?_ | refine GQ.goExit ?_ | refine GQ.goRet ?_ | refine GQ.inNormal ?_ | refine GQ.inExit ?_ | refine GQ.inExitNe rfl ?_ | refine GQ.inRet ?_ | refine GQ.loopExit ?_ | refine GQ.loopRet ?_ | refine GQ.cutExit ?_ | refine GQ.cutRet ?_))
      refine GQ.ret1 (by first | exact .inl rfl | exact .inr rfl) rfl rfl ?_
      exact ⟨⟨_, rfl, fun h => by cases h⟩, rfl⟩
    have hq' : ¬ (100 : Int) < l[k].2.length := by have := of_decide_eq_false hq; omega
    (repeat (first | refine GX.doneD ?_ | refine GX.done ?_ | refine GQ.goNormal ?_ | refine GC.seq ?_ | refine GC.skip ?_ | refine GC.block ?_ | refine GC.exit ?_ | refine GC.ret ?_ | refine GQ.goExit ?_ | refine GQ.goRet ?_ | refine GQ.inNormal ?_ | refine GQ.inExit ?_ | refine GQ.inExitNe rfl ?_ | refine GQ.inRet ?_ | refine GQ.loopExit ?_ | refine GQ.loopRet ?_ | refine GQ.cutExit ?_ | refine GQ.cutRet ?_))
    refine GC.region (.pure 0 (.pure 1 (.pure 2 .done))) rfl ?_
    (repeat (refine GX.pure rfl ?_; first | refine GO.move rfl rfl rfl rfl ?_ | refine GO.assign rfl rfl rfl rfl ?_ | refine GO.add rfl rfl rfl rfl rfl (wrapIn (by dsimp only [InK]; omega)) ?_))
    (repeat (first | refine GX.doneD ?_ | refine GX.done ?_ | refine GQ.goNormal ?_ | refine GC.seq ?_ | refine GC.skip ?_ | refine GC.block ?_ | refine GC.exit ?_ | refine GC.ret ?_ | refine GQ.goExit ?_ | refine GQ.goRet ?_ | refine GQ.inNormal ?_ | refine GQ.inExit ?_ | refine GQ.inExitNe rfl ?_ | refine GQ.inRet ?_ | refine GQ.loopExit ?_ | refine GQ.loopRet ?_ | refine GQ.cutExit ?_ | refine GQ.cutRet ?_))
    refine GQ.again (k + 1) (sub_pick (l := [1, 6]) rfl) ⟨hlt, fun s hs => ?_, rfl⟩ (by omega)
    rw [List.take_succ_eq_append_getElem hlt] at hs
    rcases List.mem_append.1 hs with hs | hs
    · exact hpre2 s hs
    · simp at hs; subst hs; omega
  have hge : k = l.length := by have := of_decide_eq_false hc2; omega
  subst hge
  rw [List.take_length] at hpre2
  (repeat (first | refine GX.doneD ?_ | refine GX.done ?_ | refine GQ.goNormal ?_ | refine GC.seq ?_ | refine GC.skip ?_ | refine GC.block ?_ | refine GC.exit ?_ | refine GC.ret ?_ | refine GQ.goExit ?_ | refine GQ.goRet ?_ | refine GQ.inNormal ?_ | refine GQ.inExit ?_ | refine GQ.inExitNe rfl ?_ | refine GQ.inRet ?_ | refine GQ.loopExit ?_ | refine GQ.loopRet ?_ | refine GQ.cutExit ?_ | refine GQ.cutRet ?_))
  refine GC.region (.pure 0 .done) rfl ?_
  (repeat (refine GX.pure rfl ?_; refine GO.assign rfl rfl rfl rfl ?_))
  (repeat (first | refine GX.doneD ?_ | refine GX.done ?_ | refine GQ.goNormal ?_ | refine GC.seq ?_ | refine GC.skip ?_ | refine GC.block ?_ | refine GC.exit ?_ | refine GC.ret ?_ | refine GQ.goExit ?_ | refine GQ.goRet ?_ | refine GQ.inNormal ?_ | refine GQ.inExit ?_ | refine GQ.inExitNe rfl ?_ | refine GQ.inRet ?_ | refine GQ.loopExit ?_ | refine GQ.loopRet ?_ | refine GQ.cutExit ?_ | refine GQ.cutRet ?_))
  refine GQ.ret1 (by first | exact .inl rfl | exact .inr rfl) rfl rfl ?_
  exact ⟨⟨true, rfl, fun _ => ⟨by omega, by omega, hpre, hpre2⟩⟩, rfl⟩
set_option maxHeartbeats 2000000 in
theorem named_ret (l : List Bs) (a : Option Addr) (c : Nat) (w : World) (hN : StrsAt w a c l) (hl : ∀ s ∈ l, s.length < 2 ^ 40) (hn : l.length < 2 ^ 40) :
    Ret Tryz.prog 35 [.slice a l.length c].toArray w fun v w' => v = .bool (okNames l) ∧ Ext w w' := by
  refine Ret.enter Tryz.func35 rfl Tryz.ntmps35 rfl ?_
  (repeat (first | refine GX.doneD ?_ | refine GX.done ?_ | refine GQ.goNormal ?_ | refine GC.seq ?_ | refine GC.skip ?_ | refine GC.block ?_ | refine GC.exit ?_ | refine GC.ret ?_ | refine GQ.goExit ?_ | refine GQ.goRet ?_ | refine GQ.inNormal ?_ | refine GQ.inExit ?_ | refine GQ.inExitNe rfl ?_ | refine GQ.inRet ?_ | refine GQ.loopExit ?_ | refine GQ.loopRet ?_ | refine GQ.cutExit ?_ | refine GQ.cutRet ?_))
  refine GC.region (.pure 0 .done) rfl ?_
  (repeat (refine GX.pure rfl ?_; refine GO.assign rfl rfl rfl rfl ?_))
  (repeat (first | refine GX.doneD ?_ | refine GX.done ?_ | refine GQ.goNormal ?_ | refine GC.seq ?_ | refine GC.skip ?_ | refine GC.block ?_ | refine GC.exit ?_ | refine GC.ret ?_ | refine GQ.goExit ?_ | refine GQ.goRet ?_ | refine GQ.inNormal ?_ | refine GQ.inExit ?_ | refine GQ.inExitNe rfl ?_ | refine GQ.inRet ?_ | refine GQ.loopExit ?_ | refine GQ.loopRet ?_ | refine GQ.cutExit ?_ | refine GQ.cutRet ?_))
  refine GC.region (.pure 0 .done) rfl ?_
  (repeat (refine GX.pure rfl ?_; refine GO.assign rfl rfl rfl rfl ?_))
  (repeat (first | refine GX.doneD ?_ | refine GX.done ?_ | refine GQ.goNormal ?_ | refine GC.seq ?_ | refine GC.skip ?_ | refine GC.block ?_ | refine GC.exit ?_ | refine GC.ret ?_ | refine GQ.goExit ?_ | refine GQ.goRet ?_ | refine GQ.inNormal ?_ | refine GQ.inExit ?_ | refine GQ.inExitNe rfl ?_ | refine GQ.inRet ?_ | refine GQ.loopExit ?_ | refine GQ.loopRet ?_ | refine GQ.cutExit ?_ | refine GQ.cutRet ?_))
  refine GC.loop (X := Nat) (fun i => [(0, .slice a l.length c), (3, .int .i64 i)]) (fun i w' => i ≤ l.length ∧ okFrom [] (l.take i) = true ∧ Ext w w') (fun i => l.length - i) 0 (sub_pick (l := [0, 3]) rfl) ⟨Nat.zero_le _, by simp [okFrom], Mod.refl _⟩ ?_
  rintro i w1 ⟨hi, hok, hE⟩
  have hN1 := hN.ext hE
  (repeat (first | refine GX.doneD ?_ | refine GX.done ?_ | refine GQ.goNormal ?_ | refine GC.seq ?_ | refine GC.skip ?_ | refine GC.block ?_ | refine GC.exit ?_ | refine GC.ret ?_ | refine GQ.goExit ?_ | refine GQ.goRet ?_ | refine GQ.inNormal ?_ | refine GQ.inExit ?_ | refine GQ.inExitNe rfl ?_ | refine GQ.inRet ?_ | refine GQ.loopExit ?_ | refine GQ.loopRet ?_ | refine GQ.cutExit ?_ | refine GQ.cutRet ?_))
  refine GC.region (.pure 0 (.pure 1 (.pure 2 (.pure 3 .done)))) rfl ?_
  (repeat (refine GX.pure rfl ?_; first | refine GO.move rfl rfl rfl rfl ?_ | refine GO.lenSlice rfl rfl rfl rfl ?_ | refine GO.lss rfl rfl rfl rfl rfl ?_))
  (repeat (first | refine GX.doneD ?_ | refine GX.done ?_ | refine GQ.goNormal ?_ | refine GC.seq ?_ | refine GC.skip ?_ | refine GC.block ?_ | refine GC.exit ?_ | refine GC.ret ?_ | refine GQ.goExit ?_ | refine GQ.goRet ?_ | refine GQ.inNormal ?_ | refine GQ.inExit ?_ | refine GQ.inExitNe rfl ?_ | refine GQ.inRet ?_ | refine GQ.loopExit ?_ | refine GQ.loopRet ?_ | refine GQ.cutExit ?_ | refine GQ.cutRet ?_))
  refine GC.cond rfl (fun hc => ?_) (fun hc => ?_)
  · have hlt : i < l.length := by have := of_decide_eq_true hc; omega
    obtain ⟨b, o, rfl, hAt⟩ := strs_at hN1 hlt
    have hsz := size_strL l[i]
    have hsl := hl _ (List.getElem_mem hlt)
    (repeat (first | refine GX.doneD ?_ | refine GX.done ?_ | refine GQ.goNormal ?_ | refine GC.seq ?_ | refine GC.skip ?_ | refine GC.block ?_ | refine GC.exit ?_ | refine GC.ret ?_ | refine GQ.goExit ?_ | refine GQ.goRet ?_ | refine GQ.inNormal ?_ | refine GQ.inExit ?_ | refine GQ.inExitNe rfl ?_ | refine GQ.inRet ?_ | refine GQ.loopExit ?_ | refine GQ.loopRet ?_ | refine GQ.cutExit ?_ | refine GQ.cutRet ?_))
    refine GC.region (.pure 0 .done) rfl ?_
    (repeat (refine GX.pure rfl ?_; refine GO.assign rfl rfl rfl rfl ?_))
    (repeat (first | refine GX.doneD ?_ | refine GX.done ?_ | refine GQ.goNormal ?_ | refine GC.seq ?_ | refine GC.skip ?_ | refine GC.block ?_ | refine GC.exit ?_ | refine GC.ret ?_ | refine GQ.goExit ?_ | refine GQ.goRet ?_ | refine GQ.inNormal ?_ | refine GQ.inExit ?_ | refine GQ.inExitNe rfl ?_ | refine GQ.inRet ?_ | refine GQ.loopExit ?_ | refine GQ.loopRet ?_ | refine GQ.cutExit ?_ | refine GQ.cutRet ?_))
    refine GC.pick [0, 3, 4] rfl ?_
    refine GC.loop (X := Nat) (fun k => [(0, .slice (some ⟨b, o, none⟩) l.length c), (3, .int .i64 i), (4, .int .i64 k)]) (fun k w' => k ≤ l[i].length ∧ (l[i].take k).all smallB = true ∧ w1 = w') (fun k => l[i].length - k) 0 (sub_pick (l := [0, 3, 4]) rfl) ⟨Nat.zero_le _, by simp, rfl⟩ ?_
    rintro k _ ⟨hk, hall, rfl⟩
    (repeat (first | refine GX.doneD ?_ | refine GX.done ?_ | refine GQ.goNormal ?_ | refine GC.seq ?_ | refine GC.skip ?_ | refine GC.block ?_ | refine GC.exit ?_ | refine GC.ret ?_ | refine GQ.goExit ?_ | refine GQ.goRet ?_ | refine GQ.inNormal ?_ | refine GQ.inExit ?_ | refine GQ.inExitNe rfl ?_ | refine GQ.inRet ?_ | refine GQ.loopExit ?_ | refine GQ.loopRet ?_ | refine GQ.cutExit ?_ | refine GQ.cutRet ?_))
    refine GC.region (.pure 0 (.pure 1 (.pure 2 (.pure 3 (.eff 4 (.pure 5 (.pure 6 .done))))))) rfl ?_
    (repeat (refine GX.pure rfl ?_; first | refine GO.move rfl rfl rfl rfl ?_ | refine GO.lenStr rfl rfl rfl rfl ?_ | refine GO.lss rfl rfl rfl rfl rfl ?_))
    refine GX.pure rfl (GO.indexAddr rfl rfl rfl rfl (by omega) (by omega) rfl ?_)
    (first | (refine GX.eff rfl ?_; first | refine GO.load1 (hAt (i : Int) (by omega)) rfl rfl rfl ?_ | refine GO.loadN (hAt (i : Int) (by omega)) rfl rfl rfl rfl ?_) | (refine GX.read rfl ?_; first | refine GO.load1R (by assumption) (fun _ hS_ => At.mod (hAt (i : Int) (by omega)) hS_ (by simp)) rfl rfl rfl ?_ | refine GO.loadNR (by assumption) (fun _ hS_ => At.mod (hAt (i : Int) (by omega)) hS_ (by simp)) rfl rfl rfl rfl ?_))
    (repeat (refine GX.pure rfl ?_; first | refine GO.move rfl rfl rfl rfl ?_ | refine GO.lenStr rfl rfl rfl rfl ?_ | refine GO.lss rfl rfl rfl rfl rfl ?_))
    (repeat (first | refine GX.doneD ?_ | refine GX.done ?_ | refine GQ.goNormal ?_ | refine GC.seq ?_ | refine GC.skip ?_ | refine GC.block ?_ | refine GC.exit ?_ | refine GC.ret ?_ | refine GQ.goExit ?_ | refine GQ.goRet ?_ | refine GQ.inNormal ?_ | refine GQ.inExit ?_ | refine GQ.inExitNe rfl ?_ | refine GQ.inRet ?_ | refine GQ.loopExit ?_ | refine GQ.loopRet ?_ | refine GQ.cutExit ?_ | refine GQ.cutRet ?_))
    refine GC.cond rfl (fun hc2 => ?_) (fun hc2 => ?_)
    · have hlt2 : k < l[i].length := by have := of_decide_eq_true hc2; omega
      (repeat (first | refine GX.doneD ?_ | refine GX.done ?_ | refine GQ.goNormal ?_ | refine GC.seq ?_ | refine GC.skip ?_ | refine GC.block ?_ | refine GC.exit ?_ | refine GC.ret ?_ | refine GQ.goExit ?_ | refine GQ.goRet ?_ | refine GQ.inNormal ?_ | refine GQ.inExit ?_ | refine GQ.inExitNe rfl ?_ | refine GQ.inRet ?_ | refine GQ.loopExit ?_ | refine GQ.loopRet ?_ | refine GQ.cutExit ?_ | refine GQ.cutRet ?_))
      refine GC.region (.pure 0 (.pure 1 (.pure 2 (.eff 3 (.pure 4 (.pure 5 (.eff 6 (.pure 7 .done)))))))) rfl ?_
      (repeat (refine GX.pure rfl ?_; first | refine GO.move rfl rfl rfl rfl ?_ | refine GO.not rfl rfl rfl rfl ?_))
      refine GX.pure rfl (GO.indexAddr rfl rfl rfl rfl (by omega) (by omega) rfl ?_)
      (first | (refine GX.eff rfl ?_; first | refine GO.load1 (hAt (i : Int) (by omega)) rfl rfl rfl ?_ | refine GO.loadN (hAt (i : Int) (by omega)) rfl rfl rfl rfl ?_) | (refine GX.read rfl ?_; first | refine GO.load1R (by assumption) (fun _ hS_ => At.mod (hAt (i : Int) (by omega)) hS_ (by simp)) rfl rfl rfl ?_ | refine GO.loadNR (by assumption) (fun _ hS_ => At.mod (hAt (i : Int) (by omega)) hS_ (by simp)) rfl rfl rfl rfl ?_))
      (repeat (refine GX.pure rfl ?_; first | refine GO.move rfl rfl rfl rfl ?_ | refine GO.not rfl rfl rfl rfl ?_))
      refine GX.pure rfl (GO.indexStr rfl rfl rfl rfl (by omega) (u := l[i][k]) (by simp [hlt2]) rfl ?_)
      (repeat (refine GX.pure rfl ?_; first | refine GO.move rfl rfl rfl rfl ?_ | refine GO.not rfl rfl rfl rfl ?_))
      (refine GX.eff rfl ?_; refine GO.callL rfl rfl rfl rfl rfl (lsmall_ret l[i][k] _) ?_)
      rintro v w' ⟨rfl, rfl⟩
      refine ⟨fun _ h => by first | trivial | exact Mod.trans h (Ext.mod (by assumption)), ?_⟩
      (repeat (refine GX.pure rfl ?_; first | refine GO.move rfl rfl rfl rfl ?_ | refine GO.not rfl rfl rfl rfl ?_))
      (repeat (first | refine GX.doneD ?_ | refine GX.done ?_ | refine GQ.goNormal ?_ | refine GC.seq ?_ | refine GC.skip ?_ | refine GC.block ?_ | refine GC.exit ?_ | refine GC.ret ?_ | refine GQ.goExit ?_ | refine GQ.goRet ?_ | refine GQ.inNormal ?_ | refine GQ.inExit ?_ | refine GQ.inExitNe rfl ?_ | refine GQ.inRet ?_ | refine GQ.loopExit ?_ | refine GQ.loopRet ?_ | refine GQ.cutExit ?_ | refine GQ.cutRet ?_))
      refine GC.cond rfl (fun hq => ?_) (fun hq => ?_)
      · have hq' : smallB l[i][k] = false := by simpa using hq
        (repeat (first | refine GX.doneD ?_ | refine GX.done ?_ | refine GQ.goNormal ?_ | refine GC.seq ?_ | refine GC.skip ?_ | refine GC.block ?_ | refine GC.exit ?_ | refine GC.ret ?_ | refine GQ.goExit ?_ | refine GQ.goRet ?_ | refine GQ.inNormal ?_ | refine GQ.inExit ?_ | refine GQ.inExitNe rfl ?_ | refine GQ.inRet ?_ | refine GQ.loopExit ?_ | refine GQ.loopRet ?_ | refine GQ.cutExit ?_ | refine GQ.cutRet ?_))
        refine GC.region (.pure 0 .done) rfl ?_
        (repeat (refine GX.pure rfl ?_; refine GO.assign rfl rfl rfl rfl ?_))
        (repeat (first | refine GX.doneD ?_ | refine GX.done ?_ | refine GQ.goNormal ?_ | refine GC.seq ?_ | refine GC.skip ?_ | refine GC.block ?_ | refine GC.exit ?_ | refine GC.ret ?_ | refine GQ.goExit ?_ | refine GQ.goRet ?_ | refine GQ.inNormal ?_ | refine GQ.inExit ?_ | refine GQ.inExitNe rfl ?_ | refine GQ.inRet ?_ | refine GQ.loopExit ?_ | refine GQ.loopRet ?_ | refine GQ.cutExit ?_ | refine GQ.cutRet ?_))
        refine GQ.ret1 (by first | exact .inl rfl | exact .inr rfl) rfl rfl ?_
        exact ⟨by rw [ok_bad hlt (.inl (name_bad hlt2 hq'))], hE⟩
      have hq' : smallB l[i][k] = true := by simpa using hq
      (repeat (first | refine GX.doneD ?_ | refine GX.done ?_ | refine GQ.goNormal ?_ | refine GC.seq ?_ | refine GC.skip ?_ | refine GC.block ?_ | refine GC.exit ?_ | refine GC.ret ?_ | refine GQ.goExit ?_ | refine GQ.goRet ?_ | refine GQ.inNormal ?_ | refine GQ.inExit ?_ | refine GQ.inExitNe rfl ?_ | refine GQ.inRet ?_ | refine GQ.loopExit ?_ | refine GQ.loopRet ?_ | refine GQ.cutExit ?_ | refine GQ.cutRet ?_))
      refine GC.region (.pure 0 (.pure 1 (.pure 2 .done))) rfl ?_
      (repeat (refine GX.pure rfl ?_; first | refine GO.move rfl rfl rfl rfl ?_ | refine GO.assign rfl rfl rfl rfl ?_ | refine GO.add rfl rfl rfl rfl rfl (wrapIn (by dsimp only [InK]; omega)) ?_))
      (repeat (first | refine GX.doneD ?_ | refine GX.done ?_ | refine GQ.goNormal ?_ | refine GC.seq ?_ | refine GC.skip ?_ | refine GC.block ?_ | refine GC.exit ?_ | refine GC.ret ?_ | refine GQ.goExit ?_ | refine GQ.goRet ?_ | refine GQ.inNormal ?_ | refine GQ.inExit ?_ | refine GQ.inExitNe rfl ?_ | refine GQ.inRet ?_ | refine GQ.loopExit ?_ | refine GQ.loopRet ?_ | refine GQ.cutExit ?_ | refine GQ.cutRet ?_))
      exact GQ.again (k + 1) (sub_pick (l := [0, 3, 4]) rfl) ⟨hlt2, all_take hlt2 hall hq', rfl⟩ (by omega)
    have hge : k = l[i].length := by have := of_decide_eq_false hc2; omega
    subst hge
    rw [List.take_length] at hall
    (repeat (first | refine GX.doneD ?_ | refine GX.done ?_ | refine GQ.goNormal ?_ | refine GC.seq ?_ | refine GC.skip ?_ | refine GC.block ?_ | refine GC.exit ?_ | refine GC.ret ?_ | refine GQ.goExit ?_ | refine GQ.goRet ?_ | refine GQ.inNormal ?_ | refine GQ.inExit ?_ | refine GQ.inExitNe rfl ?_ | refine GQ.inRet ?_ | refine GQ.loopExit ?_ | refine GQ.loopRet ?_ | refine GQ.cutExit ?_ | refine GQ.cutRet ?_))
    refine GC.region (.pure 0 .done) rfl ?_
    (repeat (refine GX.pure rfl ?_; refine GO.assign rfl rfl rfl rfl ?_))
    (repeat (first | refine GX.doneD ?_ | refine GX.done ?_ | refine GQ.goNormal ?_ | refine GC.seq ?_ | refine GC.skip ?_ | refine GC.block ?_ | refine GC.exit ?_ | refine GC.ret ?_ | refine GQ.goExit ?_ | refine GQ.goRet ?_ | refine GQ.inNormal ?_ | refine GQ.inExit ?_ | refine GQ.inExitNe rfl ?_ | refine GQ.inRet ?_ | refine GQ.loopExit ?_ | refine GQ.loopRet ?_ | refine GQ.cutExit ?_ | refine GQ.cutRet ?_))
    refine GC.pick [0, 3, 5] rfl ?_
    refine GC.loop (X := Nat) (fun k => [(0, .slice (some ⟨b, o, none⟩) l.length c), (3, .int .i64 i), (5, .int .i64 k)]) (fun k w' => k ≤ i ∧ l[i] ∉ l.take k ∧ Ext w1 w') (fun k => i - k) 0 (sub_pick (l := [0, 3, 5]) rfl) ⟨Nat.zero_le _, by simp, Mod.refl _⟩ ?_
    rintro k w2 ⟨hk, hno, hE2⟩
    have hN2 := hN1.ext hE2
    have hAt' : ∀ j : Int, j.toNat = i → At w2 b (o + j.toNat * 1) [str l[i]] := fun j hj => (hAt j hj).ext hE2
    (repeat (first | refine GX.doneD ?_ | refine GX.done ?_ | refine GQ.goNormal ?_ | refine GC.seq ?_ | refine GC.skip ?_ | refine GC.block ?_ | refine GC.exit ?_ | refine GC.ret ?_ | refine GQ.goExit ?_ | refine GQ.goRet ?_ | refine GQ.inNormal ?_ | refine GQ.inExit ?_ | refine GQ.inExitNe rfl ?_ | refine GQ.inRet ?_ | refine GQ.loopExit ?_ | refine GQ.loopRet ?_ | refine GQ.cutExit ?_ | refine GQ.cutRet ?_))
    refine GC.region (.pure 0 (.pure 1 (.pure 2 .done))) rfl ?_
    (repeat (refine GX.pure rfl ?_; first | refine GO.move rfl rfl rfl rfl ?_ | refine GO.lss rfl rfl rfl rfl rfl ?_))
    (repeat (first | refine GX.doneD ?_ | refine GX.done ?_ | refine GQ.goNormal ?_ | refine GC.seq ?_ | refine GC.skip ?_ | refine GC.block ?_ | refine GC.exit ?_ | refine GC.ret ?_ | refine GQ.goExit ?_ | refine GQ.goRet ?_ | refine GQ.inNormal ?_ | refine GQ.inExit ?_ | refine GQ.inExitNe rfl ?_ | refine GQ.inRet ?_ | refine GQ.loopExit ?_ | refine GQ.loopRet ?_ | refine GQ.cutExit ?_ | refine GQ.cutRet ?_))
    refine GC.cond rfl (fun hc3 => ?_) (fun hc3 => ?_)
    · have hlt3 : k < i := by have := of_decide_eq_true hc3; omega
      have hlt4 : k < l.length := by omega
      obtain ⟨b2, o2, he2, hAt2⟩ := strs_at hN2 hlt4
      cases he2
      (repeat (first | refine GX.doneD ?_ | refine GX.done ?_ | refine GQ.goNormal ?_ | refine GC.seq ?_ | refine GC.skip ?_ | refine GC.block ?_ | refine GC.exit ?_ | refine GC.ret ?_ | refine GQ.goExit ?_ | refine GQ.goRet ?_ | refine GQ.inNormal ?_ | refine GQ.inExit ?_ | refine GQ.inExitNe rfl ?_ | refine GQ.inRet ?_ | refine GQ.loopExit ?_ | refine GQ.loopRet ?_ | refine GQ.cutExit ?_ | refine GQ.cutRet ?_))
      refine GC.regionD (.pure 0 (.pure 1 (.pure 2 (.pure 4 (.pure 5 (.pure 6 (.read 3 (.read 7 (.pure 8 .done))))))))) (fun _ => False) mixed (by kernel_rfl) (by kernel_rfl) ?_
      intro w3 _ hE3
      have hS : Mod (fun _ => False) w2 w3 := hE3
      (repeat (refine GX.pure rfl ?_; first | refine GO.move rfl rfl rfl rfl ?_ | refine GO.strEql rfl rfl rfl rfl rfl ?_))
      refine GX.pure rfl (GO.indexAddr rfl rfl rfl rfl (by omega) (by omega) rfl ?_)
      (repeat (refine GX.pure rfl ?_; first | refine GO.move rfl rfl rfl rfl ?_ | refine GO.strEql rfl rfl rfl rfl rfl ?_))
      refine GX.pure rfl (GO.indexAddr rfl rfl rfl rfl (by omega) (by omega) rfl ?_)
      (first | (refine GX.eff rfl ?_; first | refine GO.load1 (hAt2 (k : Int) (by omega)) rfl rfl rfl ?_ | refine GO.loadN (hAt2 (k : Int) (by omega)) rfl rfl rfl rfl ?_) | (refine GX.read rfl ?_; first | refine GO.load1R (by assumption) (fun _ hS_ => At.mod (hAt2 (k : Int) (by omega)) hS_ (by simp)) rfl rfl rfl ?_ | refine GO.loadNR (by assumption) (fun _ hS_ => At.mod (hAt2 (k : Int) (by omega)) hS_ (by simp)) rfl rfl rfl rfl ?_))
      (repeat (refine GX.pure rfl ?_; first | refine GO.move rfl rfl rfl rfl ?_ | refine GO.strEql rfl rfl rfl rfl rfl ?_))
      (first | (refine GX.eff rfl ?_; first | refine GO.load1 (hAt' (i : Int) (by omega)) rfl rfl rfl ?_ | refine GO.loadN (hAt' (i : Int) (by omega)) rfl rfl rfl rfl ?_) | (refine GX.read rfl ?_; first | refine GO.load1R (by assumption) (fun _ hS_ => At.mod (hAt' (i : Int) (by omega)) hS_ (by simp)) rfl rfl rfl ?_ | refine GO.loadNR (by assumption) (fun _ hS_ => At.mod (hAt' (i : Int) (by omega)) hS_ (by simp)) rfl rfl rfl rfl ?_))
      refine GX.pure rfl (strEq l[k] l[i] rfl rfl rfl rfl rfl ?_)
      (repeat (refine GX.pure rfl ?_; first | refine GO.move rfl rfl rfl rfl ?_ | refine GO.strEql rfl rfl rfl rfl rfl ?_))
      (repeat (first | refine GX.doneD ?_ | refine GX.done ?_ | refine GQ.goNormal ?_ | refine GC.seq ?_ | refine GC.skip ?_ | refine GC.block ?_ | refine GC.exit ?_ | refine GC.ret ?_ | refine GQ.goExit ?_ | refine GQ.goRet ?_ | refine GQ.inNormal ?_ | refine GQ.inExit ?_ | refine GQ.inExitNe rfl ?_ | refine GQ.inRet ?_ | refine GQ.loopExit ?_ | refine GQ.loopRet ?_ | refine GQ.cutExit ?_ | refine GQ.cutRet ?_))
      refine GC.cond rfl (fun hq => ?_) (fun hq => ?_)
      · have hq' : l[k] = l[i] := of_decide_eq_true hq
        (repeat (first | refine GX.doneD ?_ | refine GX.done ?_ | refine GQ.goNormal ?_ | refine GC.seq ?_ | refine GC.skip ?_ | refine GC.block ?_ | refine GC.exit ?_ | refine GC.ret ?_ | refine GQ.goExit ?_ | refine GQ.goRet ?_ | refine GQ.inNormal ?_ | refine GQ.inExit ?_ | refine GQ.inExitNe rfl ?_ | refine GQ.inRet ?_ | refine GQ.loopExit ?_ | refine GQ.loopRet ?_ | refine GQ.cutExit ?_ | refine GQ.cutRet ?_))
        refine GC.region (.pure 0 .done) rfl ?_
        (repeat (refine GX.pure rfl ?_; refine GO.assign rfl rfl rfl rfl ?_))
        (repeat (first | refine GX.doneD ?_ | refine GX.done ?_ | refine GQ.goNormal ?_ | refine GC.seq ?_ | refine GC.skip ?_ | refine GC.block ?_ | refine GC.exit ?_ | refine GC.ret ?_ | refine GQ.goExit ?_ | refine GQ.goRet ?_ | refine GQ.inNormal ?_ | refine GQ.inExit ?_ | refine GQ.inExitNe rfl ?_ | refine GQ.inRet ?_ | refine GQ.loopExit ?_ | refine GQ.loopRet ?_ | refine GQ.cutExit ?_ | refine GQ.cutRet ?_))
        refine GQ.ret1 (by first | exact .inl rfl | exact .inr rfl) rfl rfl ?_
        refine ⟨?_, (hE.trans hE2).trans hE3⟩
        have : l[i] ∈ l.take i := by
          rw [← hq']
          exact List.mem_take_iff_getElem.2 ⟨k, by omega, rfl⟩
        rw [ok_bad hlt (.inr this)]
      have hq' : ¬ l[k] = l[i] := of_decide_eq_false hq
      (repeat (first | refine GX.doneD ?_ | refine GX.done ?_ | refine GQ.goNormal ?_ | refine GC.seq ?_ | refine GC.skip ?_ | refine GC.block ?_ | refine GC.exit ?_ | refine GC.ret ?_ | refine GQ.goExit ?_ | refine GQ.goRet ?_ | refine GQ.inNormal ?_ | refine GQ.inExit ?_ | refine GQ.inExitNe rfl ?_ | refine GQ.inRet ?_ | refine GQ.loopExit ?_ | refine GQ.loopRet ?_ | refine GQ.cutExit ?_ | refine GQ.cutRet ?_))
      refine GC.region (.pure 0 (.pure 1 (.pure 2 .done))) rfl ?_
      (repeat (refine GX.pure rfl ?_; first | refine GO.move rfl rfl rfl rfl ?_ | refine GO.assign rfl rfl rfl rfl ?_ | refine GO.add rfl rfl rfl rfl rfl (wrapIn (by dsimp only [InK]; omega)) ?_))
      (repeat (first | refine GX.doneD ?_ | refine GX.done ?_ | refine GQ.goNormal ?_ | refine GC.seq ?_ | refine GC.skip ?_ | refine GC.block ?_ | refine GC.exit ?_ | refine GC.ret ?_ | refine GQ.goExit ?_ | refine GQ.goRet ?_ | refine GQ.inNormal ?_ | refine GQ.inExit ?_ | refine GQ.inExitNe rfl ?_ | refine GQ.inRet ?_ | refine GQ.loopExit ?_ | refine GQ.loopRet ?_ | refine GQ.cutExit ?_ | refine GQ.cutRet ?_))
      refine GQ.again (k + 1) (sub_pick (l := [0, 3, 5]) rfl) ⟨hlt3, ?_, hE2.trans hE3⟩ (by omega)
      rw [List.take_succ_eq_append_getElem hlt4]
      intro h
      rcases List.mem_append.1 h with h | h
      · exact hno h
      · simp at h
        exact hq' h.symm
    have hge : k = i := by have := of_decide_eq_false hc3; omega
    subst hge
    (repeat (first | refine GX.doneD ?_ | refine GX.done ?_ | refine GQ.goNormal ?_ | refine GC.seq ?_ | refine GC.skip ?_ | refine GC.block ?_ | refine GC.exit ?_ | refine GC.ret ?_ | refine GQ.goExit ?_ | refine GQ.goRet ?_ | refine GQ.inNormal ?_ | refine GQ.inExit ?_ | refine GQ.inExitNe rfl ?_ | refine GQ.inRet ?_ | refine GQ.loopExit ?_ | refine GQ.loopRet ?_ | refine GQ.cutExit ?_ | refine GQ.cutRet ?_))
    refine GC.region (.pure 0 (.pure 1 (.pure 2 (.eff 3 (.pure 4 (.pure 5 (.pure 6 (.pure 7 (.pure 8 (.pure 9 (.eff 10 (.pure 11 (.pure 12 (.pure 13 .done)))))))))))))) rfl ?_
    (repeat (refine GX.pure rfl ?_; first | refine GO.move rfl rfl rfl rfl ?_ | refine GO.lenStr rfl rfl rfl rfl ?_ | refine GO.lss rfl rfl rfl rfl rfl ?_ | refine GO.gtr rfl rfl rfl rfl rfl ?_ | refine GO.pickT rfl rfl rfl rfl rfl ?_ | refine GO.pickF rfl rfl rfl rfl rfl ?_ | refine GO.skip (.inl rfl) rfl rfl ?_))
    refine GX.pure rfl (GO.indexAddr rfl rfl rfl rfl (by omega) (by omega) rfl ?_)
    (first | (refine GX.eff rfl ?_; first | refine GO.load1 (hAt' (k : Int) (by omega)) rfl rfl rfl ?_ | refine GO.loadN (hAt' (k : Int) (by omega)) rfl rfl rfl rfl ?_) | (refine GX.read rfl ?_; first | refine GO.load1R (by assumption) (fun _ hS_ => At.mod (hAt' (k : Int) (by omega)) hS_ (by simp)) rfl rfl rfl ?_ | refine GO.loadNR (by assumption) (fun _ hS_ => At.mod (hAt' (k : Int) (by omega)) hS_ (by simp)) rfl rfl rfl rfl ?_))
    (repeat (refine GX.pure rfl ?_; first | refine GO.move rfl rfl rfl rfl ?_ | refine GO.lenStr rfl rfl rfl rfl ?_ | refine GO.lss rfl rfl rfl rfl rfl ?_ | refine GO.gtr rfl rfl rfl rfl rfl ?_ | refine GO.pickT rfl rfl rfl rfl rfl ?_ | refine GO.pickF rfl rfl rfl rfl rfl ?_ | refine GO.skip (.inl rfl) rfl rfl ?_))
    refine GX.case 49 rfl (fun h1 => ?_) (fun h1 => ?_)
    · (repeat (first | (refine GX.pure rfl ?_; first | refine GO.move rfl rfl rfl rfl ?_ | refine GO.lenStr rfl rfl rfl rfl ?_ | refine GO.lss rfl rfl rfl rfl rfl ?_ | refine GO.gtr rfl rfl rfl rfl rfl ?_ | refine GO.pickT rfl rfl rfl rfl rfl ?_ | refine GO.pickF rfl rfl rfl rfl rfl ?_ | refine GO.skip (.inl rfl) rfl rfl ?_) | (refine GX.eff rfl ?_; refine GO.skip (.inr rfl) rfl rfl ?_) | (refine GX.read rfl ?_; refine GO.skipRead (by assumption) rfl rfl ?_)))
      (repeat (first | refine GX.doneD ?_ | refine GX.done ?_ | refine GQ.goNormal ?_ | refine GC.seq ?_ | refine GC.skip ?_ | refine GC.block ?_ | refine GC.exit ?_ | refine GC.ret ?_ | refine GQ.goExit ?_ | refine GQ.goRet ?_ | refine GQ.inNormal ?_ | refine GQ.inExit ?_ | refine GQ.inExitNe rfl ?_ | refine GQ.inRet ?_ | refine GQ.loopExit ?_ | refine GQ.loopRet ?_ | refine GQ.cutExit ?_ | refine GQ.cutRet ?_))
      refine GC.cond rfl (fun hq => ?_) (fun hq => ?_)
      rotate_left
      · cases hq
      have h1' := of_decide_eq_true h1
      (repeat (first | refine GX.doneD ?_ | refine GX.done ?_ | refine GQ.goNormal ?_ | refine GC.seq ?_ | refine GC.skip ?_ | refine GC.block ?_ | refine GC.exit ?_ | refine GC.ret ?_ | refine GQ.goExit ?_ | refine GQ.goRet ?_ | refine GQ.inNormal ?_ | refine GQ.inExit ?_ | refine GQ.inExitNe rfl ?_ | refine GQ.inRet ?_ | refine GQ.loopExit ?_ | refine GQ.loopRet ?_ | refine GQ.cutExit ?_ | refine GQ.cutRet ?_))
      refine GC.region (.pure 0 .done) rfl ?_
      (repeat (refine GX.pure rfl ?_; refine GO.assign rfl rfl rfl rfl ?_))
      (repeat (first | refine GX.doneD ?_ | refine GX.done ?_ | refine GQ.goNormal ?_ | refine GC.seq ?_ | refine GC.skip ?_ | refine GC.block ?_ | refine GC.exit ?_ | refine GC.ret ?_ | refine GQ.goExit ?_ | refine GQ.goRet ?_ | refine GQ.inNormal ?_ | refine GQ.inExit ?_ | refine GQ.inExitNe rfl ?_ | refine GQ.inRet ?_ | refine GQ.loopExit ?_ | refine GQ.loopRet ?_ | refine GQ.cutExit ?_ | refine GQ.cutRet ?_))
      refine GQ.ret1 (by first | exact .inl rfl | exact .inr rfl) rfl rfl ?_
      refine ⟨?_, hE.trans hE2⟩
      have : okName l[k] = false := by
        simp only [okName, Bool.and_eq_false_iff, decide_eq_false_iff_not]
        omega
      rw [ok_bad hlt (.inl this)]
    have h1' := of_decide_eq_false h1
    (repeat (refine GX.pure rfl ?_; first | refine GO.move rfl rfl rfl rfl ?_ | refine GO.lenStr rfl rfl rfl rfl ?_ | refine GO.lss rfl rfl rfl rfl rfl ?_ | refine GO.gtr rfl rfl rfl rfl rfl ?_ | refine GO.pickT rfl rfl rfl rfl rfl ?_ | refine GO.pickF rfl rfl rfl rfl rfl ?_ | refine GO.skip (.inl rfl) rfl rfl ?_))
    refine GX.pure rfl (GO.indexAddr rfl rfl rfl rfl (by omega) (by omega) rfl ?_)
    (first | (refine GX.eff rfl ?_; first | refine GO.load1 (hAt' (k : Int) (by omega)) rfl rfl rfl ?_ | refine GO.loadN (hAt' (k : Int) (by omega)) rfl rfl rfl rfl ?_) | (refine GX.read rfl ?_; first | refine GO.load1R (by assumption) (fun _ hS_ => At.mod (hAt' (k : Int) (by omega)) hS_ (by simp)) rfl rfl rfl ?_ | refine GO.loadNR (by assumption) (fun _ hS_ => At.mod (hAt' (k : Int) (by omega)) hS_ (by simp)) rfl rfl rfl rfl ?_))
    (repeat (refine GX.pure rfl ?_; first | refine GO.move rfl rfl rfl rfl ?_ | refine GO.lenStr rfl rfl rfl rfl ?_ | refine GO.lss rfl rfl rfl rfl rfl ?_ | refine GO.gtr rfl rfl rfl rfl rfl ?_ | refine GO.pickT rfl rfl rfl rfl rfl ?_ | refine GO.pickF rfl rfl rfl rfl rfl ?_ | refine GO.skip (.inl rfl) rfl rfl ?_))
    (repeat (first | refine GX.doneD ?_ | refine GX.done ?_ | refine GQ.goNormal ?_ | refine GC.seq ?_ | refine GC.skip ?_ | refine GC.block ?_ | refine GC.exit ?_ | refine GC.ret ?_ | refine GQ.goExit ?_ | refine GQ.goRet ?_ | refine GQ.inNormal ?_ | refine GQ.inExit ?_ | refine GQ.inExitNe rfl ?_ | refine GQ.inRet ?_ | refine GQ.loopExit ?_ | refine GQ.loopRet ?_ | refine GQ.cutExit ?_ | refine GQ.cutRet ?_))
    refine GC.cond rfl (fun hq => ?_) (fun hq => ?_)
    · have h2' := of_decide_eq_true hq
      (repeat (first | refine GX.doneD ?_ | refine GX.done ?_ | refine GQ.goNormal ?_ | refine GC.seq ?_ | refine GC.skip ?_ | refine GC.block ?_ | refine GC.exit ?_ | refine GC.ret ?_ | refine GQ.goExit ?_ | refine GQ.goRet ?_ | refine GQ.inNormal ?_ | refine GQ.inExit ?_ | refine GQ.inExitNe rfl ?_ | refine GQ.inRet ?_ | refine GQ.loopExit ?_ | refine GQ.loopRet ?_ | refine GQ.cutExit ?_ | refine GQ.cutRet ?_))
      refine GC.region (.pure 0 .done) rfl ?_
      (repeat (refine GX.pure rfl ?_; refine GO.assign rfl rfl rfl rfl ?_))
      (repeat (first | refine GX.doneD ?_ | refine GX.done ?_ | refine GQ.goNormal ?_ | refine GC.seq ?_ | refine GC.skip ?_ | refine GC.block ?_ | refine GC.exit ?_ | refine GC.ret ?_ | refine GQ.goExit ?_ | refine GQ.goRet ?_ | refine GQ.inNormal ?_ | refine GQ.inExit ?_ | refine GQ.inExitNe rfl ?_ | refine GQ.inRet ?_ | refine GQ.loopExit ?_ | refine GQ.loopRet ?_ | refine GQ.cutExit ?_ | refine GQ.cutRet ?_))
      refine GQ.ret1 (by first | exact .inl rfl | exact .inr rfl) rfl rfl ?_
      refine ⟨?_, hE.trans hE2⟩
      have : okName l[k] = false := by
        simp only [okName, Bool.and_eq_false_iff, decide_eq_false_iff_not]
        omega
      rw [ok_bad hlt (.inl this)]
    have h2' := of_decide_eq_false hq
    (repeat (first | refine GX.doneD ?_ | refine GX.done ?_ | refine GQ.goNormal ?_ | refine GC.seq ?_ | refine GC.skip ?_ | refine GC.block ?_ | refine GC.exit ?_ | refine GC.ret ?_ | refine GQ.goExit ?_ | refine GQ.goRet ?_ | refine GQ.inNormal ?_ | refine GQ.inExit ?_ | refine GQ.inExitNe rfl ?_ | refine GQ.inRet ?_ | refine GQ.loopExit ?_ | refine GQ.loopRet ?_ | refine GQ.cutExit ?_ | refine GQ.cutRet ?_))
    refine GC.region (.pure 0 (.pure 1 (.pure 2 .done))) rfl ?_
    (repeat (refine GX.pure rfl ?_; first | refine GO.move rfl rfl rfl rfl ?_ | refine GO.assign rfl rfl rfl rfl ?_ | refine GO.add rfl rfl rfl rfl rfl (wrapIn (by dsimp only [InK]; omega)) ?_))
    (repeat (first | refine GX.doneD ?_ | refine GX.done ?_ | refine GQ.goNormal ?_ | refine GC.seq ?_ | refine GC.skip ?_ | refine GC.block ?_ | refine GC.exit ?_ | refine GC.ret ?_ | refine GQ.goExit ?_ | refine GQ.goRet ?_ | refine GQ.inNormal ?_ | refine GQ.inExit ?_ | refine GQ.inExitNe rfl ?_ | refine GQ.inRet ?_ | refine GQ.loopExit ?_ | refine GQ.loopRet ?_ | refine GQ.cutExit ?_ | refine GQ.cutRet ?_))
    refine GQ.again (k + 1) (sub_pick (l := [0, 3]) rfl) ⟨hlt, ok_step hlt hok ?_ hno, hE.trans hE2⟩ (by omega)
    simp only [okName, hall, Bool.and_true, Bool.and_eq_true, decide_eq_true_eq]
    omega
  have hge : i = l.length := by have := of_decide_eq_false hc; omega
  subst hge
  rw [List.take_length] at hok
  (repeat (first | refine GX.doneD ?_ | refine GX.done ?_ | refine GQ.goNormal ?_ | refine GC.seq ?_ | refine GC.skip ?_ | refine GC.block ?_ | refine GC.exit ?_ | refine GC.ret ?_ | refine GQ.goExit ?_ | refine GQ.goRet ?_ | refine GQ.inNormal ?_ | refine GQ.inExit ?_ | refine GQ.inExitNe rfl ?_ | refine GQ.inRet ?_ | refine GQ.loopExit ?_ | refine GQ.loopRet ?_ | refine GQ.cutExit ?_ | refine GQ.cutRet ?_))
  refine GC.region (.pure 0 (.pure 1 (.pure 2 (.pure 3 .done)))) rfl ?_
  (repeat (refine GX.pure rfl ?_; first | refine GO.move rfl rfl rfl rfl ?_ | refine GO.assign rfl rfl rfl rfl ?_ | refine GO.lenSlice rfl rfl rfl rfl ?_ | refine GO.leq rfl rfl rfl rfl rfl ?_))
  (repeat (first | refine GX.doneD ?_ | refine GX.done ?_ | refine GQ.goNormal ?_ | refine GC.seq ?_ | refine GC.skip ?_ | refine GC.block ?_ | refine GC.exit ?_ | refine GC.ret ?_ | refine GQ.goExit ?_ | refine GQ.goRet ?_ | refine GQ.inNormal ?_ | refine GQ.inExit ?_ | refine GQ.inExitNe rfl ?_ | refine GQ.inRet ?_ | refine GQ.loopExit ?_ | refine GQ.loopRet ?_ | refine GQ.cutExit ?_ | refine GQ.cutRet ?_))
  refine GQ.ret1 (by first | exact .inl rfl | exact .inr rfl) rfl rfl ?_
  refine ⟨congrArg Value.bool ?_, hE⟩
  simp only [okNames, hok, Bool.true_and]
  rw [decide_eq_decide]
  omega
theorem named_ret' (l : List Bs) (n : Nat) (h : l.length = n) (a : Option Addr) (c : Nat) (w : World) (hN : StrsAt w a c l) (hl : ∀ s ∈ l, s.length < 2 ^ 40) (hn : l.length < 2 ^ 40) :
    Ret Tryz.prog 35 [.slice a n c].toArray w fun v w' => v = .bool (okNames l) ∧ Ext w w' := by
  subst h
  exact named_ret l a c w hN hl hn
end Go.Proofs.YtfoabgljfikklaaGreatDoor.V.Ky
