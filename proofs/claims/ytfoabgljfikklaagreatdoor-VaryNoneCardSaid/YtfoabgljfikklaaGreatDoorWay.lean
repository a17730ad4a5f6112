/-
  What vary.Key computes: the law's variant. Conditions: lengths stay below 2^30.
-/
import Derived.Test.YtfoabgljfikklaaGreatDoorWax
set_option linter.unusedVariables false
set_option linter.unusedSimpArgs false
namespace Go.Proofs.YtfoabgljfikklaaGreatDoor.V.Ky
open Go.RowKit
attribute [local irreducible] GX GO
section
variable {P : Program} {ops : Array Oper} {Q : Exit → Act → World → Prop} {S : World → Prop} {n : Nat}
variable {i : Nat} {p : Plan} {e : Env} {w : World} {k : Kd} {dst : Option Tmp} {ty : TypeId} {pos : String} {aft : Array Edge} {g : Option (Nat × Bool)}
theorem allocT [Fr] {t : TypeId} {l : List Value} [hz : ZeF P t l] (hw : wantedE ops e ⟨dst, .alloc t, ty, pos, aft, g⟩ = some true) (hd : fits n dst = true)
    (h : ∀ b w', b = w.heap.size → w'.heap[b]? = some (.cells l.toArray t (0, 0)) → Ext w w' → (lateIx ops i = false → S w → S w') ∧ GX P ops Q S n p (e.put dst (.pointer (some ⟨b, 0, none⟩))) w') : GO P ops Q S n .eff i ⟨dst, .alloc t, ty, pos, aft, g⟩ p e w := by
  obtain ⟨z, hz1, hz2⟩ := hz.zero w
  exact GO.run (R := fun u w' => u = .pointer (some ⟨w.heap.size, 0, none⟩) ∧ w'.heap[w.heap.size]? = some (.cells l.toArray t (0, 0)) ∧ Ext w w') hw hd
    (fun a ha => ⟨_, _, w.alloc (.cells z.cells t), by simp [execOp, Instr.alloc, hz1, newVar, newRow], .inl rfl, rfl, by
      have := heap_alloc_new w (.cells z.cells t)
      rw [← hz2]
      simpa using this, Ext.alloc _ _⟩)
    (by rintro _ w' ⟨rfl, h1, h2⟩; exact h _ w' rfl h1 h2)
end
theorem okFrom_ok : ∀ (l pre : List Bs), okFrom pre l = true → ∀ s ∈ l, okName s = true
  | [], _, _, s, hs => by cases hs
  | x :: r, pre, h, s, hs => by
    simp only [okFrom, Bool.and_eq_true] at h
    rcases List.mem_cons.1 hs with rfl | hs
    · exact h.1.1
    · exact okFrom_ok r _ h.2 s hs
theorem BuA.ext {w w' : World} {B b : Nat} {l : Bs} (h : BuA w B b l) (hE : Ext w w') : BuA w' B b l := by
  have aux : ∀ {p : Value} {bs : List Value}, Lib.BuilderAtF 76 5 B b p bs w → Lib.BuilderAtF 76 5 B b p bs w' := by
    rintro p bs ⟨h1, v, h2, ⟨h3, h4⟩, h5⟩
    refine ⟨h1, v, hE.row h2 id, ⟨h3, ?_⟩, h5⟩
    rcases h4 with h4 | ⟨g, cap, cur, fz, k1, k2, k3, k4⟩
    · exact .inl h4
    · exact .inr ⟨g, cap, cur, fz, k1, k2, hE.row k3 id, k4⟩
  exact ⟨h.1.elim (fun x => .inl (aux x)) (fun x => .inr (aux x)), Nat.le_trans h.2 hE.size⟩
theorem BuA.lt {w : World} {B b : Nat} {l : Bs} (h : BuA w B b l) : b < w.heap.size := by
  rcases h.1 with ⟨_, v, h, _⟩ | ⟨_, v, h, _⟩ <;> exact (Array.getElem?_eq_some_iff.1 h).1
theorem BuA.new {w : World} {B b : Nat} (hB : B ≤ b) (h : w.heap[b]? = some (.cells #[.pointer none, .slice none 0 0] 76 (0, 0))) : BuA w B b [] :=
  ⟨.inl ⟨hB, _, h, ⟨rfl, .inl ⟨rfl, rfl⟩⟩, by simp [Value.ownBlock]⟩, by have := (Array.getElem?_eq_some_iff.1 h).1; omega⟩
set_option maxHeartbeats 1000000 in
theorem keyFn_ret (x : Attr) (m : Bs) (b : Nat) (w : World) (hR : Rw w b [str m]) :
    Ret Tryz.prog 30 [.agg (attrV x).toArray, .pointer (some ⟨b, 0, none⟩)].toArray w fun v w' => v = .bool (x.1 == m) ∧ Ext w w' := by
  refine Ret.enter Tryz.func30 rfl Tryz.ntmps30 rfl ?_
  (repeat (first | refine GX.doneD ?_ | refine GX.done ?_ | refine GQ.goNormal ?_ | refine GC.seq ?_ | refine GC.skip ?_ | refine GC.block ?_ | refine GC.exit ?_ | refine GC.ret ?_ | refine GQ.goExit ?_ | refine GQ.goRet ?_ | refine GQ.inNormal ?_ | refine GQ.inExit ?_ | refine GQ.inExitNe rfl ?_ | refine GQ.inRet ?_ | refine GQ.loopExit ?_ | refine GQ.loopRet ?_ | refine GQ.cutExit ?_ | refine GQ.cutRet ?_))
  refine GC.region (.eff 0 (.pure 1 .done)) rfl ?_
  refine GX.eff rfl ?_
  refine GO.box (l := attrV x) rfl rfl rfl rfl fun b w1 hb hB hE1 => ?_
  have hR1 := (hR.ext hE1).at
  refine ⟨fun _ h => by first | trivial | exact Mod.trans h (Ext.mod (by assumption)), ?_⟩
  (repeat (refine GX.pure rfl ?_; refine GO.assign rfl rfl rfl rfl ?_))
  (repeat (first | refine GX.doneD ?_ | refine GX.done ?_ | refine GQ.goNormal ?_ | refine GC.seq ?_ | refine GC.skip ?_ | refine GC.block ?_ | refine GC.exit ?_ | refine GC.ret ?_ | refine GQ.goExit ?_ | refine GQ.goRet ?_ | refine GQ.inNormal ?_ | refine GQ.inExit ?_ | refine GQ.inExitNe rfl ?_ | refine GQ.inRet ?_ | refine GQ.loopExit ?_ | refine GQ.loopRet ?_ | refine GQ.cutExit ?_ | refine GQ.cutRet ?_))
  refine GC.region (.pure 0 (.eff 1 (.eff 2 (.pure 3 (.pure 4 .done))))) rfl ?_
  (repeat (refine GX.pure rfl ?_; first | refine GO.assign rfl rfl rfl rfl ?_ | refine GO.fieldAddr rfl rfl rfl rfl rfl ?_ | refine GO.strEql rfl rfl rfl rfl rfl ?_))
  (first | (refine GX.eff rfl ?_; first | refine GO.load1 (hB.at.get (k := 0) rfl) rfl rfl rfl ?_ | refine GO.loadN (hB.at.get (k := 0) rfl) rfl rfl rfl rfl ?_) | (refine GX.read rfl ?_; first | refine GO.load1R (by assumption) (fun _ hS_ => At.mod (hB.at.get (k := 0) rfl) hS_ (by simp)) rfl rfl rfl ?_ | refine GO.loadNR (by assumption) (fun _ hS_ => At.mod (hB.at.get (k := 0) rfl) hS_ (by simp)) rfl rfl rfl rfl ?_))
  (repeat (refine GX.pure rfl ?_; first | refine GO.assign rfl rfl rfl rfl ?_ | refine GO.fieldAddr rfl rfl rfl rfl rfl ?_ | refine GO.strEql rfl rfl rfl rfl rfl ?_))
  (first | (refine GX.eff rfl ?_; first | refine GO.load1 (hR1) rfl rfl rfl ?_ | refine GO.loadN (hR1) rfl rfl rfl rfl ?_) | (refine GX.read rfl ?_; first | refine GO.load1R (by assumption) (fun _ hS_ => At.mod (hR1) hS_ (by simp)) rfl rfl rfl ?_ | refine GO.loadNR (by assumption) (fun _ hS_ => At.mod (hR1) hS_ (by simp)) rfl rfl rfl rfl ?_))
  refine GX.pure rfl (strEq x.1 m rfl rfl rfl rfl rfl ?_)
  (repeat (refine GX.pure rfl ?_; first | refine GO.assign rfl rfl rfl rfl ?_ | refine GO.fieldAddr rfl rfl rfl rfl rfl ?_ | refine GO.strEql rfl rfl rfl rfl rfl ?_))
  (repeat (first | refine GX.doneD ?_ | refine GX.done ?_ | refine GQ.goNormal ?_ | refine GC.seq ?_ | refine GC.skip ?_ | refine GC.block ?_ | refine GC.exit ?_ | refine GC.ret ?_ | refine GQ.goExit ?_ | refine GQ.goRet ?_ | refine GQ.inNormal ?_ | refine GQ.inExit ?_ | refine GQ.inExitNe rfl ?_ | refine GQ.inRet ?_ | refine GQ.loopExit ?_ | refine GQ.loopRet ?_ | refine GQ.cutExit ?_ | refine GQ.cutRet ?_))
  refine GQ.ret1 (by first | exact .inl rfl | exact .inr rfl) rfl rfl ?_
  exact ⟨congrArg Value.bool (by by_cases h : x.1 = m <;> simp [h]), hE1⟩
theorem strIn_of {w : World} {a : Option Addr} {c : Nat} {l : List Bs} (h : StrsAt w a c l) : StrIn w.heap.size w a l := by
  by_cases h0 : l = []
  · exact .inl h0
  · have hp : 0 < l.length := List.length_pos_iff.2 h0
    obtain ⟨b, o, rfl, hAt⟩ := h.cells.of_pos (by simpa using hp)
    refine .inr ⟨b, o, rfl, h.lt _ rfl h0, fun j hj => ?_⟩
    exact hAt j _ (by simp [strsV, hj])
theorem srt_at {w0 w : World} {a : Option Addr} {l : List Bs} (h : SrtAt w0 w a l) {i : Nat} (hi : i < l.length) : ∃ x, a = some ⟨x, 0, none⟩ ∧ ∀ j : Int, j.toNat = i → At w x (0 + j.toNat * 1) [str l[i]] := by
  rcases h with rfl | ⟨x, rfl, _, hR⟩
  · cases hi
  · refine ⟨x, rfl, fun j hj => ?_⟩
    rw [hj]
    have := At.one hR.at (show (strsV l)[i]? = some (str l[i]) by simp [strsV, hi])
    simpa using this
set_option maxHeartbeats 8000000 in
theorem key_ret (name : Bs) (names : List Bs) (l : List Attr) (a a2 : Option Addr) (c c2 : Nat) (w : World) (hN : StrsAt w a c names) (hA : AttrsAt w a2 c2 l) (hnl : names.length < 2 ^ 30) (hns : ∀ s ∈ names, s.length < 2 ^ 30) (hll : l.length < 2 ^ 30) (hls : ∀ x ∈ l, x.1.length < 2 ^ 30 ∧ x.2.length < 2 ^ 30) :
    Ret Tryz.prog 7 [str name, .slice a names.length c, .slice a2 l.length c2].toArray w fun v w' => v = .tuple #[str (keyF name names l).1, .int .i64 (keyF name names l).2] ∧ Ext w w' := by
  refine Ret.enter Tryz.func7 rfl Tryz.ntmps7 rfl ?_
  (repeat (first | refine GX.doneD ?_ | refine GX.done ?_ | refine GQ.goNormal ?_ | refine GC.seq ?_ | refine GC.skip ?_ | refine GC.block ?_ | refine GC.exit ?_ | refine GC.ret ?_ | refine GQ.goExit ?_ | refine GQ.goRet ?_ | refine GQ.inNormal ?_ | refine GQ.inExit ?_ | refine GQ.inExitNe rfl ?_ | refine GQ.inRet ?_ | refine GQ.loopExit ?_ | refine GQ.loopRet ?_ | refine GQ.cutExit ?_ | refine GQ.cutRet ?_))
  refine GC.region (.pure 0 (.pure 1 .done)) rfl ?_
  (repeat (refine GX.pure rfl ?_; refine GO.assign rfl rfl rfl rfl ?_))
  (repeat (first | refine GX.doneD ?_ | refine GX.done ?_ | refine GQ.goNormal ?_ | refine GC.seq ?_ | refine GC.skip ?_ | refine GC.block ?_ | refine GC.exit ?_ | refine GC.ret ?_ | refine GQ.goExit ?_ | refine GQ.goRet ?_ | refine GQ.inNormal ?_ | refine GQ.inExit ?_ | refine GQ.inExitNe rfl ?_ | refine GQ.inRet ?_ | refine GQ.loopExit ?_ | refine GQ.loopRet ?_ | refine GQ.cutExit ?_ | refine GQ.cutRet ?_))
  refine GC.pick [0, 1, 2] rfl ?_
  refine GC.cut (X := Bool) (fun x => [(0, str name), (1, .slice a names.length c), (2, .slice a2 l.length c2), (24, .bool x)]) (fun x w' => x = !(plainB name && okNames names && okAttrs l) ∧ Ext w w') ?_ ?_
  · refine GC.region (.pure 0 (.eff 1 (.pure 2 (.pure 3 (.pure 4 (.eff 5 (.pure 6 (.pure 7 (.pure 8 (.pure 9 (.eff 10 (.pure 11 (.pure 12 .done))))))))))))) rfl ?_
    (repeat (refine GX.pure rfl ?_; first | refine GO.move rfl rfl rfl rfl ?_ | refine GO.pickT rfl rfl rfl rfl rfl ?_ | refine GO.pickF rfl rfl rfl rfl rfl ?_ | refine GO.not rfl rfl rfl rfl ?_ | refine GO.skip (.inl rfl) rfl rfl ?_))
    (refine GX.eff rfl ?_; refine GO.callL rfl rfl rfl rfl rfl (plain_ret name _) ?_)
    rintro v w1 ⟨rfl, hE1⟩
    refine ⟨fun _ h => by first | trivial | exact Mod.trans h (Ext.mod (by assumption)), ?_⟩
    (repeat (refine GX.pure rfl ?_; first | refine GO.move rfl rfl rfl rfl ?_ | refine GO.pickT rfl rfl rfl rfl rfl ?_ | refine GO.pickF rfl rfl rfl rfl rfl ?_ | refine GO.not rfl rfl rfl rfl ?_ | refine GO.skip (.inl rfl) rfl rfl ?_))
    refine GX.case 15 rfl (fun h1 => ?_) (fun h1 => ?_)
    · (repeat (first | (refine GX.pure rfl ?_; first | refine GO.move rfl rfl rfl rfl ?_ | refine GO.pickT rfl rfl rfl rfl rfl ?_ | refine GO.pickF rfl rfl rfl rfl rfl ?_ | refine GO.not rfl rfl rfl rfl ?_ | refine GO.skip (.inl rfl) rfl rfl ?_) | (refine GX.eff rfl ?_; refine GO.skip (.inr rfl) rfl rfl ?_) | (refine GX.read rfl ?_; refine GO.skipRead (by assumption) rfl rfl ?_)))
      (repeat (first | refine GX.doneD ?_ | refine GX.done ?_ | refine GQ.goNormal ?_ | refine GC.seq ?_ | refine GC.skip ?_ | refine GC.block ?_ | refine GC.exit ?_ | refine GC.ret ?_ | refine GQ.goExit ?_ | refine GQ.goRet ?_ | refine GQ.inNormal ?_ | refine GQ.inExit ?_ | refine GQ.inExitNe rfl ?_ | refine GQ.inRet ?_ | refine GQ.loopExit ?_ | refine GQ.loopRet ?_ | refine GQ.cutExit ?_ | refine GQ.cutRet ?_))
      exact GQ.cutNormal _ (sub_pick (l := [0, 1, 2, 24]) rfl) ⟨by simp only [Bool.not_eq_true'] at h1; simp [h1], hE1⟩
    · (repeat (refine GX.pure rfl ?_; first | refine GO.move rfl rfl rfl rfl ?_ | refine GO.pickT rfl rfl rfl rfl rfl ?_ | refine GO.pickF rfl rfl rfl rfl rfl ?_ | refine GO.not rfl rfl rfl rfl ?_ | refine GO.skip (.inl rfl) rfl rfl ?_))
      (refine GX.eff rfl ?_; refine GO.callL rfl rfl rfl rfl rfl (valid_ret names a c _ (hN.ext hE1) (fun s hs => by have := hns s hs; omega) (by omega)) ?_)
      rintro v w2 ⟨rfl, rfl⟩
      refine ⟨fun _ h => by first | trivial | exact Mod.trans h (Ext.mod (by assumption)), ?_⟩
      (repeat (refine GX.pure rfl ?_; first | refine GO.move rfl rfl rfl rfl ?_ | refine GO.pickT rfl rfl rfl rfl rfl ?_ | refine GO.pickF rfl rfl rfl rfl rfl ?_ | refine GO.not rfl rfl rfl rfl ?_ | refine GO.skip (.inl rfl) rfl rfl ?_))
      refine GX.case 20 rfl (fun h2 => ?_) (fun h2 => ?_)
      · (repeat (first | (refine GX.pure rfl ?_; first | refine GO.move rfl rfl rfl rfl ?_ | refine GO.pickT rfl rfl rfl rfl rfl ?_ | refine GO.pickF rfl rfl rfl rfl rfl ?_ | refine GO.not rfl rfl rfl rfl ?_ | refine GO.skip (.inl rfl) rfl rfl ?_) | (refine GX.eff rfl ?_; refine GO.skip (.inr rfl) rfl rfl ?_) | (refine GX.read rfl ?_; refine GO.skipRead (by assumption) rfl rfl ?_)))
        (repeat (first | refine GX.doneD ?_ | refine GX.done ?_ | refine GQ.goNormal ?_ | refine GC.seq ?_ | refine GC.skip ?_ | refine GC.block ?_ | refine GC.exit ?_ | refine GC.ret ?_ | refine GQ.goExit ?_ | refine GQ.goRet ?_ | refine GQ.inNormal ?_ | refine GQ.inExit ?_ | refine GQ.inExitNe rfl ?_ | refine GQ.inRet ?_ | refine GQ.loopExit ?_ | refine GQ.loopRet ?_ | refine GQ.cutExit ?_ | refine GQ.cutRet ?_))
        exact GQ.cutNormal _ (sub_pick (l := [0, 1, 2, 24]) rfl) ⟨by simp only [Bool.not_eq_true'] at h2; simp [h2], hE1⟩
      · (repeat (refine GX.pure rfl ?_; first | refine GO.move rfl rfl rfl rfl ?_ | refine GO.pickT rfl rfl rfl rfl rfl ?_ | refine GO.pickF rfl rfl rfl rfl rfl ?_ | refine GO.not rfl rfl rfl rfl ?_ | refine GO.skip (.inl rfl) rfl rfl ?_))
        (refine GX.eff rfl ?_; refine GO.callL rfl rfl rfl rfl rfl (attributes_ret l a2 c2 _ (hA.ext hE1) (fun x hx => by have := hls x hx; omega) (by omega)) ?_)
        rintro v w3 ⟨rfl, hE3⟩
        refine ⟨fun _ h => by first | trivial | exact Mod.trans h (Ext.mod (by assumption)), ?_⟩
        (repeat (refine GX.pure rfl ?_; first | refine GO.move rfl rfl rfl rfl ?_ | refine GO.pickT rfl rfl rfl rfl rfl ?_ | refine GO.pickF rfl rfl rfl rfl rfl ?_ | refine GO.not rfl rfl rfl rfl ?_ | refine GO.skip (.inl rfl) rfl rfl ?_))
        (repeat (first | refine GX.doneD ?_ | refine GX.done ?_ | refine GQ.goNormal ?_ | refine GC.seq ?_ | refine GC.skip ?_ | refine GC.block ?_ | refine GC.exit ?_ | refine GC.ret ?_ | refine GQ.goExit ?_ | refine GQ.goRet ?_ | refine GQ.inNormal ?_ | refine GQ.inExit ?_ | refine GQ.inExitNe rfl ?_ | refine GQ.inRet ?_ | refine GQ.loopExit ?_ | refine GQ.loopRet ?_ | refine GQ.cutExit ?_ | refine GQ.cutRet ?_))
        exact GQ.cutNormal _ (sub_pick (l := [0, 1, 2, 24]) rfl) ⟨by simp only [Bool.not_eq_false'] at h1 h2; simp [h1, h2], hE1.trans hE3⟩
  rintro x w1 ⟨hx, hE1⟩
  (repeat (first | refine GX.doneD ?_ | refine GX.done ?_ | refine GQ.goNormal ?_ | refine GC.seq ?_ | refine GC.skip ?_ | refine GC.block ?_ | refine GC.exit ?_ | refine GC.ret ?_ | refine GQ.goExit ?_ | refine GQ.goRet ?_ | refine GQ.inNormal ?_ | refine GQ.inExit ?_ | refine GQ.inExitNe rfl ?_ | refine GQ.inRet ?_ | refine GQ.loopExit ?_ | refine GQ.loopRet ?_ | refine GQ.cutExit ?_ | refine GQ.cutRet ?_))
  refine GC.cond rfl (fun hq => ?_) (fun hq => ?_)
  · have hbad : (plainB name && okNames names && okAttrs l) = false := by rw [hq] at hx; revert hx; cases (plainB name && okNames names && okAttrs l) <;> simp
    have hk : keyF name names l = ([], 2) := by unfold keyF; rw [if_neg (by rw [hbad]; simp)]
    (repeat (first | refine GX.doneD ?_ | refine GX.done ?_ | refine GQ.goNormal ?_ | refine GC.seq ?_ | refine GC.skip ?_ | refine GC.block ?_ | refine GC.exit ?_ | refine GC.ret ?_ | refine GQ.goExit ?_ | refine GQ.goRet ?_ | refine GQ.inNormal ?_ | refine GQ.inExit ?_ | refine GQ.inExitNe rfl ?_ | refine GQ.inRet ?_ | refine GQ.loopExit ?_ | refine GQ.loopRet ?_ | refine GQ.cutExit ?_ | refine GQ.cutRet ?_))
    refine GC.region (.pure 0 (.pure 1 .done)) rfl ?_
    (repeat (refine GX.pure rfl ?_; refine GO.assign rfl rfl rfl rfl ?_))
    (repeat (first | refine GX.doneD ?_ | refine GX.done ?_ | refine GQ.goNormal ?_ | refine GC.seq ?_ | refine GC.skip ?_ | refine GC.block ?_ | refine GC.exit ?_ | refine GC.ret ?_ | refine GQ.goExit ?_ | refine GQ.goRet ?_ | refine GQ.inNormal ?_ | refine GQ.inExit ?_ | refine GQ.inExitNe rfl ?_ | refine GQ.inRet ?_ | refine GQ.loopExit ?_ | refine GQ.loopRet ?_ | refine GQ.cutExit ?_ | refine GQ.cutRet ?_))
    refine GQ.ret2 (by first | exact .inl rfl | exact .inr rfl) rfl rfl rfl ?_
    exact ⟨by rw [hk]; rfl, hE1⟩
  have hok : (plainB name && okNames names && okAttrs l) = true := by rw [hq] at hx; revert hx; cases (plainB name && okNames names && okAttrs l) <;> simp
  have hok' := hok
  simp only [Bool.and_eq_true] at hok'
  obtain ⟨⟨hp, hn⟩, ha⟩ := hok'
  have hpl : name.length ≤ 250 := by simp only [plainB, Bool.and_eq_true, decide_eq_true_eq] at hp; exact hp.2
  have hn8 : names.length ≤ 8 ∧ okFrom [] names = true := by simp only [okNames, Bool.and_eq_true, decide_eq_true_eq] at hn; exact ⟨hn.2, hn.1⟩
  have ha64 : ∀ y ∈ l, y.2.length ≤ 100 := fun y hy => by
    simp only [okAttrs, Bool.and_eq_true, List.all_eq_true, decide_eq_true_eq] at ha
    have := ha.2 y hy
    omega
  obtain ⟨s, hs⟩ : ∃ s, sortF names = s := ⟨_, rfl⟩
  have hsl : s.length = names.length := by rw [← hs]; exact sortF_length names
  have hs32 : ∀ y ∈ s, y.length ≤ 100 := fun y hy => by
    have := okFrom_ok names [] hn8.2 y ((sortF_perm names).mem_iff.1 (by rw [hs]; exact hy))
    simp only [okName, Bool.and_eq_true, decide_eq_true_eq] at this
    omega
  have hbl : ∀ k, (bodyF l (s.take k)).length ≤ 3300 := fun k => by
    have h1 := body_len ha64 (s.take k) (fun y hy => hs32 y (List.mem_of_mem_take hy))
    have h2 : (s.take k).length ≤ 8 := by rw [List.length_take]; omega
    omega
  (repeat (first | refine GX.doneD ?_ | refine GX.done ?_ | refine GQ.goNormal ?_ | refine GC.seq ?_ | refine GC.skip ?_ | refine GC.block ?_ | refine GC.exit ?_ | refine GC.ret ?_ | refine GQ.goExit ?_ | refine GQ.goRet ?_ | refine GQ.inNormal ?_ | refine GQ.inExit ?_ | refine GQ.inExitNe rfl ?_ | refine GQ.inRet ?_ | refine GQ.loopExit ?_ | refine GQ.loopRet ?_ | refine GQ.cutExit ?_ | refine GQ.cutRet ?_))
  refine GC.region (.eff 0 .done) rfl ?_
  refine GX.eff rfl ?_
  refine allocT rfl rfl fun b w2 hb hh2 hE2 => ?_
  refine ⟨fun _ h => by first | trivial | exact Mod.trans h (Ext.mod (by assumption)), ?_⟩
  skip
  (repeat (first | refine GX.doneD ?_ | refine GX.done ?_ | refine GQ.goNormal ?_ | refine GC.seq ?_ | refine GC.skip ?_ | refine GC.block ?_ | refine GC.exit ?_ | refine GC.ret ?_ | refine GQ.goExit ?_ | refine GQ.goRet ?_ | refine GQ.inNormal ?_ | refine GQ.inExit ?_ | refine GQ.inExitNe rfl ?_ | refine GQ.inRet ?_ | refine GQ.loopExit ?_ | refine GQ.loopRet ?_ | refine GQ.cutExit ?_ | refine GQ.cutRet ?_))
  have hB2 : BuA w2 w1.heap.size b [] := BuA.new (by omega) hh2
  refine GC.region (.pure 0 (.pure 1 (.eff 2 .done))) rfl ?_
  (repeat (refine GX.pure rfl ?_; first | refine GO.move rfl rfl rfl rfl ?_ | refine GO.add rfl rfl rfl rfl rfl (wrapIn (by dsimp only [InK]; omega)) ?_))
  refine GX.pure rfl (strCat name [63] rfl rfl rfl rfl rfl (by simp; omega) ?_)
  (refine GX.eff rfl ?_; refine GO.callL rfl rfl rfl rfl rfl (writeString_ret w1.heap.size b [] (name ++ [63]) _ hB2 (by simp) (by simp; omega)) ?_)
  rintro v w3 ⟨hB3, hK3⟩
  refine ⟨fun _ h => by first | trivial | exact Mod.trans h (Ext.mod (by assumption)), ?_⟩
  (repeat (refine GX.pure rfl ?_; first | refine GO.move rfl rfl rfl rfl ?_ | refine GO.add rfl rfl rfl rfl rfl (wrapIn (by dsimp only [InK]; omega)) ?_))
  (repeat (first | refine GX.doneD ?_ | refine GX.done ?_ | refine GQ.goNormal ?_ | refine GC.seq ?_ | refine GC.skip ?_ | refine GC.block ?_ | refine GC.exit ?_ | refine GC.ret ?_ | refine GQ.goExit ?_ | refine GQ.goRet ?_ | refine GQ.inNormal ?_ | refine GQ.inExit ?_ | refine GQ.inExitNe rfl ?_ | refine GQ.inRet ?_ | refine GQ.loopExit ?_ | refine GQ.loopRet ?_ | refine GQ.cutExit ?_ | refine GQ.cutRet ?_))
  have hE13 : Ext w1 w3 := hK3.ext rfl hE2
  have hlt3 : b < w3.heap.size := by
    have := (Array.getElem?_eq_some_iff.1 hh2).1
    have := hK3.below.size
    omega
  refine GC.region (.pure 0 (.eff 1 (.eff 2 (.pure 3 (.pure 4 .done))))) rfl ?_
  (repeat (refine GX.pure rfl ?_; first | refine GO.move rfl rfl rfl rfl ?_ | refine GO.lenSlice rfl rfl rfl rfl ?_))
  (refine GX.eff rfl ?_; refine GO.callL rfl rfl rfl rfl rfl (valuesFn_ret a names.length c _) ?_)
  rintro v w4 ⟨Bx, rfl, hBx, hBlt, hE4⟩
  refine ⟨fun _ h => by first | trivial | exact Mod.trans h (Ext.mod (by assumption)), ?_⟩
  (repeat (refine GX.pure rfl ?_; first | refine GO.move rfl rfl rfl rfl ?_ | refine GO.lenSlice rfl rfl rfl rfl ?_))
  (refine GX.eff rfl ?_; refine GO.callL rfl rfl rfl rfl rfl (sortedV_ret Bx c a names _ rfl (by omega) _ hBx hBlt (strIn_of (((hN.ext hE1).ext hE13).ext hE4))) ?_)
  rintro v w5 ⟨a', c', rfl, hS5, hE5⟩
  rw [hs] at hS5
  refine ⟨fun _ h => by first | trivial | exact Mod.trans h (Ext.mod (by assumption)), ?_⟩
  (repeat (refine GX.pure rfl ?_; first | refine GO.move rfl rfl rfl rfl ?_ | refine GO.lenSlice rfl rfl rfl rfl ?_))
  (repeat (first | refine GX.doneD ?_ | refine GX.done ?_ | refine GQ.goNormal ?_ | refine GC.seq ?_ | refine GC.skip ?_ | refine GC.block ?_ | refine GC.exit ?_ | refine GC.ret ?_ | refine GQ.goExit ?_ | refine GQ.goRet ?_ | refine GQ.inNormal ?_ | refine GQ.inExit ?_ | refine GQ.inExitNe rfl ?_ | refine GQ.inRet ?_ | refine GQ.loopExit ?_ | refine GQ.loopRet ?_ | refine GQ.cutExit ?_ | refine GQ.cutRet ?_))
  have hb4 : b < w4.heap.size := by have := hE4.size; omega
  have hB5 := (hB3.ext hE4).ext hE5
  have hE15 := (hE13.trans hE4).trans hE5
  refine GC.loop (X := Nat) (fun k => [(2, .slice a2 l.length c2), (8, .pointer (some ⟨b, 0, none⟩)), (30, .slice a' names.length c'), (31, .int .i64 names.length), (32, .int .i64 k)])
    (fun k w' => k ≤ s.length ∧ Ext w1 w' ∧ BuA w' w1.heap.size b (name ++ [63] ++ bodyF l (s.take k)) ∧ SrtAt w4 w' a' s) (fun k => s.length - k) 0 (sub_pick (l := [2, 8, 30, 31, 32]) rfl) ⟨Nat.zero_le _, hE15, by simpa [bodyF] using hB5, hS5⟩ ?_
  rintro k w6 ⟨hk, hE6, hB6, hS6⟩
  (repeat (first | refine GX.doneD ?_ | refine GX.done ?_ | refine GQ.goNormal ?_ | refine GC.seq ?_ | refine GC.skip ?_ | refine GC.block ?_ | refine GC.exit ?_ | refine GC.ret ?_ | refine GQ.goExit ?_ | refine GQ.goRet ?_ | refine GQ.inNormal ?_ | refine GQ.inExit ?_ | refine GQ.inExitNe rfl ?_ | refine GQ.inRet ?_ | refine GQ.loopExit ?_ | refine GQ.loopRet ?_ | refine GQ.cutExit ?_ | refine GQ.cutRet ?_))
  refine GC.region (.pure 0 .done) rfl ?_
  (repeat (refine GX.pure rfl ?_; refine GO.lss rfl rfl rfl rfl rfl ?_))
  (repeat (first | refine GX.doneD ?_ | refine GX.done ?_ | refine GQ.goNormal ?_ | refine GC.seq ?_ | refine GC.skip ?_ | refine GC.block ?_ | refine GC.exit ?_ | refine GC.ret ?_ | refine GQ.goExit ?_ | refine GQ.goRet ?_ | refine GQ.inNormal ?_ | refine GQ.inExit ?_ | refine GQ.inExitNe rfl ?_ | refine GQ.inRet ?_ | refine GQ.loopExit ?_ | refine GQ.loopRet ?_ | refine GQ.cutExit ?_ | refine GQ.cutRet ?_))
  refine GC.cond rfl (fun hc => ?_) (fun hc => ?_)
  · have hlt : k < s.length := by have := of_decide_eq_true hc; omega
    have hA6 : AttrsAt w6 a2 c2 l := (hA.ext hE1).ext hE6
    obtain ⟨xs, rfl, hAt⟩ := srt_at hS6 hlt
    have hsk := hs32 _ (List.getElem_mem hlt)
    have hbk := hbl k
    (repeat (first | refine GX.doneD ?_ | refine GX.done ?_ | refine GQ.goNormal ?_ | refine GC.seq ?_ | refine GC.skip ?_ | refine GC.block ?_ | refine GC.exit ?_ | refine GC.ret ?_ | refine GQ.goExit ?_ | refine GQ.goRet ?_ | refine GQ.inNormal ?_ | refine GQ.inExit ?_ | refine GQ.inExitNe rfl ?_ | refine GQ.inRet ?_ | refine GQ.loopExit ?_ | refine GQ.loopRet ?_ | refine GQ.cutExit ?_ | refine GQ.cutRet ?_))
    refine GC.region (.pure 0 (.pure 1 (.eff 2 (.eff 3 (.pure 4 (.eff 5 .done)))))) rfl ?_
    (repeat (refine GX.pure rfl ?_; first | refine GO.move rfl rfl rfl rfl ?_ | refine GO.assign rfl rfl rfl rfl ?_))
    refine GX.pure rfl (GO.indexAddr rfl rfl rfl rfl (by omega) (by omega) rfl ?_)
    (first | (refine GX.eff rfl ?_; first | refine GO.load1 (hAt (k : Int) (by omega)) rfl rfl rfl ?_ | refine GO.loadN (hAt (k : Int) (by omega)) rfl rfl rfl rfl ?_) | (refine GX.read rfl ?_; first | refine GO.load1R (by assumption) (fun _ hS_ => At.mod (hAt (k : Int) (by omega)) hS_ (by simp)) rfl rfl rfl ?_ | refine GO.loadNR (by assumption) (fun _ hS_ => At.mod (hAt (k : Int) (by omega)) hS_ (by simp)) rfl rfl rfl rfl ?_))
    refine GX.eff rfl ?_
    refine allocT rfl rfl fun bs w7 hbs hh7 hE7 => ?_
    refine ⟨fun _ h => by first | trivial | exact Mod.trans h (Ext.mod (by assumption)), ?_⟩
    (repeat (refine GX.pure rfl ?_; first | refine GO.move rfl rfl rfl rfl ?_ | refine GO.assign rfl rfl rfl rfl ?_))
    have hW7 : Wr w7 bs 0 1 := ⟨_, _, _, hh7, by simp, by intro j hj; simp⟩
    have h17 : ∀ u ∈ [str s[k]], u.oneCell' = true := strsV_oneC [s[k]]
    refine GX.eff rfl ?_
    refine GO.store (sz := 1) (v := str s[k]) (vs := [str s[k]]) hW7 rfl rfl h17 rfl rfl rfl fun w8 hP8 => ?_
    refine ⟨fun _ h => by first | trivial | exact Mod.trans h (Ext.mod (by assumption)), ?_⟩
    (repeat (refine GX.pure rfl ?_; first | refine GO.move rfl rfl rfl rfl ?_ | refine GO.assign rfl rfl rfl rfl ?_))
    (repeat (first | refine GX.doneD ?_ | refine GX.done ?_ | refine GQ.goNormal ?_ | refine GC.seq ?_ | refine GC.skip ?_ | refine GC.block ?_ | refine GC.exit ?_ | refine GC.ret ?_ | refine GQ.goExit ?_ | refine GQ.goRet ?_ | refine GQ.inNormal ?_ | refine GQ.inExit ?_ | refine GQ.inExitNe rfl ?_ | refine GQ.inRet ?_ | refine GQ.loopExit ?_ | refine GQ.loopRet ?_ | refine GQ.cutExit ?_ | refine GQ.cutRet ?_))
    have hE68 : Ext w6 w8 := hE7.then hP8.mod (fun i hi e => by omega)
    have hR8 : Rw w8 bs [str s[k]] := ⟨_, _, _, hP8.here _ _ _ hh7, by decide, fun i v hv => by simpa using hv⟩
    have hne : bs ≠ b := by have := hB6.lt; omega
    have hB8 := hB6.ext hE68
    have hite : (if 0 < k then [38] else ([] : Bs)).length ≤ 1 := by split <;> simp
    refine GC.region (.pure 0 (.pure 1 .done)) rfl ?_
    (repeat (refine GX.pure rfl ?_; first | refine GO.move rfl rfl rfl rfl ?_ | refine GO.gtr rfl rfl rfl rfl rfl ?_))
    (repeat (first | refine GX.doneD ?_ | refine GX.done ?_ | refine GQ.goNormal ?_ | refine GC.seq ?_ | refine GC.skip ?_ | refine GC.block ?_ | refine GC.exit ?_ | refine GC.ret ?_ | refine GQ.goExit ?_ | refine GQ.goRet ?_ | refine GQ.inNormal ?_ | refine GQ.inExit ?_ | refine GQ.inExitNe rfl ?_ | refine GQ.inRet ?_ | refine GQ.loopExit ?_ | refine GQ.loopRet ?_ | refine GQ.cutExit ?_ | refine GQ.cutRet ?_))
    refine GC.cut (X := Unit) (fun _ => [(2, .slice a2 l.length c2), (8, .pointer (some ⟨b, 0, none⟩)), (10, .pointer (some ⟨bs, 0, none⟩)), (30, .slice (some ⟨xs, 0, none⟩) names.length c'), (31, .int .i64 names.length), (32, .int .i64 k)]) (fun _ w' => BuA w' w1.heap.size b (name ++ [63] ++ bodyF l (s.take k) ++ (if 0 < k then [38] else [])) ∧ BuK w1.heap.size b w8 w') ?_ ?_
    · refine GC.cond rfl (fun h8 => ?_) (fun h8 => ?_)
      · have h0 : 0 < k := by have := of_decide_eq_true h8; omega
        (repeat (first | refine GX.doneD ?_ | refine GX.done ?_ | refine GQ.goNormal ?_ | refine GC.seq ?_ | refine GC.skip ?_ | refine GC.block ?_ | refine GC.exit ?_ | refine GC.ret ?_ | refine GQ.goExit ?_ | refine GQ.goRet ?_ | refine GQ.inNormal ?_ | refine GQ.inExit ?_ | refine GQ.inExitNe rfl ?_ | refine GQ.inRet ?_ | refine GQ.loopExit ?_ | refine GQ.loopRet ?_ | refine GQ.cutExit ?_ | refine GQ.cutRet ?_))
        refine GC.region (.eff 0 .done) rfl ?_
        (refine GX.eff rfl ?_; refine GO.callL rfl rfl rfl rfl rfl (writeByte_ret w1.heap.size b _ 38 _ hB8 (by simp only [List.length_append, List.length_cons, List.length_nil]; omega)) ?_)
        rintro v w9 ⟨hB9, hK9⟩
        refine ⟨fun _ h => by first | trivial | exact Mod.trans h (Ext.mod (by assumption)), ?_⟩
        skip
        (repeat (first | refine GX.doneD ?_ | refine GX.done ?_ | refine GQ.goNormal ?_ | refine GC.seq ?_ | refine GC.skip ?_ | refine GC.block ?_ | refine GC.exit ?_ | refine GC.ret ?_ | refine GQ.goExit ?_ | refine GQ.goRet ?_ | refine GQ.inNormal ?_ | refine GQ.inExit ?_ | refine GQ.inExitNe rfl ?_ | refine GQ.inRet ?_ | refine GQ.loopExit ?_ | refine GQ.loopRet ?_ | refine GQ.cutExit ?_ | refine GQ.cutRet ?_))
        exact GQ.cutNormal () (sub_pick (l := [2, 8, 10, 30, 31, 32]) rfl) ⟨by rw [if_pos h0]; exact hB9, hK9⟩
      · have h0 : ¬ 0 < k := by have := of_decide_eq_false h8; omega
        (repeat (first | refine GX.doneD ?_ | refine GX.done ?_ | refine GQ.goNormal ?_ | refine GC.seq ?_ | refine GC.skip ?_ | refine GC.block ?_ | refine GC.exit ?_ | refine GC.ret ?_ | refine GQ.goExit ?_ | refine GQ.goRet ?_ | refine GQ.inNormal ?_ | refine GQ.inExit ?_ | refine GQ.inExitNe rfl ?_ | refine GQ.inRet ?_ | refine GQ.loopExit ?_ | refine GQ.loopRet ?_ | refine GQ.cutExit ?_ | refine GQ.cutRet ?_))
        exact GQ.cutNormal () (sub_pick (l := [2, 8, 10, 30, 31, 32]) rfl) ⟨by rw [if_neg h0, List.append_nil]; exact hB8, BuK.refl _ _ _⟩
    rintro _ w9 ⟨hB9, hK9⟩
    (repeat (first | refine GX.doneD ?_ | refine GX.done ?_ | refine GQ.goNormal ?_ | refine GC.seq ?_ | refine GC.skip ?_ | refine GC.block ?_ | refine GC.exit ?_ | refine GC.ret ?_ | refine GQ.goExit ?_ | refine GQ.goRet ?_ | refine GQ.inNormal ?_ | refine GQ.inExit ?_ | refine GQ.inExitNe rfl ?_ | refine GQ.inRet ?_ | refine GQ.loopExit ?_ | refine GQ.loopRet ?_ | refine GQ.cutExit ?_ | refine GQ.cutRet ?_))
    refine GC.region (.eff 0 (.eff 1 .done)) rfl ?_
    (first | (refine GX.eff rfl ?_; first | refine GO.load1 ((hR8.kept hK9 hne).at) rfl rfl rfl ?_ | refine GO.loadN ((hR8.kept hK9 hne).at) rfl rfl rfl rfl ?_) | (refine GX.read rfl ?_; first | refine GO.load1R (by assumption) (fun _ hS_ => At.mod ((hR8.kept hK9 hne).at) hS_ (by simp)) rfl rfl rfl ?_ | refine GO.loadNR (by assumption) (fun _ hS_ => At.mod ((hR8.kept hK9 hne).at) hS_ (by simp)) rfl rfl rfl rfl ?_))
    skip
    (refine GX.eff rfl ?_; refine GO.callL rfl rfl rfl rfl rfl (writeString_ret w1.heap.size b _ s[k] _ hB9 (by simp only [List.length_append, List.length_cons, List.length_nil]; omega) (by omega)) ?_)
    rintro v w10 ⟨hB10, hK10⟩
    refine ⟨fun _ h => by first | trivial | exact Mod.trans h (Ext.mod (by assumption)), ?_⟩
    skip
    (repeat (first | refine GX.doneD ?_ | refine GX.done ?_ | refine GQ.goNormal ?_ | refine GC.seq ?_ | refine GC.skip ?_ | refine GC.block ?_ | refine GC.exit ?_ | refine GC.ret ?_ | refine GQ.goExit ?_ | refine GQ.goRet ?_ | refine GQ.inNormal ?_ | refine GQ.inExit ?_ | refine GQ.inExitNe rfl ?_ | refine GQ.inRet ?_ | refine GQ.loopExit ?_ | refine GQ.loopRet ?_ | refine GQ.cutExit ?_ | refine GQ.cutRet ?_))
    have hE610 : Ext w1 w10 := (hK9.trans hK10).ext rfl (hE6.trans hE68)
    have hR10 := hR8.kept (hK9.trans hK10) hne
    have hA10 : AttrsAt w10 a2 c2 l := (hA.ext hE1).ext hE610
    refine GC.region (.pure 0 (.pure 1 (.eff 2 (.pure 3 .done)))) rfl ?_
    (repeat (refine GX.pure rfl ?_; first | refine GO.move rfl rfl rfl rfl ?_ | refine GO.assign rfl rfl rfl rfl ?_ | refine GO.makeFunc rfl rfl rfl rfl rfl ?_))
    (refine GX.eff rfl ?_; refine GO.callL rfl rfl rfl rfl rfl (indexFn_ret l (by omega) (fun y => y.1 == s[k]) 30 #[.pointer (some ⟨bs, 0, none⟩)] a2 c2 _ hA10 (fun y _ w' hE' => keyFn_ret y s[k] bs w' (hR10.ext hE'))) ?_)
    rintro v w11 ⟨hv, hE11⟩
    have hv' : ∃ z : Int, v = .int .i64 z ∧ ((∃ j, ∃ h : j < l.length, z = (j : Nat) ∧ l.find? (fun y => y.1 == s[k]) = some l[j]) ∨ (z = -1 ∧ l.find? (fun y => y.1 == s[k]) = none)) := by
      rcases hv with ⟨j, hj, h1, h2⟩ | ⟨h1, h2⟩
      · exact ⟨_, h1, .inl ⟨j, hj, rfl, h2⟩⟩
      · exact ⟨_, h1, .inr ⟨rfl, h2⟩⟩
    obtain ⟨z, rfl, hz⟩ := hv'
    refine ⟨fun _ h => by first | trivial | exact Mod.trans h (Ext.mod (by assumption)), ?_⟩
    (repeat (refine GX.pure rfl ?_; first | refine GO.move rfl rfl rfl rfl ?_ | refine GO.assign rfl rfl rfl rfl ?_ | refine GO.makeFunc rfl rfl rfl rfl rfl ?_))
    (repeat (first | refine GX.doneD ?_ | refine GX.done ?_ | refine GQ.goNormal ?_ | refine GC.seq ?_ | refine GC.skip ?_ | refine GC.block ?_ | refine GC.exit ?_ | refine GC.ret ?_ | refine GQ.goExit ?_ | refine GQ.goRet ?_ | refine GQ.inNormal ?_ | refine GQ.inExit ?_ | refine GQ.inExitNe rfl ?_ | refine GQ.inRet ?_ | refine GQ.loopExit ?_ | refine GQ.loopRet ?_ | refine GQ.cutExit ?_ | refine GQ.cutRet ?_))
    refine GC.region (.pure 0 (.pure 1 .done)) rfl ?_
    (repeat (refine GX.pure rfl ?_; first | refine GO.move rfl rfl rfl rfl ?_ | refine GO.geq rfl rfl rfl rfl rfl ?_))
    (repeat (first | refine GX.doneD ?_ | refine GX.done ?_ | refine GQ.goNormal ?_ | refine GC.seq ?_ | refine GC.skip ?_ | refine GC.block ?_ | refine GC.exit ?_ | refine GC.ret ?_ | refine GQ.goExit ?_ | refine GQ.goRet ?_ | refine GQ.inNormal ?_ | refine GQ.inExit ?_ | refine GQ.inExitNe rfl ?_ | refine GQ.inRet ?_ | refine GQ.loopExit ?_ | refine GQ.loopRet ?_ | refine GQ.cutExit ?_ | refine GQ.cutRet ?_))
    have hB11 := hB10.ext hE11
    have hE611 := hE610.trans hE11
    refine GC.cut (X := Unit) (fun _ => [(2, .slice a2 l.length c2), (8, .pointer (some ⟨b, 0, none⟩)), (30, .slice (some ⟨xs, 0, none⟩) names.length c'), (31, .int .i64 names.length), (32, .int .i64 k)]) (fun _ w' => BuA w' w1.heap.size b (name ++ [63] ++ bodyF l (s.take (k + 1))) ∧ BuK w1.heap.size b w11 w') ?_ ?_
    · refine GC.cond rfl (fun h12 => ?_) (fun h12 => ?_)
      · have hz0 : 0 ≤ z := of_decide_eq_true h12
        rcases hz with ⟨j, hj, rfl, hf⟩ | ⟨rfl, _⟩
        rotate_left
        · omega
        have hlj := ha64 _ (List.getElem_mem hj)
        (repeat (first | refine GX.doneD ?_ | refine GX.done ?_ | refine GQ.goNormal ?_ | refine GC.seq ?_ | refine GC.skip ?_ | refine GC.block ?_ | refine GC.exit ?_ | refine GC.ret ?_ | refine GQ.goExit ?_ | refine GQ.goRet ?_ | refine GQ.inNormal ?_ | refine GQ.inExit ?_ | refine GQ.inExitNe rfl ?_ | refine GQ.inRet ?_ | refine GQ.loopExit ?_ | refine GQ.loopRet ?_ | refine GQ.cutExit ?_ | refine GQ.cutRet ?_))
        refine GC.region (.eff 0 .done) rfl ?_
        (refine GX.eff rfl ?_; refine GO.callL rfl rfl rfl rfl rfl (writeByte_ret w1.heap.size b _ 61 _ hB11 (by simp only [List.length_append, List.length_cons, List.length_nil]; omega)) ?_)
        rintro v w12 ⟨hB12, hK12⟩
        refine ⟨fun _ h => by first | trivial | exact Mod.trans h (Ext.mod (by assumption)), ?_⟩
        skip
        (repeat (first | refine GX.doneD ?_ | refine GX.done ?_ | refine GQ.goNormal ?_ | refine GC.seq ?_ | refine GC.skip ?_ | refine GC.block ?_ | refine GC.exit ?_ | refine GC.ret ?_ | refine GQ.goExit ?_ | refine GQ.goRet ?_ | refine GQ.inNormal ?_ | refine GQ.inExit ?_ | refine GQ.inExitNe rfl ?_ | refine GQ.inRet ?_ | refine GQ.loopExit ?_ | refine GQ.loopRet ?_ | refine GQ.cutExit ?_ | refine GQ.cutRet ?_))
        have hA12 : AttrsAt w12 a2 c2 l := (hA.ext hE1).ext (hK12.ext rfl hE611)
        obtain ⟨xb, xo, rfl, hAt2⟩ := attrs_at hA12 hj
        refine GC.region (.pure 0 (.pure 1 (.pure 2 (.pure 3 (.eff 4 (.eff 5 .done)))))) rfl ?_
        (repeat (refine GX.pure rfl ?_; first | refine GO.move rfl rfl rfl rfl ?_ | refine GO.fieldAddr rfl rfl rfl rfl rfl ?_))
        refine GX.pure rfl (GO.indexAddr rfl rfl rfl rfl (by omega) (by omega) rfl ?_)
        (repeat (refine GX.pure rfl ?_; first | refine GO.move rfl rfl rfl rfl ?_ | refine GO.fieldAddr rfl rfl rfl rfl rfl ?_))
        (first | (refine GX.eff rfl ?_; first | refine GO.load1 ((hAt2 (j : Int) (by omega)).get (k := 1) rfl) rfl rfl rfl ?_ | refine GO.loadN ((hAt2 (j : Int) (by omega)).get (k := 1) rfl) rfl rfl rfl rfl ?_) | (refine GX.read rfl ?_; first | refine GO.load1R (by assumption) (fun _ hS_ => At.mod ((hAt2 (j : Int) (by omega)).get (k := 1) rfl) hS_ (by simp)) rfl rfl rfl ?_ | refine GO.loadNR (by assumption) (fun _ hS_ => At.mod ((hAt2 (j : Int) (by omega)).get (k := 1) rfl) hS_ (by simp)) rfl rfl rfl rfl ?_))
        (repeat (refine GX.pure rfl ?_; first | refine GO.move rfl rfl rfl rfl ?_ | refine GO.fieldAddr rfl rfl rfl rfl rfl ?_))
        (refine GX.eff rfl ?_; refine GO.callL rfl rfl rfl rfl rfl (escape_ret w1.heap.size b _ l[j].2 (by simp only [List.length_append, List.length_cons, List.length_nil]; omega) _ hB12) ?_)
        rintro v w13 ⟨hB13, hK13⟩
        refine ⟨fun _ h => by first | trivial | exact Mod.trans h (Ext.mod (by assumption)), ?_⟩
        (repeat (refine GX.pure rfl ?_; first | refine GO.move rfl rfl rfl rfl ?_ | refine GO.fieldAddr rfl rfl rfl rfl rfl ?_))
        (repeat (first | refine GX.doneD ?_ | refine GX.done ?_ | refine GQ.goNormal ?_ | refine GC.seq ?_ | refine GC.skip ?_ | refine GC.block ?_ | refine GC.exit ?_ | refine GC.ret ?_ | refine GQ.goExit ?_ | refine GQ.goRet ?_ | refine GQ.inNormal ?_ | refine GQ.inExit ?_ | refine GQ.inExitNe rfl ?_ | refine GQ.inRet ?_ | refine GQ.loopExit ?_ | refine GQ.loopRet ?_ | refine GQ.cutExit ?_ | refine GQ.cutRet ?_))
        have hv : part l s[k] = s[k] ++ (61 :: escF l[j].2) := by simp [part, valOf, hf]
        exact GQ.cutNormal () (sub_pick (l := [2, 8, 30, 31, 32]) rfl) ⟨by rw [body_take l hlt, hv]; simpa only [List.append_assoc, List.cons_append, List.nil_append] using hB13, hK12.trans hK13⟩
      · have hz0 : ¬ 0 ≤ z := of_decide_eq_false h12
        rcases hz with ⟨j, hj, rfl, hf⟩ | ⟨rfl, hf⟩
        · omega
        have hv : part l s[k] = s[k] := by simp [part, valOf, hf]
        (repeat (first | refine GX.doneD ?_ | refine GX.done ?_ | refine GQ.goNormal ?_ | refine GC.seq ?_ | refine GC.skip ?_ | refine GC.block ?_ | refine GC.exit ?_ | refine GC.ret ?_ | refine GQ.goExit ?_ | refine GQ.goRet ?_ | refine GQ.inNormal ?_ | refine GQ.inExit ?_ | refine GQ.inExitNe rfl ?_ | refine GQ.inRet ?_ | refine GQ.loopExit ?_ | refine GQ.loopRet ?_ | refine GQ.cutExit ?_ | refine GQ.cutRet ?_))
        exact GQ.cutNormal () (sub_pick (l := [2, 8, 30, 31, 32]) rfl) ⟨by rw [body_take l hlt, hv]; simpa only [List.append_assoc, List.cons_append, List.nil_append] using hB11, BuK.refl _ _ _⟩
    rintro _ w12 ⟨hB12, hK12⟩
    (repeat (first | refine GX.doneD ?_ | refine GX.done ?_ | refine GQ.goNormal ?_ | refine GC.seq ?_ | refine GC.skip ?_ | refine GC.block ?_ | refine GC.exit ?_ | refine GC.ret ?_ | refine GQ.goExit ?_ | refine GQ.goRet ?_ | refine GQ.inNormal ?_ | refine GQ.inExit ?_ | refine GQ.inExitNe rfl ?_ | refine GQ.inRet ?_ | refine GQ.loopExit ?_ | refine GQ.loopRet ?_ | refine GQ.cutExit ?_ | refine GQ.cutRet ?_))
    refine GC.region (.pure 0 (.pure 1 .done)) rfl ?_
    (repeat (refine GX.pure rfl ?_; first | refine GO.move rfl rfl rfl rfl ?_ | refine GO.add rfl rfl rfl rfl rfl (wrapIn (by dsimp only [InK]; omega)) ?_))
    (repeat (first | refine GX.doneD ?_ | refine GX.done ?_ | refine GQ.goNormal ?_ | refine GC.seq ?_ | refine GC.skip ?_ | refine GC.block ?_ | refine GC.exit ?_ | refine GC.ret ?_ | refine GQ.goExit ?_ | refine GQ.goRet ?_ | refine GQ.inNormal ?_ | refine GQ.inExit ?_ | refine GQ.inExitNe rfl ?_ | refine GQ.inRet ?_ | refine GQ.loopExit ?_ | refine GQ.loopRet ?_ | refine GQ.cutExit ?_ | refine GQ.cutRet ?_))
    exact GQ.again (k + 1) (sub_pick (l := [2, 8, 30, 31, 32]) rfl) ⟨hlt, hK12.ext rfl hE611, hB12, (((hS6.ext hE68).kept (hK9.trans hK10) hb4).ext hE11).kept hK12 hb4⟩ (by omega)
  · have hge : k = s.length := by have := of_decide_eq_false hc; omega
    subst hge
    rw [List.take_length] at hB6
    have hbk : (bodyF l s).length ≤ 3300 := by simpa using hbl s.length
    have hkey : keyF name names l = if 250 < (name ++ [63] ++ bodyF l s).length then ([], 5) else (name ++ [63] ++ bodyF l s, 0) := by
      unfold keyF
      rw [if_pos hok, hs]
      simp
    (repeat (first | refine GX.doneD ?_ | refine GX.done ?_ | refine GQ.goNormal ?_ | refine GC.seq ?_ | refine GC.skip ?_ | refine GC.block ?_ | refine GC.exit ?_ | refine GC.ret ?_ | refine GQ.goExit ?_ | refine GQ.goRet ?_ | refine GQ.inNormal ?_ | refine GQ.inExit ?_ | refine GQ.inExitNe rfl ?_ | refine GQ.inRet ?_ | refine GQ.loopExit ?_ | refine GQ.loopRet ?_ | refine GQ.cutExit ?_ | refine GQ.cutRet ?_))
    refine GC.region (.eff 0 (.pure 1 .done)) rfl ?_
    (refine GX.eff rfl ?_; refine GO.callL rfl rfl rfl rfl rfl (len_ret w1.heap.size b _ _ hB6) ?_)
    rintro v w7 ⟨rfl, rfl⟩
    refine ⟨fun _ h => by first | trivial | exact Mod.trans h (Ext.mod (by assumption)), ?_⟩
    (repeat (refine GX.pure rfl ?_; refine GO.gtr rfl rfl rfl rfl rfl ?_))
    (repeat (first | refine GX.doneD ?_ | refine GX.done ?_ | refine GQ.goNormal ?_ | refine GC.seq ?_ | refine GC.skip ?_ | refine GC.block ?_ | refine GC.exit ?_ | refine GC.ret ?_ | refine GQ.goExit ?_ | refine GQ.goRet ?_ | refine GQ.inNormal ?_ | refine GQ.inExit ?_ | refine GQ.inExitNe rfl ?_ | refine GQ.inRet ?_ | refine GQ.loopExit ?_ | refine GQ.loopRet ?_ | refine GQ.cutExit ?_ | refine GQ.cutRet ?_))
    refine GC.cond rfl (fun hq2 => ?_) (fun hq2 => ?_)
    · have h250 : 250 < (name ++ [63] ++ bodyF l s).length := by have := of_decide_eq_true hq2; omega
      (repeat (first | refine GX.doneD ?_ | refine GX.done ?_ | refine GQ.goNormal ?_ | refine GC.seq ?_ | refine GC.skip ?_ | refine GC.block ?_ | refine GC.exit ?_ | refine GC.ret ?_ | refine GQ.goExit ?_ | refine GQ.goRet ?_ | refine GQ.inNormal ?_ | refine GQ.inExit ?_ | refine GQ.inExitNe rfl ?_ | refine GQ.inRet ?_ | refine GQ.loopExit ?_ | refine GQ.loopRet ?_ | refine GQ.cutExit ?_ | refine GQ.cutRet ?_))
      refine GC.region (.pure 0 (.pure 1 .done)) rfl ?_
      (repeat (refine GX.pure rfl ?_; refine GO.assign rfl rfl rfl rfl ?_))
      (repeat (first | refine GX.doneD ?_ | refine GX.done ?_ | refine GQ.goNormal ?_ | refine GC.seq ?_ | refine GC.skip ?_ | refine GC.block ?_ | refine GC.exit ?_ | refine GC.ret ?_ | refine GQ.goExit ?_ | refine GQ.goRet ?_ | refine GQ.inNormal ?_ | refine GQ.inExit ?_ | refine GQ.inExitNe rfl ?_ | refine GQ.inRet ?_ | refine GQ.loopExit ?_ | refine GQ.loopRet ?_ | refine GQ.cutExit ?_ | refine GQ.cutRet ?_))
      refine GQ.ret2 (by first | exact .inl rfl | exact .inr rfl) rfl rfl rfl ?_
      exact ⟨by rw [hkey, if_pos h250]; rfl, hE1.trans hE6⟩
    · have h250 : ¬ 250 < (name ++ [63] ++ bodyF l s).length := by have := of_decide_eq_false hq2; omega
      (repeat (first | refine GX.doneD ?_ | refine GX.done ?_ | refine GQ.goNormal ?_ | refine GC.seq ?_ | refine GC.skip ?_ | refine GC.block ?_ | refine GC.exit ?_ | refine GC.ret ?_ | refine GQ.goExit ?_ | refine GQ.goRet ?_ | refine GQ.inNormal ?_ | refine GQ.inExit ?_ | refine GQ.inExitNe rfl ?_ | refine GQ.inRet ?_ | refine GQ.loopExit ?_ | refine GQ.loopRet ?_ | refine GQ.cutExit ?_ | refine GQ.cutRet ?_))
      refine GC.region (.eff 0 (.pure 1 (.pure 2 .done))) rfl ?_
      (refine GX.eff rfl ?_; refine GO.callL rfl rfl rfl rfl rfl (string_ret w1.heap.size b _ _ hB6) ?_)
      rintro v w8 ⟨rfl, hK8⟩
      refine ⟨fun _ h => by first | trivial | exact Mod.trans h (Ext.mod (by assumption)), ?_⟩
      (repeat (refine GX.pure rfl ?_; refine GO.assign rfl rfl rfl rfl ?_))
      (repeat (first | refine GX.doneD ?_ | refine GX.done ?_ | refine GQ.goNormal ?_ | refine GC.seq ?_ | refine GC.skip ?_ | refine GC.block ?_ | refine GC.exit ?_ | refine GC.ret ?_ | refine GQ.goExit ?_ | refine GQ.goRet ?_ | refine GQ.inNormal ?_ | refine GQ.inExit ?_ | refine GQ.inExitNe rfl ?_ | refine GQ.inRet ?_ | refine GQ.loopExit ?_ | refine GQ.loopRet ?_ | refine GQ.cutExit ?_ | refine GQ.cutRet ?_))
      refine GQ.ret2 (by first | exact .inl rfl | exact .inr rfl) rfl rfl rfl ?_
      exact ⟨by rw [hkey, if_neg h250], hE1.trans (hK8.ext rfl hE6)⟩
end Go.Proofs.YtfoabgljfikklaaGreatDoor.V.Ky
