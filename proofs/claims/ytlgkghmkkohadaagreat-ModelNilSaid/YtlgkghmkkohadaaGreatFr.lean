/-
  Responses in memory, as far as the law's test for slight ones looks at them, and what that test computes. No condition.
-/
import Derived.Test.YtlgkghmkkohadaaGreatFh
namespace Go.Proofs.YtlgkghmkkohadaaGreat.V
open Go.ChangeShapes Go.WideShapes Go.ChangeAt Go.RowKit Go.Deep

/-- A slice of items whose values have these lengths. -/
structure ItemsAt (w : World) (a : Option Addr) (l : List Nat) : Prop where
  cell : ∀ i n, l[i]? = some n → ∃ b o va vc, a = some ⟨b, o, none⟩ ∧ At w b (o + i * 4 + 1) [.slice va n vc]
  lt : ∀ x, a = some x → l ≠ [] → x.block < w.heap.size
theorem ItemsAt.mod {S : Nat → Prop} {w w' : World} {a : Option Addr} {l : List Nat} (h : ItemsAt w a l) (hm : Mod S w w') (hn : ∀ x, a = some x → l ≠ [] → ¬ S x.block) : ItemsAt w' a l := by
  refine ⟨fun i n hi => ?_, fun x hx hne => Nat.lt_of_lt_of_le (h.lt x hx hne) hm.size⟩
  obtain ⟨b, o, va, vc, rfl, hA⟩ := h.cell i n hi
  exact ⟨b, o, va, vc, rfl, hA.mod hm (hn _ rfl (by rintro rfl; cases hi))⟩
/-- The cells of a response: the lengths of its items' values; so many numbers. -/
def RespW (w : World) (r : List Value) (l : List Nat) (k : Nat) : Prop :=
  ∃ v0 v1 v3 v4 ia ic na nc, r = [v0, v1, .slice ia l.length ic, v3, v4, .slice na k nc] ∧ (∀ v ∈ [v0, v1, v3, v4], v.oneCell' = true) ∧ ItemsAt w ia l
theorem RespW.old {w w' : World} {r : List Value} {l : List Nat} {k : Nat} (h : RespW w r l k) (hm : Mod (fun k => w.heap.size ≤ k) w w') : RespW w' r l k := by
  obtain ⟨v0, v1, v3, v4, ia, ic, na, nc, h1, h2, h3⟩ := h
  exact ⟨v0, v1, v3, v4, ia, ic, na, nc, h1, h2, h3.mod hm fun x hx hne => Nat.not_le_of_lt (h3.lt x hx hne)⟩
theorem RespW.length {w : World} {r : List Value} {l : List Nat} {k : Nat} (h : RespW w r l k) : r.length = 6 := by
  obtain ⟨v0, v1, v3, v4, ia, ic, na, nc, rfl, _⟩ := h; rfl
theorem RespW.one {w : World} {r : List Value} {l : List Nat} {k : Nat} (h : RespW w r l k) : ∀ u ∈ r, u.oneCell' = true := by
  obtain ⟨v0, v1, v3, v4, ia, ic, na, nc, rfl, h2, _⟩ := h
  simp only [List.mem_cons, List.not_mem_nil, or_false] at h2 ⊢
  rintro u (rfl | rfl | rfl | rfl | rfl | rfl)
  · exact h2 _ (Or.inl rfl)
  · exact h2 _ (Or.inr (Or.inl rfl))
  · rfl
  · exact h2 _ (Or.inr (Or.inr (Or.inl rfl)))
  · exact h2 _ (Or.inr (Or.inr (Or.inr rfl)))
  · rfl
/-- A slight response. -/
def SlightR (l : List Nat) (k : Nat) : Prop := l.length ≤ 20 ∧ k ≤ 20 ∧ ∀ n ∈ l, n ≤ 300
instance (l : List Nat) (k : Nat) : Decidable (SlightR l k) := by unfold SlightR; infer_instance

theorem open_itemsAt {H : Type} {enc : TypeId × Value → H} {W : World} {fuel : Nat} {t e : TypeId} {v : Value} {x : DataW H × List MemPlace} (ht : Tryz.prog.underlying t = some (.slice 64))
    (h : Rd enc Tryz.prog W fuel t [v] = some x) : ∃ a l c, v = .slice a (List.length l) c ∧ ItemsAt W a l := by
  rcases open_slice ht h with ⟨hv, _⟩ | ⟨a, len, cap, m, n, D, Pl, hv, _, hl, hm, hmm, _, hx⟩
  · simp at hv
    subst hv
    exact ⟨none, [], 0, rfl, ⟨by simp, by simp⟩⟩
  · simp at hv
    subst hv
    simp at hmm
    have hc : Tryz.prog.cellsOf 64 = 4 := by kernel_rfl
    rw [hc] at hx
    have hz : ∀ i, i < len → ∃ z : Nat, ∃ va vc, W.cell? ((a.add (i * 4)).add 1) = some (.slice va z vc) := fun i hi => by
      obtain ⟨cs, h1, h2⟩ := hx i (by omega)
      obtain ⟨_, hlen, hcell⟩ := World.cells?_some h1
      obtain ⟨_, _, _, u1, r1⟩ := trod_cell (i := 1) (o := 1) (d := .slice 5) (by kernel_rfl) h2
      match cs, hlen with
      | [c0, c1, c2, c3], _ =>
        obtain ⟨va, vc, value, rfl⟩ := open_bytesLen u1 (by kernel_rfl) (by kernel_rfl) r1
        exact ⟨_, va, vc, hcell 1 (by omega)⟩
    have hspot : 0 < len → a.spot = none := fun hp => by
      obtain ⟨cs, h1, h2⟩ := hx 0 (by omega)
      obtain ⟨_, hlen, hcell⟩ := World.cells?_some h1
      match cs, hlen with
      | [c0, c1, c2, c3], _ =>
        have := cell_spot (hcell 0 (by omega))
        simpa [Addr.add] using this
    obtain ⟨f, hf⟩ := choose_lt (p := fun i (z : Nat) => ∃ va vc, W.cell? ((a.add (i * 4)).add 1) = some (.slice va z vc)) hz
    refine ⟨some a, (List.range len).map f, cap, by simp, ⟨fun i n hi => ?_, fun y hy hne => ?_⟩⟩
    · simp only [List.getElem?_map, Option.map_eq_some_iff] at hi
      obtain ⟨j, hj, rfl⟩ := hi
      have hj' : i < len := by
        have := (List.getElem?_eq_some_iff.1 hj).1
        simpa using this
      have : j = i := by
        rw [List.getElem?_range hj'] at hj
        cases hj
        rfl
      subst this
      obtain ⟨va, vc, hcell⟩ := hf j hj'
      have hsp := hspot (by omega)
      obtain ⟨b, o, sp⟩ := a
      rw [add_add] at hcell
      dsimp only at hsp
      subst hsp
      refine ⟨b, o, va, vc, rfl, ?_⟩
      rw [add_none] at hcell
      intro k v hv
      match k, hv with
      | 0, hv =>
        simp at hv
        subst hv
        simpa [Nat.add_assoc] using hcell
    · cases hy
      have hlen : 0 < len := by
        cases len with
        | zero => exact absurd rfl hne
        | succ n => omega
      obtain ⟨va, vc, hcell⟩ := hf 0 hlen
      have := block_lt_of_cell hcell
      rw [add_add] at this
      revert this
      simp [Addr.add]

theorem open_resp {H : Type} {enc : TypeId × Value → H} {W : World} {fuel : Nat} {cs : List Value} {x : DataW H × List MemPlace} (h : Rd enc Tryz.prog W fuel 48 cs = some x) (hl : cs.length = 6) :
    ∃ l k, RespW W cs l k := by
  match cs, hl with
  | [c0, c1, c2, c3, c4, c5], _ =>
    obtain ⟨_, _, _, u0, r0⟩ := trod_cell (i := 0) (o := 0) (d := .int .i64) (by kernel_rfl) h
    obtain ⟨_, _, _, u1, r1⟩ := trod_cell (i := 1) (o := 1) (d := .int .i64) (by kernel_rfl) h
    obtain ⟨_, _, _, u2, r2⟩ := trod_cell (i := 2) (o := 2) (d := .slice 64) (by kernel_rfl) h
    obtain ⟨_, _, _, u3, r3⟩ := trod_cell (i := 3) (o := 3) (d := .int .u64) (by kernel_rfl) h
    obtain ⟨_, _, _, u4, r4⟩ := trod_cell (i := 4) (o := 4) (d := .int .i64) (by kernel_rfl) h
    obtain ⟨_, _, _, u5, r5⟩ := trod_cell (i := 5) (o := 5) (d := .slice 22) (by kernel_rfl) h
    obtain ⟨n0, rfl⟩ := open_intAt u0 r0
    obtain ⟨n1, rfl⟩ := open_intAt u1 r1
    obtain ⟨ia, l, ic, rfl, hI⟩ := open_itemsAt (e := 0) u2 r2
    obtain ⟨n3, rfl⟩ := open_intAt u3 r3
    obtain ⟨n4, rfl⟩ := open_intAt u4 r4
    have h5 : ∃ na nc, ∃ k : Nat, c5 = .slice na k nc := by
      rcases open_ints (k := .u64) u5 (by kernel_rfl) (by kernel_rfl) r5 with ⟨hv, _⟩ | ⟨a, len, cap, zs, hv, _⟩
      · simp at hv
        exact ⟨none, 0, 0, hv⟩
      · simp at hv
        exact ⟨some a, cap, len, hv⟩
    obtain ⟨na, nc, k, rfl⟩ := h5
    exact ⟨l, k, _, _, _, _, ia, ic, na, nc, rfl, by simp [Value.oneCell'], hI⟩

attribute [local irreducible] GX GO

set_option maxHeartbeats 4000000 in
theorem slight_ret (r : List Value) (l : List Nat) (k : Nat) (w : World) (hV : RespW w r l k) :
    Ret Tryz.prog 11 [.agg r.toArray].toArray w fun v w' => (∃ z, v = .bool z ∧ (z = true ↔ SlightR l k)) ∧ Ext w w' := by
  obtain ⟨v0, v1, v3, v4, ia, ic, na, nc, rfl, hone, hI⟩ := hV
  
  refine Ret.enter Tryz.func11 rfl Tryz.ntmps11 rfl ?_
  (repeat (first | refine GX.doneD ?_ | refine GX.done ?_ | refine GQ.goNormal ?_ | refine GC.seq ?_ | refine GC.skip ?_ | refine GC.block ?_ | refine GC.exit ?_ | refine GC.ret ?_ | refine GQ.goExit ?_ | refine GQ.goRet ?_ | refine GQ.inNormal ?_ | refine GQ.inExit ?_ | refine GQ.inExitNe rfl ?_ | refine GQ.inRet ?_ | refine GQ.loopExit ?_ | refine GQ.loopRet ?_ | refine GQ.cutExit ?_ | refine GQ.cutRet ?_))
  refine GC.region (.eff 0 (.pure 1 .done)) rfl ?_
  refine GX.eff rfl ?_
  refine GO.box (l := [v0, v1, .slice ia l.length ic, v3, v4, .slice na k nc]) rfl rfl rfl rfl fun b1 w1 hb1 hB hE => ?_
  refine ⟨fun _ h => by first | trivial | exact Mod.trans h (Ext.mod (by assumption)), ?_⟩
  (repeat (refine GX.pure rfl ?_; refine GO.assign rfl rfl rfl rfl ?_))
  (repeat (first | refine GX.doneD ?_ | refine GX.done ?_ | refine GQ.goNormal ?_ | refine GC.seq ?_ | refine GC.skip ?_ | refine GC.block ?_ | refine GC.exit ?_ | refine GC.ret ?_ | refine GQ.goExit ?_ | refine GQ.goRet ?_ | refine GQ.inNormal ?_ | refine GQ.inExit ?_ | refine GQ.inExitNe rfl ?_ | refine GQ.inRet ?_ | refine GQ.loopExit ?_ | refine GQ.loopRet ?_ | refine GQ.cutExit ?_ | refine GQ.cutRet ?_))
  refine GC.region (.pure 0 .done) rfl ?_
  (repeat (refine GX.pure rfl ?_; refine GO.assign rfl rfl rfl rfl ?_))
  (repeat (first | refine GX.doneD ?_ | refine GX.done ?_ | refine GQ.goNormal ?_ | refine GC.seq ?_ | refine GC.skip ?_ | refine GC.block ?_ | refine GC.exit ?_ | refine GC.ret ?_ | refine GQ.goExit ?_ | refine GQ.goRet ?_ | refine GQ.inNormal ?_ | refine GQ.inExit ?_ | refine GQ.inExitNe rfl ?_ | refine GQ.inRet ?_ | refine GQ.loopExit ?_ | refine GQ.loopRet ?_ | refine GQ.cutExit ?_ | refine GQ.cutRet ?_))
  have hI1 := hI.mod hE (by simp)
  refine GC.loop (X := Nat) (fun i => [(1, .pointer (some ⟨b1, 0, none⟩)), (2, .bool false), (3, .int .i64 i)]) (fun i w' => w1 = w' ∧ i ≤ l.length ∧ ∀ x ∈ l.take i, x ≤ 300) (fun i => l.length - i) 0 (sub_pick (l := [1, 2, 3]) rfl) ⟨rfl, Nat.zero_le _, by simp⟩ ?_
  rintro i _ ⟨rfl, hi, hpi⟩
  (repeat (first | refine GX.doneD ?_ | refine GX.done ?_ | refine GQ.goNormal ?_ | refine GC.seq ?_ | refine GC.skip ?_ | refine GC.block ?_ | refine GC.exit ?_ | refine GC.ret ?_ | refine GQ.goExit ?_ | refine GQ.goRet ?_ | refine GQ.inNormal ?_ | refine GQ.inExit ?_ | refine GQ.inExitNe rfl ?_ | refine GQ.inRet ?_ | refine GQ.loopExit ?_ | refine GQ.loopRet ?_ | refine GQ.cutExit ?_ | refine GQ.cutRet ?_))
  refine GC.region (.pure 0 (.pure 1 (.eff 2 (.pure 3 (.pure 4 (.pure 5 (.pure 6 (.pure 7 (.pure 8 .done))))))))) rfl ?_
  (repeat (refine GX.pure rfl ?_; first | refine GO.move rfl rfl rfl rfl ?_ | refine GO.fieldAddr rfl rfl rfl rfl rfl ?_ | refine GO.lenSlice rfl rfl rfl rfl ?_ | refine GO.lss rfl rfl rfl rfl rfl ?_ | refine GO.pickT rfl rfl rfl rfl rfl ?_ | refine GO.pickF rfl rfl rfl rfl rfl ?_ | refine GO.skip (.inl rfl) rfl rfl ?_))
  (first | (refine GX.eff rfl ?_; first | refine GO.load1 (hB.get (o := 0 + 2) rfl) rfl rfl rfl ?_ | refine GO.loadN (hB.get (o := 0 + 2) rfl) rfl rfl rfl rfl ?_) | (refine GX.read rfl ?_; first | refine GO.load1R (by assumption) (fun _ hS_ => At.mod (hB.get (o := 0 + 2) rfl) hS_ (by simp)) rfl rfl rfl ?_ | refine GO.loadNR (by assumption) (fun _ hS_ => At.mod (hB.get (o := 0 + 2) rfl) hS_ (by simp)) rfl rfl rfl rfl ?_))
  (repeat (refine GX.pure rfl ?_; first | refine GO.move rfl rfl rfl rfl ?_ | refine GO.fieldAddr rfl rfl rfl rfl rfl ?_ | refine GO.lenSlice rfl rfl rfl rfl ?_ | refine GO.lss rfl rfl rfl rfl rfl ?_ | refine GO.pickT rfl rfl rfl rfl rfl ?_ | refine GO.pickF rfl rfl rfl rfl rfl ?_ | refine GO.skip (.inl rfl) rfl rfl ?_))
  refine GX.case 9 rfl (fun g0 => ?_) (fun g0 => ?_)
  · have g0' : ((i : Nat) : Int) < l.length := of_decide_eq_true g0
    have hlt : i < l.length := by omega
    (repeat (refine GX.pure rfl ?_; first | refine GO.move rfl rfl rfl rfl ?_ | refine GO.fieldAddr rfl rfl rfl rfl rfl ?_ | refine GO.lenSlice rfl rfl rfl rfl ?_ | refine GO.lss rfl rfl rfl rfl rfl ?_ | refine GO.pickT rfl rfl rfl rfl rfl ?_ | refine GO.pickF rfl rfl rfl rfl rfl ?_ | refine GO.skip (.inl rfl) rfl rfl ?_))
    (repeat (first | refine GX.doneD ?_ | refine GX.done ?_ | refine GQ.goNormal ?_ | refine GC.seq ?_ | refine GC.skip ?_ | refine GC.block ?_ | refine GC.exit ?_ | refine GC.ret ?_ | refine GQ.goExit ?_ | refine GQ.goRet ?_ | refine GQ.inNormal ?_ | refine GQ.inExit ?_ | refine GQ.inExitNe rfl ?_ | refine GQ.inRet ?_ | refine GQ.loopExit ?_ | refine GQ.loopRet ?_ | refine GQ.cutExit ?_ | refine GQ.cutRet ?_))
    refine GC.cond rfl (fun hc => ?_) (fun hc => ?_)
    · have hc' : ((i : Nat) : Int) < 20 := of_decide_eq_true hc
      obtain ⟨ba, oa, va, vc, rfl, hcel0⟩ := hI1.cell i l[i] (by simp [hlt])
      have hcel : At w1 ba (oa + (i : Int).toNat * 4 + 1) [.slice va l[i] vc] := by simpa using hcel0
      (repeat (first | refine GX.doneD ?_ | refine GX.done ?_ | refine GQ.goNormal ?_ | refine GC.seq ?_ | refine GC.skip ?_ | refine GC.block ?_ | refine GC.exit ?_ | refine GC.ret ?_ | refine GQ.goExit ?_ | refine GQ.goRet ?_ | refine GQ.inNormal ?_ | refine GQ.inExit ?_ | refine GQ.inExitNe rfl ?_ | refine GQ.inRet ?_ | refine GQ.loopExit ?_ | refine GQ.loopRet ?_ | refine GQ.cutExit ?_ | refine GQ.cutRet ?_))
      refine GC.region (.pure 0 (.eff 1 (.pure 2 (.pure 3 (.pure 4 (.eff 5 (.pure 6 (.pure 7 .done)))))))) rfl ?_
      (repeat (refine GX.pure rfl ?_; first | refine GO.move rfl rfl rfl rfl ?_ | refine GO.fieldAddr rfl rfl rfl rfl rfl ?_ | refine GO.lenSlice rfl rfl rfl rfl ?_ | refine GO.gtr rfl rfl rfl rfl rfl ?_))
      (first | (refine GX.eff rfl ?_; first | refine GO.load1 (hB.get (o := 0 + 2) rfl) rfl rfl rfl ?_ | refine GO.loadN (hB.get (o := 0 + 2) rfl) rfl rfl rfl rfl ?_) | (refine GX.read rfl ?_; first | refine GO.load1R (by assumption) (fun _ hS_ => At.mod (hB.get (o := 0 + 2) rfl) hS_ (by simp)) rfl rfl rfl ?_ | refine GO.loadNR (by assumption) (fun _ hS_ => At.mod (hB.get (o := 0 + 2) rfl) hS_ (by simp)) rfl rfl rfl rfl ?_))
      (repeat (refine GX.pure rfl ?_; first | refine GO.move rfl rfl rfl rfl ?_ | refine GO.fieldAddr rfl rfl rfl rfl rfl ?_ | refine GO.lenSlice rfl rfl rfl rfl ?_ | refine GO.gtr rfl rfl rfl rfl rfl ?_))
      refine GX.pure rfl (GO.indexAddr rfl rfl rfl rfl (by omega) (by omega) rfl ?_)
      (repeat (refine GX.pure rfl ?_; first | refine GO.move rfl rfl rfl rfl ?_ | refine GO.fieldAddr rfl rfl rfl rfl rfl ?_ | refine GO.lenSlice rfl rfl rfl rfl ?_ | refine GO.gtr rfl rfl rfl rfl rfl ?_))
      (first | (refine GX.eff rfl ?_; first | refine GO.load1 (hcel) rfl rfl rfl ?_ | refine GO.loadN (hcel) rfl rfl rfl rfl ?_) | (refine GX.read rfl ?_; first | refine GO.load1R (by assumption) (fun _ hS_ => At.mod (hcel) hS_ (by simp)) rfl rfl rfl ?_ | refine GO.loadNR (by assumption) (fun _ hS_ => At.mod (hcel) hS_ (by simp)) rfl rfl rfl rfl ?_))
      (repeat (refine GX.pure rfl ?_; first | refine GO.move rfl rfl rfl rfl ?_ | refine GO.fieldAddr rfl rfl rfl rfl rfl ?_ | refine GO.lenSlice rfl rfl rfl rfl ?_ | refine GO.gtr rfl rfl rfl rfl rfl ?_))
      (repeat (first | refine GX.doneD ?_ | refine GX.done ?_ | refine GQ.goNormal ?_ | refine GC.seq ?_ | refine GC.skip ?_ | refine GC.block ?_ | refine GC.exit ?_ | refine GC.ret ?_ | refine GQ.goExit ?_ | refine GQ.goRet ?_ | refine GQ.inNormal ?_ | refine GQ.inExit ?_ | refine GQ.inExitNe rfl ?_ | refine GQ.inRet ?_ | refine GQ.loopExit ?_ | refine GQ.loopRet ?_ | refine GQ.cutExit ?_ | refine GQ.cutRet ?_))
      refine GC.cond rfl (fun hx => ?_) (fun hx => ?_)
      · have hx' : (300 : Int) < l[i] := of_decide_eq_true hx
        (repeat (first | refine GX.doneD ?_ | refine GX.done ?_ | refine GQ.goNormal ?_ | refine GC.seq ?_ | refine GC.skip ?_ | refine GC.block ?_ | refine GC.exit ?_ | refine GC.ret ?_ | refine GQ.goExit ?_ | refine GQ.goRet ?_ | refine GQ.inNormal ?_ | refine GQ.inExit ?_ | refine GQ.inExitNe rfl ?_ | refine GQ.inRet ?_ | refine GQ.loopExit ?_ | refine GQ.loopRet ?_ | refine GQ.cutExit ?_ | refine GQ.cutRet ?_))
        refine GC.region (.pure 0 .done) rfl ?_
        (repeat (refine GX.pure rfl ?_; refine GO.assign rfl rfl rfl rfl ?_))
        (repeat (first | refine GX.doneD ?_ | refine GX.done ?_ | refine GQ.goNormal ?_ | refine GC.seq ?_ | refine GC.skip ?_ | refine GC.block ?_ | refine GC.exit ?_ | refine GC.ret ?_ | refine GQ.goExit ?_ | refine GQ.goRet ?_ | refine GQ.inNormal ?_ | refine GQ.inExit ?_ | refine GQ.inExitNe rfl ?_ | refine GQ.inRet ?_ | refine GQ.loopExit ?_ | refine GQ.loopRet ?_ | refine GQ.cutExit ?_ | refine GQ.cutRet ?_))
        refine GQ.ret1 (by first | exact .inl rfl | exact .inr rfl) rfl rfl ?_
        exact ⟨⟨_, rfl, ⟨fun h => (by cases h), fun h => by have := h.2.2 _ (List.getElem_mem hlt); omega⟩⟩, hE⟩
      have hx' : ¬ (300 : Int) < l[i] := of_decide_eq_false hx
      (repeat (first | refine GX.doneD ?_ | refine GX.done ?_ | refine GQ.goNormal ?_ | refine GC.seq ?_ | refine GC.skip ?_ | refine GC.block ?_ | refine GC.exit ?_ | refine GC.ret ?_ | refine GQ.goExit ?_ | refine GQ.goRet ?_ | refine GQ.inNormal ?_ | refine GQ.inExit ?_ | refine GQ.inExitNe rfl ?_ | refine GQ.inRet ?_ | refine GQ.loopExit ?_ | refine GQ.loopRet ?_ | refine GQ.cutExit ?_ | refine GQ.cutRet ?_))
      refine GC.region (.pure 0 (.pure 1 (.pure 2 .done))) rfl ?_
      (repeat (refine GX.pure rfl ?_; first | refine GO.move rfl rfl rfl rfl ?_ | refine GO.assign rfl rfl rfl rfl ?_ | refine GO.add rfl rfl rfl rfl rfl (wrapIn (by dsimp only [InK]; omega)) ?_))
      (repeat (first | refine GX.doneD ?_ | refine GX.done ?_ | refine GQ.goNormal ?_ | refine GC.seq ?_ | refine GC.skip ?_ | refine GC.block ?_ | refine GC.exit ?_ | refine GC.ret ?_ | refine GQ.goExit ?_ | refine GQ.goRet ?_ | refine GQ.inNormal ?_ | refine GQ.inExit ?_ | refine GQ.inExitNe rfl ?_ | refine GQ.inRet ?_ | refine GQ.loopExit ?_ | refine GQ.loopRet ?_ | refine GQ.cutExit ?_ | refine GQ.cutRet ?_))
      refine GQ.again (i + 1) (sub_pick (l := [1, 2, 3]) rfl) ⟨rfl, hlt, fun x hx => ?_⟩ (by omega)
      rw [List.take_succ_eq_append_getElem hlt] at hx
      rcases List.mem_append.1 hx with hx | hx
      · exact hpi x hx
      · simp at hx; subst hx; omega
    have hc' : ¬ ((i : Nat) : Int) < 20 := of_decide_eq_false hc
    (repeat (first | refine GX.doneD ?_ | refine GX.done ?_ | refine GQ.goNormal ?_ | refine GC.seq ?_ | refine GC.skip ?_ | refine GC.block ?_ | refine GC.exit ?_ | refine GC.ret ?_ | refine GQ.goExit ?_ | refine GQ.goRet ?_ | refine GQ.inNormal ?_ | refine GQ.inExit ?_ | refine GQ.inExitNe rfl ?_ | refine GQ.inRet ?_ | refine GQ.loopExit ?_ | refine GQ.loopRet ?_ | refine GQ.cutExit ?_ | refine GQ.cutRet ?_))
    refine GC.region (.pure 0 (.eff 1 (.pure 2 (.pure 3 (.pure 4 (.pure 5 (.eff 6 (.pure 7 (.pure 8 (.pure 9 (.pure 10 .done))))))))))) rfl ?_
    (repeat (refine GX.pure rfl ?_; first | refine GO.move rfl rfl rfl rfl ?_ | refine GO.assign rfl rfl rfl rfl ?_ | refine GO.fieldAddr rfl rfl rfl rfl rfl ?_ | refine GO.lenSlice rfl rfl rfl rfl ?_ | refine GO.leq rfl rfl rfl rfl rfl ?_ | refine GO.pickT rfl rfl rfl rfl rfl ?_ | refine GO.pickF rfl rfl rfl rfl rfl ?_ | refine GO.skip (.inl rfl) rfl rfl ?_))
    (first | (refine GX.eff rfl ?_; first | refine GO.load1 (hB.get (o := 0 + 2) rfl) rfl rfl rfl ?_ | refine GO.loadN (hB.get (o := 0 + 2) rfl) rfl rfl rfl rfl ?_) | (refine GX.read rfl ?_; first | refine GO.load1R (by assumption) (fun _ hS_ => At.mod (hB.get (o := 0 + 2) rfl) hS_ (by simp)) rfl rfl rfl ?_ | refine GO.loadNR (by assumption) (fun _ hS_ => At.mod (hB.get (o := 0 + 2) rfl) hS_ (by simp)) rfl rfl rfl rfl ?_))
    (repeat (refine GX.pure rfl ?_; first | refine GO.move rfl rfl rfl rfl ?_ | refine GO.assign rfl rfl rfl rfl ?_ | refine GO.fieldAddr rfl rfl rfl rfl rfl ?_ | refine GO.lenSlice rfl rfl rfl rfl ?_ | refine GO.leq rfl rfl rfl rfl rfl ?_ | refine GO.pickT rfl rfl rfl rfl rfl ?_ | refine GO.pickF rfl rfl rfl rfl rfl ?_ | refine GO.skip (.inl rfl) rfl rfl ?_))
    refine GX.case 27 rfl (fun g1 => ?_) (fun g1 => ?_)
    · have g1' : ((l.length : Nat) : Int) ≤ 20 := of_decide_eq_true g1
      omega
    (repeat (first | (refine GX.pure rfl ?_; first | refine GO.move rfl rfl rfl rfl ?_ | refine GO.assign rfl rfl rfl rfl ?_ | refine GO.fieldAddr rfl rfl rfl rfl rfl ?_ | refine GO.lenSlice rfl rfl rfl rfl ?_ | refine GO.leq rfl rfl rfl rfl rfl ?_ | refine GO.pickT rfl rfl rfl rfl rfl ?_ | refine GO.pickF rfl rfl rfl rfl rfl ?_ | refine GO.skip (.inl rfl) rfl rfl ?_) | (refine GX.eff rfl ?_; refine GO.skip (.inr rfl) rfl rfl ?_) | (refine GX.read rfl ?_; refine GO.skipRead (by assumption) rfl rfl ?_)))
    (repeat (first | refine GX.doneD ?_ | refine GX.done ?_ | refine GQ.goNormal ?_ | refine GC.seq ?_ | refine GC.skip ?_ | refine GC.block ?_ | refine GC.exit ?_ | refine GC.ret ?_ | refine GQ.goExit ?_ | refine GQ.goRet ?_ | refine GQ.inNormal ?_ | refine GQ.inExit ?_ | refine GQ.inExitNe rfl ?_ | refine GQ.inRet ?_ | refine GQ.loopExit ?_ | refine GQ.loopRet ?_ | refine GQ.cutExit ?_ | refine GQ.cutRet ?_))
    refine GQ.ret1 (by first | exact .inl rfl | exact .inr rfl) rfl rfl ?_
    have g1' : ¬ ((l.length : Nat) : Int) ≤ 20 := of_decide_eq_false g1
    exact ⟨⟨_, rfl, ⟨fun h => (by cases h), fun h => by have := h.1; omega⟩⟩, hE⟩
  have g0' : ¬ ((i : Nat) : Int) < l.length := of_decide_eq_false g0
  have hge : i = l.length := by omega
  subst hge
  rw [List.take_length] at hpi
  (repeat (first | (refine GX.pure rfl ?_; first | refine GO.move rfl rfl rfl rfl ?_ | refine GO.fieldAddr rfl rfl rfl rfl rfl ?_ | refine GO.lenSlice rfl rfl rfl rfl ?_ | refine GO.lss rfl rfl rfl rfl rfl ?_ | refine GO.pickT rfl rfl rfl rfl rfl ?_ | refine GO.pickF rfl rfl rfl rfl rfl ?_ | refine GO.skip (.inl rfl) rfl rfl ?_) | (refine GX.eff rfl ?_; refine GO.skip (.inr rfl) rfl rfl ?_) | (refine GX.read rfl ?_; refine GO.skipRead (by assumption) rfl rfl ?_)))
  (repeat (first | refine GX.doneD ?_ | refine GX.done ?_ | refine GQ.goNormal ?_ | refine GC.seq ?_ | refine GC.skip ?_ | refine GC.block ?_ | refine GC.exit ?_ | refine GC.ret ?_ | refine GQ.goExit ?_ | refine GQ.goRet ?_ | refine GQ.inNormal ?_ | refine GQ.inExit ?_ | refine GQ.inExitNe rfl ?_ | refine GQ.inRet ?_ | refine GQ.loopExit ?_ | refine GQ.loopRet ?_ | refine GQ.cutExit ?_ | refine GQ.cutRet ?_))
  refine GC.cond rfl (fun hc => ?_) (fun hc => ?_)
  · cases hc
  (repeat (first | refine GX.doneD ?_ | refine GX.done ?_ | refine GQ.goNormal ?_ | refine GC.seq ?_ | refine GC.skip ?_ | refine GC.block ?_ | refine GC.exit ?_ | refine GC.ret ?_ | refine GQ.goExit ?_ | refine GQ.goRet ?_ | refine GQ.inNormal ?_ | refine GQ.inExit ?_ | refine GQ.inExitNe rfl ?_ | refine GQ.inRet ?_ | refine GQ.loopExit ?_ | refine GQ.loopRet ?_ | refine GQ.cutExit ?_ | refine GQ.cutRet ?_))
  refine GC.region (.pure 0 (.eff 1 (.pure 2 (.pure 3 (.pure 4 (.pure 5 (.eff 6 (.pure 7 (.pure 8 (.pure 9 (.pure 10 .done))))))))))) rfl ?_
  (repeat (refine GX.pure rfl ?_; first | refine GO.move rfl rfl rfl rfl ?_ | refine GO.assign rfl rfl rfl rfl ?_ | refine GO.fieldAddr rfl rfl rfl rfl rfl ?_ | refine GO.lenSlice rfl rfl rfl rfl ?_ | refine GO.leq rfl rfl rfl rfl rfl ?_ | refine GO.pickT rfl rfl rfl rfl rfl ?_ | refine GO.pickF rfl rfl rfl rfl rfl ?_ | refine GO.skip (.inl rfl) rfl rfl ?_))
  (first | (refine GX.eff rfl ?_; first | refine GO.load1 (hB.get (o := 0 + 2) rfl) rfl rfl rfl ?_ | refine GO.loadN (hB.get (o := 0 + 2) rfl) rfl rfl rfl rfl ?_) | (refine GX.read rfl ?_; first | refine GO.load1R (by assumption) (fun _ hS_ => At.mod (hB.get (o := 0 + 2) rfl) hS_ (by simp)) rfl rfl rfl ?_ | refine GO.loadNR (by assumption) (fun _ hS_ => At.mod (hB.get (o := 0 + 2) rfl) hS_ (by simp)) rfl rfl rfl rfl ?_))
  (repeat (refine GX.pure rfl ?_; first | refine GO.move rfl rfl rfl rfl ?_ | refine GO.assign rfl rfl rfl rfl ?_ | refine GO.fieldAddr rfl rfl rfl rfl rfl ?_ | refine GO.lenSlice rfl rfl rfl rfl ?_ | refine GO.leq rfl rfl rfl rfl rfl ?_ | refine GO.pickT rfl rfl rfl rfl rfl ?_ | refine GO.pickF rfl rfl rfl rfl rfl ?_ | refine GO.skip (.inl rfl) rfl rfl ?_))
  refine GX.case 27 rfl (fun g1 => ?_) (fun g1 => ?_)
  rotate_left
  · (repeat (first | (refine GX.pure rfl ?_; first | refine GO.move rfl rfl rfl rfl ?_ | refine GO.assign rfl rfl rfl rfl ?_ | refine GO.fieldAddr rfl rfl rfl rfl rfl ?_ | refine GO.lenSlice rfl rfl rfl rfl ?_ | refine GO.leq rfl rfl rfl rfl rfl ?_ | refine GO.pickT rfl rfl rfl rfl rfl ?_ | refine GO.pickF rfl rfl rfl rfl rfl ?_ | refine GO.skip (.inl rfl) rfl rfl ?_) | (refine GX.eff rfl ?_; refine GO.skip (.inr rfl) rfl rfl ?_) | (refine GX.read rfl ?_; refine GO.skipRead (by assumption) rfl rfl ?_)))
    (repeat (first | refine GX.doneD ?_ | refine GX.done ?_ | refine GQ.goNormal ?_ | refine GC.seq ?_ | refine GC.skip ?_ | refine GC.block ?_ | refine GC.exit ?_ | refine GC.ret ?_ | refine GQ.goExit ?_ | refine GQ.goRet ?_ | refine GQ.inNormal ?_ | refine GQ.inExit ?_ | refine GQ.inExitNe rfl ?_ | refine GQ.inRet ?_ | refine GQ.loopExit ?_ | refine GQ.loopRet ?_ | refine GQ.cutExit ?_ | refine GQ.cutRet ?_))
    refine GQ.ret1 (by first | exact .inl rfl | exact .inr rfl) rfl rfl ?_
    have g1' : ¬ ((l.length : Nat) : Int) ≤ 20 := of_decide_eq_false g1
    exact ⟨⟨_, rfl, ⟨fun h => (by cases h), fun h => by have := h.1; omega⟩⟩, hE⟩
  have g1' : ((l.length : Nat) : Int) ≤ 20 := of_decide_eq_true g1
  (repeat (refine GX.pure rfl ?_; first | refine GO.move rfl rfl rfl rfl ?_ | refine GO.assign rfl rfl rfl rfl ?_ | refine GO.fieldAddr rfl rfl rfl rfl rfl ?_ | refine GO.lenSlice rfl rfl rfl rfl ?_ | refine GO.leq rfl rfl rfl rfl rfl ?_ | refine GO.pickT rfl rfl rfl rfl rfl ?_ | refine GO.pickF rfl rfl rfl rfl rfl ?_ | refine GO.skip (.inl rfl) rfl rfl ?_))
  (first | (refine GX.eff rfl ?_; first | refine GO.load1 (hB.get (o := 0 + 5) rfl) rfl rfl rfl ?_ | refine GO.loadN (hB.get (o := 0 + 5) rfl) rfl rfl rfl rfl ?_) | (refine GX.read rfl ?_; first | refine GO.load1R (by assumption) (fun _ hS_ => At.mod (hB.get (o := 0 + 5) rfl) hS_ (by simp)) rfl rfl rfl ?_ | refine GO.loadNR (by assumption) (fun _ hS_ => At.mod (hB.get (o := 0 + 5) rfl) hS_ (by simp)) rfl rfl rfl rfl ?_))
  (repeat (refine GX.pure rfl ?_; first | refine GO.move rfl rfl rfl rfl ?_ | refine GO.assign rfl rfl rfl rfl ?_ | refine GO.fieldAddr rfl rfl rfl rfl rfl ?_ | refine GO.lenSlice rfl rfl rfl rfl ?_ | refine GO.leq rfl rfl rfl rfl rfl ?_ | refine GO.pickT rfl rfl rfl rfl rfl ?_ | refine GO.pickF rfl rfl rfl rfl rfl ?_ | refine GO.skip (.inl rfl) rfl rfl ?_))
  (repeat (first | refine GX.doneD ?_ | refine GX.done ?_ | refine GQ.goNormal ?_ | refine GC.seq ?_ | refine GC.skip ?_ | refine GC.block ?_ | refine GC.exit ?_ | refine GC.ret ?_ | refine GQ.goExit ?_ | refine GQ.goRet ?_ | refine GQ.inNormal ?_ | refine GQ.inExit ?_ | refine GQ.inExitNe rfl ?_ | refine GQ.inRet ?_ | refine GQ.loopExit ?_ | refine GQ.loopRet ?_ | refine GQ.cutExit ?_ | refine GQ.cutRet ?_))
  refine GQ.ret1 (by first | exact .inl rfl | exact .inr rfl) rfl rfl ?_
  refine ⟨⟨_, rfl, ⟨fun h => ?_, fun h => ?_⟩⟩, hE⟩
  · have h' : ((k : Nat) : Int) ≤ 20 := of_decide_eq_true h
    exact ⟨by omega, by omega, hpi⟩
  · have := h.2.1
    exact decide_eq_true (show ((k : Nat) : Int) ≤ 20 by omega)
end Go.Proofs.YtlgkghmkkohadaaGreat.V
